/- Walks: value, Parse (printed by gennats.py). -/
import Derived.Test.YtomiapceefbmeaaNatK
import Derived.Test.YtomiapceefbmeaaRefJ
import Derived.StillTailTactics
set_option linter.unusedVariables false
set_option linter.unusedSimpArgs false
set_option maxRecDepth 20000
namespace Go.Proofs.Ytomiapceefbmeaa
open Go.RowKit

/-- A hexadecimal digit's value, or -1. -/
def hexS (c : UInt8) : Int := if hexI c < 16 then (hexI c : Int) else -1
theorem hexS_dig {c : UInt8} (h1 : 48 ≤ c.toNat) (h2 : c.toNat ≤ 57) : hexS c = (c.toNat : Int) - 48 := by
  have e : hexI c = c.toNat - 48 := by unfold hexI; rw [if_pos ⟨h1, h2⟩]
  unfold hexS
  rw [e, if_pos (by omega)]
  omega
theorem hexS_let {c : UInt8} (h1 : 97 ≤ c.toNat) (h2 : c.toNat ≤ 102) : hexS c = (c.toNat : Int) - 87 := by
  have e : hexI c = c.toNat - 87 := by unfold hexI; rw [if_neg (by omega), if_pos ⟨h1, h2⟩]
  unfold hexS
  rw [e, if_pos (by omega)]
  omega
theorem hexS_no {c : UInt8} (h : ¬ (48 ≤ c.toNat ∧ c.toNat ≤ 57)) (h2 : ¬ (97 ≤ c.toNat ∧ c.toNat ≤ 102)) : hexS c = -1 := by
  have e : hexI c = 16 := by unfold hexI; rw [if_neg h, if_neg h2]
  unfold hexS
  rw [e, if_neg (by omega)]

set_option maxHeartbeats 800000 in
theorem value_any' (c : UInt8) (w : World) :
    Calls Try.prog 49 #[.int .u8 (c.toNat : Int)] w fun e w' => e = .returned (.int .i64 (hexS c)) ∧ w' = w := by
  have hc := c.toNat_lt
  by_cases h1 : 48 ≤ c.toNat ∧ c.toNat ≤ 57
  · have hd := Lib.hid (hexS_dig h1.1 h1.2)
    obtain ⟨h2, h3⟩ := h1
    have g2 : (48 : Int) ≤ (c.toNat : Int) := by omega
    have g3 : (c.toNat : Int) ≤ 57 := by omega
    clear h2 h3 hc
    rw [hd.out]
    generalize (c.toNat : Int) = x at *
    go_enter Try.func49, Try.ntmps49
    go_wp2
    go_ret
    exact ⟨rfl, rfl⟩
  · by_cases h2 : 97 ≤ c.toNat ∧ c.toNat ≤ 102
    · have hd := Lib.hid (hexS_let h2.1 h2.2)
      obtain ⟨h2, h3⟩ := h2
      have g2 : (97 : Int) ≤ (c.toNat : Int) := by omega
      have g3 : (c.toNat : Int) ≤ 102 := by omega
      clear h1 h2 h3 hc
      rw [hd.out]
      generalize (c.toNat : Int) = x at *
      go_enter Try.func49, Try.ntmps49
      go_wp2
      go_ret
      exact ⟨congrArg Ending.returned (congrArg (Value.int IntKind.i64) (by omega)), rfl⟩
    · have hd := Lib.hid (hexS_no h1 h2)
      rw [hd.out]
      have g : ((c.toNat : Int) < 48 ∨ 57 < (c.toNat : Int)) ∧ ((c.toNat : Int) < 97 ∨ 102 < (c.toNat : Int)) := by omega
      have g0 : 0 ≤ (c.toNat : Int) := by omega
      have g1 : (c.toNat : Int) < 256 := by omega
      clear h1 h2 hd hc
      generalize (c.toNat : Int) = x at *
      obtain ⟨g2 | g2, g3 | g3⟩ := g
      all_goals
        try omega
        try (
          go_enter Try.func49, Try.ntmps49
          go_wp2
          go_ret
          exact ⟨rfl, rfl⟩)

/-! ### Parse -/
/-- The number of a string, if it has at most 1024 bits, and the error. -/
def parE (l : List UInt8) : Int := if okP l = true then (if 256 < l.length then 7 else 0) else 6
def parN (l : List UInt8) : Nat := if okP l = true then (if 256 < l.length then 0 else numH l) else 0
theorem par_no {l : List UInt8} (h : okP l = false) : parE l = 6 ∧ parN l = 0 := by
  unfold parE parN
  rw [if_neg (by rw [h]; decide), if_neg (by rw [h]; decide)]
  exact ⟨rfl, rfl⟩
theorem par_full {l : List UInt8} (h : okP l = true) (h2 : 256 < l.length) : parE l = 7 ∧ parN l = 0 := by
  unfold parE parN
  rw [if_pos h, if_pos h, if_pos h2, if_pos h2]
  exact ⟨rfl, rfl⟩
theorem par_yes {l : List UInt8} (h : okP l = true) (h2 : ¬ 256 < l.length) : parE l = 0 ∧ parN l = numH l := by
  unfold parE parN
  rw [if_pos h, if_pos h, if_neg h2, if_neg h2]
  exact ⟨rfl, rfl⟩
theorem numH_cons (c : UInt8) (r : List UInt8) : numH (c :: r) = hexI c * 2 ^ (4 * r.length) + numH r := by
  have key : ∀ (r : List UInt8) (n : Nat), r.foldl (fun n c => n * 16 + hexI c) n = n * 2 ^ (4 * r.length) + r.foldl (fun n c => n * 16 + hexI c) 0 := by
    intro r
    induction r with
    | nil => intro n; simp
    | cons d r ih =>
      intro n
      rw [List.foldl_cons, ih, List.foldl_cons, ih (0 * 16 + hexI d), List.length_cons, show 4 * (r.length + 1) = 4 * r.length + 4 from by omega, Nat.pow_add, Nat.zero_mul, Nat.zero_add, Nat.add_mul, show (2 : Nat) ^ 4 = 16 from rfl]
      have e : n * 16 * 2 ^ (4 * r.length) = n * (2 ^ (4 * r.length) * 16) := by simp only [Nat.mul_assoc, Nat.mul_comm, Nat.mul_left_comm]
      rw [e]
      omega
  unfold numH
  rw [List.foldl_cons, key]
  simp
theorem allH_drop {l : List UInt8} (h : allH l = true) (k : Nat) : allH (l.drop k) = true := by
  unfold allH at *
  rw [List.all_eq_true] at *
  exact fun x hx => h x (List.mem_of_mem_drop hx)
/-- One digit more, from the end. -/
theorem numH_step (l : List UInt8) (k : Nat) (hk : k < l.length) : numH (l.drop (l.length - (k + 1))) = numH (l.drop (l.length - k)) + hexI (l[l.length - 1 - k]'(by omega)) * 2 ^ (4 * k) := by
  have h : l.drop (l.length - (k + 1)) = l[l.length - 1 - k]'(by omega) :: l.drop (l.length - k) := by
    rw [show l.length - (k + 1) = l.length - 1 - k from by omega, List.drop_eq_getElem_cons (by omega), show l.length - 1 - k + 1 = l.length - k from by omega]
  rw [h, numH_cons, List.length_drop, show l.length - (l.length - k) = k from by omega, Nat.add_comm]
theorem numH_drop_lt {l : List UInt8} (h : allH l = true) (k : Nat) (hk : k ≤ l.length) : numH (l.drop (l.length - k)) < 2 ^ (4 * k) := by
  have h1 := numH_lt _ (allH_drop h (l.length - k))
  rwa [List.length_drop, show l.length - (l.length - k) = k from by omega] at h1

def RetNP (w : World) (l : List UInt8) (e : Ending) (w' : World) : Prop := e = .returned (.tuple #[.agg (natA (parN l)), .int .i64 (parE l)]) ∧ Below w.heap.size w w'

set_option maxHeartbeats 3200000 in
theorem parse_any (s : ByteArray) (w : World) (hs : s.size ≤ 100000) :
    Calls Try.prog 19 #[.string s] w (RetNP w s.data.toList) := by
  have hlen : s.data.toList.length = s.size := by simp
  have HR : Hid (NatAt (w.alloc (.cells z0 29)) (w.heap.size) (0)) := Lib.hid (by
    have h := NatAt.new w (0) 29
    rw [natA_zero] at h
    simpa using h)
  have HW : Hid (Below w.heap.size w (w.alloc (.cells z0 29))) := Lib.hid (by
    have h := Below.refl w.heap.size w
    replace h := h.alloc h.size (.cells z0 29)
    exact h)
  by_cases h0 : s.size = 0
  · have hz : Hid (okP s.data.toList = false) := Lib.hid (by
      have : s.data.toList = [] := List.eq_nil_of_length_eq_zero (by omega)
      rw [this]
      rfl)
    have HP := Lib.hid (par_no hz.out)
    have h0' : s.toList = [] := by rw [Lib.toList_data]; exact List.eq_nil_of_length_eq_zero (by omega)
    clear hlen h0
    go_enter Try.func19, Try.ntmps19
    go_wp2_with (refine wpl_stN (m := 0) ntNat rfl rfl rfl (by rw [natA_zero]; rfl) HR.out ?_; intro w9 hn9 hg9; have HN9 := Lib.hid hn9; have HG9 := Lib.hid hg9; clear hn9 hg9)
    refine bodyPost_ret (results_nat rfl _ _ rfl HN9.out) rfl ?_
    exact ⟨by rw [HP.out.1, HP.out.2]; rfl, HW.out.grown HG9.out HW.out.size (fun j e => by injection e with e; omega)⟩
  · have h1 : 0 < s.size := by omega
    have h0' : ¬ s.toList = [] := by
      rw [Lib.toList_data]
      intro e
      rw [e] at hlen
      simp at hlen
      omega
    have h0e : s.toList.isEmpty = false := by rw [List.isEmpty_eq_false_iff]; exact h0'
    have hhd : Hid (s.data.toList.head? = some s[0]) := Lib.hid (by
      rw [List.head?_eq_getElem?, List.getElem?_eq_getElem (by omega)]
      rfl)
    have HLEN := Lib.hid hlen
    by_cases hz : s[0] = 48 ∧ 1 < s.size
    · obtain ⟨hz1, hz2⟩ := hz
      have hno : Hid (okP s.data.toList = false) := Lib.hid (by
        unfold okP
        rw [hhd.out, hz1, hlen]
        simp [hz2])
      have HP := Lib.hid (par_no hno.out)
      have hq : ((s[0].toNat : Int) == 48) = true := by rw [hz1]; decide
      clear hlen h0 hz1
      go_enter Try.func19, Try.ntmps19
      go_wp2_with (refine wpl_stN (m := 0) ntNat rfl rfl rfl (by rw [natA_zero]; rfl) HR.out ?_; intro w9 hn9 hg9; have HN9 := Lib.hid hn9; have HG9 := Lib.hid hg9; clear hn9 hg9)
      refine bodyPost_ret (results_nat rfl _ _ rfl HN9.out) rfl ?_
      exact ⟨by rw [HP.out.1, HP.out.2]; rfl, HW.out.grown HG9.out HW.out.size (fun j e => by injection e with e; omega)⟩
    · have hno : Hid (∀ b, allH s.data.toList = b → okP s.data.toList = b) := Lib.hid (by
        intro b hb
        unfold okP
        rw [hhd.out, hb]
        have h3 : s.data.toList.isEmpty = false := by rw [List.isEmpty_eq_false_iff]; intro e; rw [e] at hlen; simp at hlen; omega
        rw [h3, hlen]
        by_cases h4 : s[0] = 48
        · have : ¬ 1 < s.size := fun h => hz ⟨h4, h⟩
          simp [this]
        · simp [h4])
      have hsplit : (((s[0].toNat : Int) == 48) = false) ∨ (((s[0].toNat : Int) == 48) = true ∧ decide ((1 : Int) < (s.size : Int)) = false) := by
        by_cases h4 : s[0] = 48
        · right
          refine ⟨by rw [h4]; decide, ?_⟩
          have : ¬ 1 < s.size := fun h => hz ⟨h4, h⟩
          simp
          omega
        · left
          rw [beq_eq_false_iff_ne]
          intro e
          exact h4 (UInt8.toNat_inj.1 (by have : (48 : UInt8).toNat = 48 := rfl; omega))
      clear hlen h0 hz
      rcases hsplit with hq | ⟨hq, hq2⟩
      all_goals
        go_enter Try.func19, Try.ntmps19
        go_wp2_with fail
        clear hq
        try clear hq2
        generalize (w.alloc (.cells z0 29)) = w1 at HR HW ⊢
        go_loop [4, 23] (fun _ c => ∃ k : Nat, k ≤ s.size ∧ c = .int .i64 (k : Int) ∧ allH (s.data.toList.take k) = true) (fun _ c => ((s.size : Int) - intOf c).toNat)
        case atStart => exact ⟨0, Nat.zero_le _, rfl, rfl⟩
        case round =>
          obtain ⟨k, hk, rfl, hA⟩ := hrel
          have HA := Lib.hid hA
          clear hA
          by_cases hlt : k < s.size
          · have hki : (k : Int) < (s.size : Int) := by omega
            have hkl : k < s.data.toList.length := by rw [HLEN.out]; exact hlt
            have HKL := Lib.hid hkl
            have HTK : Hid (s.data.toList.take (k + 1) = s.data.toList.take k ++ [s[k]]) := Lib.hid (by rw [List.take_succ_eq_append_getElem hkl]; rfl)
            clear hkl
            go_wp2_with fail
            refine (value_any' s[k] _).mono ?_
            rintro e w' ⟨rfl, rfl⟩
            by_cases hx : hexI s[k] < 16
            · have hv : Hid (hexS s[k] = (hexI s[k] : Int)) := Lib.hid (by unfold hexS; rw [if_pos hx])
              have HA2 : Hid (allH (s.data.toList.take (k + 1)) = true) := Lib.hid (by rw [HTK.out, allH_snoc, HA.out]; simp [hx])
              have hd0 : 0 ≤ (hexI s[k] : Int) := by omega
              rw [hv.out]
              clear hx hv
              generalize (hexI s[k] : Int) = d at *
              go_wp2_with fail
              go_round
              case rel => exact ⟨k + 1, by omega, by go_num, HA2.out⟩
              case measure => simp [intOf]; omega
            · have hv : Hid (hexS s[k] = -1) := Lib.hid (by unfold hexS; rw [if_neg hx])
              have HBAD : Hid (okP s.data.toList = false) := Lib.hid (hno.out _ (not_allH HKL.out (by have := hexI_le s[k]; show hexI s[k] = 16; omega)))
              have HP := Lib.hid (par_no HBAD.out)
              rw [hv.out]
              clear hx hv
              go_wp2_with (refine wpl_stN (m := 0) ntNat rfl rfl rfl (by rw [natA_zero]; rfl) HR.out ?_; intro w9 hn9 hg9; have HN9 := Lib.hid hn9; have HG9 := Lib.hid hg9; clear hn9 hg9)
              refine bodyPost_ret (results_nat rfl _ _ rfl HN9.out) rfl ?_
              exact ⟨by rw [HP.out.1, HP.out.2]; rfl, HW.out.grown HG9.out HW.out.size (fun j e => by injection e with e; omega)⟩
          · obtain rfl : k = s.size := by omega
            have HAL : Hid (allH s.data.toList = true) := Lib.hid (by
              have h1 := HA.out
              rwa [← HLEN.out, List.take_length] at h1)
            have HOK : Hid (okP s.data.toList = true) := Lib.hid (hno.out _ HAL.out)
            by_cases hbig : 256 < s.size
            · have HP := Lib.hid (par_full HOK.out (by rw [HLEN.out]; exact hbig))
              have hbi : (256 : Int) < (s.size : Int) := by omega
              clear hbig
              go_wp2_with (refine wpl_stN (m := 0) ntNat rfl rfl rfl (by rw [natA_zero]; rfl) HR.out ?_; intro w9 hn9 hg9; have HN9 := Lib.hid hn9; have HG9 := Lib.hid hg9; clear hn9 hg9)
              refine bodyPost_ret (results_nat rfl _ _ rfl HN9.out) rfl ?_
              exact ⟨by rw [HP.out.1, HP.out.2]; rfl, HW.out.grown HG9.out HW.out.size (fun j e => by injection e with e; omega)⟩
            · have HP := Lib.hid (par_yes HOK.out (by rw [HLEN.out]; exact hbig))
              have hbi : (s.size : Int) ≤ 256 := by omega
              clear hbig
              have HN : Hid (NatAt (w1.alloc (.cells z0 29)) w1.heap.size 0) := Lib.hid (by
                have h := NatAt.new w1 0 29
                rw [natA_zero] at h
                exact h)
              have HR2 : Hid (NatAt (w1.alloc (.cells z0 29)) w.heap.size 0) := Lib.hid (HR.out.alloc _)
              have HSZ : Hid (w.heap.size < w1.heap.size) := Lib.hid HR.out.lt
              have HW2 : Hid (Below w.heap.size w (w1.alloc (.cells z0 29))) := Lib.hid (HW.out.alloc (Nat.le_of_lt HSZ.out) _)
              go_wp2_with fail
              generalize w1.alloc (.cells z0 29) = w2 at HN HR2 HW2 ⊢
              go_loopw [6, 7, 39] (fun _ _ c wr => ∃ k : Nat, k ≤ s.size ∧ c = .int .i64 (k : Int) ∧ NatAt wr w1.heap.size (numH (s.data.toList.drop (s.data.toList.length - k))) ∧ w2.grownBy wr (some w1.heap.size)) (fun _ _ c _ => ((s.size : Int) - intOf c).toNat)
              case atStart => exact ⟨0, Nat.zero_le _, rfl, by rw [Nat.sub_zero, List.drop_length]; exact HN.out, World.grownBy.refl _ _⟩
              case round =>
                obtain ⟨k, hk, rfl, hN, hg⟩ := hrel
                have HN3 := Lib.hid hN
                have HG := Lib.hid hg
                clear hN hg HA HN
                by_cases hlt : k < s.size
                · have hki : (k : Int) < (s.size : Int) := by omega
                  have HST := Lib.hid (numH_step s.data.toList k (by rw [HLEN.out]; exact hlt))
                  have HLT := Lib.hid (numH_drop_lt HAL.out k (by rw [HLEN.out]; omega))
                  obtain ⟨m, hm⟩ : ∃ m, m + k + 1 = s.size := ⟨s.size - 1 - k, by omega⟩
                  have hms : m < s.size := by omega
                  have hmi : (m : Int) < (s.size : Int) := by omega
                  have e1 : (s.size : Int) - 1 - (k : Int) = (m : Int) := by omega
                  obtain ⟨d, hd⟩ : ∃ d, d = hexI s[m] := ⟨_, rfl⟩
                  have hdm : hexI (s.data.toList[s.data.toList.length - 1 - k]'(by rw [HLEN.out]; omega)) = d := by
                    rw [hd]
                    congr 1
                    have e2 : s.data.toList.length - 1 - k = m := by rw [HLEN.out]; omega
                    simp only [e2]
                    rfl
                  rw [hdm] at HST
                  have hd16 : d < 16 := by rw [← hdm]; exact allH_of HAL.out _
                  have HV : Hid (∀ W, Calls Try.prog 49 #[.int .u8 (s[m].toNat : Int)] W fun e w' => e = .returned (.int .i64 (d : Int)) ∧ w' = W) := Lib.hid (fun W => by
                    have h1 := value_any' s[m] W
                    unfold hexS at h1
                    rw [← hd, if_pos hd16] at h1
                    exact h1)
                  have HM := Lib.hid hm
                  clear hm hdm hd
                  go_wp2_with fail
                  clear e1
                  have hJ32 : k / 8 < 32 := by omega
                  have cz := HN3.out.cell hJ32
                  have fz := HN3.out.frozen (k / 8)
                  have q1 : IntKind.i64.wrap ((k / 8 : Nat) : Int) = ((k / 8 : Nat) : Int) := by rw [IntKind.wrap_i64]; omega
                  have e4 : (k : Int) / 8 = ((k / 8 : Nat) : Int) := by omega
                  have m4 : ((k : Int)).tmod 8 = ((k % 8 : Nat) : Int) := by rw [Int.tmod_eq_emod_of_nonneg (by omega)]; omega
                  have ux : IntKind.u32.wrap (d : Int) = (d : Int) := by rw [IntKind.wrap_u32]; omega
                  have b1 : (0 : Int) ≤ ((k / 8 : Nat) : Int) := by omega
                  have b2 : ((k / 8 : Nat) : Int) < 32 := by omega
                  have b3 : ((k % 8 : Nat) : Int) < 8 := by omega
                  have b4 : (0 : Int) ≤ ((k % 8 : Nat) : Int) := by omega
                  have q3 : IntKind.i64.wrap (4 * ((k % 8 : Nat) : Int)) = 4 * ((k % 8 : Nat) : Int) := by rw [IntKind.wrap_i64]; omega
                  have q2 : IntKind.i64.wrap (k % 8 : Nat) = ((k % 8 : Nat) : Int) := by rw [IntKind.wrap_i64]; omega
                  have hDl := dig_lt (numH (s.data.toList.drop (s.data.toList.length - k))) (k / 8)
                  generalize hD : dig (numH (s.data.toList.drop (s.data.toList.length - k))) (k / 8) = D at *
                  have HDL := Lib.hid hDl
                  have hm0 : (0 : Int) ≤ (m : Int) := by omega
                  clear hDl
                  generalize hJ : k / 8 = J at *
                  generalize hM : k % 8 = M at *
                  refine wp_region_still_tail 18 (by kernel_rfl) (by kernel_rfl) ?_
                  simp only [List.take_succ_cons, List.take_zero, List.drop_succ_cons, List.drop_zero]
                  repeat (first | (refine wpStill_step (fun K hK => ?_); go_simp; refine hK _ ?_; clear hK K) | (refine wpStill_step (fun K hK => ?_); go_simp; refine ⟨_, HV.out _, hK _ ?_⟩; clear hK K))
                  try refine wpStill_nil ?_
                  change wpList _ _ _ _ _ wr.drew
                  have hN : Hid (NatAt wr.drew w1.heap.size (numH (s.data.toList.drop (s.data.toList.length - k)))) := Lib.hid HN3.out.drew
                  have hG : Hid (w2.grownBy wr.drew (some w1.heap.size)) := Lib.hid ⟨HG.out.os, HG.out.tape, HG.out.output, HG.out.size, HG.out.block⟩
                  go_wp2_with fail
                  go_roundw
                  case rel =>
                    have h1 : 4 * k / 32 = J := by omega
                    have h2 : 4 * k % 32 = 4 * M := by omega
                    have hx : d < 2 ^ 4 := hd16
                    have hput := hN.out.put (p := 4 * k) (x := d) (s := 4) HLT.out hx (by omega) (by omega) (bits .or .u32 (D : Int) ((d : Int) * 2 ^ (4 * M) % 4294967296)) (by
                      rw [h1, h2, hD]
                      exact or_put _ _ _ HDL.out (by
                        have hM8 : 2 ^ (4 * M) ≤ 2 ^ 28 := Nat.pow_le_pow_right (by decide) (by omega)
                        have h5 : d * 2 ^ (4 * M) ≤ 15 * 2 ^ 28 := Nat.mul_le_mul (by omega) hM8
                        have h6 : 15 * 2 ^ 28 < 4294967296 := by decide
                        omega))
                    rw [h1, ← HST.out] at hput
                    exact ⟨k + 1, by omega, by go_num, hput.1, gb_trans _ _ _ _ hG.out hput.2⟩
                  case measure => simp [intOf]; omega
                · obtain rfl : k = s.size := by omega
                  have hNw : Hid (NatAt wr w1.heap.size (numH s.data.toList)) := Lib.hid (by
                    have h1 := HN3.out
                    rwa [← HLEN.out, Nat.sub_self, List.drop_zero] at h1)
                  have hRw : Hid (NatAt wr w.heap.size 0) := Lib.hid (HR2.out.grown HG.out (by have := HSZ.out; simp; omega))
                  go_wp2_with (first | (refine wpl_ldN ntNat rfl rfl rfl hNw.out ?_) | (refine wpl_stN ntNat rfl rfl rfl rfl hRw.out ?_; intro w9 hn9 hg9; have HN9 := Lib.hid hn9; have HG9 := Lib.hid hg9; clear hn9 hg9))
                  refine bodyPost_ret (results_nat rfl _ _ rfl HN9.out) rfl ?_
                  refine ⟨by rw [HP.out.1, HP.out.2]; rfl, ?_⟩
                  exact (HW2.out.grown HG.out HW2.out.size (fun j e => by injection e with e; have := HSZ.out; omega)).grown HG9.out (Nat.le_trans HW2.out.size HG.out.size) (fun j e => by injection e with e; omega)

end Go.Proofs.Ytomiapceefbmeaa
