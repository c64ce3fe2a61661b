/- Walks of the reference of numbers: GCD, Bytes, Text. · Plain: hexadecimal strings. Walk of the reference of numbers: Parse. -/
import Derived.Test.YtomiapceefbmeaaRefH
import Derived.Test.YtomiapceefbmeaaNatN
import Derived.Deep.LoopGhost
import Derived.WalkSpells
set_option linter.unusedVariables false
set_option linter.unusedSimpArgs false
set_option maxRecDepth 20000
namespace Go.Proofs.Ytomiapceefbmeaa
open Go.RowKit

def RetG (w : World) (n : Nat) (e : Ending) (w' : World) : Prop := ∃ v, e = .returned v ∧ Lst w' v n ∧ Below w.heap.size w w'
theorem gcd_step (x y : Nat) : Nat.gcd y (x % y) = Nat.gcd x y := by
  rw [Nat.gcd_comm x y, Nat.gcd_rec y x, Nat.gcd_comm]

set_option maxHeartbeats 1600000 in
theorem rgcd_any (u v : Value) (a b : Nat) (w : World) (hu : Lst w u a) (hv : Lst w v b) (ha : c16 a ≤ 90000) (hb : c16 b ≤ 90000) :
    Calls Try.prog 32 #[u, v] w (RetG w (Nat.gcd a b)) := by
  have HU := Lib.hid hu
  have HV := Lib.hid hv
  have HA := Lib.hid ha
  have HB := Lib.hid hb
  clear hu hv ha hb
  go_enter Try.func32, Try.ntmps32
  go_wp2_with fail
  go_loopg [0, 1, 5, 6] b (fun y p q _ _ wr => ∃ x, Lst wr p x ∧ Lst wr q y ∧ Nat.gcd x y = Nat.gcd a b ∧ c16 x ≤ 90000 ∧ c16 y ≤ 90000 ∧ Below w.heap.size w wr)
  case atStart => exact ⟨a, HU.out, HV.out, rfl, HA.out, HB.out, Below.refl _ _⟩
  case round =>
    clear HU HV HA HB
    obtain ⟨x, hp, hq, hg, hx, hy, hbw⟩ := hrel
    obtain ⟨P, cp, rfl, _, _, _⟩ := hp.len
    obtain ⟨Q, cq, rfl, _, _, _⟩ := hq.len
    have HP := Lib.hid hp
    have HQ := Lib.hid hq
    have HG := Lib.hid hg
    have HX := Lib.hid hx
    have HY := Lib.hid hy
    have HW := Lib.hid hbw
    clear hp hq hg hx hbw
    by_cases h0 : gk = 0
    · have hz : c16 gk = 0 := c16_eq_zero.2 h0
      have HGX : Hid (x = Nat.gcd a b) := Lib.hid (by rw [← HG.out, h0, Nat.gcd_zero_right])
      rw [hz]
      clear hz h0
      go_wp2_with fail
      go_ret
      exact ⟨_, rfl, by rw [← HGX.out]; exact HP.out, HW.out⟩
    · have hpos : 0 < c16 gk := Nat.pos_of_ne_zero (fun h => h0 (c16_eq_zero.1 h))
      have H0 := Lib.hid h0
      clear h0
      go_wp2_with fail
      refine (rdivide_any _ _ x gk wr HP.out HQ.out HX.out HY.out H0.out).mono ?_
      rintro e w2 ⟨v1, v2, rfl, hv1, hv2, hb2⟩
      have HV2 := Lib.hid hv2
      have HB2 := Lib.hid (HW.out.trans (hb2.mono HW.out.size))
      have HQ2 := Lib.hid (HQ.out.below hb2)
      clear hv1 hv2 hb2 hy
      go_wp2_with fail
      have hlt : x % gk < gk := Nat.mod_lt _ (Nat.pos_of_ne_zero H0.out)
      go_roundg (x % gk)
      case measure => exact hlt
      case rel => exact ⟨gk, HQ2.out, HV2.out, by rw [gcd_step]; exact HG.out, HY.out, Nat.le_trans (c16_mono (Nat.le_of_lt hlt)) HY.out, HB2.out⟩

/-! ### Bytes -/
section
variable {P : Program} {w0 : World}
/-- append of one byte onto a row of the call's own. -/
theorem wpl_append_b1 {ops : Array Oper} {rest : List Oper} {o : Oper} {a : Act} {Q : Exit → Act → World → Prop} (hgd : o.guard = none) (s x : Operand) (t T : TypeId)
    (ho : o.op = .call { callee := .builtin .append, args := #[s, x], argTypes := #[t, t] }) {z : Value} (E : EI P t 5 z 1)
    (base : Nat) (v : Value) (xs : List UInt8) (n : Nat) (hn : xs.length = n) (hs : a.eval s = v) (hown : OwnB w0 base v xs) (d : UInt8) (e : Int) (hd : e = (d.toNat : Int)) (hx : a.eval x = .slice (some ⟨w0.heap.size, 0, none⟩) 1 1)
    (hlen : n ≤ 1000000) (hbase : base ≤ w0.heap.size)
    (h : ∀ (A : Option Addr) (c : Nat) w', OwnB w' base (.slice A (n + 1) c) (xs ++ [d]) → Below base w0 w' → wpList P ops Q rest (a.put o.dst (.slice A (n + 1) c)) w') :
    wpList P ops Q (o :: rest) a (w0.alloc (.cells #[.int .u8 e] T)) := by
  subst hn hd
  have hsrc : Sl (w0.alloc (.cells #[.int .u8 (d.toNat : Int)] T)) (.slice (some ⟨w0.heap.size, 0, none⟩) 1 1) [u8v d] := by
    refine ⟨some ⟨w0.heap.size, 0, none⟩, 1, rfl, Nat.le_refl _, by unfold maxLen; omega, by simp, fun _ => ⟨w0.heap.size, 0, rfl, by simp, fun j u hu => ?_⟩⟩
    have hj : j = 0 := by have := (List.getElem?_eq_some_iff.1 hu).1; simpa using this
    subst hj
    simp only [List.getElem?_cons_zero, Option.some.injEq] at hu
    rw [← hu]
    exact World.cell?_alloc_mark w0 #[.int .u8 (d.toNat : Int)] T (0, 0) 0
  have hown' : (w0.alloc (.cells #[.int .u8 (d.toNat : Int)] T)).ownsRow base 5 1 v xs.length (xs.map u8v) := own_below hown ((Below.refl _ _).alloc (Nat.le_refl _) _)
  refine wpl_append hgd s x t ho E base v xs.length (xs.map u8v) hs hown' _ _ hx hsrc (by simp [u8v, Value.oneCell']) (by simp [maxLen]; omega) (by simp; omega) (by simp; omega) fun v' w' g1 g2 g3 => ?_
  have g4 : OwnB w' base v' (xs ++ [d]) := by
    unfold OwnB
    rw [List.length_append, List.map_append]
    simpa using g1
  obtain ⟨A, c, rfl, _⟩ := g4.byt.len
  rw [List.length_append] at *
  refine h A c w' g4 ?_
  exact (((Below.refl base w0).alloc hbase _).trans (below_of_own hown' g2 (by simp; omega)))
end

theorem rbyte_dig (a k : Nat) : d16 a (k / 2) / 2 ^ (8 * (k % 2)) % 256 = a / 2 ^ (8 * k) % 256 := by
  have e : 2 ^ (8 * k) = X16 (k / 2) * 2 ^ (8 * (k % 2)) := by
    unfold X16
    rw [← Nat.pow_add]
    congr 1
    omega
  have h3 : k % 2 = 0 ∨ k % 2 = 1 := by omega
  rw [e, ← Nat.div_div_eq_div_mul]
  unfold d16
  generalize a / X16 (k / 2) = q
  rcases h3 with h | h <;> rw [h] <;> simp <;> omega
theorem natB_split (a : Nat) : ∀ n k, k < n → (natB a n).take (n - (k + 1)) ++ [UInt8.ofNat (a / 2 ^ (8 * k) % 256)] = (natB a n).take (n - k)
  | 0, k, h => by omega
  | n + 1, k, h => by
    by_cases e : k = n
    · subst e
      rw [Nat.sub_self, show k + 1 - k = 1 from by omega, natB]
      rfl
    · have ih := natB_split a n k (by omega)
      rw [natB, show n + 1 - (k + 1) = n - (k + 1) + 1 from by omega, show n + 1 - k = n - k + 1 from by omega, List.take_succ_cons, List.take_succ_cons, List.cons_append, ih]

set_option maxHeartbeats 1600000 in
theorem rbytes_any (v : Value) (a : Nat) (w : World) (h : Lst w v a) (ha : Sz a) :
    Calls Try.prog 47 #[v] w (RetB w (bytesN a)) := by
  have hbl : (bl a : Int) ≤ 1600000 := by
    have h1 := bl_le (n := a) (k := 16 * c16 a) (lt_c16 a)
    have h2 := ha.le
    omega
  have H := Lib.hid h
  have HA := Lib.hid ha
  obtain ⟨n, hn⟩ : ∃ n, n = (bl a + 7) / 8 := ⟨_, rfl⟩
  have hni : ((bl a : Int) + 7) / 8 = (n : Int) := by omega
  have hnl : n ≤ 1000000 := by omega
  have HN := Lib.hid hn
  have HNI := Lib.hid hni
  clear h ha hn hni
  go_enter Try.func47, Try.ntmps47
  go_wp2_with fail
  refine (rbitLen_any _ a w H.out HA.out).mono ?_
  rintro e w' ⟨rfl, rfl⟩
  have hb0 : 0 ≤ (bl a : Int) := by omega
  generalize (bl a : Int) = bi at *
  go_wp2_with fail
  rw [HNI.out]
  go_loopw [4, 5] (fun o i wr => ∃ k : Nat, k ≤ n ∧ i = .int .i64 ((k : Int) - 1) ∧ OwnB wr w.heap.size o ((natB a n).take (n - k)) ∧ Below w.heap.size w wr) (fun _ i _ => (intOf i + 1).toNat)
  case atStart => exact ⟨n, Nat.le_refl _, rfl, by rw [Nat.sub_self]; exact World.ownsRow_nil _ _ _ _, Below.refl _ _⟩
  case round =>
    obtain ⟨k, hk, rfl, hown, hb⟩ := hrel
    have HO := Lib.hid hown
    have hbs := hb.size
    have HB := Lib.hid hb
    clear hown hb
    by_cases h0 : k = 0
    · subst h0
      go_wp2_with fail
      go_ret
      refine ⟨_, rfl, ?_, HB.out⟩
      have h1 := HO.out
      rw [Nat.sub_zero, List.take_of_length_le (by rw [natB_length]; exact Nat.le_refl _)] at h1
      unfold bytesN
      rw [← HN.out]
      exact h1
    · obtain ⟨i, rfl⟩ : ∃ i, k = i + 1 := ⟨k - 1, by omega⟩
      have e1 : ((i + 1 : Nat) : Int) - 1 = (i : Int) := by omega
      rw [e1]
      have hi0 : (0 : Int) ≤ (i : Int) := by omega
      have hi1 : (i : Int) < (n : Int) := by omega
      have hl : ((natB a n).take (n - (i + 1))).length = n - (i + 1) := by rw [List.length_take, natB_length]; omega
      have HL := Lib.hid hl
      have HS := Lib.hid (natB_split a n i (by omega))
      have HL2 := Lib.hid (H.out.below HB.out)
      have hn2 : n - (i + 1) ≤ 1000000 := by omega
      obtain ⟨x0, x1⟩ := dI_range a ((i : Int) / 2)
      have hxd : 0 ≤ dI a ((i : Int) / 2) / 2 ^ (8 * (i % 2)) := Int.ediv_nonneg x0 (Int.le_of_lt (Int.pow_pos (by decide)))
      have HE : Hid (dI a ((i : Int) / 2) / 2 ^ (8 * (i % 2)) % 256 = ((UInt8.ofNat (a / 2 ^ (8 * i) % 256)).toNat : Int)) := Lib.hid (by
        rw [show ((i : Int) / 2) = ((i / 2 : Nat) : Int) from rfl, dI_nat]
        rw [UInt8.toNat_ofNat', Nat.mod_eq_of_lt (show a / 2 ^ (8 * i) % 256 < 2 ^ 8 from Nat.mod_lt _ (by decide)), ← rbyte_dig]
        simp)
      clear h0 e1 hl
      go_wp2_with fail
      refine (digit_any _ a _ wr HL2.out HA.out).mono ?_
      rintro e w' ⟨rfl, rfl⟩
      generalize dI a ((i : Int) / 2) = x at *
      go_wp2_with (at_builtin; refine wpl_append_b1 rfl (.tmp 16) (.tmp 27) 22 _ rfl eiU8 w.heap.size _ ((natB a n).take (n - (i + 1))) (n - (i + 1)) HL.out rfl HO.out (UInt8.ofNat (a / 2 ^ (8 * i) % 256)) _ HE.out rfl hn2 hbs ?_; intro A2 c2 w2 hown2 hb2)
      rw [HS.out] at hown2
      have HO2 := Lib.hid hown2
      have HB2 := Lib.hid (HB.out.trans hb2)
      clear hown2 hb2
      go_wp2_with fail
      go_roundw
      case rel => exact ⟨i, by omega, rfl, HO2.out, HB2.out⟩
      case measure => simp [intOf]

/-! ### Text -/
theorem rhex_dig (a k : Nat) : d16 a (k / 4) / 2 ^ (4 * (k % 4)) % 16 = a / 2 ^ (4 * k) % 16 := by
  have e : 2 ^ (4 * k) = X16 (k / 4) * 2 ^ (4 * (k % 4)) := by
    unfold X16
    rw [← Nat.pow_add]
    congr 1
    omega
  have h3 : k % 4 = 0 ∨ k % 4 = 1 ∨ k % 4 = 2 ∨ k % 4 = 3 := by omega
  rw [e, ← Nat.div_div_eq_div_mul]
  unfold d16
  generalize a / X16 (k / 4) = q
  rcases h3 with h | h | h | h <;> rw [h] <;> simp <;> omega
theorem hexB_split (a : Nat) : ∀ n k, k < n → (hexB a n).take (n - (k + 1)) ++ [hexC (a / 2 ^ (4 * k) % 16)] = (hexB a n).take (n - k)
  | 0, k, h => by omega
  | n + 1, k, h => by
    by_cases e : k = n
    · subst e
      rw [Nat.sub_self, show k + 1 - k = 1 from by omega, hexB]
      rfl
    · have ih := hexB_split a n k (by omega)
      rw [hexB, show n + 1 - (k + 1) = n - (k + 1) + 1 from by omega, show n + 1 - k = n - k + 1 from by omega, List.take_succ_cons, List.take_succ_cons, List.cons_append, ih]

theorem hex_append (l : List UInt8) (d : Nat) (hd : d < 16) : (ByteArray.mk l.toArray ++ (ByteArray.mk #[48, 49, 50, 51, 52, 53, 54, 55, 56, 57, 97, 98, 99, 100, 101, 102]).extract d (d + 1)) = ByteArray.mk (l ++ [hexC d]).toArray := by
  have h1 : ((ByteArray.mk #[48, 49, 50, 51, 52, 53, 54, 55, 56, 57, 97, 98, 99, 100, 101, 102]).extract d (d + 1)).data = #[hexC d] := by
    have h2 : d = 0 ∨ d = 1 ∨ d = 2 ∨ d = 3 ∨ d = 4 ∨ d = 5 ∨ d = 6 ∨ d = 7 ∨ d = 8 ∨ d = 9 ∨ d = 10 ∨ d = 11 ∨ d = 12 ∨ d = 13 ∨ d = 14 ∨ d = 15 := by omega
    rcases h2 with rfl | rfl | rfl | rfl | rfl | rfl | rfl | rfl | rfl | rfl | rfl | rfl | rfl | rfl | rfl | rfl <;> decide
  apply ByteArray.ext
  rw [ByteArray.data_append, h1]
  simp

set_option maxHeartbeats 1600000 in
theorem rtext_any (v : Value) (a : Nat) (w : World) (h : Lst w v a) (ha : Sz a) :
    Calls Try.prog 18 #[v] w fun e w' => e = .returned (.string ⟨(textN a).toArray⟩) ∧ w = w' := by
  have hbl : (bl a : Int) ≤ 1600000 := by
    have h1 := bl_le (n := a) (k := 16 * c16 a) (lt_c16 a)
    have h2 := ha.le
    omega
  have H := Lib.hid h
  have HA := Lib.hid ha
  obtain ⟨n, hn⟩ : ∃ n, n = (bl a + 3) / 4 := ⟨_, rfl⟩
  have hni : ((bl a : Int) + 3) / 4 = (n : Int) := by omega
  have hnl : n ≤ 1000000 := by omega
  have HN := Lib.hid hn
  have HNI := Lib.hid hni
  clear h ha hn hni
  go_enter Try.func18, Try.ntmps18
  go_wp2_with fail
  refine (rbitLen_any _ a w H.out HA.out).mono ?_
  rintro e w' ⟨rfl, rfl⟩
  have hb0 : 0 ≤ (bl a : Int) := by omega
  generalize (bl a : Int) = bi at *
  go_wp2_with fail
  rw [HNI.out]
  go_loop [4, 5, 6] (fun s i _ => ∃ k : Nat, k ≤ n ∧ i = .int .i64 ((k : Int) - 1) ∧ s = .string ⟨((hexB a n).take (n - k)).toArray⟩) (fun _ i _ => (intOf i + 1).toNat)
  case atStart => exact ⟨n, Nat.le_refl _, rfl, by rw [Nat.sub_self]; rfl⟩
  case round =>
    obtain ⟨k, hk, rfl, rfl⟩ := hrel
    by_cases h0 : k = 0
    · subst h0
      by_cases hn0 : n = 0
      · have hz : Hid (textN a = [48]) := Lib.hid (by
          have h1 := HN.out
          have h2 : bl a = 0 := by omega
          have h3 : a < 2 ^ bl a := lt_bl a
          rw [h2] at h3
          have h4 : a = 0 := by simpa using h3
          subst h4
          rfl)
        subst hn0
        go_wp2_with fail
        go_ret
        exact ⟨by rw [hz.out]; rfl, rfl⟩
      · have hz : Hid ((hexB a n).take (n - 0) = textN a) := Lib.hid (by
          rw [Nat.sub_zero, List.take_of_length_le (by rw [hexB_length]; exact Nat.le_refl _)]
          unfold textN
          have h1 := HN.out
          rw [← h1, Nat.max_eq_right (by omega)])
        rw [hz.out]
        have hne : ((n : Int) == 0) = false := by rw [beq_eq_false_iff_ne]; omega
        go_wp2_with fail
        go_ret
        exact ⟨rfl, rfl⟩
    · obtain ⟨i, rfl⟩ : ∃ i, k = i + 1 := ⟨k - 1, by omega⟩
      have e1 : ((i + 1 : Nat) : Int) - 1 = (i : Int) := by omega
      rw [e1]
      have hi0 : (0 : Int) ≤ (i : Int) := by omega
      have hi1 : (i : Int) < (n : Int) := by omega
      have HS := Lib.hid (hexB_split a n i (by omega))
      obtain ⟨x0, x1⟩ := dI_range a ((i : Int) / 4)
      have hxd : 0 ≤ dI a ((i : Int) / 4) / 2 ^ (4 * (i % 4)) := Int.ediv_nonneg x0 (Int.le_of_lt (Int.pow_pos (by decide)))
      obtain ⟨d, hd⟩ : ∃ d, d = a / 2 ^ (4 * i) % 16 := ⟨_, rfl⟩
      have hd16 : d < 16 := by rw [hd]; exact Nat.mod_lt _ (by decide)
      have HE : Hid (dI a ((i : Int) / 4) / 2 ^ (4 * (i % 4)) % 16 = (d : Int)) := Lib.hid (by
        rw [show ((i : Int) / 4) = ((i / 4 : Nat) : Int) from rfl, dI_nat, hd, ← rhex_dig]
        simp)
      have HD := Lib.hid hd
      obtain ⟨l, hl⟩ : ∃ l, l = (hexB a n).take (n - (i + 1)) := ⟨_, rfl⟩
      rw [← hl]
      have hll : l.length ≤ 1000000 := by rw [hl, List.length_take]; omega
      have HL := Lib.hid hl
      clear h0 e1 hd hl
      go_wp2_with fail
      refine (digit_any _ a _ w H.out HA.out).mono ?_
      rintro e w' ⟨rfl, rfl⟩
      generalize dI a ((i : Int) / 4) = x at *
      have he := HE.out
      have hd0 : (0 : Int) ≤ (d : Int) := by omega
      have hd15 : (d : Int) < 16 := by omega
      go_wp2_with fail
      go_round
      case rel => exact ⟨i, by omega, rfl, by rw [← HS.out, hex_append l d hd16, ← HD.out, ← HL.out]⟩
      case measure => simp [intOf]

end Go.Proofs.Ytomiapceefbmeaa

set_option linter.unusedVariables false
set_option linter.unusedSimpArgs false
set_option maxRecDepth 20000
namespace Go.Proofs.Ytomiapceefbmeaa
open Go.RowKit

/-- The value of a hexadecimal digit, or 16. -/
def hexI (c : UInt8) : Nat := if 48 ≤ c.toNat ∧ c.toNat ≤ 57 then c.toNat - 48 else if 97 ≤ c.toNat ∧ c.toNat ≤ 102 then c.toNat - 87 else 16
theorem hexC_toNat (d : Nat) (hd : d < 16) : (hexC d).toNat = if d < 10 then 48 + d else 87 + d := by
  have h2 : d = 0 ∨ d = 1 ∨ d = 2 ∨ d = 3 ∨ d = 4 ∨ d = 5 ∨ d = 6 ∨ d = 7 ∨ d = 8 ∨ d = 9 ∨ d = 10 ∨ d = 11 ∨ d = 12 ∨ d = 13 ∨ d = 14 ∨ d = 15 := by omega
  rcases h2 with rfl | rfl | rfl | rfl | rfl | rfl | rfl | rfl | rfl | rfl | rfl | rfl | rfl | rfl | rfl | rfl <;> decide
theorem hexI_iff (c : UInt8) (d : Nat) (hd : d < 16) : hexI c = d ↔ hexC d = c := by
  rw [← UInt8.toNat_inj, hexC_toNat d hd]
  unfold hexI
  split <;> split <;> (try split) <;> omega
theorem hexI_le (c : UInt8) : hexI c ≤ 16 := by unfold hexI; split <;> (try split) <;> omega
theorem hexI_none (c : UInt8) (h : ∀ d, d < 16 → hexC d ≠ c) : hexI c = 16 := by
  have h1 := hexI_le c
  rcases Nat.lt_or_ge (hexI c) 16 with h2 | h2
  · exact absurd ((hexI_iff c _ h2).1 rfl) (h _ h2)
  · omega
/-- All are hexadecimal digits. -/
def allH (l : List UInt8) : Bool := l.all fun c => decide (hexI c < 16)
/-- The number of hexadecimal digits. -/
def numH (l : List UInt8) : Nat := l.foldl (fun n c => n * 16 + hexI c) 0
theorem numH_snoc (l : List UInt8) (c : UInt8) : numH (l ++ [c]) = numH l * 16 + hexI c := by simp [numH]
theorem allH_snoc (l : List UInt8) (c : UInt8) : allH (l ++ [c]) = (allH l && decide (hexI c < 16)) := by simp [allH]
theorem allH_of {l : List UInt8} (h : allH l = true) {k : Nat} (hk : k < l.length) : hexI l[k] < 16 := by
  have := List.all_eq_true.1 h l[k] (List.getElem_mem hk)
  simpa using this
theorem not_allH {l : List UInt8} {k : Nat} (hk : k < l.length) (h : hexI l[k] = 16) : allH l = false := by
  rcases hb : allH l with _ | _
  · rfl
  · have := allH_of hb hk
    omega
theorem numH_lt (l : List UInt8) : allH l = true → numH l < 2 ^ (4 * l.length) := by
  intro h
  have key : ∀ k, k ≤ l.length → numH (l.take k) < 2 ^ (4 * k) := by
    intro k
    induction k with
    | zero => intro _; simp [numH]
    | succ k ih =>
      intro hk
      have h1 := ih (by omega)
      have h2 := allH_of h (show k < l.length by omega)
      rw [List.take_succ_eq_append_getElem (by omega), numH_snoc, show 4 * (k + 1) = 4 * k + 4 from by omega, Nat.pow_add]
      omega
  have := key l.length (Nat.le_refl _)
  rwa [List.take_length] at this
/-- Is it the string of a number? -/
def okP (l : List UInt8) : Bool := !l.isEmpty && !(decide (l.head? = some 48) && decide (1 < l.length)) && allH l

/-- What Parse of the reference returns. -/
def RetP (w : World) (l : List UInt8) (e : Ending) (w' : World) : Prop :=
  if okP l = true then ∃ v, e = .returned (.tuple #[v, .bool true]) ∧ Lst w' v (numH l) ∧ Below w.heap.size w w' else e = .returned (.tuple #[.slice none 0 0, .bool false]) ∧ Below w.heap.size w w'
theorem RetP.no {w w' : World} {l : List UInt8} (h : okP l = false) (hb : Below w.heap.size w w') : RetP w l (.returned (.tuple #[.slice none 0 0, .bool false])) w' := by
  unfold RetP
  rw [if_neg (by rw [h]; decide)]
  exact ⟨rfl, hb⟩
theorem RetP.yes {w w' : World} {l : List UInt8} {v : Value} (h : okP l = true) (hv : Lst w' v (numH l)) (hb : Below w.heap.size w w') : RetP w l (.returned (.tuple #[v, .bool true])) w' := by
  unfold RetP
  rw [if_pos h]
  exact ⟨v, rfl, hv, hb⟩

theorem hexS_size : (ByteArray.mk #[48, 49, 50, 51, 52, 53, 54, 55, 56, 57, 97, 98, 99, 100, 101, 102]).size = 16 := rfl

theorem hex_nat (j : Nat) (h : j < 16) : (((ByteArray.mk #[48, 49, 50, 51, 52, 53, 54, 55, 56, 57, 97, 98, 99, 100, 101, 102])[j]'h).toNat : Int) = ((hexC j).toNat : Int) := by
  have h1 := hex_at j h
  unfold u8v at h1
  injection h1
theorem hex_eq (j : Nat) (c : UInt8) (h : j < 16) (e : hexC j = c) : ((((ByteArray.mk #[48, 49, 50, 51, 52, 53, 54, 55, 56, 57, 97, 98, 99, 100, 101, 102])[j]'h).toNat : Int) != (c.toNat : Int)) = false := by
  rw [hex_nat, e]
  simp
theorem hex_ne (j : Nat) (c : UInt8) (h : j < 16) (e : ¬ hexC j = c) : ((((ByteArray.mk #[48, 49, 50, 51, 52, 53, 54, 55, 56, 57, 97, 98, 99, 100, 101, 102])[j]'h).toNat : Int) != (c.toNat : Int)) = true := by
  rw [hex_nat, bne_iff_ne]
  exact fun h3 => e (UInt8.toNat_inj.1 (by omega))
theorem rshift4 (u : Value) (a : Nat) (w : World) (hu : Lst w u a) (ha : Sz a) : Calls Try.prog 42 #[u, .int .i64 4] w (RetL w (a * 2 ^ 4)) := rshift_any u a 4 w hu ha (by decide)

set_option maxHeartbeats 3200000 in
theorem rparse_any (s : ByteArray) (w : World) (hs : s.size ≤ 100000) :
    Calls Try.prog 20 #[.string s] w (RetP w s.data.toList) := by
  have hlen : s.data.toList.length = s.size := by simp
  by_cases h0 : s.size = 0
  · have hz : Hid (okP s.data.toList = false) := Lib.hid (by
      have : s.data.toList = [] := List.eq_nil_of_length_eq_zero (by omega)
      rw [this]
      rfl)
    have h0' : ((s.size : Int) == 0) = true := by simp [h0]
    clear hlen h0
    go_enter Try.func20, Try.ntmps20
    go_wp2_with fail
    go_ret2
    exact RetP.no hz.out (Below.refl _ _)
  · have h1 : 0 < s.size := by omega
    have h0' : ((s.size : Int) == 0) = false := by rw [beq_eq_false_iff_ne]; omega
    have hhd : Hid (s.data.toList.head? = some s[0]) := Lib.hid (by
      rw [List.head?_eq_getElem?, List.getElem?_eq_getElem (by omega)]
      rfl)
    have HLEN := Lib.hid hlen
    by_cases hz : s[0] = 48 ∧ 1 < s.size
    · obtain ⟨hz1, hz2⟩ := hz
      have hno : Hid (okP s.data.toList = false) := Lib.hid (by
        unfold okP
        rw [hhd.out, hz1, hlen]
        simp [hz2])
      have hq : ((s[0].toNat : Int) == 48) = true := by rw [hz1]; decide
      have HZ := Lib.hid hz1
      clear hlen h0 hz1
      go_enter Try.func20, Try.ntmps20
      go_wp2_with fail
      go_ret2
      exact RetP.no hno.out (Below.refl _ _)
    · have hno : Hid (∀ b, allH s.data.toList = b → okP s.data.toList = b) := Lib.hid (by
        intro b hb
        unfold okP
        rw [hhd.out, hb]
        have h3 : s.data.toList.isEmpty = false := by rw [List.isEmpty_eq_false_iff]; intro e; rw [e] at hlen; simp at hlen; omega
        rw [h3, hlen]
        by_cases h4 : s[0] = 48
        · have : ¬ 1 < s.size := fun h => hz ⟨h4, h⟩
          simp [this]
        · simp [h4])
      have hsplit : (((s[0].toNat : Int) == 48) = false) ∨ (((s[0].toNat : Int) == 48) = true ∧ decide ((1 : Int) < (s.size : Int)) = false) := by
        by_cases h4 : s[0] = 48
        · right
          refine ⟨by rw [h4]; decide, ?_⟩
          have : ¬ 1 < s.size := fun h => hz ⟨h4, h⟩
          simp
          omega
        · left
          rw [beq_eq_false_iff_ne]
          intro e
          exact h4 (UInt8.toNat_inj.1 (by have : (48 : UInt8).toNat = 48 := rfl; omega))
      clear hlen h0 hz
      rcases hsplit with hq | ⟨hq, hq2⟩
      all_goals
        go_enter Try.func20, Try.ntmps20
        go_wp2_with fail
        clear hq
        try clear hq2
        go_loopw [4, 5, 6] (fun o i _ wr => ∃ k : Nat, k ≤ s.size ∧ i = .int .i64 (k : Int) ∧ Lst wr o (numH (s.data.toList.take k)) ∧ allH (s.data.toList.take k) = true ∧ Below w.heap.size w wr) (fun _ i _ _ => ((s.size : Int) - intOf i).toNat)
        case atStart => exact ⟨0, Nat.zero_le _, rfl, Lst.nil _, rfl, Below.refl _ _⟩
        case round =>
          obtain ⟨k, hk, rfl, hL, hA, hbw⟩ := hrel
          have HL := Lib.hid hL
          have HA := Lib.hid hA
          have HW := Lib.hid hbw
          clear hL hA hbw
          by_cases hlt : k < s.size
          · have hki : (k : Int) < (s.size : Int) := by omega
            have hkl : k < s.data.toList.length := by rw [HLEN.out]; exact hlt
            have HKL := Lib.hid hkl
            have HTK : Hid (s.data.toList.take (k + 1) = s.data.toList.take k ++ [s[k]]) := Lib.hid (by rw [List.take_succ_eq_append_getElem hkl]; rfl)
            clear hkl
            obtain ⟨wo, rfl⟩ : ∃ wo : World, wo = wr := ⟨_, rfl⟩
            go_wp2_with fail
            go_loopw [6] (fun d wr => ∃ j m : Nat, j ≤ 16 ∧ d = .int .i64 (j : Int) ∧ (∀ e, e < j → hexC e ≠ s[k]) ∧ wr = wo.drewN m) (fun d _ => (16 - intOf d).toNat)
            case atStart => exact ⟨0, 0, Nat.zero_le _, rfl, fun e h => by omega, rfl⟩
            case round =>
              obtain ⟨j, m, hj, rfl, hne, rfl⟩ := hrel
              have HNE := Lib.hid hne
              clear hne
              by_cases hj16 : j < 16
              · have hji : (j : Int) < 16 := by omega
                have HJ16 := Lib.hid hj16
                by_cases hx : hexC j = s[k]
                · have hb := hex_eq j (s[k]) hj16 hx
                  have HI : Hid (hexI s[k] = j) := Lib.hid ((hexI_iff _ _ hj16).2 hx)
                  clear hx
                  go_wp2_with fail
                  go_quiet (fail)
                  have hj2 : ((j : Int) == 16) = false := by rw [beq_eq_false_iff_ne]; omega
                  go_wp2_with fail
                  have HTK2 : Hid (numH (s.data.toList.take (k + 1)) = numH (s.data.toList.take k) * 2 ^ 4 + j) := Lib.hid (by rw [HTK.out, numH_snoc, HI.out])
                  have HA2 : Hid (allH (s.data.toList.take (k + 1)) = true) := Lib.hid (by rw [HTK.out, allH_snoc, HA.out, HI.out]; simp [HJ16.out])
                  have HNL : Hid (numH (s.data.toList.take k) * 2 ^ 4 < X16 (k + 1)) := Lib.hid (by
                    have h1 := numH_lt _ HA.out
                    rw [List.length_take, Nat.min_eq_left (by rw [HLEN.out]; omega)] at h1
                    have h2 : 2 ^ (4 * k) * 2 ^ 4 ≤ X16 (k + 1) := by
                      unfold X16
                      rw [← Nat.pow_add]
                      exact Nat.pow_le_pow_right (by decide) (by omega)
                    exact Nat.lt_of_lt_of_le (Nat.mul_lt_mul_of_pos_right h1 (by decide)) h2)
                  have HS1 : Hid (Sz (numH (s.data.toList.take k))) := Lib.hid (by
                    have h1 := c16_le (Nat.lt_of_le_of_lt (Nat.le_mul_of_pos_right _ (by decide)) HNL.out)
                    unfold Sz
                    omega)
                  have HS2 : Hid (Sz (numH (s.data.toList.take k) * 2 ^ 4)) := Lib.hid (by
                    have h1 := c16_le HNL.out
                    unfold Sz
                    omega)
                  have HLL : Hid (Lst (wo.drewN (m + nq)) u4 (numH (s.data.toList.take k))) := Lib.hid HL.out
                  have HWW : Hid (Below w.heap.size w (wo.drewN (m + nq))) := Lib.hid (below_drewN HW.out (m + nq))
                  generalize wo.drewN (m + nq) = wq at *
                  refine (rshift4 _ _ wq HLL.out HS1.out).mono ?_
                  rintro e w2 ⟨v2, rfl, hv2, hb2, hf2⟩
                  have HV2 := Lib.hid hv2
                  have HB2 := Lib.hid (HWW.out.trans (hb2.mono HWW.out.size))
                  clear hv2 hb2 hf2
                  go_wp2_with fail
                  refine (of_any j w2 (le_maxI (by have := HJ16.out; omega))).mono ?_
                  rintro e w3 ⟨v3, rfl, hv3, hb3, hf3⟩
                  have HV3 := Lib.hid hv3
                  have HV23 := Lib.hid (HV2.out.below hb3)
                  have HB3 := Lib.hid (HB2.out.trans (hb3.mono HB2.out.size))
                  clear hv3 hb3 hf3
                  go_wp2_with fail
                  refine (radd_any _ _ _ j w3 HV23.out HV3.out HS2.out (by unfold Sz; exact Nat.le_trans (c16_le (k := 1) (by rw [X16_one]; have := HJ16.out; omega)) (by decide))).mono ?_
                  rintro e w4 ⟨v4, rfl, hv4, hb4, hf4⟩
                  rw [← HTK2.out] at hv4
                  have HV4 := Lib.hid hv4
                  have HB4 := Lib.hid (HB3.out.trans (hb4.mono HB3.out.size))
                  clear hv4 hb4 hf4
                  go_wp2_with fail
                  go_roundw
                  case rel => exact ⟨k + 1, by omega, by go_num, HV4.out, HA2.out, HB4.out⟩
                  case measure => simp [intOf]; omega
                · have hb := hex_ne j (s[k]) hj16 hx
                  have HX := Lib.hid hx
                  clear hx
                  go_wp2_with fail
                  go_quiet (fail)
                  go_wp2_with fail
                  go_roundw
                  case rel =>
                    refine ⟨j + 1, m + nq, by omega, by go_num, fun e h => ?_, rfl⟩
                    by_cases e2 : e = j
                    · subst e2; exact HX.out
                    · exact HNE.out e (by omega)
                  case measure => simp [intOf]; omega
              · obtain rfl : j = 16 := by omega
                have HBAD : Hid (okP s.data.toList = false) := Lib.hid (hno.out _ (not_allH HKL.out (hexI_none _ HNE.out)))
                go_wp2_with fail
                go_quiet (fail)
                go_wp2_with fail
                go_ret2
                exact RetP.no HBAD.out (below_drewN HW.out (m + nq))
          · obtain rfl : k = s.size := by omega
            have HOK : Hid (okP s.data.toList = true) := Lib.hid (hno.out _ (by
              have h1 := HA.out
              rwa [← HLEN.out, List.take_length] at h1))
            have HLL : Hid (Lst wr u4 (numH s.data.toList)) := Lib.hid (by
              have h1 := HL.out
              rwa [← HLEN.out, List.take_length] at h1)
            go_wp2_with fail
            go_ret2
            exact RetP.yes HOK.out HLL.out HW.out

end Go.Proofs.Ytomiapceefbmeaa
