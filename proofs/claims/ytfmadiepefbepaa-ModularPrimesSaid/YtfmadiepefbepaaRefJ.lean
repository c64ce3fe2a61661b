/- Walks of the reference of numbers: GCD, Bytes, Text. · Plain: hexadecimal strings. Walk of the reference of numbers: Parse. -/
import Derived.Test.YtfmadiepefbepaaRefH
import Derived.Test.YtfmadiepefbepaaNatN
import Derived.Deep.LoopGhost
import Derived.WalkSpells
set_option linter.unusedVariables false
set_option linter.unusedSimpArgs false
set_option maxRecDepth 20000
namespace Go.Proofs.Ytfmadiepefbepaa
open Go.RowKit

def RetG (w : World) (n : Nat) (e : Ending) (w' : World) : Prop := ∃ v, e = .returned v ∧ Lst w' v n ∧ Below w.heap.size w w'
theorem gcd_step (x y : Nat) : Nat.gcd y (x % y) = Nat.gcd x y := by
  rw [Nat.gcd_comm x y, Nat.gcd_rec y x, Nat.gcd_comm]

/-! ### Bytes -/
section
variable {P : Program} {w0 : World}
/-- append of one byte onto a row of the call's own. -/
theorem wpl_append_b1 {ops : Array Oper} {rest : List Oper} {o : Oper} {a : Act} {Q : Exit → Act → World → Prop} (hgd : o.guard = none) (s x : Operand) (t T : TypeId)
    (ho : o.op = .call { callee := .builtin .append, args := #[s, x], argTypes := #[t, t] }) {z : Value} (E : EI P t 5 z 1)
    (base : Nat) (v : Value) (xs : List UInt8) (n : Nat) (hn : xs.length = n) (hs : a.eval s = v) (hown : OwnB w0 base v xs) (d : UInt8) (e : Int) (hd : e = (d.toNat : Int)) (hx : a.eval x = .slice (some ⟨w0.heap.size, 0, none⟩) 1 1)
    (hlen : n ≤ 1000000) (hbase : base ≤ w0.heap.size)
    (h : ∀ (A : Option Addr) (c : Nat) w', OwnB w' base (.slice A (n + 1) c) (xs ++ [d]) → Below base w0 w' → wpList P ops Q rest (a.put o.dst (.slice A (n + 1) c)) w') :
    wpList P ops Q (o :: rest) a (w0.alloc (.cells #[.int .u8 e] T)) := by
  subst hn hd
  have hsrc : Sl (w0.alloc (.cells #[.int .u8 (d.toNat : Int)] T)) (.slice (some ⟨w0.heap.size, 0, none⟩) 1 1) [u8v d] := by
    refine ⟨some ⟨w0.heap.size, 0, none⟩, 1, rfl, Nat.le_refl _, by unfold maxLen; omega, by simp, fun _ => ⟨w0.heap.size, 0, rfl, by simp, fun j u hu => ?_⟩⟩
    have hj : j = 0 := by have := (List.getElem?_eq_some_iff.1 hu).1; simpa using this
    subst hj
    simp only [List.getElem?_cons_zero, Option.some.injEq] at hu
    rw [← hu]
    exact World.cell?_alloc_mark w0 #[.int .u8 (d.toNat : Int)] T (0, 0) 0
  have hown' : (w0.alloc (.cells #[.int .u8 (d.toNat : Int)] T)).ownsRow base 5 1 v xs.length (xs.map u8v) := own_below hown ((Below.refl _ _).alloc (Nat.le_refl _) _)
  refine wpl_append hgd s x t ho E base v xs.length (xs.map u8v) hs hown' _ _ hx hsrc (by simp [u8v, Value.oneCell']) (by simp [maxLen]; omega) (by simp; omega) (by simp; omega) fun v' w' g1 g2 g3 => ?_
  have g4 : OwnB w' base v' (xs ++ [d]) := by
    unfold OwnB
    rw [List.length_append, List.map_append]
    simpa using g1
  obtain ⟨A, c, rfl, _⟩ := g4.byt.len
  rw [List.length_append] at *
  refine h A c w' g4 ?_
  exact (((Below.refl base w0).alloc hbase _).trans (below_of_own hown' g2 (by simp; omega)))
end

theorem rbyte_dig (a k : Nat) : d16 a (k / 2) / 2 ^ (8 * (k % 2)) % 256 = a / 2 ^ (8 * k) % 256 := by
  have e : 2 ^ (8 * k) = X16 (k / 2) * 2 ^ (8 * (k % 2)) := by
    unfold X16
    rw [← Nat.pow_add]
    congr 1
    omega
  have h3 : k % 2 = 0 ∨ k % 2 = 1 := by omega
  rw [e, ← Nat.div_div_eq_div_mul]
  unfold d16
  generalize a / X16 (k / 2) = q
  rcases h3 with h | h <;> rw [h] <;> simp <;> omega
theorem natB_split (a : Nat) : ∀ n k, k < n → (natB a n).take (n - (k + 1)) ++ [UInt8.ofNat (a / 2 ^ (8 * k) % 256)] = (natB a n).take (n - k)
  | 0, k, h => by omega
  | n + 1, k, h => by
    by_cases e : k = n
    · subst e
      rw [Nat.sub_self, show k + 1 - k = 1 from by omega, natB]
      rfl
    · have ih := natB_split a n k (by omega)
      rw [natB, show n + 1 - (k + 1) = n - (k + 1) + 1 from by omega, show n + 1 - k = n - k + 1 from by omega, List.take_succ_cons, List.take_succ_cons, List.cons_append, ih]

set_option maxHeartbeats 1600000 in
theorem rbytes_any (v : Value) (a : Nat) (w : World) (h : Lst w v a) (ha : Sz a) :
    Calls Try.prog 51 #[v] w (RetB w (bytesN a)) := by
  have hbl : (bl a : Int) ≤ 1600000 := by
    have h1 := bl_le (n := a) (k := 16 * c16 a) (lt_c16 a)
    have h2 := ha.le
    omega
  have H := Lib.hid h
  have HA := Lib.hid ha
  obtain ⟨n, hn⟩ : ∃ n, n = (bl a + 7) / 8 := ⟨_, rfl⟩
  have hni : ((bl a : Int) + 7) / 8 = (n : Int) := by omega
  have hnl : n ≤ 1000000 := by omega
  have HN := Lib.hid hn
  have HNI := Lib.hid hni
  clear h ha hn hni
  go_enter Try.func51, Try.ntmps51
  go_wp2_with fail
  refine (rbitLen_any _ a w H.out HA.out).mono ?_
  rintro e w' ⟨rfl, rfl⟩
  have hb0 : 0 ≤ (bl a : Int) := by omega
  generalize (bl a : Int) = bi at *
  go_wp2_with fail
  rw [HNI.out]
  go_loopw [4, 5] (fun o i wr => ∃ k : Nat, k ≤ n ∧ i = .int .i64 ((k : Int) - 1) ∧ OwnB wr w.heap.size o ((natB a n).take (n - k)) ∧ Below w.heap.size w wr) (fun _ i _ => (intOf i + 1).toNat)
  case atStart => exact ⟨n, Nat.le_refl _, rfl, by rw [Nat.sub_self]; exact World.ownsRow_nil _ _ _ _, Below.refl _ _⟩
  case round =>
    obtain ⟨k, hk, rfl, hown, hb⟩ := hrel
    have HO := Lib.hid hown
    have hbs := hb.size
    have HB := Lib.hid hb
    clear hown hb
    by_cases h0 : k = 0
    · subst h0
      go_wp2_with fail
      go_ret
      refine ⟨_, rfl, ?_, HB.out⟩
      have h1 := HO.out
      rw [Nat.sub_zero, List.take_of_length_le (by rw [natB_length]; exact Nat.le_refl _)] at h1
      unfold bytesN
      rw [← HN.out]
      exact h1
    · obtain ⟨i, rfl⟩ : ∃ i, k = i + 1 := ⟨k - 1, by omega⟩
      have e1 : ((i + 1 : Nat) : Int) - 1 = (i : Int) := by omega
      rw [e1]
      have hi0 : (0 : Int) ≤ (i : Int) := by omega
      have hi1 : (i : Int) < (n : Int) := by omega
      have hl : ((natB a n).take (n - (i + 1))).length = n - (i + 1) := by rw [List.length_take, natB_length]; omega
      have HL := Lib.hid hl
      have HS := Lib.hid (natB_split a n i (by omega))
      have HL2 := Lib.hid (H.out.below HB.out)
      have hn2 : n - (i + 1) ≤ 1000000 := by omega
      obtain ⟨x0, x1⟩ := dI_range a ((i : Int) / 2)
      have hxd : 0 ≤ dI a ((i : Int) / 2) / 2 ^ (8 * (i % 2)) := Int.ediv_nonneg x0 (Int.le_of_lt (Int.pow_pos (by decide)))
      have HE : Hid (dI a ((i : Int) / 2) / 2 ^ (8 * (i % 2)) % 256 = ((UInt8.ofNat (a / 2 ^ (8 * i) % 256)).toNat : Int)) := Lib.hid (by
        rw [show ((i : Int) / 2) = ((i / 2 : Nat) : Int) from rfl, dI_nat]
        rw [UInt8.toNat_ofNat', Nat.mod_eq_of_lt (show a / 2 ^ (8 * i) % 256 < 2 ^ 8 from Nat.mod_lt _ (by decide)), ← rbyte_dig]
        simp)
      clear h0 e1 hl
      go_wp2_with fail
      refine (digit_any _ a _ wr HL2.out HA.out).mono ?_
      rintro e w' ⟨rfl, rfl⟩
      generalize dI a ((i : Int) / 2) = x at *
      go_wp2_with (at_builtin; refine wpl_append_b1 rfl (.tmp 16) (.tmp 27) 31 _ rfl eiU8 w.heap.size _ ((natB a n).take (n - (i + 1))) (n - (i + 1)) HL.out rfl HO.out (UInt8.ofNat (a / 2 ^ (8 * i) % 256)) _ HE.out rfl hn2 hbs ?_; intro A2 c2 w2 hown2 hb2)
      rw [HS.out] at hown2
      have HO2 := Lib.hid hown2
      have HB2 := Lib.hid (HB.out.trans hb2)
      clear hown2 hb2
      go_wp2_with fail
      go_roundw
      case rel => exact ⟨i, by omega, rfl, HO2.out, HB2.out⟩
      case measure => simp [intOf]

/-! ### Text -/
end Go.Proofs.Ytfmadiepefbepaa

set_option linter.unusedVariables false
set_option linter.unusedSimpArgs false
set_option maxRecDepth 20000
namespace Go.Proofs.Ytfmadiepefbepaa
open Go.RowKit

end Go.Proofs.Ytfmadiepefbepaa
