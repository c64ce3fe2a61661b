/- Walks of package slices at bytes: Grow of nil, Concat, Clone, Equal. -/
import Derived.Test.YteepfeggkocakaaBase
import Derived.Lib.AppendZeros
import Derived.WalkSpells
import Derived.Lib.SliceRun
import Derived.Deep.QuietTactic
import Derived.BigQuiet
set_option linter.unusedVariables false
set_option linter.unusedSimpArgs false
namespace Go.Proofs.Yteepfeggkocakaa
open Go.RowKit

theorem wpl_append_zeros_nil {P : Program} {w : World} {ops : Array Oper} {rest : List Oper} {o : Oper} {a : Act} {Q : Exit → Act → World → Prop} (hgd : o.guard = none) (s x : Operand) (t tn : TypeId)
    (ho : o.op = .call { callee := .builtin .append, args := #[s, x], argTypes := #[t, tn] }) {e : TypeId} {z : Value} {bytes : Nat} (E : EI P t e z bytes) (hb8 : bytes ≤ 8) (htn : P.underlying tn = some (.int .i64))
    (base n : Nat) (hs : a.eval s = .slice none 0 0) (hx : a.eval x = .int .i64 (n : Int)) (h0 : 0 < n) (hn : n ≤ lim) (hbase : base ≤ w.heap.size)
    (h : ∀ (c : Nat) w', 0 < c → w'.ownsRow base e 1 (.slice (some ⟨w.heap.size, 0, none⟩) 0 c) 0 [] → w.grownBy w' none → wpList P ops Q rest (a.put o.dst (.slice (some ⟨w.heap.size, 0, none⟩) n c)) w') :
    wpList P ops Q (o :: rest) a w := by
  obtain ⟨ht, ⟨i, hi, hz, hsize, hby⟩, hone⟩ := E
  have hl := lim_le hn
  have hr := Lib.run_append_nil_zeros (P := P) w t tn o.type e i z .i64 .i64 ht htn hi hz n h0 (by omega) (by omega) (by
    have : n * i.bytes ≤ 1099511627776 * 8 := Nat.mul_le_mul hl (by omega)
    omega)
  have hge := grownCap_ge w n 0 e
  have hle := grownCap_le_maxLen w n 0 e (by unfold maxLen; omega)
  refine Lib.wpList_append_run _ hgd s x t tn ho _ _ hs hx _ _ hr (h _ _ (by omega) ?_ ⟨rfl, rfl, rfl, by simp, fun k hk _ => (Below.heap_alloc w.drew _ k hk : _)⟩)
  refine ⟨by simp, .inr ⟨w.heap.size, _, _, rfl, hbase, heap_alloc_new w.drew _, Nat.zero_le _, hle, ?_, by simp⟩⟩
  simp only [Array.size_append, size_zeroCells, hone]
  omega

set_option maxHeartbeats 800000 in
theorem grow_nil (n : Nat) (w : World) (hn : n ≤ lim) :
    Calls Try.prog 105 #[.slice none 0 0, .int .i64 n] w (RetB w []) := by
  have hmx : (n : Int) ≤ 1099511627776 := by have := lim_le hn; omega
  by_cases h0 : n = 0
  · subst h0
    go_enter Try.func105, Try.ntmps105
    go_wp2
    go_ret
    exact ⟨_, rfl, World.ownsRow_nil _ _ _ _, Below.refl _ _⟩
  · have hpos : 0 < n := by omega
    go_enter Try.func105, Try.ntmps105
    go_wp2_with (at_builtin; refine wpl_append_zeros_nil rfl (.tmp 20) (.tmp 21) 24 3 rfl eiU8 (by omega) Try.underlying3 w.heap.size n rfl rfl hpos hn (Nat.le_refl _) ?_; intro c w1 hc hown hg)
    have hc0 : ¬ c = 0 := by omega
    go_wp2
    go_ret
    exact ⟨_, rfl, hown, below_of_none hg (Nat.le_refl _)⟩


/-- A slice value that reads as a list of byte slices. -/
def Bss (w : World) (v : Value) (xss : List (List UInt8)) : Prop :=
  ∃ vs : List Value, vs.length = xss.length ∧ Sl w v vs ∧ ∀ (j : Nat) (u : Value) (x : List UInt8), vs[j]? = some u → xss[j]? = some x → Byt w u x

theorem Bss.below {w w' : World} {v : Value} {xss : List (List UInt8)} (h : Bss w v xss) (hb : Below w.heap.size w w') : Bss w' v xss :=
  let ⟨vs, h1, h2, h3⟩ := h
  ⟨vs, h1, h2.below hb, fun j u x hu hx => (h3 j u x hu hx).below hb⟩
theorem Bss.len {w : World} {v : Value} {xss : List (List UInt8)} (h : Bss w v xss) : ∃ A c, v = .slice A xss.length c := by
  obtain ⟨vs, h1, h2, _⟩ := h
  rw [← h1]
  exact h2.len
theorem Bss.at_ {w : World} {v : Value} {xss : List (List UInt8)} (h : Bss w v xss) {k : Nat} (hk : k < xss.length) :
    ∃ b off c u, v = .slice (some ⟨b, off, none⟩) xss.length c ∧ b < w.heap.size ∧ w.cell? ⟨b, off + k, none⟩ = some u ∧ Byt w u xss[k] := by
  obtain ⟨vs, h1, h2, h3⟩ := h
  obtain ⟨b, off, c, g1, g2, g3⟩ := h2.at_ (k := k) (by omega)
  exact ⟨b, off, c, _, by rw [← h1]; exact g1, g2, g3, h3 k _ _ (List.getElem?_eq_getElem (by omega)) (List.getElem?_eq_getElem hk)⟩

theorem flat_take {α : Type} (xss : List (List α)) (k : Nat) (hk : k < xss.length) : (xss.take (k + 1)).flatten = (xss.take k).flatten ++ xss[k] := by
  rw [List.take_succ_eq_append_getElem hk, List.flatten_append]
  simp
/-- The length of the first k lists, behind a name. -/
def flen (xss : List (List UInt8)) (k : Nat) : Nat := (xss.take k).flatten.length
theorem flen_le (xss : List (List UInt8)) (k : Nat) : flen xss k ≤ flen xss xss.length := by
  have h : xss.flatten = (xss.take k).flatten ++ (xss.drop k).flatten := by rw [← List.flatten_append, List.take_append_drop]
  unfold flen
  rw [List.take_length, h, List.length_append]
  omega
theorem flen_succ (xss : List (List UInt8)) (k : Nat) (hk : k < xss.length) : flen xss (k + 1) = flen xss k + xss[k].length := by
  unfold flen
  rw [flat_take xss k hk, List.length_append]
theorem flen_zero (xss : List (List UInt8)) : flen xss 0 = 0 := rfl
theorem flen_all (xss : List (List UInt8)) : flen xss xss.length = xss.flatten.length := by unfold flen; rw [List.take_length]

set_option maxHeartbeats 1600000 in
theorem concat_any (v : Value) (xss : List (List UInt8)) (w : World) (h : Bss w v xss) (hn : xss.length ≤ lim) (hs : xss.flatten.length ≤ lim) :
    Calls Try.prog 92 #[v] w (RetB w xss.flatten) := by
  obtain ⟨A, c, rfl⟩ := h.len
  have hn1 : (xss.length : Int) ≤ 1099511627776 := by have := lim_le hn; omega
  have hs1 : (flen xss xss.length : Int) ≤ 1099511627776 := by rw [flen_all]; have := lim_le hs; omega
  have H := Lib.hid h
  have HS := Lib.hid hs
  clear h hn hs
  go_enter Try.func92, Try.ntmps92
  go_wp2_with fail
  go_loop [3, 5, 11] (fun s _ i => ∃ k : Nat, k ≤ xss.length ∧ i = .int .i64 k ∧ s = .int .i64 (flen xss k)) (fun _ _ i => xss.length - (intOf i).toNat)
  case atStart => exact ⟨0, Nat.zero_le _, rfl, rfl⟩
  case round =>
    obtain ⟨k, hk, rfl, rfl⟩ := hrel
    have hle := flen_le xss k
    by_cases hlt : k < xss.length
    · obtain ⟨b, off, c', u, hA, _, hc, hu⟩ := H.out.at_ hlt
      injection hA with hA _ hc'
      subst hA hc'
      obtain ⟨A', c', rfl, _, _, _⟩ := hu.len
      have hle2 := flen_le xss (k + 1)
      have HE := Lib.hid (flen_succ xss k hlt)
      rw [HE.out] at hle2
      clear hu
      go_wp2_with fail
      go_round
      case rel => exact ⟨k + 1, by omega, by go_num, by rw [HE.out]; go_num⟩
      case measure => simp [intOf]; omega
    · obtain rfl : k = xss.length := by omega
      go_wp2_with fail
      refine (grow_nil _ _ ?_).mono ?_
      · rw [flen_all]; exact HS.out
      rintro e w1 ⟨v1, rfl, hown, hb⟩
      go_wp2_with fail
      go_loopw [6, 8, 27] (fun v _ i wr => ∃ k : Nat, k ≤ xss.length ∧ i = .int .i64 k ∧ OwnB wr w.heap.size v (xss.take k).flatten ∧ Below w.heap.size w wr) (fun _ _ i _ => xss.length - (intOf i).toNat)
      case atStart => exact ⟨0, Nat.zero_le _, rfl, hown, hb⟩
      case round =>
        clear hown hb
        obtain ⟨k, hk, rfl, hown, hb⟩ := hrel
        have hle := flen_le xss k
        by_cases hlt : k < xss.length
        · obtain ⟨b, off, c', u, hA, _, hc, hu⟩ := (H.out.below hb).at_ hlt
          injection hA with hA _ hc'
          subst hA hc'
          have HU := Lib.hid hu
          have HO := Lib.hid hown
          have hle2 := flen_le xss (k + 1)
          have HE := Lib.hid (flen_succ xss k hlt)
          rw [HE.out] at hle2
          clear hu hown
          go_wp2_with (at_builtin; refine wpl_append_b rfl (.tmp 31) (.tmp 32) 24 rfl eiU8 w.heap.size _ _ rfl HO.out _ _ rfl HU.out ?_ hb.size ?_)
          · have e : flen xss k = (List.take k (List.map List.length xss)).sum := by simp [flen, List.length_flatten, List.map_take]
            refine Nat.le_trans ?_ HS.out
            rw [← flen_all]
            omega
          intro A2 c2 w2 hown2 hg2 _
          have hb2 := hb.trans (below_of_own HO.out hg2 hb.size)
          go_wp2_with fail
          go_roundw
          case rel => exact ⟨k + 1, by omega, by go_num, by rw [flat_take xss k hlt]; exact hown2, hb2⟩
          case measure => simp [intOf]; omega
        · obtain rfl : k = xss.length := by omega
          go_wp2_with fail
          go_ret
          rw [List.take_length] at hown
          exact ⟨_, rfl, hown, hb⟩

set_option maxHeartbeats 800000 in
theorem clone_any (v : Value) (xs : List UInt8) (w : World) (h : Byt w v xs) (hn : xs.length ≤ lim) :
    Calls Try.prog 58 #[v] w (RetB w xs) := by
  obtain ⟨A, c, rfl, _, _, hA⟩ := h.len
  have heq : ∀ W : World, (binOp .eql 24 (.slice A xs.length c) (.slice none 0 0)).run Try.prog W = .ok (.bool A.isNone) W := fun W => Lib.run_eql_slice_nil W 24 5 A _ _ 0 0 Try.underlying24
  have H := Lib.hid h
  have HN := Lib.hid hn
  clear h hn
  cases A with
  | none =>
    have hx : xs = [] := by
      have h1 := hA rfl
      apply List.eq_nil_of_length_eq_zero
      omega
    subst hx
    have hc0 : c = 0 := hA rfl
    subst hc0
    simp only [List.length_nil, Option.isNone_none] at heq
    clear hA H HN
    go_enter Try.func58, Try.ntmps58
    go_wp2
    go_ret
    exact ⟨_, rfl, World.ownsRow_nil _ _ _ _, Below.refl _ _⟩
  | some ad =>
    simp only [Option.isNone_some] at heq
    clear hA
    go_enter Try.func58, Try.ntmps58
    have hown0 : OwnB (w.alloc (.cells #[] 5)) w.heap.size (.slice (some ⟨w.heap.size, 0, none⟩) 0 0) [] := ownB_new (Nat.le_refl _) [] (Nat.zero_le _) _ rfl 0 rfl
    have hsrc : Byt (w.alloc (.cells #[] 5)) (.slice (some ad) xs.length c) xs := H.out.alloc _
    have H1 := Lib.hid hown0
    have H2 := Lib.hid hsrc
    have H3 : Hid (([] : List UInt8).length + xs.length ≤ lim) := by unfold Hid; simpa using HN.out
    clear hown0 hsrc
    go_wp2_with (at_builtin; refine wpl_append_b rfl (.tmp 5) (.tmp 6) 24 rfl eiU8 w.heap.size (.slice (some ⟨w.heap.size, 0, none⟩) 0 0) [] rfl H1.out _ xs rfl H2.out H3.out (by simp) ?_; intro A1 c1 w1 hown hg _)
    go_ret
    have hown1 : OwnB w1 w.heap.size (.slice A1 xs.length c1) xs := by simpa using hown
    refine ⟨_, rfl, hown1, ?_⟩
    exact (((Below.refl _ _).alloc (Nat.le_refl _) _).trans (below_of_own (base := w.heap.size) H1.out hg (by simp)))

set_option maxHeartbeats 800000 in
theorem equal_any (u v : Value) (xs ys : List UInt8) (w : World) (hu : Byt w u xs) (hv : Byt w v ys) (hn : xs.length ≤ lim) (hm : ys.length ≤ lim) :
    Calls Try.prog 96 #[u, v] w fun e w' => e = .returned (.bool (decide (xs = ys))) ∧ ∃ k, w' = w.drewN k := by
  obtain ⟨A, c, rfl, _, _, _⟩ := hu.len
  obtain ⟨B, d, rfl, _, _, _⟩ := hv.len
  have hn1 : (xs.length : Int) ≤ 1099511627776 := by have := lim_le hn; omega
  have hm1 : (ys.length : Int) ≤ 1099511627776 := by have := lim_le hm; omega
  have HU := Lib.hid hu
  have HV := Lib.hid hv
  clear hu hv hn hm
  by_cases hl : xs.length = ys.length
  · have hne : ((xs.length : Int) != (ys.length : Int)) = false := by rw [hl]; simp
    have HL := Lib.hid hl
    clear hl
    go_enter Try.func96, Try.ntmps96
    go_wp2
    go_loopw [5, 13] (fun _ i wr => ∃ k n : Nat, k ≤ xs.length ∧ i = .int .i64 k ∧ wr = w.drewN n ∧ xs.take k = ys.take k) (fun _ i _ => xs.length - (intOf i).toNat)
    case atStart => exact ⟨0, 0, Nat.zero_le _, rfl, rfl, rfl⟩
    case round =>
      obtain ⟨k, n, hk, rfl, rfl, hE⟩ := hrel
      have HE := Lib.hid hE
      clear hE
      by_cases hlt : k < xs.length
      · have hlt2 : k < ys.length := by have := HL.out; omega
        obtain ⟨b, off, c', hA, _, hc⟩ := HU.out.at_ hlt
        injection hA with hA _ hc'
        subst hA hc'
        obtain ⟨b2, off2, c2, hB, _, hc2⟩ := HV.out.at_ hlt2
        injection hB with hB _ hc2'
        subst hB hc2'
        by_cases hq : xs[k] = ys[k]
        · have hq2 : ((xs[k].toNat : Int) != (ys[k].toNat : Int)) = false := by rw [hq]; simp
          have HQ := Lib.hid hq
          clear hq
          go_wp2_with fail
          go_quiet (fail)
          go_wp2
          go_roundw
          case rel => exact ⟨k + 1, _, by omega, by go_num, by first | rfl | (rw [World.drewN_drewN]), by rw [List.take_succ_eq_append_getElem hlt, List.take_succ_eq_append_getElem hlt2, HE.out, HQ.out]⟩
          case measure => simp [intOf]; omega
        · have hq2 : ((xs[k].toNat : Int) != (ys[k].toNat : Int)) = true := by
            rw [bne_iff_ne]
            intro e
            exact hq (UInt8.toNat_inj.1 (by omega))
          have hd : decide (xs = ys) = false := decide_eq_false fun e => hq (by simp [e])
          have HD := Lib.hid hd
          clear hd hq
          go_wp2_with fail
          go_quiet (fail)
          go_wp2
          go_ret
          exact ⟨by rw [HD.out]; rfl, _, by first | rfl | (rw [World.drewN_drewN])⟩
      · have hd : decide (xs = ys) = true := decide_eq_true (by
          have h1 := HE.out
          have h2 := HL.out
          rw [List.take_of_length_le (by omega), List.take_of_length_le (by omega)] at h1
          exact h1)
        have HD := Lib.hid hd
        clear hd
        go_wp2
        go_ret
        exact ⟨by rw [HD.out]; rfl, n, rfl⟩
  · have hne : ((xs.length : Int) != (ys.length : Int)) = true := by simp; omega
    have hd : decide (xs = ys) = false := decide_eq_false fun e => hl (by rw [e])
    rw [hd]
    clear hd
    go_enter Try.func96, Try.ntmps96
    go_wp2
    go_ret
    exact ⟨rfl, 0, rfl⟩

end Go.Proofs.Yteepfeggkocakaa
