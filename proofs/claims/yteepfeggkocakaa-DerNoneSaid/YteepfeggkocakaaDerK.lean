/- Walks: New, the readers' methods, the chapter's examples. -/
import Derived.Test.YteepfeggkocakaaDerRd
set_option linter.unusedVariables false
set_option linter.unusedSimpArgs false
set_option maxRecDepth 20000
namespace Go.Proofs.Yteepfeggkocakaa
open Go.RowKit Der

set_option maxHeartbeats 1600000 in
theorem new_any (v : Value) (xs : List UInt8) (w : World) (h : Byt w v xs) (hn : xs.length ≤ lim) :
    Calls Try.prog 29 #[v] w fun e w' => ∃ g A c, e = .returned (.pointer (some ⟨g, 0, none⟩)) ∧ RdrAt w' g A c xs 0 ∧ w.heap.size ≤ g ∧ OwnB w' w.heap.size (.slice A xs.length c) xs ∧ Below w.heap.size w w' := by
  have H := Lib.hid h
  have HN := Lib.hid hn
  clear h hn
  go_enter Try.func29, Try.ntmps29
  go_wp2_with fail
  refine (clone_any _ xs _ H.out HN.out).mono ?_
  rintro e w1 ⟨v1, rfl, hown, hb⟩
  obtain ⟨A, c, rfl, _⟩ := hown.byt.len
  have HO := Lib.hid hown
  have HB := Lib.hid hb
  clear hown hb
  go_wp2_with fail
  refine bodyPost_ret (results_tmp rfl _ _ _) rfl ?_
  refine ⟨_, A, c, rfl, ⟨heap_alloc_new _ _, HO.out.byt.alloc _, Nat.zero_le _, HN.out, fun _ e => ?_⟩, HB.out.size, OwnB.below HO.out (below1 _), HB.out.trans ((below1 _).mono HB.out.size)⟩
  have := HO.out.lt _ e
  omega

/-- What a call of a reader's method leaves. -/
def RdRes {X : Type} (z : Value) (ok : X → Value → World → Prop) (w : World) (g : Nat) (A : Option Addr) (c : Nat) (xs : List UInt8) (k : Nat) (e : Ending) (w' : World) : Except Int (X × Nat) → Prop
  | .ok (x, j) => ∃ v, e = .returned (.tuple #[v, .int .i64 0]) ∧ ok x v w' ∧ RdrAt w' g A c xs (k + j) ∧ w.grownBy w' (some g)
  | .error er => RdErr z er w e w'

/-- What comes back from a reader: a number; bytes in new memory. -/
def okInt (_ : World) (x : Int) (v : Value) (_ : World) : Prop := v = .int .i64 x
def okByt (w : World) (x : List UInt8) (v : Value) (w' : World) : Prop := OwnB w' w.heap.size v x
theorem OwnB.same3 {w w1 w' : World} {g : Nat} {v : Value} {xs : List UInt8} (h : OwnB w1 (w.heap.size + 3) v xs) (hg : g < w.heap.size) (hs : Same3 w1 w' g w.heap.size (w.heap.size + 1)) : OwnB w' w.heap.size v xs := by
  refine OwnB.mono (base' := w.heap.size) (base := w.heap.size + 3) ⟨h.1, ?_⟩ (by omega)
  rcases h.2 with h2 | ⟨b, cap, cur, hv, hb, hc⟩
  · exact .inl h2
  · refine .inr ⟨b, cap, cur, hv, hb, ?_⟩
    obtain ⟨h1, r⟩ := hc
    exact ⟨by rw [hs.2 b (by omega) (by omega) (by omega)]; exact h1, r⟩

theorem enters_Integer (args : Array Value) (W : World) : (callFunc 73 args).run Try.prog W = .ok (.enter 73 args) W := by simp [go_sem]

set_option maxHeartbeats 1600000 in
theorem rd_Integer_any (g : Nat) (A : Option Addr) (c : Nat) (xs : List UInt8) (k : Nat) (w : World) (h : RdrAt w g A c xs k) :
    Calls Try.prog 40 #[.pointer (some ⟨g, 0, none⟩)] w fun e w' => RdRes (.int .i64 0) (okInt w) w g A c xs k e w' (intP (xs.drop k)) := by
  have H := Lib.hid h
  clear h
  cases hi : intP (xs.drop k) with
  | error er =>
    have HI := Lib.hid hi
    clear hi
    go_enter Try.func40, Try.ntmps40
    go_wp2_with fail
    refine (read_int_err 73 #[] enters_Integer g A c xs k er w H.out (fun W B hin _ => (integerIn_any B A c xs k W hin).mono (fun e W' hP => by rw [HI.out] at hP; exact hP))).mono ?_
    rintro e w1 ⟨rfl, hb⟩
    have HB := Lib.hid hb
    clear hb
    go_wp2_with fail
    refine bodyPost_ret (results_tmp2 rfl _ _ _) rfl ?_
    exact ⟨rfl, HB.out⟩
  | ok vj =>
    obtain ⟨x, j⟩ := vj
    have HI := Lib.hid hi
    clear hi
    go_enter Try.func40, Try.ntmps40
    go_wp2_with fail
    refine (read_int_ok 73 #[] enters_Integer g A c xs k j w H.out (fun v _ => v = x) (fun W B hin _ hsz => (integerIn_any B A c xs k W hin).mono (fun e W' hP => by
      rw [HI.out] at hP
      obtain ⟨rfl, hin', hg'⟩ := hP
      exact ⟨x, rfl, hin', hg', rfl⟩))).mono ?_
    rintro e w1 ⟨v, w2, rfl, hr, hg, hR, hs⟩
    have HR := Lib.hid hr
    have HG := Lib.hid hg
    have HRR := Lib.hid hR
    have HS := Lib.hid hs
    clear hr hg hR hs
    go_wp2_with fail
    refine bodyPost_ret (results_tmp2 rfl _ _ _) rfl ?_
    exact ⟨_, rfl, congrArg _ HRR.out, HR.out, HG.out⟩

theorem enters_Octets (args : Array Value) (W : World) : (callFunc 60 args).run Try.prog W = .ok (.enter 60 args) W := by simp [go_sem]

set_option maxHeartbeats 1600000 in
theorem rd_Octets_any (g : Nat) (A : Option Addr) (c : Nat) (xs : List UInt8) (k : Nat) (w : World) (h : RdrAt w g A c xs k) :
    Calls Try.prog 30 #[.pointer (some ⟨g, 0, none⟩)] w fun e w' => RdRes (.slice none 0 0) (okByt w) w g A c xs k e w' (contP 4 (xs.drop k)) := by
  have H := Lib.hid h
  clear h
  cases hi : contP 4 (xs.drop k) with
  | error er =>
    have HI := Lib.hid hi
    clear hi
    go_enter Try.func30, Try.ntmps30
    go_wp2_with fail
    refine (read_byt_err 60 #[] enters_Octets g A c xs k er w H.out (fun W B hin _ => (octetsIn_any B A c xs k W hin).mono (fun e W' hP => by rw [HI.out] at hP; exact hP))).mono ?_
    rintro e w1 ⟨rfl, hb⟩
    have HB := Lib.hid hb
    clear hb
    go_wp2_with fail
    refine bodyPost_ret (results_tmp2 rfl _ _ _) rfl ?_
    exact ⟨rfl, HB.out⟩
  | ok vj =>
    obtain ⟨x, j⟩ := vj
    have HI := Lib.hid hi
    clear hi
    go_enter Try.func30, Try.ntmps30
    go_wp2_with fail
    refine (read_byt_ok 60 #[] enters_Octets g A c xs k j w H.out (fun v W => OwnB W (w.heap.size + 3) (.slice v.1 v.2.1 v.2.2) x) (fun W B hin _ hsz => (octetsIn_any B A c xs k W hin).mono (fun e W' hP => by
      rw [HI.out] at hP
      obtain ⟨v, rfl, ho, hin', hg'⟩ := hP
      obtain ⟨A1, c1, rfl, _⟩ := ho.byt.len
      exact ⟨(A1, x.length, c1), rfl, hin', hg', ho.mono hsz⟩))).mono ?_
    rintro e w1 ⟨v, w2, rfl, hr, hg, hR, hs⟩
    have HR := Lib.hid hr
    have HG := Lib.hid hg
    have HRR := Lib.hid hR
    have HS := Lib.hid hs
    clear hr hg hR hs
    go_wp2_with fail
    refine bodyPost_ret (results_tmp2 rfl _ _ _) rfl ?_
    exact ⟨_, rfl, OwnB.same3 HRR.out H.out.lt HS.out, HR.out, HG.out⟩

theorem strOf {w : World} {v : Value} {xs : List UInt8} (h : Byt w v xs) : (convert 24 9 v).run Try.prog w = .ok (.string ⟨xs.toArray⟩) w :=
  run_str_of_bytes Try.underlying24 Try.underlying5 Try.underlying9 v xs h

set_option maxHeartbeats 3200000 in
theorem known_any (w : World) : Calls Try.prog 10 #[] w fun e w' => e = .returned (.bool true) ∧ Below w.heap.size w w' := by
  go_enter Try.func10, Try.ntmps10
  go_wp2_with fail
  refine (integer_any 0 w).mono ?_
  rintro e w1 ⟨v1, rfl, hown, hb⟩
  rw [show intE 0 = [2, 1, 0] from by decide] at hown
  have HB1 := Lib.hid hb
  have HO1 := Lib.hid hown
  have HN1 := Lib.hid hb
  clear hb hown
  have c1 := strOf HO1.out.byt
  go_wp2_with fail
  clear c1
  refine (integer_any 128 w1).mono ?_
  rintro e w2 ⟨v2, rfl, hown, hb⟩
  rw [show intE 128 = [2, 2, 0, 128] from by decide] at hown
  have HB2 := Lib.hid (HB1.out.trans (hb.mono HB1.out.size))
  have HO2 := Lib.hid hown
  have HN2 := Lib.hid hb
  clear hb hown
  have c2 := strOf HO2.out.byt
  go_wp2_with fail
  clear c2
  refine (integer_any (-129) w2).mono ?_
  rintro e w3 ⟨v3, rfl, hown, hb⟩
  rw [show intE (-129) = [2, 2, 255, 127] from by decide] at hown
  have HB3 := Lib.hid (HB2.out.trans (hb.mono HB2.out.size))
  have HO3 := Lib.hid hown
  have HN3 := Lib.hid hb
  clear hb hown
  have c3 := strOf HO3.out.byt
  go_wp2_with fail
  clear c3
  refine (time_any 1 w3).mono ?_
  rintro e w4 ⟨v4, rfl, hown, hb⟩
  rw [show timeE 1 = [24, 6, 0, 0, 0, 0, 0, 1] from by decide] at hown
  have HB4 := Lib.hid (HB3.out.trans (hb.mono HB3.out.size))
  have HO4 := Lib.hid hown
  have HN4 := Lib.hid hb
  clear hb hown
  have c4 := strOf HO4.out.byt
  go_wp2_with fail
  clear c4
  refine (bits_any 5 w4 (by decide) (by decide)).mono ?_
  rintro e w5 ⟨v5, rfl, hown, hb⟩
  rw [show bitsE 5 = [3, 5, 0, 0, 0, 0, 5] from by decide] at hown
  have HB5 := Lib.hid (HB4.out.trans (hb.mono HB4.out.size))
  have HO5 := Lib.hid hown
  have HN5 := Lib.hid hb
  clear hb hown
  have c5 := strOf HO5.out.byt
  go_wp2_with fail
  clear c5
  refine (integer_any 5 _).mono ?_
  rintro e w6 ⟨v6, rfl, hown, hb⟩
  rw [show intE 5 = [2, 1, 5] from by decide] at hown
  have HB6 := Lib.hid (HB5.out.trans (hb.mono HB5.out.size))
  have HO6 := Lib.hid hown
  have HN6 := Lib.hid hb
  clear hb hown
  go_wp2_with fail
  refine (string_any _ _ (by decide)).mono ?_
  rintro e w7 ⟨v7, rfl, hown, hb⟩
  rw [show elem 27 _ = [27, 1, 97] from by decide] at hown
  have HB7 := Lib.hid (HB6.out.trans (hb.mono HB6.out.size))
  have HO7 := Lib.hid hown
  have HN7 := Lib.hid hb
  clear hb hown
  go_wp2_with fail
  refine (tagged_any 1 _ _ w7 HO7.out.byt (by decide)).mono ?_
  rintro e w8 ⟨v8, rfl, hown, hb⟩
  rw [show wrapE 160 1 [27, 1, 97] = [161, 3, 27, 1, 97] from by decide] at hown
  have HB8 := Lib.hid (HB7.out.trans (hb.mono HB7.out.size))
  have HO8 := Lib.hid hown
  have HN8 := Lib.hid hb
  clear hb hown
  go_wp2_with fail
  refine (tagged_any 2 _ _ w8 (Byt.nil w8) (by decide)).mono ?_
  rintro e w9 ⟨v9, rfl, hown, hb⟩
  rw [show wrapE 160 2 [] = [] from by decide] at hown
  have HB9 := Lib.hid (HB8.out.trans (hb.mono HB8.out.size))
  have HO9 := Lib.hid hown
  have HN9 := Lib.hid hb
  clear hb hown
  have b6 := Lib.hid ((((HO6.out.below HN7.out).below HN8.out).below HN9.out).byt)
  have b8 := Lib.hid ((HO8.out.below HN9.out).byt)
  obtain ⟨A6, c6, rfl, _⟩ := HO6.out.byt.len
  obtain ⟨A8, c8, rfl, _⟩ := HO8.out.byt.len
  obtain ⟨A9, c9, rfl, _⟩ := HO9.out.byt.len
  go_wp2_with fail
  refine (sequence_any _ [[2, 1, 5], [161, 3, 27, 1, 97], []] _ (bss3 rfl b6.out b8.out HO9.out.byt) (le_lim (by simp)) (by simp)).mono ?_
  rintro e w10 ⟨v10, rfl, hown, hb⟩
  rw [show elem 48 [[2, 1, 5], [161, 3, 27, 1, 97], []].flatten = [48, 8, 2, 1, 5, 161, 3, 27, 1, 97] from by decide] at hown
  have HB10 := Lib.hid ((HB9.out.trans ((below1 _).mono HB9.out.size)).trans (hb.mono (by have := HB9.out.size; simp; omega)))
  have HO10 := Lib.hid hown
  clear hb hown b6 b8
  have c10 := strOf HO10.out.byt
  go_wp2_with fail
  clear c10
  refine (new_any _ [2, 2, 0, 5] _ (byt_lit [2, 2, 0, 5] rfl rfl rfl (le_lim (by simp))) (le_lim (by simp))).mono ?_
  rintro e w11 ⟨g11, A11, c11, rfl, hr, hgs, hown, hb⟩
  have HB11 := Lib.hid ((HB10.out.trans ((below1 _).mono HB10.out.size)).trans (hb.mono (by have := HB10.out.size; simp; omega)))
  have HR11 := Lib.hid hr
  clear hr hgs hown hb
  go_wp2_with fail
  refine (rd_Integer_any _ _ _ _ _ _ HR11.out).mono ?_
  intro e w12 hP
  rw [show intP (([2, 2, 0, 5] : List UInt8).drop 0) = .error 6 from by rfl] at hP
  obtain ⟨rfl, hb⟩ := hP
  have HB12 := Lib.hid (HB11.out.trans (hb.mono HB11.out.size))
  clear hb
  go_wp2_with fail
  refine (new_any _ [2, 129, 1, 5] _ (byt_lit [2, 129, 1, 5] rfl rfl rfl (le_lim (by simp))) (le_lim (by simp))).mono ?_
  rintro e w13 ⟨g13, A13, c13, rfl, hr, hgs, hown, hb⟩
  have HB13 := Lib.hid ((HB12.out.trans ((below1 _).mono HB12.out.size)).trans (hb.mono (by have := HB12.out.size; simp; omega)))
  have HR13 := Lib.hid hr
  clear hr hgs hown hb
  go_wp2_with fail
  refine (rd_Integer_any _ _ _ _ _ _ HR13.out).mono ?_
  intro e w14 hP
  rw [show intP (([2, 129, 1, 5] : List UInt8).drop 0) = .error 6 from by rfl] at hP
  obtain ⟨rfl, hb⟩ := hP
  have HB14 := Lib.hid (HB13.out.trans (hb.mono HB13.out.size))
  clear hb
  go_wp2_with fail
  refine (new_any _ [2, 2, 5] _ (byt_lit [2, 2, 5] rfl rfl rfl (le_lim (by simp))) (le_lim (by simp))).mono ?_
  rintro e w15 ⟨g15, A15, c15, rfl, hr, hgs, hown, hb⟩
  have HB15 := Lib.hid ((HB14.out.trans ((below1 _).mono HB14.out.size)).trans (hb.mono (by have := HB14.out.size; simp; omega)))
  have HR15 := Lib.hid hr
  clear hr hgs hown hb
  go_wp2_with fail
  refine (rd_Integer_any _ _ _ _ _ _ HR15.out).mono ?_
  intro e w16 hP
  rw [show intP (([2, 2, 5] : List UInt8).drop 0) = .error 4 from by rfl] at hP
  obtain ⟨rfl, hb⟩ := hP
  have HB16 := Lib.hid (HB15.out.trans (hb.mono HB15.out.size))
  clear hb
  go_wp2_with fail
  refine (new_any _ [4, 1, 5] _ (byt_lit [4, 1, 5] rfl rfl rfl (le_lim (by simp))) (le_lim (by simp))).mono ?_
  rintro e w17 ⟨g17, A17, c17, rfl, hr, hgs, hown, hb⟩
  have HB17 := Lib.hid ((HB16.out.trans ((below1 _).mono HB16.out.size)).trans (hb.mono (by have := HB16.out.size; simp; omega)))
  have HR17 := Lib.hid hr
  clear hr hgs hown hb
  go_wp2_with fail
  refine (rd_Integer_any _ _ _ _ _ _ HR17.out).mono ?_
  intro e w18 hP
  rw [show intP (([4, 1, 5] : List UInt8).drop 0) = .error 6 from by rfl] at hP
  obtain ⟨rfl, hb⟩ := hP
  have HB18 := Lib.hid (HB17.out.trans (hb.mono HB17.out.size))
  clear hb
  go_wp2_with fail
  go_ret
  exact ⟨rfl, HB18.out⟩

end Go.Proofs.Yteepfeggkocakaa
