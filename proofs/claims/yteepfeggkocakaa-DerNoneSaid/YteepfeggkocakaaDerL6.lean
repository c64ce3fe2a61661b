/- Walk: the law DerNone (printed by gennonelaw.py). -/
import Derived.Test.YteepfeggkocakaaDerT
set_option linter.unusedVariables false
set_option linter.unusedSimpArgs false
set_option maxRecDepth 20000
namespace Go.Proofs.Yteepfeggkocakaa
open Go.RowKit Der

set_option maxHeartbeats 6400000 in
theorem none_law_any (n : Int) (w : World) (hn : -9223372036854775808 ≤ n ∧ n ≤ 9223372036854775807) :
    Calls Try.prog 8 #[.int .i64 n] w fun e w' => e = .returned (.bool true) ∧ Below w.heap.size w w' := by
  have HN := Lib.hid hn
  clear hn
  go_enter Try.func8, Try.ntmps8
  go_wp2_with fail
  have hB : Hid (Below w.heap.size w ((w.alloc (.cells #[.slice none 0 0, .int .i64 0, .bool false] 62)).alloc (.cells #[.pointer none, .pointer (some ⟨w.heap.size, 0, none⟩)] 35))) := Lib.hid ((below1 _).alloc (by simp) _)
  have hL : Hid (((w.alloc (.cells #[.slice none 0 0, .int .i64 0, .bool false] 62)).alloc (.cells #[.pointer none, .pointer (some ⟨w.heap.size, 0, none⟩)] 35)).heap[w.heap.size + 1]? = some (.cells #[.pointer none, .pointer (some ⟨w.heap.size, 0, none⟩)] 35 (0, 0))) := Lib.hid (by
    have := heap_alloc_new (w.alloc (.cells #[.slice none 0 0, .int .i64 0, .bool false] 62)) (.cells #[.pointer none, .pointer (some ⟨w.heap.size, 0, none⟩)] 35)
    simpa using this)
  have hZ : Hid (((w.alloc (.cells #[.slice none 0 0, .int .i64 0, .bool false] 62)).alloc (.cells #[.pointer none, .pointer (some ⟨w.heap.size, 0, none⟩)] 35)).heap[w.heap.size]? = some (.cells #[.slice none 0 0, .int .i64 0, .bool false] 62 (0, 0))) := Lib.hid (by
    rw [Below.heap_alloc _ _ _ (by simp)]
    exact heap_alloc_new w _)
  generalize ((w.alloc (.cells #[.slice none 0 0, .int .i64 0, .bool false] 62)).alloc (.cells #[.pointer none, .pointer (some ⟨w.heap.size, 0, none⟩)] 35)) = w1 at hB hL hZ ⊢
  have HE : Hid (∀ k : Nat, k < 2 → ∃ r, w1.cell? ⟨w.heap.size + 1, k, none⟩ = some r ∧ NoRdr w1 r) := Lib.hid (fun k hk => by
    match k, hk with
    | 0, _ => exact ⟨_, cell_is _ _ 0 _ _ _ hL.out rfl, .inl rfl⟩
    | 1, _ => exact ⟨_, cell_is _ _ 1 _ _ _ hL.out rfl, .inr ⟨_, rfl, hZ.out⟩⟩)
  have HLT : Hid (w.heap.size + 1 < w1.heap.size) := Lib.hid (Array.getElem?_eq_some_iff.1 hL.out).1
  clear hL hZ
  go_loopw [5, 6, 7, 8, 9, 10, 11, 12, 13, 14, 15, 16, 17, 18, 19, 20, 21, 22, 23, 24, 25, 26, 27, 28, 29, 30, 36] (fun _ _ _ _ _ _ _ _ _ _ _ _ _ _ _ _ _ _ _ _ _ _ _ _ _ _ i wr => ∃ k : Nat, k ≤ 2 ∧ i = .int .i64 k ∧ Below w1.heap.size w1 wr) (fun _ _ _ _ _ _ _ _ _ _ _ _ _ _ _ _ _ _ _ _ _ _ _ _ _ _ i _ => 2 - (intOf i).toNat)
  case atStart => exact ⟨0, by omega, rfl, Below.refl _ _⟩
  case round =>
    obtain ⟨k, hk, rfl, hb⟩ := hrel
    have HB0 := Lib.hid hb
    clear hb
    by_cases hlt : k < 2
    · obtain ⟨r, hc1, hr1⟩ := HE.out k hlt
      have hc : wr.cell? ⟨w.heap.size + 1, k, none⟩ = some r := (HB0.out.cell (p := ⟨w.heap.size + 1, k, none⟩) HLT.out).trans hc1
      have HR0 := Lib.hid (hr1.below HB0.out)
      clear hc1 hr1
      have hlti : (k : Int) < 2 := by omega
      go_wp2_with fail
      refine (nil_Bool r _ HR0.out).mono ?_
      rintro e y1 ⟨rfl, hb⟩
      have HB1 := Lib.hid (HB0.out.trans (hb.mono HB0.out.size))
      have HR1 := Lib.hid (HR0.out.below hb)
      clear hb HR0
      go_wp2_with fail
      refine (nil_Integer r _ HR1.out).mono ?_
      rintro e y2 ⟨rfl, hb⟩
      have HB2 := Lib.hid (HB1.out.trans (hb.mono HB1.out.size))
      have HR2 := Lib.hid (HR1.out.below hb)
      clear hb HR1
      go_wp2_with fail
      refine (nil_Bits r _ HR2.out).mono ?_
      rintro e y3 ⟨rfl, hb⟩
      have HB3 := Lib.hid (HB2.out.trans (hb.mono HB2.out.size))
      have HR3 := Lib.hid (HR2.out.below hb)
      clear hb HR2
      go_wp2_with fail
      refine (nil_Octets r _ HR3.out).mono ?_
      rintro e y4 ⟨rfl, hb⟩
      have HB4 := Lib.hid (HB3.out.trans (hb.mono HB3.out.size))
      have HR4 := Lib.hid (HR3.out.below hb)
      clear hb HR3
      go_wp2_with fail
      refine (nil_Time r _ HR4.out).mono ?_
      rintro e y5 ⟨rfl, hb⟩
      have HB5 := Lib.hid (HB4.out.trans (hb.mono HB4.out.size))
      have HR5 := Lib.hid (HR4.out.below hb)
      clear hb HR4
      go_wp2_with fail
      refine (nil_String r _ HR5.out).mono ?_
      rintro e y6 ⟨rfl, hb⟩
      have HB6 := Lib.hid (HB5.out.trans (hb.mono HB5.out.size))
      have HR6 := Lib.hid (HR5.out.below hb)
      clear hb HR5
      go_wp2_with fail
      refine (nil_Sequence r _ HR6.out).mono ?_
      rintro e y7 ⟨rfl, hb⟩
      have HB7 := Lib.hid (HB6.out.trans (hb.mono HB6.out.size))
      have HR7 := Lib.hid (HR6.out.below hb)
      clear hb HR6
      go_wp2_with fail
      refine (nil_Application r n _ HR7.out).mono ?_
      rintro e y8 ⟨rfl, hb⟩
      have HB8 := Lib.hid (HB7.out.trans (hb.mono HB7.out.size))
      have HR8 := Lib.hid (HR7.out.below hb)
      clear hb HR7
      go_wp2_with fail
      refine (nil_Tagged r n _ HR8.out).mono ?_
      rintro e y9 ⟨rfl, hb⟩
      have HB9 := Lib.hid (HB8.out.trans (hb.mono HB8.out.size))
      have HR9 := Lib.hid (HR8.out.below hb)
      clear hb HR8
      go_wp2_with fail
      refine (nil_Key r _ HR9.out).mono ?_
      rintro e y10 ⟨rfl, hb⟩
      have HB10 := Lib.hid (HB9.out.trans (hb.mono HB9.out.size))
      have HR10 := Lib.hid (HR9.out.below hb)
      clear hb HR9
      go_wp2_with fail
      refine (nil_Sealed r _ (HR10.out.below (below1 _))).mono ?_
      rintro e y11 ⟨rfl, hb⟩
      have hk25 : Hid (y11.heap[y10.heap.size]? = some (.cells #[.int .i64 0, .int .i64 0, .slice none 0 0] 49 (0, 0))) := Lib.hid (by
        rw [hb.block _ (by simp)]
        exact heap_alloc_new y10 _)
      have HB11 := Lib.hid ((HB10.out.trans ((below1 (w := y10) (.cells #[.int .i64 0, .int .i64 0, .slice none 0 0] 49)).mono HB10.out.size)).trans (hb.mono (by have := HB10.out.size; simp; omega)))
      have HR11 := Lib.hid ((HR10.out.below (below1 (.cells #[.int .i64 0, .int .i64 0, .slice none 0 0] 49))).below hb)
      clear hb HR10
      generalize y10.heap.size = p25 at *
      go_wp2_with fail
      refine (nil_Data r _ (HR11.out.below (below1 _))).mono ?_
      rintro e y12 ⟨rfl, hb⟩
      have hk27 : y12.heap[y11.heap.size]? = some (.cells #[.int .i64 0, .int .i64 0, .slice none 0 0] 50 (0, 0)) := by
        rw [hb.block _ (by simp)]
        exact heap_alloc_new y11 _
      have hk25' : y12.heap[p25]? = some (.cells #[.int .i64 0, .int .i64 0, .slice none 0 0] 49 (0, 0)) := by
        have h1 := (Array.getElem?_eq_some_iff.1 hk25.out).1
        rw [hb.block _ (by simp; omega), (below1 (w := y11) _).block _ h1]
        exact hk25.out
      have HB12 := Lib.hid ((HB11.out.trans ((below1 (w := y11) (.cells #[.int .i64 0, .int .i64 0, .slice none 0 0] 50)).mono HB11.out.size)).trans (hb.mono (by have := HB11.out.size; simp; omega)))
      have HR12 := Lib.hid ((HR11.out.below (below1 (.cells #[.int .i64 0, .int .i64 0, .slice none 0 0] 50))).below hb)
      have g0 := cell_is _ _ 0 _ _ (.int .i64 0) hk25' rfl
      have g2 := cell_is _ _ 2 _ _ (.slice none 0 0) hk25' rfl
      have e0 := cell_is _ _ 0 _ _ (.int .i64 0) hk27 rfl
      have e2 := cell_is _ _ 2 _ _ (.slice none 0 0) hk27 rfl
      clear hb HR11 hk25 hk25' hk27
      generalize y11.heap.size = p27 at *
      go_wp2_with fail
      refine (nil_Left r _ HR12.out).mono ?_
      rintro e y13 ⟨rfl, rfl⟩
      have HR13 := HR12
      have HB13 := HB12
      go_wp2_with fail
      refine (nil_End r _ HR13.out).mono ?_
      rintro e y14 ⟨rfl, rfl⟩
      have HR14 := HR13
      have HB14 := HB13
      go_wp2_with fail
      refine (nil_Copy r _ HR14.out).mono ?_
      rintro e y15 ⟨rfl, rfl⟩
      have HR15 := HR14
      have HB15 := HB14
      go_wp2_with fail
      go_roundw
      case rel => exact ⟨k + 1, by omega, by go_num, HB15.out⟩
      case measure => simp [intOf]; omega
    · obtain rfl : k = 2 := by omega
      go_wp2_with fail
      refine (known_any _).mono ?_
      rintro e y1 ⟨rfl, hb⟩
      have HK := Lib.hid hb
      clear hb
      go_wp2_with fail
      go_ret
      exact ⟨rfl, (hB.out.trans (HB0.out.mono hB.out.size)).trans (HK.out.mono (Nat.le_trans hB.out.size HB0.out.size))⟩

end Go.Proofs.Yteepfeggkocakaa
