/- Walks: what a reader tells of itself. -/
import Derived.Test.YteepfeggkocakaaDerK
set_option linter.unusedVariables false
set_option linter.unusedSimpArgs false
set_option maxRecDepth 20000
namespace Go.Proofs.Yteepfeggkocakaa
open Go.RowKit Der

theorem RdrAt.drewN {w : World} {g : Nat} {A : Option Addr} {c k : Nat} {xs : List UInt8} (h : RdrAt w g A c xs k) (n : Nat) : RdrAt (w.drewN n) g A c xs k := h
theorem below_drewN (w : World) (n : Nat) : Below w.heap.size w (w.drewN n) := ⟨rfl, rfl, rfl, Nat.le_refl _, fun _ _ => rfl⟩

set_option maxHeartbeats 800000 in
theorem rd_left_any (g : Nat) (A : Option Addr) (c : Nat) (xs : List UInt8) (k : Nat) (w : World) (h : RdrAt w g A c xs k) :
    Calls Try.prog 50 #[.pointer (some ⟨g, 0, none⟩)] w fun e w' => e = .returned (.int .i64 ((xs.length : Int) - (k : Int))) ∧ ∃ m, w' = w.drewN m := by
  have H := Lib.hid h
  have hl := lim_le h.2.2.2.1
  have hk := h.2.2.1
  clear h
  go_enter Try.func50, Try.ntmps50
  go_wp2_with fail
  refine (none_ok g A c xs k _ H.out).mono ?_
  rintro e w1 ⟨rfl, rfl⟩
  go_wp2_with fail
  refine (left_any g 0 A xs.length c k w H.out.cell0 H.out.cell1 (by omega) (by omega) (by omega)).mono ?_
  rintro e w1 ⟨rfl, m, rfl⟩
  go_wp2_with fail
  go_ret
  exact ⟨rfl, m, rfl⟩

set_option maxHeartbeats 800000 in
theorem rd_end_any (g : Nat) (A : Option Addr) (c : Nat) (xs : List UInt8) (k : Nat) (w : World) (h : RdrAt w g A c xs k) :
    Calls Try.prog 31 #[.pointer (some ⟨g, 0, none⟩)] w fun e w' => e = .returned (.int .i64 (if k < xs.length then 5 else 0)) ∧ ∃ m, w' = w.drewN m := by
  have H := Lib.hid h
  have hl := lim_le h.2.2.2.1
  have hk := h.2.2.1
  clear h
  by_cases hlt : k < xs.length
  · have hd : decide ((0 : Int) < (xs.length : Int) - (k : Int)) = true := by simp; omega
    go_enter Try.func31, Try.ntmps31
    go_wp2_with fail
    refine (none_ok g A c xs k _ H.out).mono ?_
    rintro e w1 ⟨rfl, rfl⟩
    go_wp2_with fail
    refine (left_any g 0 A xs.length c k w H.out.cell0 H.out.cell1 (by omega) (by omega) (by omega)).mono ?_
    rintro e w1 ⟨rfl, m, rfl⟩
    go_wp2_with fail
    go_ret
    exact ⟨rfl, m, rfl⟩
  · have hd : decide ((0 : Int) < (xs.length : Int) - (k : Int)) = false := by simp; omega
    go_enter Try.func31, Try.ntmps31
    go_wp2_with fail
    refine (none_ok g A c xs k _ H.out).mono ?_
    rintro e w1 ⟨rfl, rfl⟩
    go_wp2_with fail
    refine (left_any g 0 A xs.length c k w H.out.cell0 H.out.cell1 (by omega) (by omega) (by omega)).mono ?_
    rintro e w1 ⟨rfl, m, rfl⟩
    go_wp2_with fail
    go_ret
    exact ⟨rfl, m, rfl⟩

end Go.Proofs.Yteepfeggkocakaa
