/- Walks: the methods of no reader (printed by gennone.py). -/
import Derived.Test.YteepfeggkocakaaDerM
set_option linter.unusedVariables false
set_option linter.unusedSimpArgs false
set_option maxRecDepth 20000
namespace Go.Proofs.Yteepfeggkocakaa
open Go.RowKit Der

/-- No reader: nil, or the zero value. -/
def NoRdr (w : World) (r : Value) : Prop := r = .pointer none ∨ ∃ g, r = .pointer (some ⟨g, 0, none⟩) ∧ w.heap[g]? = some (.cells #[.slice none 0 0, .int .i64 0, .bool false] 62 (0, 0))
theorem NoRdr.below {w w' : World} {r : Value} (h : NoRdr w r) (hb : Below w.heap.size w w') : NoRdr w' r := by
  rcases h with h | ⟨g, h, hg⟩
  · exact .inl h
  · exact .inr ⟨g, h, by rw [hb.block g (Array.getElem?_eq_some_iff.1 hg).1]; exact hg⟩

/-- A result of three cells, stored; then another variable. -/
theorem key_row {w1 : World} {B : Nat} {T : TypeId} {x0 x1 x2 : Value} (h : w1.heap[B]? = some (.cells #[x0, x1, x2] T (0, 0))) (a b c : Value) (o : Obj) :
    ((((w1.setCell ⟨B, 0, none⟩ a).setCell ⟨B, 1, none⟩ b).setCell ⟨B, 2, none⟩ c).alloc o).heap[B]? = some (.cells #[a, b, c] T (0, 0)) := by
  have hlt : B < w1.heap.size := (Array.getElem?_eq_some_iff.1 h).1
  have h0 := heap_setCell_same w1 B 0 _ _ a h
  have h1 := heap_setCell_same _ B 1 _ _ b h0
  have h2 := heap_setCell_same _ B 2 _ _ c h1
  rw [Below.heap_alloc _ _ _ (by simpa using hlt), h2]
  rfl
theorem key_below {w w1 : World} (h : Below w.heap.size w w1) (a b c : Value) (o : Obj) : Below w.heap.size w ((((w1.setCell ⟨w.heap.size, 0, none⟩ a).setCell ⟨w.heap.size, 1, none⟩ b).setCell ⟨w.heap.size, 2, none⟩ c).alloc o) :=
  (((h.setCell (Nat.le_refl _) _).setCell (Nat.le_refl _) _).setCell (Nat.le_refl _) _).alloc (by simpa using h.size) _

set_option maxHeartbeats 800000 in
theorem none_true (r : Value) (w : World) (h : NoRdr w r) : Calls Try.prog 61 #[r] w fun e w' => e = .returned (.bool true) ∧ w = w' := by
  rcases h with rfl | ⟨g, rfl, hg⟩
  · go_enter Try.func61, Try.ntmps61
    go_wp2
    go_ret
    exact ⟨rfl, rfl⟩
  · have h2 := cell_is w g 2 _ _ (.bool false) hg rfl
    clear hg
    go_enter Try.func61, Try.ntmps61
    go_wp2
    go_ret
    exact ⟨rfl, rfl⟩

set_option maxHeartbeats 1600000 in
theorem read_parts_nil (r : Value) (fv : Value) (w : World) (hN : ∀ W, Below w.heap.size w W → Calls Try.prog 61 #[r] W fun e w' => e = .returned (.bool true) ∧ W = w') :
    Calls Try.prog 82 #[r, fv] w (RdErr (.agg #[.int .i64 0, .int .i64 0, .slice none 0 0]) 1 w) := by
  have hb2 := (below1 (w := w) (.cells #[.int .i64 0, .int .i64 0, .slice none 0 0] 108)).alloc (by simp) (.cells #[.int .i64 0] 37)
  have HB2 := Lib.hid hb2
  have HN := Lib.hid hN
  clear hN hb2
  go_enter_defers Try.func82, Try.ntmps82
  go_wp2_with fail
  refine (HN.out _ HB2.out).mono ?_
  rintro e w1 ⟨rfl, rfl⟩
  go_wp2_with fail
  have hr9 : ((w.alloc (.cells #[.int .i64 0, .int .i64 0, .slice none 0 0] 108)).alloc (.cells #[.int .i64 1] 37)).heap[w.heap.size]? = some (.cells #[.int .i64 0, .int .i64 0, .slice none 0 0] 108 (0, 0)) := by
    rw [Below.heap_alloc _ _ _ (by simp)]
    exact heap_alloc_new w _
  have ho0 := cell_is _ _ 0 _ _ (.int .i64 0) hr9 rfl
  have ho1 := cell_is _ _ 1 _ _ (.int .i64 0) hr9 rfl
  have ho2 := cell_is _ _ 2 _ _ (.slice none 0 0) hr9 rfl
  have he9 : ((w.alloc (.cells #[.int .i64 0, .int .i64 0, .slice none 0 0] 108)).alloc (.cells #[.int .i64 1] 37)).cell? ⟨w.heap.size + 1, 0, none⟩ = some (.int .i64 1) := by
    refine cell_is _ _ 0 #[.int .i64 1] 37 _ ?_ rfl
    have := heap_alloc_new (w.alloc (.cells #[.int .i64 0, .int .i64 0, .slice none 0 0] 108)) (.cells #[.int .i64 1] 37)
    simpa using this
  have hb9 : Below w.heap.size w ((w.alloc (.cells #[.int .i64 0, .int .i64 0, .slice none 0 0] 108)).alloc (.cells #[.int .i64 1] 37)) := (below1 (w := w) (.cells #[.int .i64 0, .int .i64 0, .slice none 0 0] 108)).alloc (by simp) (.cells #[.int .i64 1] 37)
  clear hr9
  generalize (w.alloc (.cells #[.int .i64 0, .int .i64 0, .slice none 0 0] 108)).alloc (.cells #[.int .i64 1] 37) = w9 at ho0 ho1 ho2 he9 hb9 ⊢
  simp [bodyPostD, Leaves, settle, results, Try.results82, go_sem, ho0, ho1, ho2, he9]
  exact ⟨rfl, hb9⟩

set_option maxHeartbeats 800000 in
theorem nil_Bool (r : Value) (w : World) (h : NoRdr w r) : Calls Try.prog 39 #[r] w (RdErr (.bool false) 1 w) := by
  have H := Lib.hid h
  clear h
  have hmf : ∀ (fn : Fn) (first cap : Array Value) (w : World), (Instr.makeFunc fn first cap).run Try.prog w = .ok (.func fn first cap) w := fun _ _ _ _ => rfl
  go_enter Try.func39, Try.ntmps39
  go_wp2_with fail
  refine (read_bool_nil r _ _ (fun W hb => none_true r W (H.out.below hb))).mono ?_
  rintro e w1 ⟨rfl, hb⟩
  go_wp2_with fail
  refine bodyPost_ret (results_tmp2 rfl _ _ _) rfl ?_
  exact ⟨rfl, hb⟩

set_option maxHeartbeats 800000 in
theorem nil_Integer (r : Value) (w : World) (h : NoRdr w r) : Calls Try.prog 40 #[r] w (RdErr (.int .i64 0) 1 w) := by
  have H := Lib.hid h
  clear h
  have hmf : ∀ (fn : Fn) (first cap : Array Value) (w : World), (Instr.makeFunc fn first cap).run Try.prog w = .ok (.func fn first cap) w := fun _ _ _ _ => rfl
  go_enter Try.func40, Try.ntmps40
  go_wp2_with fail
  refine (read_int_nil r _ _ (fun W hb => none_true r W (H.out.below hb))).mono ?_
  rintro e w1 ⟨rfl, hb⟩
  go_wp2_with fail
  refine bodyPost_ret (results_tmp2 rfl _ _ _) rfl ?_
  exact ⟨rfl, hb⟩

set_option maxHeartbeats 800000 in
theorem nil_Bits (r : Value) (w : World) (h : NoRdr w r) : Calls Try.prog 41 #[r] w (RdErr (.int .u32 0) 1 w) := by
  have H := Lib.hid h
  clear h
  have hmf : ∀ (fn : Fn) (first cap : Array Value) (w : World), (Instr.makeFunc fn first cap).run Try.prog w = .ok (.func fn first cap) w := fun _ _ _ _ => rfl
  go_enter Try.func41, Try.ntmps41
  go_wp2_with fail
  refine (read_u32_nil r _ _ (fun W hb => none_true r W (H.out.below hb))).mono ?_
  rintro e w1 ⟨rfl, hb⟩
  go_wp2_with fail
  refine bodyPost_ret (results_tmp2 rfl _ _ _) rfl ?_
  exact ⟨rfl, hb⟩

set_option maxHeartbeats 800000 in
theorem nil_Octets (r : Value) (w : World) (h : NoRdr w r) : Calls Try.prog 30 #[r] w (RdErr (.slice none 0 0) 1 w) := by
  have H := Lib.hid h
  clear h
  have hmf : ∀ (fn : Fn) (first cap : Array Value) (w : World), (Instr.makeFunc fn first cap).run Try.prog w = .ok (.func fn first cap) w := fun _ _ _ _ => rfl
  go_enter Try.func30, Try.ntmps30
  go_wp2_with fail
  refine (read_byt_nil r _ _ (fun W hb => none_true r W (H.out.below hb))).mono ?_
  rintro e w1 ⟨rfl, hb⟩
  go_wp2_with fail
  refine bodyPost_ret (results_tmp2 rfl _ _ _) rfl ?_
  exact ⟨rfl, hb⟩

set_option maxHeartbeats 800000 in
theorem nil_Time (r : Value) (w : World) (h : NoRdr w r) : Calls Try.prog 42 #[r] w (RdErr (.int .i64 0) 1 w) := by
  have H := Lib.hid h
  clear h
  have hmf : ∀ (fn : Fn) (first cap : Array Value) (w : World), (Instr.makeFunc fn first cap).run Try.prog w = .ok (.func fn first cap) w := fun _ _ _ _ => rfl
  go_enter Try.func42, Try.ntmps42
  go_wp2_with fail
  refine (read_int_nil r _ _ (fun W hb => none_true r W (H.out.below hb))).mono ?_
  rintro e w1 ⟨rfl, hb⟩
  go_wp2_with fail
  refine bodyPost_ret (results_tmp2 rfl _ _ _) rfl ?_
  exact ⟨rfl, hb⟩

set_option maxHeartbeats 800000 in
theorem nil_String (r : Value) (w : World) (h : NoRdr w r) : Calls Try.prog 43 #[r] w (RdErr (.string ⟨#[]⟩) 1 w) := by
  have H := Lib.hid h
  clear h
  have hmf : ∀ (fn : Fn) (first cap : Array Value) (w : World), (Instr.makeFunc fn first cap).run Try.prog w = .ok (.func fn first cap) w := fun _ _ _ _ => rfl
  go_enter Try.func43, Try.ntmps43
  go_wp2_with fail
  refine (read_str_nil r _ _ (fun W hb => none_true r W (H.out.below hb))).mono ?_
  rintro e w1 ⟨rfl, hb⟩
  go_wp2_with fail
  refine bodyPost_ret (results_tmp2 rfl _ _ _) rfl ?_
  exact ⟨rfl, hb⟩

set_option maxHeartbeats 800000 in
theorem nil_inner (r : Value) (tag : Int) (w : World) (h : NoRdr w r) : Calls Try.prog 80 #[r, .int .i64 tag] w (RdErr (.pointer none) 1 w) := by
  have H := Lib.hid h
  clear h
  have hmf : ∀ (fn : Fn) (first cap : Array Value) (w : World), (Instr.makeFunc fn first cap).run Try.prog w = .ok (.func fn first cap) w := fun _ _ _ _ => rfl
  go_enter Try.func80, Try.ntmps80
  go_wp2_with fail
  refine (read_rdr_nil r _ (w.alloc (.cells #[.int .i64 tag] 3)) (fun W hb => none_true r W ((H.out.below (below1 _)).below hb))).mono ?_
  rintro e w1 ⟨rfl, hb⟩
  have HB := Lib.hid hb
  clear hb
  go_wp2_with fail
  refine bodyPost_ret (results_tmp2 rfl _ _ _) rfl ?_
  exact ⟨rfl, (below1 _).trans (HB.out.mono (by simp))⟩

set_option maxHeartbeats 800000 in
theorem nil_Sequence (r : Value) (w : World) (h : NoRdr w r) : Calls Try.prog 44 #[r] w (RdErr (.pointer none) 1 w) := by
  have H := Lib.hid h
  clear h
  have hmf : ∀ (fn : Fn) (first cap : Array Value) (w : World), (Instr.makeFunc fn first cap).run Try.prog w = .ok (.func fn first cap) w := fun _ _ _ _ => rfl
  go_enter Try.func44, Try.ntmps44
  go_wp2_with fail
  refine (nil_inner r 48 w H.out).mono ?_
  rintro e w1 ⟨rfl, hb⟩
  have HB := Lib.hid hb
  clear hb
  go_wp2_with fail
  refine bodyPost_ret (results_tmp2 rfl _ _ _) rfl ?_
  exact ⟨rfl, HB.out⟩

set_option maxHeartbeats 800000 in
theorem nil_numbered (r : Value) (tag n : Int) (w : World) (h : NoRdr w r) : Calls Try.prog 81 #[r, .int .i64 tag, .int .i64 n] w (RdErr (.pointer none) 1 w) := by
  have H := Lib.hid h
  clear h
  go_enter Try.func81, Try.ntmps81
  go_wp2_with fail
  refine (none_true r w H.out).mono ?_
  rintro e w1 ⟨rfl, rfl⟩
  go_wp2_with fail
  refine (nil_inner r _ w H.out).mono ?_
  rintro e w1 ⟨rfl, hb⟩
  have HB := Lib.hid hb
  clear hb
  go_wp2_with fail
  refine bodyPost_ret (results_tmp2 rfl _ _ _) rfl ?_
  exact ⟨rfl, HB.out⟩

set_option maxHeartbeats 800000 in
theorem nil_Application (r : Value) (n : Int) (w : World) (h : NoRdr w r) : Calls Try.prog 45 #[r, .int .i64 n] w (RdErr (.pointer none) 1 w) := by
  have H := Lib.hid h
  clear h
  have hmf : ∀ (fn : Fn) (first cap : Array Value) (w : World), (Instr.makeFunc fn first cap).run Try.prog w = .ok (.func fn first cap) w := fun _ _ _ _ => rfl
  go_enter Try.func45, Try.ntmps45
  go_wp2_with fail
  refine (nil_numbered r 96 n w H.out).mono ?_
  rintro e w1 ⟨rfl, hb⟩
  have HB := Lib.hid hb
  clear hb
  go_wp2_with fail
  refine bodyPost_ret (results_tmp2 rfl _ _ _) rfl ?_
  exact ⟨rfl, HB.out⟩

set_option maxHeartbeats 800000 in
theorem nil_Data (r : Value) (w : World) (h : NoRdr w r) : Calls Try.prog 49 #[r] w (RdErr (.slice none 0 0) 1 w) := by
  have H := Lib.hid h
  clear h
  have hmf : ∀ (fn : Fn) (first cap : Array Value) (w : World), (Instr.makeFunc fn first cap).run Try.prog w = .ok (.func fn first cap) w := fun _ _ _ _ => rfl
  go_enter Try.func49, Try.ntmps49
  go_wp2_with fail
  refine (read_dat_nil r _ w (fun W hb => none_true r W (H.out.below hb))).mono ?_
  rintro e w1 ⟨rfl, hb⟩
  have HB := Lib.hid hb
  clear hb
  go_wp2_with fail
  refine bodyPost_ret (results_tmp2 rfl _ _ _) rfl ?_
  exact ⟨rfl, HB.out⟩

set_option maxHeartbeats 800000 in
theorem nil_Left (r : Value) (w : World) (h : NoRdr w r) : Calls Try.prog 50 #[r] w fun e w' => e = .returned (.int .i64 0) ∧ w = w' := by
  have H := Lib.hid h
  clear h
  go_enter Try.func50, Try.ntmps50
  go_wp2_with fail
  refine (none_true r w H.out).mono ?_
  rintro e w1 ⟨rfl, rfl⟩
  go_wp2_with fail
  go_ret
  exact ⟨rfl, rfl⟩
set_option maxHeartbeats 800000 in
theorem nil_End (r : Value) (w : World) (h : NoRdr w r) : Calls Try.prog 31 #[r] w fun e w' => e = .returned (.int .i64 1) ∧ w = w' := by
  have H := Lib.hid h
  clear h
  go_enter Try.func31, Try.ntmps31
  go_wp2_with fail
  refine (none_true r w H.out).mono ?_
  rintro e w1 ⟨rfl, rfl⟩
  go_wp2_with fail
  go_ret
  exact ⟨rfl, rfl⟩
set_option maxHeartbeats 800000 in
theorem nil_Copy (r : Value) (w : World) (h : NoRdr w r) : Calls Try.prog 51 #[r] w fun e w' => e = .returned (.pointer none) ∧ w = w' := by
  have H := Lib.hid h
  clear h
  go_enter Try.func51, Try.ntmps51
  go_wp2_with fail
  refine (none_true r w H.out).mono ?_
  rintro e w1 ⟨rfl, rfl⟩
  go_wp2_with fail
  go_ret
  exact ⟨rfl, rfl⟩

set_option maxHeartbeats 1600000 in
theorem nil_Key (r : Value) (w : World) (h : NoRdr w r) : Calls Try.prog 47 #[r] w (RdErr (.agg #[.int .i64 0, .int .i64 0, .slice none 0 0]) 1 w) := by
  have H := Lib.hid h
  clear h
  go_enter Try.func47, Try.ntmps47
  go_wp2_with fail
  refine (read_parts_nil r _ (w.alloc (.cells #[.int .i64 0, .int .i64 0, .slice none 0 0] 49)) (fun W hb => none_true r W ((H.out.below (below1 _)).below hb))).mono ?_
  rintro e w1 ⟨rfl, hb⟩
  have hrow : w1.heap[w.heap.size]? = some (.cells #[.int .i64 0, .int .i64 0, .slice none 0 0] 49 (0, 0)) := by
    rw [hb.block _ (by simp)]
    exact heap_alloc_new w _
  have HB := Lib.hid hb
  have HR := Lib.hid hrow
  have c0 := cell_is _ _ 0 _ _ (.int .i64 0) hrow rfl
  have c1 := cell_is _ _ 1 _ _ (.int .i64 0) hrow rfl
  have c2 := cell_is _ _ 2 _ _ (.slice none 0 0) hrow rfl
  have f0 := frozen_of_row _ _ 0 _ _ hrow
  have f1 := frozen_of_row _ _ 1 _ _ hrow
  have f2 := frozen_of_row _ _ 2 _ _ hrow
  have hlt : w.heap.size < w1.heap.size := (Array.getElem?_eq_some_iff.1 hrow).1
  clear hb hrow
  go_wp2_with fail
  have hrow9 := key_row HR.out (.int .i64 0) (.int .i64 0) (.slice none 0 0) (.cells #[.int .i64 0, .int .i64 0, .slice none 0 0] 108)
  have hb9 : Below w.heap.size w ((((w1.setCell ⟨w.heap.size, 0, none⟩ (.int .i64 0)).setCell ⟨w.heap.size, 1, none⟩ (.int .i64 0)).setCell ⟨w.heap.size, 2, none⟩ (.slice none 0 0)).alloc (.cells #[.int .i64 0, .int .i64 0, .slice none 0 0] 108)) :=
    key_below ((below1 _).trans (HB.out.mono (by simp))) _ _ _ _
  generalize ((((w1.setCell ⟨w.heap.size, 0, none⟩ (.int .i64 0)).setCell ⟨w.heap.size, 1, none⟩ (.int .i64 0)).setCell ⟨w.heap.size, 2, none⟩ (.slice none 0 0)).alloc (.cells #[.int .i64 0, .int .i64 0, .slice none 0 0] 108)) = w9 at hrow9 hb9 ⊢
  have g0 := cell_is _ _ 0 _ _ (.int .i64 0) hrow9 rfl
  have g1 := cell_is _ _ 1 _ _ (.int .i64 0) hrow9 rfl
  have g2 := cell_is _ _ 2 _ _ (.slice none 0 0) hrow9 rfl
  refine bodyPost_ret (v := .tuple #[.agg #[.int .i64 0, .int .i64 0, .slice none 0 0], .int .i64 1]) (by simp [results, Try.results47, go_sem, g0, g1, g2]) rfl ?_
  exact ⟨rfl, hb9⟩

set_option maxHeartbeats 1600000 in
theorem nil_Sealed (r : Value) (w : World) (h : NoRdr w r) : Calls Try.prog 48 #[r] w (RdErr (.agg #[.int .i64 0, .int .i64 0, .slice none 0 0]) 1 w) := by
  have H := Lib.hid h
  clear h
  go_enter Try.func48, Try.ntmps48
  go_wp2_with fail
  refine (read_parts_nil r _ (w.alloc (.cells #[.int .i64 0, .int .i64 0, .slice none 0 0] 50)) (fun W hb => none_true r W ((H.out.below (below1 _)).below hb))).mono ?_
  rintro e w1 ⟨rfl, hb⟩
  have hrow : w1.heap[w.heap.size]? = some (.cells #[.int .i64 0, .int .i64 0, .slice none 0 0] 50 (0, 0)) := by
    rw [hb.block _ (by simp)]
    exact heap_alloc_new w _
  have HB := Lib.hid hb
  have HR := Lib.hid hrow
  have c0 := cell_is _ _ 0 _ _ (.int .i64 0) hrow rfl
  have c1 := cell_is _ _ 1 _ _ (.int .i64 0) hrow rfl
  have c2 := cell_is _ _ 2 _ _ (.slice none 0 0) hrow rfl
  have f0 := frozen_of_row _ _ 0 _ _ hrow
  have f1 := frozen_of_row _ _ 1 _ _ hrow
  have f2 := frozen_of_row _ _ 2 _ _ hrow
  have hlt : w.heap.size < w1.heap.size := (Array.getElem?_eq_some_iff.1 hrow).1
  clear hb hrow
  go_wp2_with fail
  have hrow9 := key_row HR.out (.int .i64 0) (.int .i64 0) (.slice none 0 0) (.cells #[.int .i64 0, .int .i64 0, .slice none 0 0] 108)
  have hb9 : Below w.heap.size w ((((w1.setCell ⟨w.heap.size, 0, none⟩ (.int .i64 0)).setCell ⟨w.heap.size, 1, none⟩ (.int .i64 0)).setCell ⟨w.heap.size, 2, none⟩ (.slice none 0 0)).alloc (.cells #[.int .i64 0, .int .i64 0, .slice none 0 0] 108)) :=
    key_below ((below1 _).trans (HB.out.mono (by simp))) _ _ _ _
  generalize ((((w1.setCell ⟨w.heap.size, 0, none⟩ (.int .i64 0)).setCell ⟨w.heap.size, 1, none⟩ (.int .i64 0)).setCell ⟨w.heap.size, 2, none⟩ (.slice none 0 0)).alloc (.cells #[.int .i64 0, .int .i64 0, .slice none 0 0] 108)) = w9 at hrow9 hb9 ⊢
  have g0 := cell_is _ _ 0 _ _ (.int .i64 0) hrow9 rfl
  have g1 := cell_is _ _ 1 _ _ (.int .i64 0) hrow9 rfl
  have g2 := cell_is _ _ 2 _ _ (.slice none 0 0) hrow9 rfl
  refine bodyPost_ret (v := .tuple #[.agg #[.int .i64 0, .int .i64 0, .slice none 0 0], .int .i64 1]) (by simp [results, Try.results48, go_sem, g0, g1, g2]) rfl ?_
  exact ⟨rfl, hb9⟩


end Go.Proofs.Yteepfeggkocakaa
