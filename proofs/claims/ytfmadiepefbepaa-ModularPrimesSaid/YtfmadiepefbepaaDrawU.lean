/- A region that draws its order, walked along one road, whose TAIL (operations that wait for all others) may change what the others read. No program here. -/
import Derived.Test.YtfmadiepefbepaaDraw
set_option linter.unusedVariables false
namespace Go.Proofs.Ytfmadiepefbepaa
open Go.RowKit

section
variable {P : Program} {ops : Array Oper} {Q : Exit → Act → World → Prop} {R : World → World → Prop}

/-- Whatever order is picked from here on; behind each operation the world is one of those that R allows. -/
def anyU (L : List Nat) (P : Program) (ops : Array Oper) (Q : Exit → Act → World → Prop) (R : World → World → Prop) : Nat → Array Bool → Act → World → Prop
  | 0, listed, a, w => Region.ready .any ops listed = [] ∧ Q .normal a w
  | fuel + 1, listed, a, w =>
    (Region.ready .any ops listed = [] → Q .normal a w) ∧
    ∀ i ∈ Region.ready .any ops listed, wpOp P ops Q i (fun a' w' => (i ∈ L ∨ R w w') ∧ anyU L P ops Q R fuel (listed.setIfInBounds i true) a' w') a w

theorem any_of_anyU {L : List Nat} : ∀ (fuel : Nat) (listed : Array Bool) (a : Act) (w : World), anyU L P ops Q R fuel listed a w → wpAny P .any ops Q fuel listed a w
  | 0, _, _, _, h => h
  | fuel + 1, _, _, _, h => ⟨h.1, fun i hi => wpOp_mono (fun a' w' h' => any_of_anyU fuel _ a' w' h'.2) (h.2 i hi)⟩

/-- What is listed had its binding predecessors listed. -/
def Closed (ops : Array Oper) (listed : Array Bool) : Prop := ∀ j oj, ops[j]? = some oj → listed.getD j true = true → ∀ e ∈ oj.after, Region.binds .any e = true → listed.getD e.on true = true
theorem Closed.step {listed : Array Bool} {j : Nat} (h : Closed ops listed) (hj : j ∈ Region.ready .any ops listed) : Closed ops (listed.setIfInBounds j true) := by
  have key : ∀ k, listed.getD k true = true → (listed.setIfInBounds j true).getD k true = true := fun k hk => by
    by_cases e : j = k
    · subst e
      rcases Nat.lt_or_ge j listed.size with h1 | h1
      · simp [Array.getD, h1]
      · simp [Array.getD, Nat.not_lt.2 h1]
    · rw [getD_set_ne true e]; exact hk
  intro k ok hk hl e he hb
  by_cases ejk : j = k
  · subst ejk
    obtain ⟨_, o, ho, hall⟩ := mem_ready.1 hj
    rw [hk] at ho
    injection ho with ho
    subst ho
    have h1 := hall e he hb
    refine key _ ?_
    rcases Nat.lt_or_ge e.on listed.size with h2 | h2
    · simp [Array.getD, h2] at h1 ⊢; exact h1
    · simp [Array.getD, Nat.not_lt.2 h2]
  · rw [getD_set_ne true ejk] at hl
    exact key _ (h k ok hk hl e he hb)
/-- Does number j wait for number k, by however many steps? -/
def waitsB (ops : Array Oper) : Nat → Nat → Nat → Bool
  | 0, _, _ => false
  | n + 1, j, k => match ops[j]? with
    | none => false
    | some o => o.after.any fun e => Region.binds .any e && (e.on == k || waitsB ops n e.on k)
theorem waitsB_listed {listed : Array Bool} (hc : Closed ops listed) : ∀ (n j k : Nat) (oj : Oper), ops[j]? = some oj → (∀ e ∈ oj.after, Region.binds .any e = true → listed.getD e.on true = true) → waitsB ops n j k = true → listed.getD k true = true
  | 0, _, _, _, _, _, h => by cases h
  | n + 1, j, k, oj, hj, hd, h => by
    unfold waitsB at h
    rw [hj] at h
    obtain ⟨e, he, hb⟩ := any_true h
    simp only [Bool.and_eq_true, Bool.or_eq_true, beq_iff_eq] at hb
    rcases hb.2 with h1 | h1
    · rw [← h1]; exact hd e he hb.1
    · have hl := hd e he hb.1
      cases ho : ops[e.on]? with
      | none =>
        exfalso
        cases n with
        | zero => cases h1
        | succ n =>
          unfold waitsB at h1
          rw [ho] at h1
          cases h1
      | some o2 => exact waitsB_listed hc n e.on k o2 ho (fun e2 he2 hb2 => hc e.on o2 ho hl e2 he2 hb2) h1
/-- Each of the tail waits for all that is not of it. -/
def tailOk (ops : Array Oper) (L : List Nat) : Bool := L.all fun j => (List.range ops.size).all fun k => L.contains k || waitsB ops ops.size j k
theorem tailOk_spec {L : List Nat} (h : tailOk ops L = true) {listed : Array Bool} (hc : Closed ops listed) {i j : Nat} (hi : i < ops.size) (hiL : i ∉ L) (hun : listed.getD i true = false) (hj : j ∈ Region.ready .any ops listed) : j ∉ L := by
  intro hjL
  have h1 := List.all_eq_true.1 (List.all_eq_true.1 h j hjL) i (List.mem_range.2 hi)
  rw [Bool.or_eq_true] at h1
  rcases h1 with h1 | h1
  · exact hiL (by simpa using h1)
  · obtain ⟨_, oj, hoj, hall⟩ := mem_ready.1 hj
    have h2 := waitsB_listed hc ops.size j i oj hoj (fun e he hb => by
      have h3 := hall e he hb
      rcases Nat.lt_or_ge e.on listed.size with h4 | h4
      · simp [Array.getD, h4] at h3 ⊢; exact h3
      · simp [Array.getD, Nat.not_lt.2 h4]) h1
    rw [h2] at hun
    cases hun
theorem anyU_first {L : List Nat} (htl : tailOk ops L = true) (hrefl : ∀ w, R w w) (htrans : ∀ a b c, R a b → R b c → R a c) {i : Nat} {oi : Oper} {v : Value} (hi : ops[i]? = some oi) (hiL : i ∉ L)
    (hsel : ∀ (j : Nat) (o : Oper) cs b, ops[j]? = some o → o.op ≠ .select cs b) (hQ : ∀ c (a : Act) d v w, Q (.panic c) (a.put d v) w → Q (.panic c) a w) :
    ∀ (fuel : Nat) (listed : Array Bool) (a : Act) (w : World), Closed ops listed →
      (∀ j oj, ops[j]? = some oj → j ≠ i → listed.getD j true = false → (∀ e ∈ oj.after, Region.binds .any e = true → e.on ≠ i) → oi.apart ops oj = true) →
      i ∈ Region.ready .any ops listed → YieldsIf P ops (R w) oi v a →
      anyU L P ops Q R fuel (listed.setIfInBounds i true) (a.put oi.dst v) w → anyU L P ops Q R (fuel + 1) listed a w := by
  intro fuel
  induction fuel with
  | zero =>
    intro listed a w _ _ hr hy H
    refine ⟨fun h => (by rw [h] at hr; cases hr), fun j hj => ?_⟩
    by_cases hji : j = i
    · subst hji; exact hy.wpOp hi (hrefl w) ⟨.inr (hrefl w), H⟩
    · have := ready_mono hj hji
      rw [H.1] at this
      cases this
  | succ fuel ih =>
    intro listed a w hc hfree hr hy H
    refine ⟨fun h => (by rw [h] at hr; cases hr), fun j hj => ?_⟩
    by_cases hji : j = i
    · subst hji; exact hy.wpOp hi (hrefl w) ⟨.inr (hrefl w), H⟩
    · have h1 := H.2 j (ready_mono hj hji)
      obtain ⟨hjun, oj, hoj, hall⟩ := mem_ready.1 hj
      have hnot : ∀ e ∈ oj.after, Region.binds .any e = true → e.on ≠ i := fun e he hb heq => by
        have h1 := hall e he hb
        have h0 := (mem_ready.1 hr).1
        rw [heq] at h1
        rcases Nat.lt_or_ge i listed.size with h' | h'
        · simp [h'] at h0 h1; rw [h0] at h1; cases h1
        · simp [Array.getElem?_eq_none h'] at h1
      have h2 := wpOp_putIf hoj (hfree j oj hoj hji hjun hnot) (fun cs b => hsel i oi cs b hi) (fun cs b => hsel j oj cs b hoj) (fun c a w h => hQ c a _ _ w h) hy h1
      have hfree' : ∀ k ok, ops[k]? = some ok → k ≠ i → (listed.setIfInBounds j true).getD k true = false →
          (∀ e ∈ ok.after, Region.binds .any e = true → e.on ≠ i) → oi.apart ops ok = true := fun k ok hk hki hun hno => by
        refine hfree k ok hk hki ?_ hno
        by_cases hjk : j = k
        · subst hjk; exact hjun
        · rw [getD_set_ne true hjk] at hun; exact hun
      have hjL : j ∉ L := tailOk_spec htl hc (Array.getElem?_eq_some_iff.1 hi).1 hiL (mem_ready.1 hr).1 hj
      refine wpOp_mono (fun a' w' h3 => ⟨.inr (h3.2.1.resolve_left hjL), ih (listed.setIfInBounds j true) a' w' (hc.step hj) hfree' (ready_mono hr (Ne.symm hji)) ?_ ?_⟩) h2
      · exact h3.1.imp (fun ⟨q1, q2⟩ => ⟨q1, fun u hu => q2 u (htrans _ _ _ (h3.2.1.resolve_left hjL) hu)⟩) id
      · rw [Array.setIfInBounds_comm _ _ hji]
        exact h3.2.2

/-- The walk along the road. -/
def seqU (L : List Nat) (P : Program) (ops : Array Oper) (Q : Exit → Act → World → Prop) (R : World → World → Prop) : List (Nat × Bool) → Act → World → Prop
  | [], a, w => Q .normal a w
  | (i, true) :: r, a, w => ∃ oi v, ops[i]? = some oi ∧ YieldsIf P ops (R w) oi v a ∧ seqU L P ops Q R r (a.put oi.dst v) w
  | (i, false) :: r, a, w => wpOp P ops Q i (fun a' w' => (i ∈ L ∨ R w w') ∧ seqU L P ops Q R r a' w') a w

theorem anyU_of_seq {L : List Nat} (htl : tailOk ops L = true) (hrefl : ∀ w, R w w) (htrans : ∀ a b c, R a b → R b c → R a c) (hsel : Region.noSelect ops = true) (hQ : ∀ c (a : Act) d v w, Q (.panic c) (a.put d v) w → Q (.panic c) a w) (whole : List (Nat × Bool)) (hap : apartAll ops whole = true) :
    ∀ (road : List (Nat × Bool)) (fuel : Nat) (listed : Array Bool) (a : Act) (w : World), (∀ q ∈ road, q ∈ whole) → (∀ q ∈ road, q.2 = true → q.1 ∉ L) → Closed ops listed → road.length ≤ fuel → Listed ops road listed → roadOk ops road = true → seqU L P ops Q R road a w → anyU L P ops Q R fuel listed a w
  | [], fuel, listed, a, w, _, _, _, _, hL, hok, h => by
    have hr : Region.ready .any ops listed = [] := by
      rw [List.eq_nil_iff_forall_not_mem]
      intro j hj
      obtain ⟨h0, o, ho, _⟩ := mem_ready.1 hj
      obtain ⟨q, hq, _⟩ := (hL.2 j (Array.getElem?_eq_some_iff.1 ho).1).1 h0
      cases hq
    cases fuel with
    | zero => exact ⟨hr, h⟩
    | succ n => exact ⟨fun _ => h, by rw [hr]; simp⟩
  | (i, b) :: r, 0, listed, a, w, _, _, _, hl, _, _, _ => by simp at hl
  | (i, b) :: r, fuel + 1, listed, a, w, hsub, hyt, hc, hl, hL, hok, h => by
    simp only [roadOk, Bool.and_eq_true] at hok
    obtain ⟨⟨⟨hn, hdep⟩, honly⟩, hrest⟩ := hok
    have hn' : ¬ ∃ q ∈ r, q.1 = i := by
      rintro ⟨q, hq, rfl⟩
      simp only [Bool.not_eq_true', List.any_eq_false, beq_iff_eq] at hn
      exact hn q hq rfl
    rcases ho : ops[i]? with _ | oi
    · rw [ho] at hdep; cases hdep
    rw [ho] at hdep
    have hin : i < ops.size := (Array.getElem?_eq_some_iff.1 ho).1
    have hready : i ∈ Region.ready .any ops listed := by
      refine mem_ready.2 ⟨(hL.2 i hin).2 ⟨_, List.mem_cons_self .., rfl⟩, oi, ho, fun e he hb => ?_⟩
      have h1 := Array.all_eq_true_iff_forall_mem.1 hdep e he
      simp only [hb, Bool.not_true, Bool.false_or, Bool.and_eq_true, decide_eq_true_eq, Bool.not_eq_true', beq_eq_false_iff_ne, List.any_eq_false, beq_iff_eq] at h1
      have h2 : listed.getD e.on true = true := by
        rcases hg : listed.getD e.on true with _ | _
        · obtain ⟨q, hq, hqe⟩ := (hL.2 e.on h1.1.1).1 hg
          rcases List.mem_cons.1 hq with rfl | hq
          · exact absurd hqe.symm h1.1.2
          · exact absurd hqe (h1.2 q hq)
        · rfl
      have h3 : e.on < listed.size := by rw [hL.1]; exact h1.1.1
      simpa [Array.getD, h3] using h2
    have hLs := hL.step hin hn'
    have hl' : r.length ≤ fuel := by simpa using hl
    have hsub' : ∀ q ∈ r, q ∈ whole := fun q hq => hsub q (List.mem_cons_of_mem _ hq)
    have hyt' : ∀ q ∈ r, q.2 = true → q.1 ∉ L := fun q hq => hyt q (List.mem_cons_of_mem _ hq)
    have hcs := hc.step hready
    cases b with
    | true =>
      obtain ⟨oi', v, hi, hy, hs⟩ := h
      rw [ho] at hi
      cases hi
      refine anyU_first htl hrefl htrans ho (hyt _ (List.mem_cons_self ..) rfl) (Region.noSelect_spec hsel) hQ fuel listed a w hc (fun j oj hj hji hun hno => ?_) hready hy (anyU_of_seq htl hrefl htrans hsel hQ whole hap r fuel _ _ _ hsub' hyt' hcs hl' hLs hrest hs)
      have hjn : j < ops.size := (Array.getElem?_eq_some_iff.1 hj).1
      obtain ⟨q, hq, hqj⟩ := (hL.2 j hjn).1 hun
      refine apartAll_spec hap (hsub _ (List.mem_cons_self ..)) ⟨q, hsub q hq, hqj⟩ ho hj hji ?_ ?_
      · refine any_false fun e he hc => ?_
        simp only [Bool.and_eq_true, beq_iff_eq] at hc
        exact hno e he hc.1 hc.2
      · refine any_false fun e he hc => ?_
        simp only [Bool.and_eq_true, beq_iff_eq] at hc
        obtain ⟨_, o2, ho2, hall⟩ := mem_ready.1 hready
        rw [ho] at ho2
        cases ho2
        have h1 := hall e he hc.1
        rw [hc.2] at h1
        have h3 : j < listed.size := by rw [hL.1]; exact hjn
        simp [Array.getD, h3] at h1 hun
        rw [h1] at hun
        cases hun
    | false =>
      have hone : ∀ j ∈ Region.ready .any ops listed, j = i := by
        intro j hj
        obtain ⟨h0, o, hoj, hall⟩ := mem_ready.1 hj
        have hjn : j < ops.size := (Array.getElem?_eq_some_iff.1 hoj).1
        obtain ⟨q, hq, rfl⟩ := (hL.2 j hjn).1 h0
        rcases List.mem_cons.1 hq with rfl | hq
        · rfl
        · simp only [Bool.false_or] at honly
          have h1 := List.all_eq_true.1 honly q hq
          simp only [hoj] at h1
          obtain ⟨e, he, hc⟩ := any_true h1
          simp only [Bool.and_eq_true, Bool.or_eq_true, beq_iff_eq, List.any_eq_true] at hc
          have h2 := hall e he hc.1
          have h4 : ∃ q ∈ ((i, false) :: r), q.1 = e.on := by
            rcases hc.2 with h5 | ⟨q', hq', h5⟩
            · exact ⟨_, List.mem_cons_self .., h5.symm⟩
            · exact ⟨q', List.mem_cons_of_mem _ hq', h5⟩
          have h6 : e.on < listed.size := by
            rcases Nat.lt_or_ge e.on listed.size with h' | h'
            · exact h'
            · simp [Array.getD, Nat.not_lt.2 h'] at h2
          have h7 := (hL.2 e.on (by rw [← hL.1]; exact h6)).2 h4
          simp [Array.getD, h6] at h2 h7
          rw [h2] at h7
          cases h7
      refine ⟨fun h0 => (by rw [h0] at hready; cases hready), fun j hj => ?_⟩
      obtain rfl := hone j hj
      exact wpOp_mono (fun a' w' h' => ⟨h'.1, anyU_of_seq htl hrefl htrans hsel hQ whole hap r fuel _ _ _ hsub' hyt' hcs hl' hLs hrest h'.2⟩) h

theorem region_roadU (L : List Nat) (R : World → World → Prop) (road : List (Nat × Bool)) {id : Nat} {a : Act} {w : World} (htl : tailOk ops L = true) (hm : P.follows .mixedOrders = true) (hsel : Region.noSelect ops = true)
    (hyt : (road.all fun q => !q.2 || !L.contains q.1) = true) (hlen : road.length = ops.size) (hall : ((List.range ops.size).all fun j => road.any fun q => q.1 == j) = true) (hok : roadOk ops road = true) (hap : apartAll ops road = true)
    (hrefl : ∀ w, R w w) (htrans : ∀ a b c, R a b → R b c → R a c) (hQ : ∀ c (a : Act) d v w, Q (.panic c) (a.put d v) w → Q (.panic c) a w)
    (h : seqU L P ops Q R road a w.drew) : (Code.region id ops true).wp P Q a w := by
  refine wp_region_any hm (any_of_anyU _ _ _ _ (anyU_of_seq htl hrefl htrans hsel hQ road hap road _ _ _ _ (fun _ h => h) (fun q hq h2 => by
    have h1 := List.all_eq_true.1 hyt q hq
    rw [h2] at h1
    simpa using h1) (fun j oj hj hl => by
    have := (Array.getElem?_eq_some_iff.1 hj).1
    simp [Array.getD, this] at hl) (Nat.le_of_eq hlen) ⟨by simp, fun j hj => ?_⟩ hok h))
  have h1 := List.all_eq_true.1 hall j (List.mem_range.2 hj)
  simp only [List.any_eq_true, beq_iff_eq] at h1
  simp only [h1, iff_true]
  simp [Array.getD, hj]

/-- One step, its operation laid open. -/
def stepU (L : List Nat) (P : Program) (ops : Array Oper) (Q : Exit → Act → World → Prop) (R : World → World → Prop) (i : Nat) (b : Bool) (o : Oper) (r : List (Nat × Bool)) (a : Act) (w : World) : Prop :=
  ops[i]? = some o → seqU L P ops Q R ((i, b) :: r) a w
section
variable {L : List Nat} {i : Nat} {r : List (Nat × Bool)} {a : Act} {w : World} {oi : Oper} {v : Value}
theorem seqU_at {b : Bool} {o : Oper} (hi : ops[i]? = some o) (h : stepU L P ops Q R i b o r a w) : seqU L P ops Q R ((i, b) :: r) a w := h hi
theorem seqU_y (hw : Region.wanted oi (yielded ops a.tmps) = true)
    (hv : ∀ w', R w w' → (execOp a.eval oi).run P w' = .ok (.value v) w') (h : seqU L P ops Q R r (a.put oi.dst v) w) : stepU L P ops Q R i true oi r a w :=
  fun hi => ⟨oi, v, hi, .inl ⟨hw, hv⟩, h⟩
theorem seqU_c (hw : Region.wanted oi (yielded ops a.tmps) = true)
    (h : ∀ K : Act → World → Prop, (∀ a' w', R w w' → seqU L P ops Q R r a' w' → K a' w') → oi.wp P a w K Q) : stepU L P ops Q R i false oi r a w := by
  intro hi
  unfold seqU wpOp
  simp only [hi, hw, if_true]
  exact .inl (h _ fun a' w' h1 h2 => ⟨.inr h1, h2⟩)
/-- One of the tail: it may change what the others read. -/
theorem seqU_tail (hL : i ∈ L) (hw : Region.wanted oi (yielded ops a.tmps) = true)
    (h : ∀ K : Act → World → Prop, (∀ a' w', seqU L P ops Q R r a' w' → K a' w') → oi.wp P a w K Q) : stepU L P ops Q R i false oi r a w := by
  intro hi
  unfold seqU wpOp
  simp only [hi, hw, if_true]
  exact .inl (h _ fun a' w' h2 => ⟨.inl hL, h2⟩)
theorem seqU_end (h : Q .normal a w) : seqU L P ops Q R [] a w := h
end
end

end Go.Proofs.Ytfmadiepefbepaa
