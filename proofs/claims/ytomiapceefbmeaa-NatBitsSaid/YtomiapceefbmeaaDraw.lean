/- A region that draws its order, walked in ONE order: what only reads comes as soon as it may (it yields the same in every later world), what changes the world comes when it alone may come. No program here. -/
import Derived.OrdersHeld
import Derived.Below
set_option linter.unusedVariables false
namespace Go.Proofs.Ytomiapceefbmeaa
open Go.RowKit

section
variable {P : Program} {ops : Array Oper} {Q : Exit → Act → World → Prop} {R : World → World → Prop}

/-- Whatever order is picked from here on; behind each operation the world is one of those that R allows. -/
def anyR (P : Program) (ops : Array Oper) (Q : Exit → Act → World → Prop) (R : World → World → Prop) : Nat → Array Bool → Act → World → Prop
  | 0, listed, a, w => Region.ready .any ops listed = [] ∧ Q .normal a w
  | fuel + 1, listed, a, w =>
    (Region.ready .any ops listed = [] → Q .normal a w) ∧
    ∀ i ∈ Region.ready .any ops listed, wpOp P ops Q i (fun a' w' => R w w' ∧ anyR P ops Q R fuel (listed.setIfInBounds i true) a' w') a w

theorem any_of_anyR : ∀ (fuel : Nat) (listed : Array Bool) (a : Act) (w : World), anyR P ops Q R fuel listed a w → wpAny P .any ops Q fuel listed a w
  | 0, _, _, _, h => h
  | fuel + 1, _, _, _, h => ⟨h.1, fun i hi => wpOp_mono (fun a' w' h' => any_of_anyR fuel _ a' w' h'.2) (h.2 i hi)⟩

/-- What may come up and yields the same whatever comes before it may be taken first. -/
theorem anyR_first (hrefl : ∀ w, R w w) (htrans : ∀ a b c, R a b → R b c → R a c) {i : Nat} {oi : Oper} {v : Value} (hi : ops[i]? = some oi)
    (hsel : ∀ (j : Nat) (o : Oper) cs b, ops[j]? = some o → o.op ≠ .select cs b) (hQ : ∀ c (a : Act) d v w, Q (.panic c) (a.put d v) w → Q (.panic c) a w) :
    ∀ (fuel : Nat) (listed : Array Bool) (a : Act) (w : World),
      (∀ j oj, ops[j]? = some oj → j ≠ i → listed.getD j true = false → (∀ e ∈ oj.after, Region.binds .any e = true → e.on ≠ i) → oi.apart ops oj = true) →
      i ∈ Region.ready .any ops listed → YieldsIf P ops (R w) oi v a →
      anyR P ops Q R fuel (listed.setIfInBounds i true) (a.put oi.dst v) w → anyR P ops Q R (fuel + 1) listed a w := by
  intro fuel
  induction fuel with
  | zero =>
    intro listed a w _ hr hy H
    refine ⟨fun h => (by rw [h] at hr; cases hr), fun j hj => ?_⟩
    by_cases hji : j = i
    · subst hji; exact hy.wpOp hi (hrefl w) ⟨hrefl w, H⟩
    · have := ready_mono hj hji
      rw [H.1] at this
      cases this
  | succ fuel ih =>
    intro listed a w hfree hr hy H
    refine ⟨fun h => (by rw [h] at hr; cases hr), fun j hj => ?_⟩
    by_cases hji : j = i
    · subst hji; exact hy.wpOp hi (hrefl w) ⟨hrefl w, H⟩
    · have h1 := H.2 j (ready_mono hj hji)
      obtain ⟨hjun, oj, hoj, hall⟩ := mem_ready.1 hj
      have hnot : ∀ e ∈ oj.after, Region.binds .any e = true → e.on ≠ i := fun e he hb heq => by
        have h1 := hall e he hb
        have h0 := (mem_ready.1 hr).1
        rw [heq] at h1
        rcases Nat.lt_or_ge i listed.size with h' | h'
        · simp [h'] at h0 h1; rw [h0] at h1; cases h1
        · simp [Array.getElem?_eq_none h'] at h1
      have h2 := wpOp_putIf hoj (hfree j oj hoj hji hjun hnot) (fun cs b => hsel i oi cs b hi) (fun cs b => hsel j oj cs b hoj) (fun c a w h => hQ c a _ _ w h) hy h1
      have hfree' : ∀ k ok, ops[k]? = some ok → k ≠ i → (listed.setIfInBounds j true).getD k true = false →
          (∀ e ∈ ok.after, Region.binds .any e = true → e.on ≠ i) → oi.apart ops ok = true := fun k ok hk hki hun hno => by
        refine hfree k ok hk hki ?_ hno
        by_cases hjk : j = k
        · subst hjk; exact hjun
        · rw [getD_set_ne true hjk] at hun; exact hun
      refine wpOp_mono (fun a' w' h3 => ⟨h3.2.1, ih (listed.setIfInBounds j true) a' w' hfree' (ready_mono hr (Ne.symm hji)) ?_ ?_⟩) h2
      · exact h3.1.imp (fun ⟨q1, q2⟩ => ⟨q1, fun u hu => q2 u (htrans _ _ _ h3.2.1 hu)⟩) id
      · rw [Array.setIfInBounds_comm _ _ hji]
        exact h3.2.2

/-- Does o wait for number i? -/
def waitsOn (o : Oper) (i : Nat) : Bool := o.after.any fun e => Region.binds .any e && e.on == i
/-- Any two operations: one waits for the other, or they are apart. -/
def apartAll (ops : Array Oper) (road : List (Nat × Bool)) : Bool :=
  road.all fun p => !p.2 || match ops[p.1]? with
    | none => true
    | some oi => road.all fun q => q.1 == p.1 || match ops[q.1]? with
      | none => true
      | some oj => oi.apart ops oj || waitsOn oj p.1 || waitsOn oi q.1
/-- Is this a road through the region: each operation may come up; one that changes the world is the only one that may come up? -/
def roadOk (ops : Array Oper) : List (Nat × Bool) → Bool
  | [] => true
  | (i, b) :: r => !(r.any fun q => q.1 == i) && (match ops[i]? with
      | none => false
      | some o => o.after.all fun e => !Region.binds .any e || (decide (e.on < ops.size) && !(e.on == i) && !(r.any fun q => q.1 == e.on))) &&
    (b || r.all fun q => match ops[q.1]? with
      | none => true
      | some o => o.after.any fun e => Region.binds .any e && (e.on == i || r.any fun q => q.1 == e.on)) && roadOk ops r

theorem any_false {α : Type} {xs : Array α} {p : α → Bool} (h : ∀ e ∈ xs, p e = true → False) : xs.any p = false := by
  rcases hx : xs.any p with _ | _
  · rfl
  · rw [← Array.any_toList, List.any_eq_true] at hx
    obtain ⟨e, he, hp⟩ := hx
    exact (h e (by simpa using he) hp).elim
theorem any_true {α : Type} {xs : Array α} {p : α → Bool} (hx : xs.any p = true) : ∃ e ∈ xs, p e = true := by
  rw [← Array.any_toList, List.any_eq_true] at hx
  obtain ⟨e, he, hp⟩ := hx
  exact ⟨e, by simpa using he, hp⟩
theorem getD_set (listed : Array Bool) (i j : Nat) (hi : i < listed.size) : (listed.setIfInBounds i true).getD j true = if i = j then true else listed.getD j true := by
  by_cases h : i = j
  · subst h
    simp [Array.getD, hi]
  · rw [if_neg h]
    exact getD_set_ne true h

/-- The walk along the road. -/
def seqR (P : Program) (ops : Array Oper) (Q : Exit → Act → World → Prop) (R : World → World → Prop) : List (Nat × Bool) → Act → World → Prop
  | [], a, w => Q .normal a w
  | (i, true) :: r, a, w => ∃ oi v, ops[i]? = some oi ∧ YieldsIf P ops (R w) oi v a ∧ seqR P ops Q R r (a.put oi.dst v) w
  | (i, false) :: r, a, w => wpOp P ops Q i (fun a' w' => R w w' ∧ seqR P ops Q R r a' w') a w

/-- What has come up is what is no more on the road. -/
def Listed (ops : Array Oper) (road : List (Nat × Bool)) (listed : Array Bool) : Prop :=
  listed.size = ops.size ∧ ∀ j, j < ops.size → (listed.getD j true = false ↔ ∃ q ∈ road, q.1 = j)

theorem Listed.step {i : Nat} {b : Bool} {r : List (Nat × Bool)} {listed : Array Bool} (h : Listed ops ((i, b) :: r) listed) (hi : i < ops.size) (hn : ¬ ∃ q ∈ r, q.1 = i) : Listed ops r (listed.setIfInBounds i true) := by
  refine ⟨by simpa using h.1, fun j hj => ?_⟩
  rw [getD_set _ _ _ (by rw [h.1]; exact hi)]
  by_cases e : i = j
  · subst e
    simp only [if_true, Bool.true_eq_false, false_iff]
    exact hn
  · rw [if_neg e, h.2 j hj]
    constructor
    · rintro ⟨q, hq, rfl⟩
      rcases List.mem_cons.1 hq with rfl | hq
      · exact absurd rfl e
      · exact ⟨q, hq, rfl⟩
    · rintro ⟨q, hq, rfl⟩
      exact ⟨q, List.mem_cons_of_mem _ hq, rfl⟩

theorem apartAll_spec {road : List (Nat × Bool)} (h : apartAll ops road = true) {i j : Nat} {oi oj : Oper} (hri : (i, true) ∈ road) (hrj : ∃ q ∈ road, q.1 = j) (hi : ops[i]? = some oi) (hj : ops[j]? = some oj) (hne : j ≠ i)
    (hwj : waitsOn oj i = false) (hwi : waitsOn oi j = false) : oi.apart ops oj = true := by
  have h1 := List.all_eq_true.1 h _ hri
  simp only [Bool.not_true, Bool.false_or, hi] at h1
  obtain ⟨q, hq, rfl⟩ := hrj
  have h2 := List.all_eq_true.1 h1 q hq
  simpa [hj, hwj, hwi, hne] using h2

theorem anyR_of_seq (hrefl : ∀ w, R w w) (htrans : ∀ a b c, R a b → R b c → R a c) (hsel : Region.noSelect ops = true) (hQ : ∀ c (a : Act) d v w, Q (.panic c) (a.put d v) w → Q (.panic c) a w) (whole : List (Nat × Bool)) (hap : apartAll ops whole = true) :
    ∀ (road : List (Nat × Bool)) (fuel : Nat) (listed : Array Bool) (a : Act) (w : World), (∀ q ∈ road, q ∈ whole) → road.length ≤ fuel → Listed ops road listed → roadOk ops road = true → seqR P ops Q R road a w → anyR P ops Q R fuel listed a w
  | [], fuel, listed, a, w, _, _, hL, hok, h => by
    have hr : Region.ready .any ops listed = [] := by
      rw [List.eq_nil_iff_forall_not_mem]
      intro j hj
      obtain ⟨h0, o, ho, _⟩ := mem_ready.1 hj
      obtain ⟨q, hq, _⟩ := (hL.2 j (Array.getElem?_eq_some_iff.1 ho).1).1 h0
      cases hq
    cases fuel with
    | zero => exact ⟨hr, h⟩
    | succ n => exact ⟨fun _ => h, by rw [hr]; simp⟩
  | (i, b) :: r, 0, listed, a, w, _, hl, _, _, _ => by simp at hl
  | (i, b) :: r, fuel + 1, listed, a, w, hsub, hl, hL, hok, h => by
    simp only [roadOk, Bool.and_eq_true] at hok
    obtain ⟨⟨⟨hn, hdep⟩, honly⟩, hrest⟩ := hok
    have hn' : ¬ ∃ q ∈ r, q.1 = i := by
      rintro ⟨q, hq, rfl⟩
      simp only [Bool.not_eq_true', List.any_eq_false, beq_iff_eq] at hn
      exact hn q hq rfl
    rcases ho : ops[i]? with _ | oi
    · rw [ho] at hdep; cases hdep
    rw [ho] at hdep
    have hin : i < ops.size := (Array.getElem?_eq_some_iff.1 ho).1
    have hready : i ∈ Region.ready .any ops listed := by
      refine mem_ready.2 ⟨(hL.2 i hin).2 ⟨_, List.mem_cons_self .., rfl⟩, oi, ho, fun e he hb => ?_⟩
      have h1 := Array.all_eq_true_iff_forall_mem.1 hdep e he
      simp only [hb, Bool.not_true, Bool.false_or, Bool.and_eq_true, decide_eq_true_eq, Bool.not_eq_true', beq_eq_false_iff_ne, List.any_eq_false, beq_iff_eq] at h1
      have h2 : listed.getD e.on true = true := by
        rcases hg : listed.getD e.on true with _ | _
        · obtain ⟨q, hq, hqe⟩ := (hL.2 e.on h1.1.1).1 hg
          rcases List.mem_cons.1 hq with rfl | hq
          · exact absurd hqe.symm h1.1.2
          · exact absurd hqe (h1.2 q hq)
        · rfl
      have h3 : e.on < listed.size := by rw [hL.1]; exact h1.1.1
      simpa [Array.getD, h3] using h2
    have hLs := hL.step hin hn'
    have hl' : r.length ≤ fuel := by simpa using hl
    have hsub' : ∀ q ∈ r, q ∈ whole := fun q hq => hsub q (List.mem_cons_of_mem _ hq)
    cases b with
    | true =>
      obtain ⟨oi', v, hi, hy, hs⟩ := h
      rw [ho] at hi
      cases hi
      refine anyR_first hrefl htrans ho (Region.noSelect_spec hsel) hQ fuel listed a w (fun j oj hj hji hun hno => ?_) hready hy (anyR_of_seq hrefl htrans hsel hQ whole hap r fuel _ _ _ hsub' hl' hLs hrest hs)
      have hjn : j < ops.size := (Array.getElem?_eq_some_iff.1 hj).1
      obtain ⟨q, hq, hqj⟩ := (hL.2 j hjn).1 hun
      refine apartAll_spec hap (hsub _ (List.mem_cons_self ..)) ⟨q, hsub q hq, hqj⟩ ho hj hji ?_ ?_
      · refine any_false fun e he hc => ?_
        simp only [Bool.and_eq_true, beq_iff_eq] at hc
        exact hno e he hc.1 hc.2
      · refine any_false fun e he hc => ?_
        simp only [Bool.and_eq_true, beq_iff_eq] at hc
        obtain ⟨_, o2, ho2, hall⟩ := mem_ready.1 hready
        rw [ho] at ho2
        cases ho2
        have h1 := hall e he hc.1
        rw [hc.2] at h1
        have h3 : j < listed.size := by rw [hL.1]; exact hjn
        simp [Array.getD, h3] at h1 hun
        rw [h1] at hun
        cases hun
    | false =>
      have hone : ∀ j ∈ Region.ready .any ops listed, j = i := by
        intro j hj
        obtain ⟨h0, o, hoj, hall⟩ := mem_ready.1 hj
        have hjn : j < ops.size := (Array.getElem?_eq_some_iff.1 hoj).1
        obtain ⟨q, hq, rfl⟩ := (hL.2 j hjn).1 h0
        rcases List.mem_cons.1 hq with rfl | hq
        · rfl
        · simp only [Bool.false_or] at honly
          have h1 := List.all_eq_true.1 honly q hq
          simp only [hoj] at h1
          obtain ⟨e, he, hc⟩ := any_true h1
          simp only [Bool.and_eq_true, Bool.or_eq_true, beq_iff_eq, List.any_eq_true] at hc
          have h2 := hall e he hc.1
          have h4 : ∃ q ∈ ((i, false) :: r), q.1 = e.on := by
            rcases hc.2 with h5 | ⟨q', hq', h5⟩
            · exact ⟨_, List.mem_cons_self .., h5.symm⟩
            · exact ⟨q', List.mem_cons_of_mem _ hq', h5⟩
          have h6 : e.on < listed.size := by
            rcases Nat.lt_or_ge e.on listed.size with h' | h'
            · exact h'
            · simp [Array.getD, Nat.not_lt.2 h'] at h2
          have h7 := (hL.2 e.on (by rw [← hL.1]; exact h6)).2 h4
          simp [Array.getD, h6] at h2 h7
          rw [h2] at h7
          cases h7
      refine ⟨fun h0 => (by rw [h0] at hready; cases hready), fun j hj => ?_⟩
      obtain rfl := hone j hj
      exact wpOp_mono (fun a' w' h' => ⟨h'.1, anyR_of_seq hrefl htrans hsel hQ whole hap r fuel _ _ _ hsub' hl' hLs hrest h'.2⟩) h

/-- **A REGION THAT DRAWS, ALONG ONE ROAD.** -/
theorem region_road (R : World → World → Prop) (road : List (Nat × Bool)) {id : Nat} {a : Act} {w : World} (hm : P.follows .mixedOrders = true) (hsel : Region.noSelect ops = true)
    (hlen : road.length = ops.size) (hall : ((List.range ops.size).all fun j => road.any fun q => q.1 == j) = true) (hok : roadOk ops road = true) (hap : apartAll ops road = true)
    (hrefl : ∀ w, R w w) (htrans : ∀ a b c, R a b → R b c → R a c) (hQ : ∀ c (a : Act) d v w, Q (.panic c) (a.put d v) w → Q (.panic c) a w)
    (h : seqR P ops Q R road a w.drew) : (Code.region id ops true).wp P Q a w := by
  refine wp_region_any hm (any_of_anyR _ _ _ _ (anyR_of_seq hrefl htrans hsel hQ road hap road _ _ _ _ (fun _ h => h) (Nat.le_of_eq hlen) ⟨by simp, fun j hj => ?_⟩ hok h))
  have h1 := List.all_eq_true.1 hall j (List.mem_range.2 hj)
  simp only [List.any_eq_true, beq_iff_eq] at h1
  simp only [h1, iff_true]
  simp [Array.getD, hj]

/-- The walk goes on, no other way out. -/
def onN (Q : Exit → Act → World → Prop) : Exit → Act → World → Prop
  | .normal, a, w => Q .normal a w
  | _, _, _ => False
theorem region_roadN (R : World → World → Prop) (road : List (Nat × Bool)) {id : Nat} {a : Act} {w : World} (hm : P.follows .mixedOrders = true) (hsel : Region.noSelect ops = true)
    (hlen : road.length = ops.size) (hall : ((List.range ops.size).all fun j => road.any fun q => q.1 == j) = true) (hok : roadOk ops road = true) (hap : apartAll ops road = true)
    (hrefl : ∀ w, R w w) (htrans : ∀ a b c, R a b → R b c → R a c)
    (h : seqR P ops (onN Q) R road a w.drew) : (Code.region id ops true).wp P Q a w :=
  Code.wp_mono (fun e a w h => by cases e <;> first | exact h | exact h.elim) (region_road R road hm hsel hlen hall hok hap hrefl htrans (fun _ _ _ _ _ h => h) h)

/-- One step, its operation laid open. -/
def stepR (P : Program) (ops : Array Oper) (Q : Exit → Act → World → Prop) (R : World → World → Prop) (i : Nat) (b : Bool) (o : Oper) (r : List (Nat × Bool)) (a : Act) (w : World) : Prop :=
  ops[i]? = some o → seqR P ops Q R ((i, b) :: r) a w
theorem seqR_at {i : Nat} {b : Bool} {r : List (Nat × Bool)} {a : Act} {w : World} {o : Oper} (hi : ops[i]? = some o) (h : stepR P ops Q R i b o r a w) : seqR P ops Q R ((i, b) :: r) a w := h hi
/-- One that is wanted and yields v. -/
theorem seqR_y {i : Nat} {r : List (Nat × Bool)} {a : Act} {w : World} {oi : Oper} {v : Value} (hw : Region.wanted oi (yielded ops a.tmps) = true)
    (hv : ∀ w', R w w' → (execOp a.eval oi).run P w' = .ok (.value v) w') (h : seqR P ops Q R r (a.put oi.dst v) w) : stepR P ops Q R i true oi r a w :=
  fun hi => ⟨oi, v, hi, .inl ⟨hw, hv⟩, h⟩
/-- One that is not wanted. -/
theorem seqR_n {i : Nat} {r : List (Nat × Bool)} {a : Act} {w : World} {oi : Oper} (hw : Region.wanted oi (yielded ops a.tmps) = false)
    (h : seqR P ops Q R r (a.put oi.dst undef) w) : stepR P ops Q R i true oi r a w :=
  fun hi => ⟨oi, undef, hi, .inr ⟨hw, rfl⟩, h⟩
/-- One that changes the world. -/
theorem seqR_c {i : Nat} {r : List (Nat × Bool)} {a : Act} {w : World} {oi : Oper} (hw : Region.wanted oi (yielded ops a.tmps) = true)
    (h : ∀ K : Act → World → Prop, (∀ a' w', R w w' → seqR P ops Q R r a' w' → K a' w') → oi.wp P a w K Q) : stepR P ops Q R i false oi r a w := by
  intro hi
  unfold seqR wpOp
  simp only [hi, hw, if_true]
  exact .inl (h _ fun a' w' h1 h2 => ⟨h1, h2⟩)
/-- One that would change the world, not wanted. -/
theorem seqR_cn {i : Nat} {r : List (Nat × Bool)} {a : Act} {w : World} {oi : Oper} (hw : Region.wanted oi (yielded ops a.tmps) = false) (hr : R w w)
    (h : seqR P ops Q R r (a.put oi.dst undef) w) : stepR P ops Q R i false oi r a w := by
  intro hi
  unfold seqR wpOp
  simp only [hi, hw, Bool.false_eq_true, if_false]
  exact ⟨hr, h⟩
theorem seqR_end {a : Act} {w : World} (h : Q .normal a w) : seqR P ops Q R [] a w := h

/-- The worlds in which what is there stays. -/
def Later (w w' : World) : Prop := Below w.heap.size w w'
theorem later_refl (w : World) : Later w w := Below.refl _ _
theorem later_trans (a b c : World) (h : Later a b) (k : Later b c) : Later a c := h.trans (k.mono h.size)
end

end Go.Proofs.Ytomiapceefbmeaa
