/- Words on memory that all walks of this seat use: a slice that reads as a list of cells, a row of the call's own, and the laws of append, make and conversions on them. No program in sight. -/
import Derived.WalkKit
import Derived.Maps.AppendAt
import Derived.Lib.Hide
import Derived.Lib.ConvBytes
namespace Go.Proofs.Ytomiapceefbmeaa
open Go.RowKit

/-- The value of a byte; of an int. -/
def u8v (x : UInt8) : Value := .int .u8 (x.toNat : Int)
def i64v (x : Int) : Value := .int .i64 x

/-- A bound on lengths, behind a name (a large numeral in the context stops a walk). -/
def lim : Nat := 1099511627776
theorem le_lim {n : Nat} (h : n ≤ 1099511627776) : n ≤ lim := h
theorem lim_le {n : Nat} (h : n ≤ lim) : n ≤ 1099511627776 := h

theorem block_add (a : Addr) (n : Nat) : (a.add n).block = a.block := by unfold Addr.add; split <;> rfl
theorem add_lit' (b off n : Nat) : (⟨b, off, none⟩ : Addr).add n = ⟨b, off + n, none⟩ := by unfold Addr.add; split <;> simp_all

/-- The slice value v reads, in the world w, as the cells xs. -/
def Sl (w : World) (v : Value) (xs : List Value) : Prop :=
  ∃ A c, v = .slice A xs.length c ∧ xs.length ≤ c ∧ c ≤ maxLen ∧ (A = none → c = 0) ∧
    (xs ≠ [] → ∃ b off, A = some ⟨b, off, none⟩ ∧ b < w.heap.size ∧ ∀ j u, xs[j]? = some u → w.cell? ⟨b, off + j, none⟩ = some u)

/-- .. as bytes, as ints. -/
def Byt (w : World) (v : Value) (xs : List UInt8) : Prop := Sl w v (xs.map u8v)
def Its (w : World) (v : Value) (xs : List Int) : Prop := Sl w v (xs.map i64v)

theorem Sl.nil (w : World) : Sl w (.slice none 0 0) [] := ⟨none, 0, rfl, by simp, Nat.zero_le _, fun _ => rfl, fun h => absurd rfl h⟩
theorem Byt.nil (w : World) : Byt w (.slice none 0 0) [] := Sl.nil w

theorem Sl.keep {w w' : World} {v : Value} {xs : List Value} (h : Sl w v xs) (hs : w.heap.size ≤ w'.heap.size) (hk : ∀ b o, v.ownBlock = some b → b < w.heap.size → w'.cell? ⟨b, o, none⟩ = w.cell? ⟨b, o, none⟩) : Sl w' v xs := by
  obtain ⟨A, c, rfl, h1, h2, h3, h4⟩ := h
  refine ⟨A, c, rfl, h1, h2, h3, fun hne => ?_⟩
  obtain ⟨b, off, rfl, hb, hc⟩ := h4 hne
  exact ⟨b, off, rfl, Nat.lt_of_lt_of_le hb hs, fun j u hu => (hk b _ rfl hb).trans (hc j u hu)⟩
theorem Sl.below {w w' : World} {v : Value} {xs : List Value} (h : Sl w v xs) (hb : Below w.heap.size w w') : Sl w' v xs :=
  h.keep hb.size fun _ _ _ hlt => hb.cell (p := ⟨_, _, none⟩) hlt
theorem Sl.grown {w w' : World} {v : Value} {xs : List Value} {row : Option Nat} (h : Sl w v xs) (hg : w.grownBy w' row) (hne : ∀ g, row = some g → v.ownBlock ≠ some g) : Sl w' v xs :=
  h.keep hg.size fun b _ hv hlt => World.cell?_of_block (hg.block b hlt fun e => hne b e.symm hv)
theorem Sl.drew {w : World} {v : Value} {xs : List Value} (h : Sl w v xs) : Sl w.drew v xs := h
theorem Sl.alloc {w : World} {v : Value} {xs : List Value} (h : Sl w v xs) (o : Obj) : Sl (w.alloc o) v xs := h.below ((Below.refl _ _).alloc (Nat.le_refl _) _)
theorem Sl.at_ {w : World} {v : Value} {xs : List Value} (h : Sl w v xs) {k : Nat} (hk : k < xs.length) :
    ∃ b off c, v = .slice (some ⟨b, off, none⟩) xs.length c ∧ b < w.heap.size ∧ w.cell? ⟨b, off + k, none⟩ = some xs[k] := by
  obtain ⟨A, c, rfl, h1, h2, h3, h4⟩ := h
  obtain ⟨b, off, rfl, hb, hc⟩ := h4 (by intro h; subst h; simp at hk)
  exact ⟨b, off, c, rfl, hb, hc k _ (List.getElem?_eq_getElem hk)⟩
theorem Sl.of_own {w : World} {base : Nat} {e : TypeId} {v : Value} {n : Nat} {xs : List Value} (h : w.ownsRow base e 1 v n xs) : Sl w v xs := by
  obtain ⟨hl, h2⟩ := h
  have hl' : xs.length = n := by omega
  subst hl'
  rcases h2 with ⟨rfl, h0⟩ | ⟨g, cap, cur, rfl, hb, hg, hn, hm, hs, ht⟩
  · have : xs = [] := List.eq_nil_of_length_eq_zero h0
    subst this
    exact Sl.nil w
  · refine ⟨some ⟨g, 0, none⟩, cap, rfl, hn, hm, by simp, fun _ => ⟨g, 0, rfl, (Array.getElem?_eq_some_iff.1 hg).1, fun j u hu => ?_⟩⟩
    rw [Nat.zero_add, cell_of_row w g j cur e (0, 0) hg]
    rw [← ht, List.getElem?_take] at hu
    split at hu
    · simpa using hu
    · cases hu
theorem Sl.len {w : World} {v : Value} {xs : List Value} (h : Sl w v xs) : ∃ A c, v = .slice A xs.length c := let ⟨A, c, h, _⟩ := h; ⟨A, c, h⟩

theorem Byt.below {w w' : World} {v : Value} {xs : List UInt8} (h : Byt w v xs) (hb : Below w.heap.size w w') : Byt w' v xs := Sl.below h hb
theorem Byt.grown {w w' : World} {v : Value} {xs : List UInt8} {row : Option Nat} (h : Byt w v xs) (hg : w.grownBy w' row) (hne : ∀ g, row = some g → v.ownBlock ≠ some g) : Byt w' v xs := Sl.grown h hg hne
theorem Byt.grown' {w w' : World} {v : Value} {xs : List UInt8} {row : Option Nat} (h : Byt w v xs) (hg : w.grownBy w' row) (hne : xs ≠ [] → ∀ g, row = some g → v.ownBlock ≠ some g) : Byt w' v xs := by
  by_cases hx : xs = []
  · subst hx
    obtain ⟨A, c, h1, h2, h3, h4, _⟩ := h
    exact ⟨A, c, h1, h2, h3, h4, fun h => absurd rfl h⟩
  · exact h.grown hg (hne hx)
/-- The block of what is not empty was there. -/
theorem Byt.blk {w : World} {v : Value} {xs : List UInt8} (h : Byt w v xs) (hx : xs ≠ []) {g : Nat} (hg : v.ownBlock = some g) : g < w.heap.size := by
  obtain ⟨A, c, rfl, _, _, _, h5⟩ := h
  obtain ⟨b, off, rfl, hb, _⟩ := h5 (by simpa using hx)
  simp [Value.ownBlock] at hg
  omega
theorem Byt.drew {w : World} {v : Value} {xs : List UInt8} (h : Byt w v xs) : Byt w.drew v xs := h
theorem Byt.alloc {w : World} {v : Value} {xs : List UInt8} (h : Byt w v xs) (o : Obj) : Byt (w.alloc o) v xs := Sl.alloc h o
theorem Byt.at_ {w : World} {v : Value} {xs : List UInt8} (h : Byt w v xs) {k : Nat} (hk : k < xs.length) :
    ∃ b off c, v = .slice (some ⟨b, off, none⟩) xs.length c ∧ b < w.heap.size ∧ w.cell? ⟨b, off + k, none⟩ = some (.int .u8 (xs[k].toNat : Int)) := by
  obtain ⟨b, off, c, h1, h2, h3⟩ := Sl.at_ h (k := k) (by simpa using hk)
  exact ⟨b, off, c, by simpa using h1, h2, by simpa [u8v] using h3⟩
theorem Byt.len {w : World} {v : Value} {xs : List UInt8} (h : Byt w v xs) : ∃ A c, v = .slice A xs.length c ∧ xs.length ≤ c ∧ c ≤ maxLen ∧ (A = none → c = 0) := by
  obtain ⟨A, c, h1, h2, h3, h4, _⟩ := h
  exact ⟨A, c, by simpa using h1, by simpa using h2, h3, h4⟩

/-- A row of bytes (ints) of the call's own. -/
def OwnB (w : World) (base : Nat) (v : Value) (xs : List UInt8) : Prop := w.ownsRow base 5 1 v xs.length (xs.map u8v)
theorem OwnB.byt {w : World} {base : Nat} {v : Value} {xs : List UInt8} (h : OwnB w base v xs) : Byt w v xs := Sl.of_own h
theorem OwnB.mono {w : World} {base base' : Nat} {v : Value} {xs : List UInt8} (h : OwnB w base v xs) (hb : base' ≤ base) : OwnB w base' v xs := by
  refine ⟨h.1, ?_⟩
  rcases h.2 with h2 | ⟨g, cap, cur, hv, hg, r⟩
  · exact .inl h2
  · exact .inr ⟨g, cap, cur, hv, by omega, r⟩
theorem own_below {w w' : World} {base : Nat} {e : TypeId} {size : Nat} {v : Value} {n : Nat} {xs : List Value} (h : w.ownsRow base e size v n xs) (hb : Below w.heap.size w w') : w'.ownsRow base e size v n xs := by
  refine ⟨h.1, ?_⟩
  rcases h.2 with h2 | ⟨g, cap, cur, hv, hg, hh, r⟩
  · exact .inl h2
  · exact .inr ⟨g, cap, cur, hv, hg, by rw [hb.block g (Array.getElem?_eq_some_iff.1 hh).1]; exact hh, r⟩
theorem OwnB.below {w w' : World} {base : Nat} {v : Value} {xs : List UInt8} (h : OwnB w base v xs) (hb : Below w.heap.size w w') : OwnB w' base v xs := own_below h hb
/-- What an own row's growth leaves below. -/
theorem below_of_own {w w' : World} {base : Nat} {e : TypeId} {size : Nat} {v : Value} {n : Nat} {xs : List Value} (h : w.ownsRow base e size v n xs) (hg : w.grownBy w' v.ownBlock) (hb : base ≤ w.heap.size) : Below base w w' :=
  (Below.refl _ _).grown hg hb fun k hk => (h.lt k hk).1
theorem below_of_none {w w' : World} {base : Nat} (hg : w.grownBy w' none) (hb : base ≤ w.heap.size) : Below base w w' :=
  (Below.refl _ _).grown hg hb fun k hk => by cases hk
/-- What reads in w reads behind w's block or later ones have been written. -/
theorem Sl.far {w w' : World} {v : Value} {xs : List Value} {row : Option Nat} (h : Sl w v xs) (hg : w.grownBy w' row) (hr : ∀ g, row = some g → v.ownBlock ≠ some g) : Sl w' v xs := h.grown hg hr
theorem OwnB.respell {w : World} {base : Nat} {A : Option Addr} {n m c : Nat} {xs : List UInt8} (h : OwnB w base (.slice A n c) xs) (e : m = n) : OwnB w base (.slice A m c) xs := by subst e; exact h
theorem oneCell_bytes (xs : List UInt8) : ∀ u ∈ xs.map u8v, u.oneCell' = true := by
  intro u hu
  obtain ⟨x, _, rfl⟩ := List.mem_map.1 hu
  rfl

/-- A row that is filled from the left. -/
theorem take_rep_set {α : Type} (L : List α) (n k : Nat) (z b : α) (hk : k < n) (hL : L.length = n) (hb : L[k]? = some b) :
    (L.take k ++ List.replicate (n - k) z).set k b = L.take (k + 1) ++ List.replicate (n - (k + 1)) z := by
  have hl : (L.take k).length = k := by rw [List.length_take]; omega
  rw [List.set_append_right _ _ (by omega), hl, Nat.sub_self, show n - k = (n - (k + 1)) + 1 from by omega, List.replicate_succ, List.set_cons_zero, List.take_add_one, hb]
  simp
theorem take_rep_get {α : Type} (L : List α) (n k : Nat) (z : α) (hk : k < n) (hL : L.length = n) : (L.take k ++ List.replicate (n - k) z)[k]? = some z := by
  have hl : (L.take k).length = k := by rw [List.length_take]; omega
  rw [List.getElem?_append_right (by omega), hl, Nat.sub_self, List.getElem?_replicate, if_pos (by omega)]

/-- The element type's row of the table, in one bundle: elements of one cell. -/
structure EI (P : Program) (t e : TypeId) (z : Value) (bytes : Nat) : Prop where
  under : P.underlying t = some (.slice e)
  info : ∃ i, P.info? e = some i ∧ i.zero = some z ∧ i.size = 1 ∧ i.bytes = bytes
  one : z.cells.size = 1

section
variable {P : Program} {w : World}

theorem run_append_sl {t ty e : TypeId} {z : Value} {bytes : Nat} (E : EI P t e z bytes) (base : Nat) (v : Value) (n : Nat) (xs : List Value) (hown : w.ownsRow base e 1 v n xs)
    (y : Value) (ys : List Value) (hy : Sl w y ys) (h1 : ∀ u ∈ ys, u.oneCell' = true) (h63 : n + ys.length ≤ maxLen) (hbytes : (n + ys.length) * bytes ≤ 140737488355328) (hbase : base ≤ w.heap.size) :
    ∃ v' w', (Builtin.append_ #[t, t] ty #[v, y]).run P w = .ok v' w' ∧ w'.ownsRow base e 1 v' (n + ys.length) (xs ++ ys) ∧ w.grownBy w' v.ownBlock ∧
      (v'.ownBlock = v.ownBlock ∨ v'.ownBlock = some w.heap.size) := by
  obtain ⟨ht, ⟨i, hi, hz, hsize, hby⟩, hone⟩ := E
  obtain ⟨A, c, rfl, g1, g2, g3, g4⟩ := hy
  rcases A with _ | ad
  · have hn : ys = [] := by
      rcases ys with _ | ⟨u, ys⟩
      · rfl
      · obtain ⟨_, _, h, _⟩ := g4 (by simp)
        cases h
    subst hn
    refine ⟨v, w, ?_, by simpa using hown, World.grownBy.refl w _, .inl rfl⟩
    rcases hown.2 with ⟨rfl, rfl⟩ | ⟨g, cap, cur, rfl, _, _, hnc, _⟩
    · simp [Builtin.append_, run_underlying ht, sizeOf, typeInfo, hi, Builtin.lenOf, Builtin.firstCells]
    · simp [Builtin.append_, run_underlying ht, sizeOf, typeInfo, hi, Builtin.lenOf, Builtin.firstCells, hnc, storeCells]
  · have hcells : ∀ j u, ys[j]? = some u → w.cell? (ad.add j) = some u := by
      intro j u hu
      obtain ⟨b, off, h, _, hc⟩ := g4 (by intro h; subst h; simp at hu)
      injection h with h
      subst h
      rw [add_lit']
      exact hc j u hu
    obtain ⟨v', w', hrun, h2, h3, _, h5⟩ := run_append_own_at (P := P) w base t ty e i z 1 bytes ht hi hz hsize hby hone (by omega) v n xs hown ad ys.length c ys (by simp) hcells h1 h63 hbytes hbase
    exact ⟨v', w', hrun, h2, h3, h5⟩

/-- append onto a row of the call's own, whatever the source reads as. -/
theorem wpl_append {ops : Array Oper} {rest : List Oper} {o : Oper} {a : Act} {Q : Exit → Act → World → Prop} (hgd : o.guard = none) (s x : Operand) (t : TypeId)
    (ho : o.op = .call { callee := .builtin .append, args := #[s, x], argTypes := #[t, t] }) {e : TypeId} {z : Value} {bytes : Nat} (E : EI P t e z bytes)
    (base : Nat) (v : Value) (n : Nat) (xs : List Value) (hs : a.eval s = v) (hown : w.ownsRow base e 1 v n xs) (y : Value) (ys : List Value) (hx : a.eval x = y) (hy : Sl w y ys)
    (h1 : ∀ u ∈ ys, u.oneCell' = true) (h63 : n + ys.length ≤ maxLen) (hbytes : (n + ys.length) * bytes ≤ 140737488355328) (hbase : base ≤ w.heap.size)
    (h : ∀ v' w', w'.ownsRow base e 1 v' (n + ys.length) (xs ++ ys) → w.grownBy w' v.ownBlock → (v'.ownBlock = v.ownBlock ∨ v'.ownBlock = some w.heap.size) → wpList P ops Q rest (a.put o.dst v') w') :
    wpList P ops Q (o :: rest) a w := by
  obtain ⟨v', w', hrun, h2, h3, h4⟩ := run_append_sl (P := P) (ty := o.type) E base v n xs hown y ys hy h1 h63 hbytes hbase
  refine wpList_plain hgd fun K hK => ?_
  unfold Oper.wp execOp
  simp only [ho, resolve, invoke, builtin, Sem.run_bind, Sem.run_pure, Result.andThen_ok, List.map_toArray, List.map_cons, List.map_nil, hs, hx, hrun]
  exact hK _ _ (h v' w' h2 h3 h4)

/-- .. of bytes. -/
theorem wpl_append_b {ops : Array Oper} {rest : List Oper} {o : Oper} {a : Act} {Q : Exit → Act → World → Prop} (hgd : o.guard = none) (s x : Operand) (t : TypeId)
    (ho : o.op = .call { callee := .builtin .append, args := #[s, x], argTypes := #[t, t] }) {z : Value} (E : EI P t 5 z 1)
    (base : Nat) (v : Value) (xs : List UInt8) (hs : a.eval s = v) (hown : OwnB w base v xs) (y : Value) (ys : List UInt8) (hx : a.eval x = y) (hy : Byt w y ys)
    (hlen : xs.length + ys.length ≤ lim) (hbase : base ≤ w.heap.size)
    (h : ∀ (A : Option Addr) (c : Nat) w', OwnB w' base (.slice A (xs.length + ys.length) c) (xs ++ ys) → w.grownBy w' v.ownBlock →
      ((Value.slice A (xs.length + ys.length) c).ownBlock = v.ownBlock ∨ (Value.slice A (xs.length + ys.length) c).ownBlock = some w.heap.size) → wpList P ops Q rest (a.put o.dst (.slice A (xs.length + ys.length) c)) w') :
    wpList P ops Q (o :: rest) a w := by
  refine wpl_append hgd s x t ho E base v xs.length (xs.map u8v) hs hown y (ys.map u8v) hx hy (oneCell_bytes ys) (by have := lim_le hlen; simp [maxLen]; omega) (by have := lim_le hlen; simp; omega) hbase fun v' w' g1 g2 g3 => ?_
  have g4 : OwnB w' base v' (xs ++ ys) := by
    unfold OwnB
    rw [List.length_append, List.map_append]
    simpa using g1
  obtain ⟨A, c, rfl, _⟩ := g4.byt.len
  rw [List.length_append] at *
  exact h A c w' g4 g2 g3

/-- A literal row, just laid. -/
theorem ownB_new {base : Nat} (hb : base ≤ w.heap.size) (xs : List UInt8) (hl : xs.length ≤ lim) (cs : Array Value) (hcs : cs = (xs.map u8v).toArray) (n : Nat) (hn : n = xs.length) :
    OwnB (w.alloc (.cells cs 5)) base (.slice (some ⟨w.heap.size, 0, none⟩) n n) xs := by
  subst hcs
  subst hn
  have h := World.ownsRow_lit (base := base) (e := 5) (size := 1) w (xs.map u8v).toArray xs.length hb (by have := lim_le hl; simp [maxLen]; omega) (by simp)
  simpa [OwnB] using h

/-- A cut of what reads as bytes. -/
theorem Byt.cut {v : Value} {A : Option Addr} {n c : Nat} {xs : List UInt8} (hv : v = .slice A n c) (h : Byt w v xs) {l hi m : Nat} (h1 : l ≤ hi) (h2 : hi ≤ xs.length) (h3 : hi ≤ m) (h4 : m ≤ c) :
    Byt w (.slice (if m = l then A else A.map (·.add l)) (hi - l) (m - l)) ((xs.take hi).drop l) := by
  subst hv
  obtain ⟨A', c', e, g1, g2, g3, g4⟩ := h
  injection e with e1 e2 e3
  subst e1 e3
  have hlen : (((xs.take hi).drop l).map u8v).length = hi - l := by simp; omega
  refine ⟨if m = l then A else A.map (·.add l), m - l, by rw [hlen], by rw [hlen]; omega, by omega, fun hA => ?_, fun hne => ?_⟩
  · by_cases hml : m = l
    · omega
    · rw [if_neg hml] at hA
      have : A = none := by cases A <;> simp_all
      have := g3 this
      omega
  · have hpos : 0 < hi - l := by rw [← hlen]; exact List.length_pos_iff.2 hne
    obtain ⟨b, off, rfl, hb, hc⟩ := g4 (by
      intro h
      have : xs.length = 0 := by simpa using congrArg List.length h
      omega)
    refine ⟨b, off + l, ?_, hb, fun j u hu => ?_⟩
    · rw [if_neg (by omega)]
      simp [add_lit']
    · have hj := hc (l + j) u (by
        rw [← hu]
        simp only [List.getElem?_map, List.getElem?_drop, List.getElem?_take]
        have hjl : j < hi - l := by rw [← hlen]; exact (List.getElem?_eq_some_iff.1 hu).1
        rw [if_pos (by omega)])
      rw [Nat.add_assoc]
      exact hj

/-- string(b). -/
theorem run_str_of_bytes {src dst e : TypeId} (hs : P.underlying src = some (.slice e)) (he : P.underlying e = some (.int .u8)) (hd : P.underlying dst = some .string) (v : Value) (xs : List UInt8) (h : Byt w v xs) :
    (convert src dst v).run P w = .ok (.string ⟨xs.toArray⟩) w := by
  obtain ⟨A, c, rfl, g1, g2, g3, g4⟩ := h
  rw [run_convert_bytes_string w src dst e A _ c hs he hd]
  rcases A with _ | ad
  · have hn : xs = [] := by
      rcases xs with _ | ⟨u, ys⟩
      · rfl
      · obtain ⟨_, _, h, _⟩ := g4 (by simp)
        cases h
    subst hn
    rfl
  · have hcells : ∀ j u, (xs.map u8v)[j]? = some u → w.cell? (ad.add j) = some u := by
      intro j u hu
      obtain ⟨b, off, h, _, hc⟩ := g4 (by intro h; rw [h] at hu; simp at hu)
      injection h with h
      subst h
      rw [add_lit']
      exact hc j u hu
    have hl : (loadCells ad (xs.map u8v).length).run P w = .ok ((xs.map fun x : UInt8 => (x.toNat : Int)).map (Value.int .u8)).toArray w := by
      have := run_loadCells_list (P := P) w ad (xs.map u8v) hcells
      have e : (xs.map fun x : UInt8 => (x.toNat : Int)).map (Value.int .u8) = xs.map u8v := by simp [u8v, Function.comp_def]
      rw [e]
      exact this
    rw [run_bytesToString w ad _ c _ hl, foldl_push_bytes]
    have e2 : (xs.map fun x : UInt8 => (x.toNat : Int)).map (fun n => UInt8.ofNat n.toNat) = xs := by
      rw [List.map_map]
      conv => rhs; rw [← List.map_id xs]
      apply List.map_congr_left
      intro x _
      simp
    rw [e2]
    show Result.ok (Value.string ⟨#[] ++ xs.toArray⟩) w = _
    rw [Array.empty_append]

/-- []byte(s). -/
theorem wpl_str_bytes {ops : Array Oper} {rest : List Oper} {o : Oper} {a : Act} {Q : Exit → Act → World → Prop} (hgd : o.guard = none) {src dst e : TypeId} {x : Operand} (ho : o.op = .convert src dst x)
    (hs : P.underlying src = some .string) (hd : P.underlying dst = some (.slice e)) (he : P.underlying e = some (.int .u8)) (s : ByteArray) (hx : a.eval x = .string s) (hl : s.size ≤ lim)
    (h : ∀ c w', Byt w' (.slice (some ⟨w.heap.size, 0, none⟩) s.size c) s.data.toList → Below w.heap.size w w' → wpList P ops Q rest (a.put o.dst (.slice (some ⟨w.heap.size, 0, none⟩) s.size c)) w') : wpList P ops Q (o :: rest) a w := by
  have hr := Lib.run_convert_string_bytes (P := P) w src dst e s hs hd he
  have hge := grownCap_ge w s.size 0 e
  have hle := grownCap_le_maxLen w s.size 0 e (by have := lim_le hl; unfold maxLen; omega)
  have hlen : (s.data.toList.map u8v).length = s.size := by rw [List.length_map, Array.length_toList]; rfl
  refine wpList_plain hgd fun K hK => ?_
  unfold Oper.wp execOp
  simp only [ho, hx, Sem.run_bind, Sem.run_pure, Result.andThen_ok, hr]
  refine hK _ _ (h _ _ ⟨_, _, by rw [hlen], by rw [hlen]; exact hge, hle, by simp, fun _ => ⟨w.heap.size, 0, rfl, by rw [Lib.bytesWorld_size]; omega, fun j u hu => ?_⟩⟩ ⟨rfl, rfl, rfl, by rw [Lib.bytesWorld_size]; omega, fun k hk => Lib.bytesWorld_at_old w e s k hk⟩)
  have hj : j < s.size := by rw [← hlen]; exact (List.getElem?_eq_some_iff.1 hu).1
  rw [Nat.zero_add, Lib.bytesWorld_cell w e s j hj, ← hu, List.getElem?_map]
  have hj2 : j < s.data.toList.length := by rw [Array.length_toList]; exact hj
  rw [List.getElem?_eq_getElem hj2, List.getD, List.getElem?_eq_getElem hj2]
  rfl

/-- string(b). -/
theorem wpl_bytes_str {ops : Array Oper} {rest : List Oper} {o : Oper} {a : Act} {Q : Exit → Act → World → Prop} (hgd : o.guard = none) {src dst e : TypeId} {x : Operand} (ho : o.op = .convert src dst x)
    (hs : P.underlying src = some (.slice e)) (he : P.underlying e = some (.int .u8)) (hd : P.underlying dst = some .string) (v : Value) (xs : List UInt8) (hx : a.eval x = v) (hv : Byt w v xs)
    (h : wpList P ops Q rest (a.put o.dst (.string ⟨xs.toArray⟩)) w) : wpList P ops Q (o :: rest) a w := by
  have hr := run_str_of_bytes (P := P) hs he hd v xs hv
  refine wpList_plain hgd fun K hK => ?_
  unfold Oper.wp execOp
  simp only [ho, hx, Sem.run_bind, Sem.run_pure, Result.andThen_ok, hr]
  exact hK _ _ h
end
end Go.Proofs.Ytomiapceefbmeaa
