/- Walks of the program's functions. -/
import Derived.Test.YteckdahgkkmlaaaGreatDoorSLC0
import Derived.Test.YteckdahgkkmlaaaGreatDoorSLRng
import Derived.KernelRfl
set_option maxRecDepth 20000
set_option linter.unusedVariables false
set_option linter.unusedSimpArgs false
namespace Go.Proofs.YteckdahgkkmlaaaGreatDoor
open Go SL
variable {G : List (Nat × Obj)}
/-! what a log is -/
structure Item where
  seg : Nat
  page : Nat
  t : List UInt8
def segItems (i : Nat) : Nat → List Pg → List Item
  | _, [] => []
  | j, p :: l => match p.view with
    | some t => ⟨i, j, t⟩ :: segItems i (j + 1) l
    | none => segItems i (j + 1) l
def allItems : Nat → List Sg → List Item
  | _, [] => []
  | i, s :: l => segItems i 0 s.pg ++ allItems (i + 1) l
def Chp.items (c : Chp) : List Item := allItems 0 c.l
theorem segItems_snoc (i : Nat) (p : Pg) : ∀ (l : List Pg) (j : Nat), segItems i j (l ++ [p]) = segItems i j l ++ (match p.view with | some t => [⟨i, j + l.length, t⟩] | none => [])
  | [], j => by cases h : p.view <;> simp [segItems, h]
  | q :: l, j => by
    have ih := segItems_snoc i p l (j + 1)
    rw [show j + 1 + l.length = j + (l.length + 1) by omega] at ih
    cases hq : q.view <;> simp only [List.cons_append, segItems, hq, ih, List.length_cons]
theorem segItems_take {i j : Nat} {s : Sg} {p : Pg} (hp : s.pg[j]? = some p) : segItems i 0 (s.pg.take (j + 1)) = segItems i 0 (s.pg.take j) ++ (match p.view with | some t => [⟨i, j, t⟩] | none => []) := by
  have hj := (List.getElem?_eq_some_iff.1 hp).1
  rw [List.take_succ_eq_append_getElem hj, (List.getElem?_eq_some_iff.1 hp).2, segItems_snoc, List.length_take, Nat.min_eq_left (by omega), Nat.zero_add]
theorem allItems_snoc (s : Sg) : ∀ (l : List Sg) (i : Nat), allItems i (l ++ [s]) = allItems i l ++ segItems (i + l.length) 0 s.pg
  | [], i => by simp [allItems]
  | q :: l, i => by
    have ih := allItems_snoc s l (i + 1)
    rw [show i + 1 + l.length = i + (l.length + 1) by omega] at ih
    simp only [List.cons_append, allItems, ih, List.length_cons, List.append_assoc]
theorem allItems_take {l : List Sg} {i : Nat} {s : Sg} (hs : l[i]? = some s) : allItems 0 (l.take (i + 1)) = allItems 0 (l.take i) ++ segItems i 0 s.pg := by
  have hi := (List.getElem?_eq_some_iff.1 hs).1
  rw [List.take_succ_eq_append_getElem hi, (List.getElem?_eq_some_iff.1 hs).2, allItems_snoc, List.length_take, Nat.min_eq_left (by omega), Nat.zero_add]
/-- how many pages of a segment are programmed -/
def pgCount (l : List Pg) : Nat := l.countP fun p => p.view.isSome
def Chp.many (c : Chp) (i : Nat) : Nat := (c.l[i]?.map fun s => pgCount s.pg).getD 0
theorem segItems_count (i k : Nat) : ∀ (l : List Pg) (j : Nat), (segItems i j l).countP (fun a => decide (a.seg = k)) = if i = k then pgCount l else 0
  | [], j => by simp [segItems, pgCount]
  | p :: l, j => by
    have ih := segItems_count i k l (j + 1)
    cases hp : p.view with
    | none => simp only [segItems, hp, ih, pgCount, List.countP_cons]; simp
    | some t =>
      simp only [segItems, hp, List.countP_cons, ih, pgCount]
      by_cases e : i = k <;> simp [e]
theorem allItems_count (k : Nat) : ∀ (l : List Sg) (i : Nat), (allItems i l).countP (fun a => decide (a.seg = k)) = if i ≤ k then (l[k - i]?.map fun s => pgCount s.pg).getD 0 else 0
  | [], i => by simp [allItems]
  | s :: l, i => by
    rw [allItems, List.countP_append, segItems_count, allItems_count k l (i + 1)]
    by_cases e : i = k
    · subst e; rw [if_pos rfl, if_neg (by omega), if_pos (Nat.le_refl _), Nat.sub_self]; simp
    · rw [if_neg e]
      by_cases e2 : i ≤ k
      · rw [if_pos (by omega), if_pos e2, show k - i = (k - (i + 1)) + 1 by omega]; simp
      · rw [if_neg (by omega), if_neg e2]
theorem Chp.items_count (c : Chp) (k : Nat) : c.items.countP (fun a => decide (a.seg = k)) = c.many k := by
  rw [Chp.items, allItems_count, if_pos (Nat.zero_le _)]; rfl
/-- the first page that is not programmed -/
def pgNext : List Pg → Nat → Int
  | [], _ => -1
  | p :: l, j => match p.view with
    | some _ => pgNext l (j + 1)
    | none => j
def Chp.next (c : Chp) (i : Nat) : Int := (c.l[i]?.map fun s => pgNext s.pg 0).getD (-1)
/-- a log: its chip's block, its own, the segment that is open, the next number, what is retired -/
structure Lg where
  lb : Nat
  mb : Nat
  op : Int
  seq : UInt64
  ret : List IE
  clock : Nat
@[reducible] def Lg.tl (g : Lg) : List Value := [i64 g.op, u64 g.seq, .map (some g.mb)]
@[reducible] def logRow (g : Lg) (cb : Nat) : Res := row g.lb (SL.ptr cb 0 :: g.tl) 71 (0, 0)
@[reducible] def logMap (g : Lg) : Res := mapI g.mb g.ret g.clock
/-- a segment is free -/
def isFree (g : Lg) (c : Chp) (i : Nat) : Bool := !decide ((i : Int) = g.op) && (decide (iget g.ret i = 0) && decide (((c.many i : Nat) : Int) = 0))
def freeL (g : Lg) (c : Chp) : List Nat := (List.range c.segs).filter (isFree g c)
def isUsed (g : Lg) (c : Chp) (i : Nat) : Bool := !decide ((i : Int) = g.op) && (decide (iget g.ret i = 0) && decide (0 < ((c.many i : Nat) : Int)))
def isRetired (g : Lg) (i : Nat) : Bool := decide (0 < iget g.ret i)
theorem chip_cell (c : Chp) (w : World) (h : (chipR c).holds w) (j : Nat) : w.cell? ⟨c.cb, j, none⟩ = c.row0[j]? := row_cell (h.1 _ (List.mem_cons_self ..))
theorem pgCount_le (l : List Pg) : pgCount l ≤ l.length := List.countP_le_length
theorem Chp.many_le {c : Chp} (h : c.wf) (i : Nat) : c.many i ≤ c.pages := by
  unfold Chp.many
  cases hx : c.l[i]? with
  | none => simp
  | some s => have := pgCount_le s.pg; have := (h.pgs s (List.mem_of_getElem? hx)).1; simp; omega
theorem chip_size (c : Chp) (w : World) (h : (chipR c).holds w) (j : Nat) (v : Value) (hv : [i64 c.segs, i64 c.pages][j]? = some v) : w.cell? ⟨c.cb, 0 + j, none⟩ = some v := by
  rw [Nat.zero_add, chip_cell c w h]
  rcases j with _ | _ | j
  · exact hv
  · exact hv
  · simp at hv
theorem readV_split (x : Option (List UInt8)) : ∃ a b, readV x = .tuple #[a, b, i64 0] := by
  cases x
  · exact ⟨_, _, rfl⟩
  · exact ⟨_, _, rfl⟩
theorem segItems_append (i : Nat) : ∀ (l l' : List Pg) (j : Nat), segItems i j (l ++ l') = segItems i j l ++ segItems i (j + l.length) l'
  | [], l', j => rfl
  | p :: l, l', j => by
    have ih := segItems_append i l l' (j + 1)
    rw [show j + 1 + l.length = j + (l.length + 1) by omega] at ih
    cases hp : p.view <;> simp only [List.cons_append, segItems, hp, ih, List.length_cons]
theorem allItems_append : ∀ (l l' : List Sg) (i : Nat), allItems i (l ++ l') = allItems i l ++ allItems (i + l.length) l'
  | [], l', i => rfl
  | s :: l, l', i => by
    have ih := allItems_append l l' (i + 1)
    rw [show i + 1 + l.length = i + (l.length + 1) by omega] at ih
    simp only [List.cons_append, allItems, ih, List.length_cons, List.append_assoc]
theorem items_split {c : Chp} {i j : Nat} {s : Sg} {p : Pg} {t : List UInt8} (hs : c.l[i]? = some s) (hp : s.pg[j]? = some p) (hv : p.view = some t) : ∃ suf, c.items = (allItems 0 (c.l.take i) ++ segItems i 0 (s.pg.take j)) ++ ⟨i, j, t⟩ :: suf := by
  have h1 : s.pg = s.pg.take (j + 1) ++ s.pg.drop (j + 1) := (List.take_append_drop _ _).symm
  have h2 : c.l = c.l.take (i + 1) ++ c.l.drop (i + 1) := (List.take_append_drop _ _).symm
  have h3 : segItems i 0 s.pg = segItems i 0 (s.pg.take j) ++ ⟨i, j, t⟩ :: segItems i (0 + (s.pg.take (j + 1)).length) (s.pg.drop (j + 1)) := by
    conv => lhs; rw [h1]
    rw [segItems_append, segItems_take hp, hv, List.append_assoc]; rfl
  refine ⟨segItems i (0 + (s.pg.take (j + 1)).length) (s.pg.drop (j + 1)) ++ allItems (0 + (c.l.take (i + 1)).length) (c.l.drop (i + 1)), ?_⟩
  rw [Chp.items]
  conv => lhs; rw [h2]
  rw [allItems_append, allItems_take hs, h3]
  simp only [List.append_assoc, List.cons_append]
theorem Chp.items_at {c : Chp} {a : Item} (h : a ∈ c.items) : c.at a.seg a.page = some a.t := by
  have seg : ∀ (i : Nat) (l : List Pg) (j : Nat), a ∈ segItems i j l → a.seg = i ∧ ∃ q p, a.page = j + q ∧ l[q]? = some p ∧ p.view = some a.t := by
    intro i l
    induction l with
    | nil => intro j h; simp [segItems] at h
    | cons p l ih =>
      intro j h
      cases hp : p.view with
      | none =>
        simp only [segItems, hp] at h
        obtain ⟨h1, q, p', h2, h3, h4⟩ := ih _ h
        exact ⟨h1, q + 1, p', by omega, by simpa using h3, h4⟩
      | some t =>
        simp only [segItems, hp] at h
        rcases List.mem_cons.1 h with rfl | h
        · exact ⟨rfl, 0, p, rfl, rfl, hp⟩
        · obtain ⟨h1, q, p', h2, h3, h4⟩ := ih _ h
          exact ⟨h1, q + 1, p', by omega, by simpa using h3, h4⟩
  have all : ∀ (l : List Sg) (i : Nat), a ∈ allItems i l → ∃ q s, a.seg = i + q ∧ l[q]? = some s ∧ ∃ p, s.pg[a.page]? = some p ∧ p.view = some a.t := by
    intro l
    induction l with
    | nil => intro i h; simp [allItems] at h
    | cons s l ih =>
      intro i h
      rcases List.mem_append.1 h with h | h
      · obtain ⟨h1, q, p, h2, h3, h4⟩ := seg _ _ _ h
        exact ⟨0, s, by omega, rfl, p, by rw [h2, Nat.zero_add]; exact h3, h4⟩
      · obtain ⟨q, s', h1, h2, h3⟩ := ih _ h
        exact ⟨q + 1, s', by omega, by simpa using h2, h3⟩
  obtain ⟨q, s, h1, h2, p, h3, h4⟩ := all c.l 0 h
  unfold Chp.at
  rw [h1, Nat.zero_add, h2, Option.bind_some, h3, Option.bind_some, h4]
/-- the first of the least -/
def minF (f : Nat → Int) : List Nat → Nat
  | [] => 0
  | x :: l => l.foldl (fun m y => if f y < f m then y else m) x
def wearZ (c : Chp) (i : Nat) : Int := c.wearAt i
def takeOK (g : Lg) (c : Chp) (r : Int) : Bool := decide ((if r < 0 then 0 else r) < ((freeL g c).length : Int))
def takeL (g : Lg) (c : Chp) : Lg := { g with op := minF (wearZ c) (freeL g c) }
theorem minF_foldl_mem (f : Nat → Int) : ∀ (l : List Nat) (x : Nat), l.foldl (fun m y => if f y < f m then y else m) x ∈ x :: l
  | [], x => by simp
  | y :: l, x => by
    rw [List.foldl_cons]
    by_cases hh : f y < f x
    · rw [if_pos hh]; exact List.mem_cons_of_mem _ (minF_foldl_mem f l y)
    · rw [if_neg hh]
      rcases List.mem_cons.1 (minF_foldl_mem f l x) with h | h
      · rw [h]; exact List.mem_cons_self ..
      · exact List.mem_cons_of_mem _ (List.mem_cons_of_mem _ h)
theorem minF_mem (f : Nat → Int) {l : List Nat} (h : l ≠ []) : minF f l ∈ l := by
  cases l with
  | nil => exact absurd rfl h
  | cons x l => exact minF_foldl_mem f l x
theorem mem_freeL {g : Lg} {c : Chp} {i : Nat} (h : i ∈ freeL g c) : i < c.segs ∧ isFree g c i = true := by
  have := List.mem_filter.1 h
  exact ⟨List.mem_range.1 this.1, this.2⟩
theorem pgNext_spec : ∀ (l : List Pg) (j n : Nat), pgNext l j = (n : Int) → ∃ q p, n = j + q ∧ l[q]? = some p ∧ p.view = none
  | [], j, n, h => by simp [pgNext] at h
  | p :: l, j, n, h => by
    cases hp : p.view with
    | none => simp only [pgNext, hp] at h; exact ⟨0, p, by omega, rfl, hp⟩
    | some t =>
      simp only [pgNext, hp] at h
      obtain ⟨q, p', h1, h2, h3⟩ := pgNext_spec l (j + 1) n h
      exact ⟨q + 1, p', by omega, by simpa using h2, h3⟩
theorem Chp.next_spec {c : Chp} (hc : c.wf) {i j : Nat} (hi : i < c.segs) (h : c.next i = (j : Int)) : j < c.pages ∧ c.at i j = none := by
  obtain ⟨s, hs, hl, _⟩ := hc.seg hi
  unfold Chp.next at h
  rw [hs] at h
  obtain ⟨q, p, h1, h2, h3⟩ := pgNext_spec s.pg 0 j (by simpa using h)
  rw [Nat.zero_add] at h1
  subst h1
  exact ⟨by have := (List.getElem?_eq_some_iff.1 h2).1; omega, by rw [Chp.at_eq hs h2]; exact h3⟩
theorem pgNext_cases : ∀ (l : List Pg) (j : Nat), pgNext l j = -1 ∨ ∃ n : Nat, pgNext l j = n
  | [], j => .inl rfl
  | p :: l, j => by
    cases hp : p.view with
    | none => simp only [pgNext, hp]; exact .inr ⟨j, rfl⟩
    | some t => simp only [pgNext, hp]; exact pgNext_cases l (j + 1)
theorem Chp.next_cases (c : Chp) (i : Nat) : c.next i = -1 ∨ ∃ n : Nat, c.next i = n := by
  unfold Chp.next
  cases hx : c.l[i]? with
  | none => exact .inl rfl
  | some s => simpa using pgNext_cases s.pg 0
theorem pgNext_free : ∀ (l : List Pg) (j : Nat), l ≠ [] → pgCount l = 0 → pgNext l j = j
  | [], _, h, _ => absurd rfl h
  | p :: l, j, _, h => by
    cases hp : p.view with
    | none => simp only [pgNext, hp]
    | some t => simp [pgCount, hp] at h
theorem Chp.next_free {c : Chp} (hc : c.wf) {i : Nat} (hi : i < c.segs) (h : c.many i = 0) : c.next i = ((0 : Nat) : Int) := by
  obtain ⟨s, hs, hl, _⟩ := hc.seg hi
  unfold Chp.many at h
  unfold Chp.next
  rw [hs] at h ⊢
  have h1 := hc.pages1
  have := pgNext_free s.pg 0 (by intro e; rw [e] at hl; simp at hl; omega) (by simpa using h)
  simpa using this
theorem pgNext_drop {l : List Pg} {k : Nat} {p : Pg} (hp : l[k]? = some p) : pgNext (l.drop k) k = match p.view with | some _ => pgNext (l.drop (k + 1)) (k + 1) | none => (k : Int) := by
  rw [List.drop_eq_getElem_cons (List.getElem?_eq_some_iff.1 hp).1, (List.getElem?_eq_some_iff.1 hp).2]
  cases hv : p.view <;> simp only [pgNext, hv]
end Go.Proofs.YteckdahgkkmlaaaGreatDoor
