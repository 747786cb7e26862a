/- Walks of the program's functions. -/
import Derived.Test.YteckdahgkkmlaaaGreatDoorSLC1
import Derived.Test.YteckdahgkkmlaaaGreatDoorSLMapU
import Derived.KernelRfl
set_option maxRecDepth 20000
set_option linter.unusedVariables false
set_option linter.unusedSimpArgs false
namespace Go.Proofs.YteckdahgkkmlaaaGreatDoor
open Go SL
variable {G : List (Nat × Obj)}
/-! what a log and its chip look like, without addresses and texts -/
structure Ab where
  pages : Nat
  rated : Nat
  l : List (List Bool × Nat × Bool)
  op : Int
  ret : List Int
namespace Ab
def many (a : Ab) (i : Nat) : Nat := ((a.l[i]?).map fun s => s.1.countP id).getD 0
def nxt : List Bool → Nat → Int
  | [], _ => -1
  | true :: l, j => nxt l (j + 1)
  | false :: _, j => j
def next (a : Ab) (i : Nat) : Int := ((a.l[i]?).map fun s => nxt s.1 0).getD (-1)
def wear (a : Ab) (i : Nat) : Nat := ((a.l[i]?).map fun s => s.2.1).getD 0
def bad (a : Ab) (i : Nat) : Bool := ((a.l[i]?).map fun s => s.2.2).getD false
def free (a : Ab) (i : Nat) : Bool := !decide ((i : Int) = a.op) && (decide (a.ret.getD i 0 = 0) && decide (((a.many i : Nat) : Int) = 0))
def freeL (a : Ab) : List Nat := (List.range a.l.length).filter a.free
def takeOK (a : Ab) (r : Int) : Bool := decide ((if r < 0 then 0 else r) < ((a.freeL.length : Nat) : Int))
def appSeg (a : Ab) (r : Int) : Option Nat := bif decide (0 ≤ a.op) && !decide (a.next a.op.toNat = -1) then some a.op.toNat else bif a.takeOK r then some (minF (fun i => (a.wear i : Int)) a.freeL) else none
def room (a : Ab) : Int := (a.freeL.length : Int) * a.pages + (if a.op = -1 then 0 else (a.pages : Int) - a.many a.op.toNat)
def put (a : Ab) (i j : Nat) : Ab := { a with l := a.l.modify i (fun s => (s.1.set j true, s.2)), op := i }
def app (a : Ab) (r : Int) : Ab := match a.appSeg r with
  | none => a
  | some i => a.put i (a.next i).toNat
def canErase (a : Ab) (i : Nat) : Bool := !a.bad i && decide (a.wear i < a.rated)
def erase (a : Ab) (i : Nat) : Ab := bif a.canErase i then { a with l := a.l.modify i (fun s => (List.replicate a.pages false, s.2.1 + 1, s.2.2)), op := if a.op = i then -1 else a.op } else { a with op := if a.op = i then -1 else a.op, ret := a.ret.modify i (· + 1) }
end Ab
def fl (l : List Pg) : List Bool := l.map fun p => p.view.isSome
def abs (g : Lg) (c : Chp) : Ab := ⟨c.pages, c.rated, c.l.map (fun s => (fl s.pg, s.wear, s.bad)), g.op, (List.range c.segs).map (fun i : Nat => iget g.ret i)⟩
theorem abs_len (g : Lg) {c : Chp} (h : c.wf) : (abs g c).l.length = c.segs := by simp [abs, h.len]
theorem abs_many (g : Lg) (c : Chp) (i : Nat) : (abs g c).many i = c.many i := by
  unfold Ab.many Chp.many abs
  cases hx : c.l[i]? with
  | none => simp [hx]
  | some s => simp [hx, fl, pgCount, List.countP_map, Function.comp_def]
theorem nxt_fl : ∀ (l : List Pg) (j : Nat), Ab.nxt (fl l) j = pgNext l j
  | [], _ => rfl
  | p :: l, j => by
    have ih := nxt_fl l (j + 1)
    cases hp : p.view with
    | none => simp [fl, Ab.nxt, pgNext, hp]
    | some t => simp only [fl, List.map_cons, hp, Option.isSome_some, Ab.nxt, pgNext]; exact ih
theorem abs_next (g : Lg) (c : Chp) (i : Nat) : (abs g c).next i = c.next i := by
  unfold Ab.next Chp.next abs
  cases hx : c.l[i]? with
  | none => simp [hx]
  | some s => simp [hx, nxt_fl]
theorem abs_wear (g : Lg) (c : Chp) (i : Nat) : (abs g c).wear i = c.wearAt i := by
  unfold Ab.wear Chp.wearAt abs
  cases hx : c.l[i]? <;> simp [hx]
theorem abs_bad (g : Lg) (c : Chp) (i : Nat) : (abs g c).bad i = c.badAt i := by
  unfold Ab.bad Chp.badAt abs
  cases hx : c.l[i]? <;> simp [hx]
theorem abs_ret (g : Lg) (c : Chp) {i : Nat} (h : i < c.segs) : (abs g c).ret.getD i 0 = iget g.ret i := by simp [abs, h]
theorem abs_free (g : Lg) (c : Chp) {i : Nat} (h : i < c.segs) : (abs g c).free i = isFree g c i := by
  unfold Ab.free isFree
  rw [abs_ret g c h, abs_many]
  rfl
theorem abs_freeL (g : Lg) {c : Chp} (h : c.wf) : (abs g c).freeL = freeL g c := by
  unfold Ab.freeL freeL
  rw [abs_len g h]
  exact List.filter_congr fun i hi => abs_free g c (List.mem_range.1 hi)
theorem abs_takeOK (g : Lg) {c : Chp} (h : c.wf) (r : Int) : (abs g c).takeOK r = takeOK g c r := by
  unfold Ab.takeOK takeOK
  rw [abs_freeL g h]
theorem abs_minF (g : Lg) {c : Chp} (h : c.wf) : minF (fun i => ((abs g c).wear i : Int)) (abs g c).freeL = minF (wearZ c) (freeL g c) := by
  rw [abs_freeL g h]
  congr 1
  funext i
  rw [abs_wear]; rfl
theorem map_modify' {α β : Type} (f : α → β) (u : α → α) (v : β → β) (h : ∀ x, f (u x) = v (f x)) : ∀ (l : List α) (i : Nat), (l.modify i u).map f = (l.map f).modify i v
  | [], _ => by simp
  | x :: l, 0 => by simp [h]
  | x :: l, i + 1 => by simp [map_modify' f u v h l i]
theorem abs_prog (g : Lg) (c : Chp) (i j b : Nat) (t : List UInt8) (pa : Option Addr) (pc lb mb : Nat) (q : UInt64) (cl : Nat) : abs ⟨lb, mb, i, q, g.ret, cl⟩ (c.prog i j b t pa pc) = (abs g c).put i j := by
  unfold abs Ab.put Chp.prog
  simp only
  rw [map_modify' _ _ (fun s => (s.1.set j true, s.2))]
  intro s
  simp [fl, List.map_set, Pg.view]
theorem abs_erased (g : Lg) (c : Chp) (i : Nat) (h : (abs g c).canErase i = true) : abs { g with op := if g.op = i then -1 else g.op } (c.erased i) = (abs g c).erase i := by
  unfold Ab.erase
  rw [h]
  unfold abs Chp.erased
  simp only [cond_true]
  rw [map_modify' _ _ (fun s => (List.replicate c.pages false, s.2.1 + 1, s.2.2))]
  intro s
  simp [fl, Pg.view]
theorem wrap_small {n : Int} (h0 : 0 ≤ n) (h1 : n < 1000000) : IntKind.i64.wrap (n + 1) = n + 1 := wrap_i64 (by omega) (by omega)
theorem abs_retired (g : Lg) (c : Chp) {i : Nat} (hi : i < c.segs) (h : (abs g c).canErase i = false) (h0 : 0 ≤ iget g.ret i) (h1 : iget g.ret i < 1000000) (cl : Nat) : abs { g with op := if g.op = i then -1 else g.op, ret := iput g.ret i (IntKind.i64.wrap (iget g.ret i + 1)) g.clock, clock := cl } c = (abs g c).erase i := by
  unfold Ab.erase
  rw [h]
  unfold abs
  simp only [cond_false]
  congr 1
  apply List.ext_getElem?
  intro k
  rw [List.getElem?_modify, List.getElem?_map, List.getElem?_map]
  by_cases hk : k < c.segs
  · rw [List.getElem?_range hk]
    simp only [Option.map_some, iget_iput]
    by_cases e : i = k
    · subst e; simp [wrap_small h0 h1]
    · have : ¬ ((k : Int) = i) := by omega
      simp [e, this]
  · simp [List.getElem?_eq_none (l := List.range c.segs) (i := k) (by simpa using hk)]
def newAb (segs pages rated : Nat) (bads : List Int) : Ab := ⟨pages, rated, (List.range segs).map (fun i : Nat => (List.replicate pages false, 0, decide ((i : Int) ∈ bads))), -1, List.replicate segs 0⟩
theorem abs_new {g : Lg} {c : Chp} (hw : c.wf) {segs pages rated : Nat} {bads : List Int} (h : c.fresh segs pages rated bads) (h1 : g.op = -1) (h2 : g.ret = []) : abs g c = newAb segs pages rated bads := by
  have hl : c.l.map (fun s => (fl s.pg, s.wear, s.bad)) = (List.range segs).map (fun i : Nat => (List.replicate pages false, 0, decide ((i : Int) ∈ bads))) := by
    apply List.ext_getElem?
    intro k
    rw [List.getElem?_map, List.getElem?_map]
    by_cases hk : k < segs
    · obtain ⟨s, hs, _⟩ := hw.seg (i := k) (by rw [h.fsegs]; exact hk)
      obtain ⟨e1, e2, e3⟩ := h.feach k s hs
      rw [hs, List.getElem?_range hk]
      simp [e1, e2, e3, fl, Pg.view]
    · rw [List.getElem?_eq_none (l := c.l) (i := k) (by rw [hw.len, h.fsegs]; omega), List.getElem?_eq_none (l := List.range segs) (i := k) (by simpa using hk)]
      rfl
  unfold abs newAb
  rw [hl, h.fpages, h.frated, h1, h2, h.fsegs]
  congr 1
  apply List.ext_getElem
  · simp
  · intro k h3 h4; simp [iget]
/-- a log mounted anew -/
def Ab.mount (a : Ab) : Ab := { a with op := -1, ret := List.replicate a.l.length 0 }
theorem abs_mount {g g' : Lg} {c : Chp} (hw : c.wf) (h1 : g'.op = -1) (h2 : g'.ret = []) : abs g' c = (abs g c).mount := by
  unfold abs Ab.mount
  simp only [h1, h2, List.length_map, hw.len]
  congr 1
  apply List.ext_getElem
  · simp
  · intro k h3 h4; simp [iget]
/-- the open segment is one of the chip's -/
def opOK (g : Lg) (c : Chp) : Prop := g.op = -1 ∨ ∃ i : Nat, g.op = i ∧ i < c.segs
theorem opOK_prog {g : Lg} {c : Chp} {i : Nat} (hi : i < c.segs) (j b : Nat) (t : List UInt8) (pa : Option Addr) (pc lb mb : Nat) (q : UInt64) (ret : List IE) (cl : Nat) : opOK ⟨lb, mb, i, q, ret, cl⟩ (c.prog i j b t pa pc) := .inr ⟨i, rfl, hi⟩
theorem opOK_erase {g : Lg} {c c' : Chp} (h : opOK g c) (hs : c'.segs = c.segs) (i : Nat) (ret : List IE) (cl : Nat) : opOK { g with op := if g.op = i then -1 else g.op, ret := ret, clock := cl } c' := by
  by_cases e : g.op = i
  · left; exact if_pos e
  · unfold opOK
    rw [hs]
    simp only [if_neg e]
    exact h
theorem appSeg_spec {g : Lg} {c : Chp} (hc : c.wf) (ho : opOK g c) {r : Int} {i : Nat} (h : (abs g c).appSeg r = some i) : i < c.segs ∧ ∃ j : Nat, c.next i = j ∧ j < c.pages ∧ c.at i j = none ∧
    ((g.op = i) ∨ ((g.op = -1 ∨ ∃ i0 : Nat, g.op = i0 ∧ i0 < c.segs ∧ c.next i0 = -1) ∧ takeOK g c r = true ∧ i = minF (wearZ c) (freeL g c))) := by
  unfold Ab.appSeg at h
  cases h1 : decide (0 ≤ (abs g c).op) && !decide ((abs g c).next (abs g c).op.toNat = -1) with
  | true =>
    rw [h1] at h
    simp only [cond_true, Option.some.injEq] at h
    subst h
    simp only [Bool.and_eq_true, decide_eq_true_eq, Bool.not_eq_true', decide_eq_false_iff_not, abs_next] at h1
    have e : (abs g c).op = g.op := rfl
    rw [e] at h1 ⊢
    rcases ho with ho | ⟨i, ho, hi⟩
    · omega
    · rw [ho] at h1 ⊢
      simp only [Int.toNat_natCast] at h1 ⊢
      rcases c.next_cases i with h2 | ⟨n, h2⟩
      · exact absurd h2 h1.2
      · obtain ⟨h3, h4⟩ := Chp.next_spec hc hi h2
        exact ⟨hi, n, h2, h3, h4, .inl (by first | rfl | trivial)⟩
  | false =>
    rw [h1] at h
    simp only [cond_false] at h
    cases h2 : (abs g c).takeOK r with
    | false => rw [h2] at h; cases h
    | true =>
      rw [h2] at h
      simp only [cond_true, Option.some.injEq] at h
      rw [abs_minF g hc] at h
      rw [abs_takeOK g hc] at h2
      have hne : freeL g c ≠ [] := by
        intro e
        unfold takeOK at h2
        rw [e] at h2
        have := of_decide_eq_true h2
        simp only [List.length_nil] at this
        split at this <;> omega
      have hm := mem_freeL (minF_mem (wearZ c) hne)
      rw [h] at hm
      have hmany : c.many i = 0 := by
        have := hm.2
        simp only [isFree, Bool.and_eq_true, decide_eq_true_eq] at this
        omega
      have hnx := Chp.next_free hc hm.1 hmany
      obtain ⟨h3, h4⟩ := Chp.next_spec hc hm.1 hnx
      refine ⟨hm.1, 0, hnx, h3, h4, .inr ⟨?_, h2, h.symm⟩⟩
      rcases ho with ho | ⟨i0, ho, hi0⟩
      · exact .inl ho
      · right
        refine ⟨i0, ho, hi0, ?_⟩
        have e : (abs g c).op = g.op := rfl
        rw [abs_next, e, ho] at h1
        simp only [Int.toNat_natCast, Bool.and_eq_false_iff, decide_eq_false_iff_not, Bool.not_eq_false', decide_eq_true_eq] at h1
        rcases h1 with h1 | h1
        · omega
        · exact h1
theorem appSeg_none {g : Lg} {c : Chp} (hc : c.wf) (ho : opOK g c) {r : Int} (h : (abs g c).appSeg r = none) : (g.op = -1 ∨ ∃ i0 : Nat, g.op = i0 ∧ i0 < c.segs ∧ c.next i0 = -1) ∧ takeOK g c r = false := by
  unfold Ab.appSeg at h
  cases h1 : decide (0 ≤ (abs g c).op) && !decide ((abs g c).next (abs g c).op.toNat = -1) with
  | true => rw [h1] at h; simp at h
  | false =>
    rw [h1] at h
    simp only [cond_false] at h
    cases h2 : (abs g c).takeOK r with
    | true => rw [h2] at h; simp at h
    | false =>
      rw [abs_takeOK g hc] at h2
      refine ⟨?_, h2⟩
      rcases ho with ho | ⟨i0, ho, hi0⟩
      · exact .inl ho
      · right
        refine ⟨i0, ho, hi0, ?_⟩
        have e : (abs g c).op = g.op := rfl
        rw [abs_next, e, ho] at h1
        simp only [Int.toNat_natCast, Bool.and_eq_false_iff, decide_eq_false_iff_not, Bool.not_eq_false', decide_eq_true_eq] at h1
        rcases h1 with h1 | h1
        · omega
        · exact h1
end Go.Proofs.YteckdahgkkmlaaaGreatDoor
