/- The proof's own walks of the program's functions, part 2. -/
import Derived.Test.YteckdahgkkmlaaaDoorSLBase
import Derived.Test.YteckdahgkkmlaaaDoorSLSep
import Derived.KernelRfl
import Derived.Test.YteckdahgkkmlaaaDoorSLRng
import Derived.Test.YteckdahgkkmlaaaDoorBag1
section
set_option maxRecDepth 20000
set_option linter.unusedVariables false
set_option linter.unusedSimpArgs false
namespace Go.Proofs.YteckdahgkkmlaaaDoor
open Go SL
variable {G : List (Nat × Obj)}
/-! A chip in memory -/
/-- no power is ever lost -/
@[reducible] def powL : List Value := [.bool false, i64 0, i64 0, .int .u8 0]
/-- a page: not programmed; a string of the chip's own; a string that lies elsewhere for now -/
inductive Pg where
  | no
  | own (b : Nat) (t : List UInt8)
  | out (b : Nat)
def Pg.ptr : Pg → Value
  | .no => .pointer none
  | .own b _ => SL.ptr b 0
  | .out b => SL.ptr b 0
def Pg.view : Pg → Option (List UInt8)
  | .own _ t => some t
  | _ => none
structure Sg where
  pb : Nat
  pg : List Pg
  wear : Nat
  bad : Bool
def Sg.cells (n : Nat) (s : Sg) : List Value := [slc s.pb 0 n n, i64 s.wear, .bool s.bad]
def segCells (n : Nat) : List Sg → List Value
  | [] => []
  | s :: l => slc s.pb 0 n n :: i64 s.wear :: .bool s.bad :: segCells n l
theorem segCells_length (n : Nat) : ∀ l : List Sg, (segCells n l).length = l.length * 3
  | [] => rfl
  | _ :: l => by simp only [segCells, List.length_cons, segCells_length n l]; omega
theorem segCells_append (n : Nat) : ∀ l l' : List Sg, segCells n (l ++ l') = segCells n l ++ segCells n l'
  | [], _ => rfl
  | s :: l, l' => by simp only [List.cons_append, segCells, segCells_append n l l']
theorem seg_get0 {n : Nat} : ∀ {l : List Sg} {i : Nat} {s : Sg}, l[i]? = some s → (segCells n l)[0 + i * 3 + 0]? = some (slc s.pb 0 n n)
  | [], _, _, h => by simp at h
  | _ :: _, 0, _, h => by simp at h; subst h; rfl
  | x :: l, i + 1, s, h => by
    have := seg_get0 (n := n) (l := l) (i := i) (by simpa using h)
    rw [show 0 + (i + 1) * 3 + 0 = (0 + i * 3 + 0) + 3 by omega]; simpa [segCells] using this
theorem seg_get1 {n : Nat} : ∀ {l : List Sg} {i : Nat} {s : Sg}, l[i]? = some s → (segCells n l)[0 + i * 3 + 1]? = some (i64 s.wear)
  | [], _, _, h => by simp at h
  | _ :: _, 0, _, h => by simp at h; subst h; rfl
  | x :: l, i + 1, s, h => by
    have := seg_get1 (n := n) (l := l) (i := i) (by simpa using h)
    rw [show 0 + (i + 1) * 3 + 1 = (0 + i * 3 + 1) + 3 by omega]; simpa [segCells] using this
theorem seg_get2 {n : Nat} : ∀ {l : List Sg} {i : Nat} {s : Sg}, l[i]? = some s → (segCells n l)[0 + i * 3 + 2]? = some (.bool s.bad)
  | [], _, _, h => by simp at h
  | _ :: _, 0, _, h => by simp at h; subst h; rfl
  | x :: l, i + 1, s, h => by
    have := seg_get2 (n := n) (l := l) (i := i) (by simpa using h)
    rw [show 0 + (i + 1) * 3 + 2 = (0 + i * 3 + 2) + 3 by omega]; simpa [segCells] using this
theorem seg_set1 {n : Nat} (w : Nat) (pg : List Pg) : ∀ {l : List Sg} {i : Nat} {s : Sg}, l[i]? = some s → SetAt (segCells n l) (0 + i * 3 + 1) (i64 w) (segCells n (l.set i { s with pg := pg, wear := w }))
  | [], _, _, h => by simp at h
  | _ :: _, 0, _, h => by simp at h; subst h; exact .succ .zero
  | x :: l, i + 1, s, h => by
    have := seg_set1 (n := n) w pg (l := l) (i := i) (by simpa using h)
    rw [show 0 + (i + 1) * 3 + 1 = (0 + i * 3 + 1) + 1 + 1 + 1 by omega]; exact .succ (.succ (.succ this))
/-- what has no bearing on the array's cells -/
theorem segCells_pg {n : Nat} (pg : List Pg) : ∀ {l : List Sg} {i : Nat} {s : Sg}, l[i]? = some s → segCells n (l.set i { s with pg := pg }) = segCells n l
  | [], _, _, h => by simp at h
  | _ :: _, 0, _, h => by simp at h; subst h; rfl
  | x :: l, i + 1, s, h => by
    have := segCells_pg (n := n) pg (l := l) (i := i) (by simpa using h)
    simp only [List.set_cons_succ, segCells, this]

/-- the pages' arrays and strings -/
def pgsR (l : List Sg) : Res where
  fp := fun b => (∃ s ∈ l, s.pb = b) ∨ ∃ s ∈ l, ∃ t, Pg.own b t ∈ s.pg
  holds := fun w => (l.map Sg.pb).Nodup ∧ (∀ s ∈ l, w.heap[s.pb]? = some (.cells (s.pg.map Pg.ptr).toArray 78 (0, 0))) ∧ ∀ s ∈ l, ∀ b t, Pg.own b t ∈ s.pg → w.heap[b]? = some (.cells #[str t] 9 (0, 0))
  loc := fun w w' h hk => ⟨(id h.1 : (l.map Sg.pb).Nodup), fun s hs => (hk _ (.inl ⟨s, hs, rfl⟩)).trans (h.2.1 s hs), fun s hs b t hb => (hk _ (.inr ⟨s, hs, t, hb⟩)).trans (h.2.2 s hs b t hb)⟩
  bnd := fun w b h hb => by
    rcases hb with ⟨s, hs, rfl⟩ | ⟨s, hs, t, ht⟩
    · exact (Array.getElem?_eq_some_iff.1 (h.2.1 s hs)).1
    · exact (Array.getElem?_eq_some_iff.1 (h.2.2 s hs b t ht)).1
theorem pgsR_ne {l : List Sg} {w : World} (h : (pgsR l).holds w) {s : Sg} (hs : s ∈ l) {s' : Sg} (hs' : s' ∈ l) {b : Nat} {t : List UInt8} (hb : Pg.own b t ∈ s'.pg) : b ≠ s.pb := by
  intro e
  have h1 := h.2.1 s hs
  have h2 := h.2.2 s' hs' b t hb
  rw [e, h1] at h2
  injection h2 with h3
  injection h3 with _ h4
  exact absurd h4 (by decide)
theorem pgs_ptr {l : List Sg} {w : World} (h : (pgsR l).holds w) {i j : Nat} {s : Sg} {p : Pg} (hs : l[i]? = some s) (hp : s.pg[j]? = some p) : w.cell? ⟨s.pb, j, none⟩ = some p.ptr := by
  have h1 := h.2.1 s (List.mem_of_getElem? hs)
  simp [World.cell?, h1, hp]
theorem pgs_str {l : List Sg} {w : World} (h : (pgsR l).holds w) {i j : Nat} {s : Sg} {b : Nat} {t : List UInt8} (hs : l[i]? = some s) (hp : s.pg[j]? = some (.own b t)) : w.cell? ⟨b, 0, none⟩ = some (str t) := by
  have h1 := h.2.2 s (List.mem_of_getElem? hs) b t (List.mem_of_getElem? hp)
  simp [World.cell?, h1]
theorem pbs_set {l : List Sg} {i : Nat} {s s' : Sg} (hs : l[i]? = some s) (he : s'.pb = s.pb) : (l.set i s').map Sg.pb = l.map Sg.pb := by
  rw [List.map_set, he]
  apply List.ext_getElem?
  intro k
  rw [List.getElem?_set]
  split
  · rename_i e; subst e
    simp [hs]
    have := (List.getElem?_eq_some_iff.1 hs).1
    exact this
  · rfl
theorem mem_set_ne {l : List Sg} {i : Nat} {s s' x : Sg} (hn : (l.map Sg.pb).Nodup) (hs : l[i]? = some s) (he : s'.pb = s.pb) (hx : x ∈ l.set i s') : x = s' ∨ (x ∈ l ∧ x.pb ≠ s.pb) := by
  obtain ⟨k, hk⟩ := List.getElem?_of_mem hx
  rw [List.getElem?_set] at hk
  split at hk
  · split at hk
    · left; exact (Option.some.inj hk).symm
    · cases hk
  · rename_i hne
    right
    refine ⟨List.mem_of_getElem? hk, fun e => hne ?_⟩
    have h1 : (l.map Sg.pb)[k]? = some s.pb := by simp [hk, e]
    have h2 : (l.map Sg.pb)[i]? = some s.pb := by simp [hs]
    have hki : k < (l.map Sg.pb).length := (List.getElem?_eq_some_iff.1 h1).1
    exact (((List.getElem?_inj hki hn).1 (h1.trans h2.symm))).symm
theorem mem_set_of {l : List Sg} {i : Nat} {s' : Sg} (h : i < l.length) : s' ∈ l.set i s' := by
  exact List.mem_of_getElem? (i := i) (by simp [h])
/-- a segment's pages' array is turned, its strings' blocks are of its own still -/
theorem pgs_turn {l : List Sg} {w w' : World} (h : (pgsR l).holds w) {i : Nat} {s : Sg} (hs : l[i]? = some s) (pg : List Pg) (wear : Nat) (hsub : ∀ b t, Pg.own b t ∈ pg → Pg.own b t ∈ s.pg)
    (hb : w'.heap[s.pb]? = some (.cells (pg.map Pg.ptr).toArray 78 (0, 0))) (ho : ∀ j, j ≠ s.pb → w'.heap[j]? = w.heap[j]?) : (pgsR (l.set i { s with pg := pg, wear := wear })).holds w' := by
  have hm := List.mem_of_getElem? hs
  refine ⟨by rw [pbs_set (s' := { s with pg := pg, wear := wear }) hs rfl]; exact h.1, fun x hx => ?_, fun x hx b t ht => ?_⟩
  · rcases mem_set_ne (s' := { s with pg := pg, wear := wear }) h.1 hs rfl hx with rfl | ⟨hx, hne⟩
    · exact hb
    · rw [ho _ hne]; exact h.2.1 x hx
  · rcases mem_set_ne (s' := { s with pg := pg, wear := wear }) h.1 hs rfl hx with rfl | ⟨hx, hne⟩
    · have h1 := hsub b t ht
      rw [ho _ (pgsR_ne h hm hm h1)]; exact h.2.2 s hm b t h1
    · rw [ho _ (pgsR_ne h hm hx ht)]; exact h.2.2 x hx b t ht
theorem pgs_turn_fp {l : List Sg} {i : Nat} {s : Sg} (hs : l[i]? = some s) (pg : List Pg) (wear : Nat) (hsub : ∀ b t, Pg.own b t ∈ pg → Pg.own b t ∈ s.pg) : ∀ b, (pgsR (l.set i { s with pg := pg, wear := wear })).fp b → (pgsR l).fp b := by
  have hm := List.mem_of_getElem? hs
  rintro b (⟨x, hx, rfl⟩ | ⟨x, hx, t, ht⟩)
  · rcases List.mem_or_eq_of_mem_set hx with hx | rfl
    · exact .inl ⟨x, hx, rfl⟩
    · exact .inl ⟨s, hm, rfl⟩
  · rcases List.mem_or_eq_of_mem_set hx with hx | rfl
    · exact .inr ⟨x, hx, t, ht⟩
    · exact .inr ⟨s, hm, t, hsub b t ht⟩
/-- a pointer is stored in a page -/
theorem pgs_put {l : List Sg} {w : World} (h : (pgsR l).holds w) {i j : Nat} {s : Sg} {p : Pg} (hs : l[i]? = some s) (hp : s.pg[j]? = some p) (sb : Nat) :
    (∃ u, w.cell? ⟨s.pb, j, none⟩ = some u) ∧ w.frozen? ⟨s.pb, j, none⟩ = false ∧ (pgsR (l.set i { s with pg := s.pg.set j (.out sb) })).holds (w.setCell ⟨s.pb, j, none⟩ (ptr sb 0)) := by
  have h1 := h.2.1 s (List.mem_of_getElem? hs)
  refine ⟨⟨_, pgs_ptr h hs hp⟩, by simp [World.frozen?, h1], ?_⟩
  refine pgs_turn (s := s) h hs (s.pg.set j (.out sb)) s.wear (fun b t ht => ?_) ?_ (fun k hk => RowKit.Below.heap_setCell _ _ _ _ hk)
  · rcases List.mem_or_eq_of_mem_set ht with h | h
    · exact h
    · cases h
  · simp only [World.setCell, Array.getElem?_modify, h1]
    simp [List.map_set, Pg.ptr]
theorem pgs_put_fp {l : List Sg} {i j : Nat} {s : Sg} (hs : l[i]? = some s) (sb : Nat) : ∀ b, (pgsR (l.set i { s with pg := s.pg.set j (.out sb) })).fp b → (pgsR l).fp b :=
  pgs_turn_fp hs _ s.wear (fun b t ht => by
    rcases List.mem_or_eq_of_mem_set ht with h | h
    · exact h
    · cases h)
/-- .. and the string becomes the chip's own -/
theorem pgs_own {l : List Sg} {w : World} {i j sb : Nat} {s : Sg} {t : List UInt8} (hs : l[i]? = some s) (hj : j < s.pg.length) (h : (pgsR (l.set i { s with pg := s.pg.set j (.out sb) })).holds w) (hb : (row sb [str t] 9 (0, 0)).holds w) :
    (pgsR (l.set i { s with pg := s.pg.set j (.own sb t) })).holds w := by
  have hil := (List.getElem?_eq_some_iff.1 hs).1
  obtain ⟨h1, h2, h3⟩ := h
  refine ⟨by rw [pbs_set (s' := { s with pg := s.pg.set j (.own sb t) }) hs rfl]; rw [pbs_set (s' := { s with pg := s.pg.set j (.out sb) }) hs rfl] at h1; exact h1, fun x hx => ?_, fun x hx b t' ht => ?_⟩
  · rw [pbs_set (s' := { s with pg := s.pg.set j (.out sb) }) hs rfl] at h1
    rcases mem_set_ne (s' := { s with pg := s.pg.set j (.own sb t) }) h1 hs rfl hx with rfl | ⟨hx, hne⟩
    · have := h2 _ (mem_set_of hil)
      simp only [List.map_set] at this ⊢
      exact this
    · exact h2 x (by
        obtain ⟨k, hk⟩ := List.getElem?_of_mem hx
        refine List.mem_of_getElem? (i := k) ?_
        rw [List.getElem?_set]
        split
        · rename_i e; subst e; rw [hs] at hk; cases hk; exact absurd rfl hne
        · exact hk)
  · rw [pbs_set (s' := { s with pg := s.pg.set j (.out sb) }) hs rfl] at h1
    rcases mem_set_ne (s' := { s with pg := s.pg.set j (.own sb t) }) h1 hs rfl hx with rfl | ⟨hx, hne⟩
    · obtain ⟨k, hk⟩ := List.getElem?_of_mem ht
      rw [List.getElem?_set] at hk
      split at hk
      · cases hk; exact hb
      · rename_i e
        exact h3 _ (mem_set_of hil) b t' (List.mem_of_getElem? (i := k) (by rw [List.getElem?_set, if_neg e]; exact hk))
    · exact h3 x (by
        obtain ⟨k, hk⟩ := List.getElem?_of_mem hx
        refine List.mem_of_getElem? (i := k) ?_
        rw [List.getElem?_set]
        split
        · rename_i e; subst e; rw [hs] at hk; cases hk; exact absurd rfl hne
        · exact hk) b t' ht
theorem pgs_own_fp {l : List Sg} {i j sb : Nat} {s : Sg} {t : List UInt8} (hs : l[i]? = some s) : ∀ b, (pgsR (l.set i { s with pg := s.pg.set j (.own sb t) })).fp b → (pgsR (l.set i { s with pg := s.pg.set j (.out sb) })).fp b ∨ (row sb [str t] 9 (0, 0)).fp b := by
  have hil := (List.getElem?_eq_some_iff.1 hs).1
  rintro b (⟨x, hx, rfl⟩ | ⟨x, hx, t', ht⟩)
  · obtain ⟨k, hk⟩ := List.getElem?_of_mem hx
    rw [List.getElem?_set] at hk
    split at hk
    · cases hk; exact .inl (.inl ⟨_, mem_set_of hil, rfl⟩)
    · rename_i e
      exact .inl (.inl ⟨x, List.mem_of_getElem? (i := k) (by rw [List.getElem?_set, if_neg e]; exact hk), rfl⟩)
  · obtain ⟨k, hk⟩ := List.getElem?_of_mem hx
    rw [List.getElem?_set] at hk
    split at hk
    · cases hk
      obtain ⟨q, hq⟩ := List.getElem?_of_mem ht
      rw [List.getElem?_set] at hq
      split at hq
      · split at hq
        · cases hq; exact .inr rfl
        · cases hq
      · rename_i e
        exact .inl (.inr ⟨_, mem_set_of hil, t', List.mem_of_getElem? (i := q) (by rw [List.getElem?_set, if_neg e]; exact hq)⟩)
    · rename_i e
      exact .inl (.inr ⟨x, List.mem_of_getElem? (i := k) (by rw [List.getElem?_set, if_neg e]; exact hk), t', ht⟩)
/-- all pages of a segment are cleared -/
theorem pgs_clear {l : List Sg} {i : Nat} {s : Sg} (hs : l[i]? = some s) (n wr : Nat) : ∀ w, (pgsR l).holds w → w.heap[s.pb]? = some (.cells (s.pg.map Pg.ptr).toArray 78 (0, 0)) ∧ ∀ w', w'.heap[s.pb]? = some (.cells (List.replicate n (Value.pointer none)).toArray 78 (0, 0)) → (∀ j, j ≠ s.pb → w'.heap[j]? = w.heap[j]?) → (pgsR (l.set i { s with pg := List.replicate n .no, wear := wr })).holds w' := by
  intro w hw
  refine ⟨hw.2.1 s (List.mem_of_getElem? hs), fun w' h1 h2 => ?_⟩
  refine pgs_turn (s := s) hw hs (List.replicate n .no) wr (fun b t ht => by have := List.eq_of_mem_replicate ht; cases this) ?_ h2
  rw [List.map_replicate]; exact h1
theorem pgs_clear_fp {l : List Sg} {i : Nat} {s : Sg} (hs : l[i]? = some s) (n wr : Nat) : ∀ b, (pgsR (l.set i { s with pg := List.replicate n .no, wear := wr })).fp b → (pgsR l).fp b :=
  pgs_turn_fp hs _ wr (fun b t ht => by have := List.eq_of_mem_replicate ht; cases this)
theorem pgs_fp {l : List Sg} {i : Nat} {s : Sg} (hs : l[i]? = some s) : (pgsR l).fp s.pb := .inl ⟨s, List.mem_of_getElem? hs, rfl⟩
/-- one more segment -/
theorem pgs_more {l : List Sg} {n pb : Nat} (wear : Nat) (bad : Bool) (w : World) (h1 : (pgsR l).holds w) (h2 : (ownS (some ⟨pb, 0, none⟩) n (List.replicate n (Value.pointer none)) 78 1).holds w) (ha : Res.apart (pgsR l) (ownS (some ⟨pb, 0, none⟩) n (List.replicate n (Value.pointer none)) 78 1)) :
    (pgsR (l ++ [⟨pb, List.replicate n .no, wear, bad⟩])).holds w := by
  obtain ⟨_, _, _, cur, h4, h5, h6⟩ := h2
  have h4' : w.heap[pb]? = some (.cells cur 78 (0, 0)) := h4
  have hcur : cur = (List.replicate n (Value.pointer none)).toArray := by
    have hl : cur.toList.length = n := by simpa using h5
    rw [List.length_replicate, List.take_of_length_le (by omega)] at h6
    rw [← h6]
  refine ⟨?_, fun x hx => ?_, fun x hx b t ht => ?_⟩
  · rw [List.map_append, List.map_cons, List.map_nil]
    refine List.nodup_append.2 ⟨h1.1, by simp, fun a ha' b hb => ?_⟩
    rcases List.mem_map.1 ha' with ⟨s, hs, rfl⟩
    rw [List.mem_singleton.1 hb]
    intro e
    exact ha pb (.inl ⟨s, hs, e⟩) ⟨_, rfl, rfl⟩
  · rcases List.mem_append.1 hx with hx | hx
    · exact h1.2.1 x hx
    · rw [List.mem_singleton.1 hx, h4', hcur, List.map_replicate]; rfl
  · rcases List.mem_append.1 hx with hx | hx
    · exact h1.2.2 x hx b t ht
    · rw [List.mem_singleton.1 hx] at ht
      have := List.eq_of_mem_replicate ht; cases this
theorem pgs_more_fp {l : List Sg} {n pb : Nat} (wear : Nat) (bad : Bool) : ∀ b, (pgsR (l ++ [⟨pb, List.replicate n .no, wear, bad⟩])).fp b → (pgsR l).fp b ∨ (ownS (some ⟨pb, 0, none⟩) n (List.replicate n (Value.pointer none)) 78 1).fp b := by
  rintro b (⟨x, hx, rfl⟩ | ⟨x, hx, t, ht⟩)
  · rcases List.mem_append.1 hx with hx | hx
    · exact .inl (.inl ⟨x, hx, rfl⟩)
    · rw [List.mem_singleton.1 hx]; exact .inr ⟨_, rfl, rfl⟩
  · rcases List.mem_append.1 hx with hx | hx
    · exact .inl (.inr ⟨x, hx, t, ht⟩)
    · rw [List.mem_singleton.1 hx] at ht
      have := List.eq_of_mem_replicate ht; cases this
/-- of no segments yet -/
theorem At.pgs0 {c : Cx} {m : List (Nat × Value)} {rs : List Res} {K : Act → World → Prop} (h : At c m (pgsR [] :: rs) K) : At c m rs K := by
  intro a w hs hh
  refine h a w hs ⟨hh.upd, ⟨hh.good.glob, ?_, ?_, List.pairwise_cons.2 ⟨?_, hh.good.disj⟩⟩, ?_⟩
  · intro r hr b hb
    rcases List.mem_cons.1 hr with rfl | hr
    · rcases hb with ⟨_, h, _⟩ | ⟨_, h, _⟩ <;> cases h
    · exact hh.good.gfp r hr b hb
  · intro r hr
    rcases List.mem_cons.1 hr with rfl | hr
    · exact ⟨List.nodup_nil, by simp, by simp⟩
    · exact hh.good.holds r hr
  · intro r _ b hb; rcases hb with ⟨_, h, _⟩ | ⟨_, h, _⟩ <;> cases h
  · intro r hr b hb
    rcases List.mem_cons.1 hr with rfl | hr
    · rcases hb with ⟨_, h, _⟩ | ⟨_, h, _⟩ <;> cases h
    · exact hh.fresh r hr b hb
theorem row_cell {w : World} {b : Nat} {cs : List Value} {T : TypeId} {fr : Nat × Nat} (h : (row b cs T fr).holds w) {off : Nat} : w.cell? ⟨b, off, none⟩ = cs[off]? := by
  have hb : w.heap[b]? = some (.cells cs.toArray T fr) := h
  simp [World.cell?, hb]
/-- a slice's own array as a row -/
theorem own_row {b n sz : Nat} {cs : List Value} {E : TypeId} (hl : cs.length = n * sz) (w : World) (h : (ownS (some ⟨b, 0, none⟩) n cs E sz).holds w) : (row b cs E (0, 0)).holds w := by
  obtain ⟨_, _, _, cur, h4, h5, h6⟩ := h
  have h4' : w.heap[b]? = some (.cells cur E (0, 0)) := h4
  have : cur = cs.toArray := by
    rw [List.take_of_length_le (by simp [h5, hl])] at h6
    rw [← h6]
  show w.heap[b]? = _
  rw [h4', this]

/-- a chip -/
structure Chp where
  cb : Nat
  pw : Nat
  lb : Nat
  segs : Nat
  pages : Nat
  rated : Nat
  l : List Sg
  pa : Option Addr
  pc : Nat
  past : List (List UInt8)
  pr : Int
  er : Int
@[reducible] def Chp.row0 (c : Chp) : List Value := [i64 c.segs, i64 c.pages, ptr c.pw 0, i64 c.rated, slc c.lb 0 c.segs c.segs, .slice c.pa c.past.length c.pc, i64 c.pr, i64 c.er]
@[reducible] def Chp.rows (c : Chp) : List Res := [row c.cb c.row0 46 (0, 0), row c.pw powL 57 (0, 0), row c.lb (segCells c.pages c.l) 49 (0, 0), pgsR c.l, ownS c.pa c.pc (c.past.map str) 9 1]
def chipR (c : Chp) : Res := sep c.rows
def Chp.at (c : Chp) (i j : Nat) : Option (List UInt8) := (c.l[i]?).bind fun s => (s.pg[j]?).bind Pg.view
structure Chp.wf (c : Chp) : Prop where
  len : c.l.length = c.segs
  pgs : ∀ s ∈ c.l, s.pg.length = c.pages ∧ s.wear < 1000000 ∧ ∀ b, Pg.out b ∉ s.pg
  segs1 : 1 ≤ c.segs ∧ c.segs ≤ 64
  pages1 : 1 ≤ c.pages ∧ c.pages ≤ 16
  rated1 : c.rated < 1000000
  strs : ∀ (i j : Nat) (t : List UInt8), c.at i j = some t → t.length ≤ 256
theorem Chp.wf.seg {c : Chp} (h : c.wf) {i : Nat} (hi : i < c.segs) : ∃ s, c.l[i]? = some s ∧ s.pg.length = c.pages ∧ s.wear < 1000000 ∧ ∀ b, Pg.out b ∉ s.pg := by
  have hl : i < c.l.length := by rw [h.len]; exact hi
  exact ⟨c.l[i], List.getElem?_eq_getElem hl, h.pgs _ (List.getElem_mem hl)⟩
theorem Chp.wf.page {c : Chp} (h : c.wf) {i j : Nat} (hi : i < c.segs) (hj : j < c.pages) : ∃ s p, c.l[i]? = some s ∧ s.pg[j]? = some p ∧ s.pg.length = c.pages ∧ ∀ b, p ≠ .out b := by
  obtain ⟨s, h1, h2, h3, h4⟩ := h.seg hi
  have hj' : j < s.pg.length := by omega
  exact ⟨s, s.pg[j], h1, List.getElem?_eq_getElem hj', h2, fun b e => h4 b (by rw [← e]; exact List.getElem_mem hj')⟩
theorem At.chip {cx : Cx} {m : List (Nat × Value)} {rs k : List Res} {K : Act → World → Prop} {c : Chp} (hp : Pull (chipR c) rs k)
    (h : At cx m (row c.cb c.row0 46 (0, 0) :: row c.pw powL 57 (0, 0) :: row c.lb (segCells c.pages c.l) 49 (0, 0) :: pgsR c.l :: ownS c.pa c.pc (c.past.map str) 9 1 :: k) K) : At cx m rs K :=
  At.open (l := c.rows) hp h
theorem At.unchip {cx : Cx} {m : List (Nat × Value)} {rs k : List Res} {K : Act → World → Prop} (c : Chp) (hp : Cut c.rows rs k) (h : At cx m (chipR c :: k) K) : At cx m rs K := At.close c.rows hp h
def readV : Option (List UInt8) → Value
  | none => .tuple #[str [], .bool false, i64 0]
  | some t => .tuple #[str t, .bool true, i64 0]
theorem Chp.at_eq {c : Chp} {i j : Nat} {s : Sg} {p : Pg} (hs : c.l[i]? = some s) (hp : s.pg[j]? = some p) : c.at i j = p.view := by simp [Chp.at, hs, hp]
def Chp.wearAt (c : Chp) (i : Nat) : Nat := (c.l[i]?.map (·.wear)).getD 0
/-- a page is programmed -/
def Chp.prog (c : Chp) (i j b : Nat) (t : List UInt8) (pa : Option Addr) (pc : Nat) : Chp :=
  { c with l := c.l.modify i (fun s => { s with pg := s.pg.set j (.own b t) }), past := c.past ++ [t], pa := pa, pc := pc, pr := IntKind.i64.wrap (c.pr + 1) }
/-- a segment is erased -/
def Chp.erased (c : Chp) (i : Nat) : Chp :=
  { c with l := c.l.modify i (fun s => { s with pg := List.replicate c.pages .no, wear := s.wear + 1 }), er := IntKind.i64.wrap (c.er + 1) }
theorem modify_eq {l : List Sg} {i : Nat} {s : Sg} (f : Sg → Sg) (h : l[i]? = some s) : l.modify i f = l.set i (f s) := by
  apply List.ext_getElem?
  intro k
  rw [List.getElem?_modify, List.getElem?_set]
  have hi := (List.getElem?_eq_some_iff.1 h).1
  by_cases e : i = k
  · subst e; simp [h, hi, (List.getElem?_eq_some_iff.1 h).2]
  · simp [e]
structure Chp.fresh (c : Chp) (segs pages rated : Nat) (bads : List Int) : Prop where
  fsegs : c.segs = segs
  fpages : c.pages = pages
  frated : c.rated = rated
  fpast : c.past = []
  feach : ∀ (i : Nat) (s : Sg), c.l[i]? = some s → s.pg = List.replicate pages Pg.no ∧ s.wear = 0 ∧ s.bad = decide ((i : Int) ∈ bads)
theorem Chp.at_prog {c : Chp} (h : c.wf) {i j : Nat} (hi : i < c.segs) (hj : j < c.pages) (b : Nat) (t : List UInt8) (pa : Option Addr) (pc i' j' : Nat) : (c.prog i j b t pa pc).at i' j' = if i' = i ∧ j' = j then some t else c.at i' j' := by
  obtain ⟨s, h1, h2, _, _⟩ := h.seg hi
  unfold Chp.at Chp.prog
  simp only [modify_eq _ h1, List.getElem?_set]
  by_cases e : i = i'
  · subst e
    have hil := (List.getElem?_eq_some_iff.1 h1).1
    simp only [if_true, hil, h1, Option.bind_some, List.getElem?_set]
    by_cases e2 : j = j'
    · subst e2
      have hj' : j < s.pg.length := by omega
      simp [hj', Pg.view]
    · rw [if_neg e2, if_neg (fun hh => e2 hh.2.symm)]
  · rw [if_neg e, if_neg (fun hh => e hh.1.symm)]
theorem Chp.at_erased {c : Chp} (i i' j' : Nat) : (c.erased i).at i' j' = if i' = i then none else c.at i' j' := by
  unfold Chp.at Chp.erased
  simp only [List.getElem?_modify]
  cases hx : c.l[i']? with
  | none => simp
  | some x =>
    by_cases e : i = i'
    · subst e
      simp only [if_true, Option.map_eq_map, Option.map_some, Option.bind_some, List.getElem?_replicate]
      by_cases e2 : j' < c.pages <;> simp [e2, Pg.view]
    · rw [if_neg (fun hh => e hh.symm)]; simp [e]
def Chp.badAt (c : Chp) (i : Nat) : Bool := (c.l[i]?.map (·.bad)).getD false
theorem Chp.wear_prog {c : Chp} (i j b : Nat) (t : List UInt8) (pa : Option Addr) (pc i' : Nat) : (c.prog i j b t pa pc).wearAt i' = c.wearAt i' := by
  unfold Chp.wearAt Chp.prog
  simp only [List.getElem?_modify]
  cases c.l[i']? with
  | none => simp
  | some x => by_cases e : i = i' <;> simp [e]
theorem Chp.bad_prog {c : Chp} (i j b : Nat) (t : List UInt8) (pa : Option Addr) (pc i' : Nat) : (c.prog i j b t pa pc).badAt i' = c.badAt i' := by
  unfold Chp.badAt Chp.prog
  simp only [List.getElem?_modify]
  cases c.l[i']? with
  | none => simp
  | some x => by_cases e : i = i' <;> simp [e]
theorem Chp.wear_erased {c : Chp} (h : c.wf) {i : Nat} (hi : i < c.segs) (i' : Nat) : (c.erased i).wearAt i' = if i' = i then c.wearAt i + 1 else c.wearAt i' := by
  obtain ⟨s, h1, _⟩ := h.seg hi
  unfold Chp.wearAt Chp.erased
  simp only [List.getElem?_modify]
  by_cases e : i = i'
  · subst e; simp [h1]
  · rw [if_neg (fun hh => e hh.symm)]
    cases c.l[i']? <;> simp [e]
theorem Chp.bad_erased {c : Chp} (i i' : Nat) : (c.erased i).badAt i' = c.badAt i' := by
  unfold Chp.badAt Chp.erased
  simp only [List.getElem?_modify]
  cases c.l[i']? with
  | none => simp
  | some x => by_cases e : i = i' <;> simp [e]
theorem Chp.at_fresh {c : Chp} {segs pages rated : Nat} {bads : List Int} (h : c.fresh segs pages rated bads) (i j : Nat) : c.at i j = none := by
  unfold Chp.at
  cases hx : c.l[i]? with
  | none => rfl
  | some s =>
    rw [Option.bind_some, (h.feach i s hx).1, List.getElem?_replicate]
    by_cases e : j < pages <;> simp [e, Pg.view]
theorem Chp.wear_fresh {c : Chp} {segs pages rated : Nat} {bads : List Int} (h : c.fresh segs pages rated bads) (i : Nat) : c.wearAt i = 0 := by
  unfold Chp.wearAt
  cases hx : c.l[i]? with
  | none => rfl
  | some s => simpa using (h.feach i s hx).2.1
theorem Chp.bad_fresh {c : Chp} (hw : c.wf) {segs pages rated : Nat} {bads : List Int} (h : c.fresh segs pages rated bads) {i : Nat} (hi : i < segs) : c.badAt i = decide ((i : Int) ∈ bads) := by
  obtain ⟨s, hs, _⟩ := hw.seg (i := i) (by rw [h.fsegs]; exact hi)
  unfold Chp.badAt
  rw [hs]; simpa using (h.feach i s hs).2.2
theorem Chp.wf.prog {c : Chp} (h : c.wf) {i j : Nat} (hi : i < c.segs) (hj : j < c.pages) (b : Nat) (t : List UInt8) (ht : t.length ≤ 256) (pa : Option Addr) (pc : Nat) : (c.prog i j b t pa pc).wf := by
  refine ⟨by simp [Chp.prog, h.len], fun s hs => ?_, h.segs1, h.pages1, h.rated1, fun i' j' t' ht' => by
    rw [Chp.at_prog h hi hj] at ht'
    split at ht'
    · cases ht'; exact ht
    · exact h.strs _ _ _ ht'⟩
  obtain ⟨k, hk⟩ := List.getElem?_of_mem hs
  simp only [Chp.prog, List.getElem?_modify] at hk
  cases hx : c.l[k]? with
  | none => rw [hx] at hk; simp at hk
  | some x =>
    rw [hx] at hk
    obtain ⟨h1, h2, h3⟩ := h.pgs x (List.mem_of_getElem? hx)
    by_cases e : i = k
    · simp only [e, if_true, Option.map_eq_map, Option.map_some, Option.some.injEq] at hk
      subst hk
      refine ⟨by simp [h1, Chp.prog], h2, fun b' hb' => ?_⟩
      rcases List.mem_or_eq_of_mem_set hb' with h4 | h4
      · exact h3 b' h4
      · cases h4
    · simp only [e, if_false, Option.map_eq_map, Option.map_some, id, Option.some.injEq] at hk
      subst hk; exact ⟨h1, h2, h3⟩
theorem Chp.wf.erased {c : Chp} (h : c.wf) (i : Nat) (hw : c.wearAt i < c.rated) : (c.erased i).wf := by
  refine ⟨by simp [Chp.erased, h.len], fun s hs => ?_, h.segs1, h.pages1, h.rated1, fun i' j' t' ht' => by
    rw [Chp.at_erased] at ht'
    split at ht'
    · cases ht'
    · exact h.strs _ _ _ ht'⟩
  obtain ⟨k, hk⟩ := List.getElem?_of_mem hs
  simp only [Chp.erased, List.getElem?_modify] at hk
  cases hx : c.l[k]? with
  | none => rw [hx] at hk; simp at hk
  | some x =>
    rw [hx] at hk
    obtain ⟨h1, h2, h3⟩ := h.pgs x (List.mem_of_getElem? hx)
    by_cases e : i = k
    · subst e
      simp only [if_true, Option.map_eq_map, Option.map_some, Option.some.injEq] at hk
      subst hk
      have : x.wear < c.rated := by simpa [Chp.wearAt, hx] using hw
      have hr := h.rated1
      exact ⟨by simp [Chp.erased], by show x.wear + 1 < _; omega, fun b hb => by have := List.eq_of_mem_replicate hb; cases this⟩
    · simp only [e, if_false, Option.map_eq_map, Option.map_some, id, Option.some.injEq] at hk
      subst hk; exact ⟨h1, h2, h3⟩
/-- segments not made yet -/
def zeroSegs : Nat → List Value
  | 0 => []
  | n + 1 => nilS :: i64 0 :: .bool false :: zeroSegs n
theorem zeroSegs_get : ∀ (n i : Nat), i < n * 3 → (zeroSegs n)[i]? = some (#[nilS, i64 0, Value.bool false][i % 3]!)
  | 0, i, h => by omega
  | n + 1, 0, _ => rfl
  | n + 1, 1, _ => rfl
  | n + 1, 2, _ => rfl
  | n + 1, i + 3, h => by
    have := zeroSegs_get n i (by omega)
    rw [show (i + 3) % 3 = i % 3 by omega, ← this]; rfl
theorem zeroSegs_length : ∀ n : Nat, (zeroSegs n).length = n * 3
  | 0 => rfl
  | n + 1 => by simp only [zeroSegs, List.length_cons, zeroSegs_length n]; omega
theorem made_segs (n : Nat) : (madeCells (Value.agg [nilS, i64 0, Value.bool false].toArray).cells (n * 3)).toList = zeroSegs n := by
  apply List.ext_getElem?
  intro i
  rcases Nat.lt_or_ge i (n * 3) with h | h
  · rw [zeroSegs_get n i h]
    simp [madeCells, Value.cells, h]
  · rw [List.getElem?_eq_none (by simpa [madeCells] using h), List.getElem?_eq_none (by rw [zeroSegs_length]; exact h)]
theorem made_nil (n : Nat) : (madeCells (Value.pointer none).cells (n * 1)).toList = List.replicate n (Value.pointer none) := by
  apply List.ext_getElem
  · simp [madeCells]
  · intro i h1 h2
    simp [madeCells, Value.cells, Nat.mod_one]
theorem zset0 {n k : Nat} (v : Value) : ∀ {l : List Sg} {i : Nat}, l.length = i → SetAt (segCells n l ++ zeroSegs (k + 1)) (0 + i * 3 + 0) v (segCells n l ++ (v :: i64 0 :: .bool false :: zeroSegs k))
  | [], _, h => by subst h; exact .zero
  | x :: l, _, h => by
    subst h
    have := zset0 (n := n) (k := k) v (l := l) rfl
    rw [List.length_cons, show 0 + (l.length + 1) * 3 + 0 = (0 + l.length * 3 + 0) + 1 + 1 + 1 by omega]
    exact .succ (.succ (.succ this))
theorem zset2 {n k : Nat} (u v : Value) : ∀ {l : List Sg} {i : Nat}, l.length = i → SetAt (segCells n l ++ (u :: i64 0 :: .bool false :: zeroSegs k)) (0 + i * 3 + 2) v (segCells n l ++ (u :: i64 0 :: v :: zeroSegs k))
  | [], _, h => by subst h; exact .succ (.succ .zero)
  | x :: l, _, h => by
    subst h
    have := zset2 (n := n) (k := k) u v (l := l) rfl
    rw [List.length_cons, show 0 + (l.length + 1) * 3 + 2 = (0 + l.length * 3 + 2) + 1 + 1 + 1 by omega]
    exact .succ (.succ (.succ this))
/-- new segments -/
def newSegs (n : Nat) (bads : List Int) : Nat → List Nat → List Sg
  | _, [] => []
  | i, b :: l => ⟨b, List.replicate n .no, 0, decide ((i : Int) ∈ bads)⟩ :: newSegs n bads (i + 1) l
theorem newSegs_length (n : Nat) (bads : List Int) : ∀ (l : List Nat) (i : Nat), (newSegs n bads i l).length = l.length
  | [], _ => rfl
  | _ :: l, i => by simp [newSegs, newSegs_length n bads l]
theorem newSegs_snoc (n : Nat) (bads : List Int) (b : Nat) : ∀ (l : List Nat) (i : Nat), newSegs n bads i (l ++ [b]) = newSegs n bads i l ++ [⟨b, List.replicate n .no, 0, decide (((i + l.length : Nat) : Int) ∈ bads)⟩]
  | [], i => rfl
  | x :: l, i => by
    simp only [List.cons_append, newSegs, newSegs_snoc n bads b l (i + 1), List.length_cons]
    rw [show i + 1 + l.length = i + (l.length + 1) by omega]
theorem newSegs_get (n : Nat) (bads : List Int) : ∀ (l : List Nat) (i k : Nat) (s : Sg), (newSegs n bads i l)[k]? = some s → s.pg = List.replicate n .no ∧ s.wear = 0 ∧ s.bad = decide (((i + k : Nat) : Int) ∈ bads)
  | [], _, _, _, h => by simp [newSegs] at h
  | x :: l, i, 0, s, h => by
    simp only [newSegs, List.getElem?_cons_zero, Option.some.injEq] at h
    subst h; exact ⟨rfl, rfl, rfl⟩
  | x :: l, i, k + 1, s, h => by
    have := newSegs_get n bads l (i + 1) k s (by simpa [newSegs] using h)
    rw [show i + (k + 1) = i + 1 + k by omega]; exact this
theorem Chp.prog_rows {c : Chp} {i : Nat} {s : Sg} (hs : c.l[i]? = some s) (j b : Nat) (t : List UInt8) (pa : Option Addr) (pc : Nat) : (c.prog i j b t pa pc).rows =
    [row c.cb [i64 c.segs, i64 c.pages, ptr c.pw 0, i64 c.rated, slc c.lb 0 c.segs c.segs, .slice pa (c.past.length + 1) pc, i64 (IntKind.i64.wrap (c.pr + 1)), i64 c.er] 46 (0, 0), row c.pw powL 57 (0, 0), row c.lb (segCells c.pages c.l) 49 (0, 0), pgsR (c.l.set i { s with pg := s.pg.set j (.own b t) }), ownS pa pc (c.past.map str ++ [str t]) 9 1] := by
  unfold Chp.rows Chp.row0 Chp.prog
  rw [modify_eq _ hs]
  simp only [List.length_append, List.length_cons, List.length_nil, List.map_append, List.map_cons, List.map_nil, segCells_pg _ hs]
theorem Chp.erased_rows {c : Chp} {i : Nat} {s : Sg} (hs : c.l[i]? = some s) : (c.erased i).rows =
    [row c.cb [i64 c.segs, i64 c.pages, ptr c.pw 0, i64 c.rated, slc c.lb 0 c.segs c.segs, .slice c.pa c.past.length c.pc, i64 c.pr, i64 (IntKind.i64.wrap (c.er + 1))] 46 (0, 0), row c.pw powL 57 (0, 0), row c.lb (segCells c.pages (c.l.set i { s with pg := List.replicate c.pages .no, wear := s.wear + 1 })) 49 (0, 0), pgsR (c.l.set i { s with pg := List.replicate c.pages .no, wear := s.wear + 1 }), ownS c.pa c.pc (c.past.map str) 9 1] := by
  unfold Chp.rows Chp.row0 Chp.erased
  rw [modify_eq _ hs]
def padS (t : List UInt8) : List UInt8 := t ++ List.replicate (256 - t.length) 0
theorem Chp.free_page {c : Chp} (h : c.wf) {i j : Nat} (hi : i < c.segs) (hj : j < c.pages) (hf : c.at i j = none) : ∃ s, c.l[i]? = some s ∧ s.pg[j]? = some .no ∧ s.pg.length = c.pages := by
  obtain ⟨s, p, h1, h2, h3, h4⟩ := h.page hi hj
  rw [Chp.at_eq h1 h2] at hf
  rcases p with _ | ⟨b, t⟩ | b
  · exact ⟨s, h1, h2, h3⟩
  · cases hf
  · exact absurd rfl (h4 b)
theorem mapi_get {l : List Int} {k : Nat} {y : Int} (h : l[k]? = some y) : (l.map i64)[0 + ((k : Int)).toNat * 1]? = some (i64 y) := by simp [h]
theorem newChp_fresh {cb pw lb segs pages rated : Nat} {bads : List Int} {pbs : List Nat} : (Chp.mk cb pw lb segs pages rated (newSegs pages bads 0 pbs) none 0 [] 0 0).fresh segs pages rated bads :=
  ⟨rfl, rfl, rfl, rfl, fun i s hs => by have := newSegs_get _ _ _ _ _ _ hs; simpa using this⟩
theorem newChp_wf {cb pw lb segs pages rated : Nat} {bads : List Int} {pbs : List Nat} (h1 : 1 ≤ segs ∧ segs ≤ 64) (h2 : 1 ≤ pages ∧ pages ≤ 16) (h3 : rated < 1000000) (hk : pbs.length = segs) : (Chp.mk cb pw lb segs pages rated (newSegs pages bads 0 pbs) none 0 [] 0 0).wf := by
  refine ⟨by rw [newSegs_length]; exact hk, fun s hs => ?_, h1, h2, h3, fun i j t ht => by rw [Chp.at_fresh newChp_fresh] at ht; cases ht⟩
  obtain ⟨k, hk⟩ := List.getElem?_of_mem hs
  obtain ⟨e1, e2, _⟩ := newSegs_get _ _ _ _ _ _ hk
  rw [e1, e2]
  exact ⟨by simp, by decide, fun b hb => by have := List.eq_of_mem_replicate hb; cases this⟩
end Go.Proofs.YteckdahgkkmlaaaDoor
end

section
set_option maxRecDepth 20000
set_option linter.unusedVariables false
set_option linter.unusedSimpArgs false
namespace Go.Proofs.YteckdahgkkmlaaaDoor
open Go SL
variable {G : List (Nat × Obj)}
theorem size_Segs (a b : Int) : Does Tryd.prog G 42 [.agg #[i64 a, i64 b]] [] (One (i64 a)) := by
  refine Does.of Tryd.func42 rfl Tryd.ntmps42 rfl (fun w0 => ?_)
  refine At.keep [(0, _)] (.cons rfl .nil) ?_
  refine At.seq ?_
  refine At.region ?_
  refine At.op rfl (op_box rfl rfl rfl ?_)
  intro b1
  refine At.op rfl (op_assign rfl rfl ?_)
  refine At.nil ?_
  refine At.then_n ?_
  refine At.seq ?_
  refine At.region ?_
  refine At.op rfl (op_fieldAddr (o' := 0) rfl Tryd.underlying42 rfl Tryd.sizeOf3 rfl rfl ?_)
  refine At.op rfl (op_load rfl Tryd.isAgg3 (by first | with_reducible exact Pull.p0 | with_reducible exact Pull.p1 | with_reducible exact Pull.p2 | with_reducible exact Pull.p3 | with_reducible exact Pull.p4 | with_reducible exact Pull.p5 | with_reducible exact Pull.p6 | with_reducible exact Pull.p7 | with_reducible exact Pull.p8 | with_reducible exact Pull.p9) rfl rfl ?_)
  refine At.op rfl (op_assign rfl rfl ?_)
  refine At.nil ?_
  refine At.then_n ?_
  refine At.ret ?_
  exact At.fin1 rfl rfl rfl ⟨rfl, rfl⟩ .nil
theorem size_Pages (a b : Int) : Does Tryd.prog G 17 [.agg #[i64 a, i64 b]] [] (One (i64 b)) := by
  refine Does.of Tryd.func17 rfl Tryd.ntmps17 rfl (fun w0 => ?_)
  refine At.keep [(0, _)] (.cons rfl .nil) ?_
  refine At.seq ?_
  refine At.region ?_
  refine At.op rfl (op_box rfl rfl rfl ?_)
  intro b1
  refine At.op rfl (op_assign rfl rfl ?_)
  refine At.nil ?_
  refine At.then_n ?_
  refine At.seq ?_
  refine At.region ?_
  refine At.op rfl (op_fieldAddr (o' := 1) rfl Tryd.underlying42 rfl Tryd.sizeOf3 rfl rfl ?_)
  refine At.op rfl (op_load rfl Tryd.isAgg3 (by first | with_reducible exact Pull.p0 | with_reducible exact Pull.p1 | with_reducible exact Pull.p2 | with_reducible exact Pull.p3 | with_reducible exact Pull.p4 | with_reducible exact Pull.p5 | with_reducible exact Pull.p6 | with_reducible exact Pull.p7 | with_reducible exact Pull.p8 | with_reducible exact Pull.p9) rfl rfl ?_)
  refine At.op rfl (op_assign rfl rfl ?_)
  refine At.nil ?_
  refine At.then_n ?_
  refine At.ret ?_
  exact At.fin1 rfl rfl rfl ⟨rfl, rfl⟩ .nil
theorem size_has (a b : Nat) (i j : Int) (hi : 0 ≤ i ∧ i < a) (hj : 0 ≤ j ∧ j < b) : Does Tryd.prog G 25 [.agg #[i64 a, i64 b], i64 i, i64 j] [] (One (.bool true)) := by
  refine Does.of Tryd.func25 rfl Tryd.ntmps25 rfl (fun w0 => ?_)
  refine At.keep [(0, _), (1, _), (2, _)] (.cons rfl (.cons rfl (.cons rfl .nil))) ?_
  refine At.seq ?_
  refine At.region ?_
  refine At.op rfl (op_box rfl rfl rfl ?_)
  intro b1
  refine At.op rfl (op_assign rfl rfl ?_)
  refine At.nil ?_
  refine At.then_n ?_
  refine At.seq ?_
  refine At.region ?_
  refine At.op rfl (op_move rfl rfl ?_)
  refine At.op rfl (op_bin rfl rfl (Bin.cast (v' := .bool true) b_ge (congrArg Value.bool (decide_eq_true (by omega)))) rfl ?_)
  refine At.op rfl (op_move rfl rfl ?_)
  refine At.opg rfl rfl rfl (op_move rfl rfl ?_)
  refine At.opg rfl rfl rfl (op_fieldAddr (o' := 0) rfl Tryd.underlying42 rfl Tryd.sizeOf3 rfl rfl ?_)
  refine At.opg rfl rfl rfl (op_load rfl Tryd.isAgg3 (by first | with_reducible exact Pull.p0 | with_reducible exact Pull.p1 | with_reducible exact Pull.p2 | with_reducible exact Pull.p3 | with_reducible exact Pull.p4 | with_reducible exact Pull.p5 | with_reducible exact Pull.p6 | with_reducible exact Pull.p7 | with_reducible exact Pull.p8 | with_reducible exact Pull.p9) rfl rfl ?_)
  refine At.opg rfl rfl rfl (op_bin rfl rfl (Bin.cast (v' := .bool true) b_lt (congrArg Value.bool (decide_eq_true (by omega)))) rfl ?_)
  refine At.op rfl (op_pick_t rfl rfl rfl ?_)
  refine At.op rfl (op_move rfl rfl ?_)
  refine At.opg rfl rfl rfl (op_move rfl rfl ?_)
  refine At.opg rfl rfl rfl (op_bin rfl rfl (Bin.cast (v' := .bool true) b_ge (congrArg Value.bool (decide_eq_true (by omega)))) rfl ?_)
  refine At.op rfl (op_pick_t rfl rfl rfl ?_)
  refine At.op rfl (op_move rfl rfl ?_)
  refine At.opg rfl rfl rfl (op_move rfl rfl ?_)
  refine At.opg rfl rfl rfl (op_fieldAddr (o' := 1) rfl Tryd.underlying42 rfl Tryd.sizeOf3 rfl rfl ?_)
  refine At.opg rfl rfl rfl (op_load rfl Tryd.isAgg3 (by first | with_reducible exact Pull.p0 | with_reducible exact Pull.p1 | with_reducible exact Pull.p2 | with_reducible exact Pull.p3 | with_reducible exact Pull.p4 | with_reducible exact Pull.p5 | with_reducible exact Pull.p6 | with_reducible exact Pull.p7 | with_reducible exact Pull.p8 | with_reducible exact Pull.p9) rfl rfl ?_)
  refine At.opg rfl rfl rfl (op_bin rfl rfl (Bin.cast (v' := .bool true) b_lt (congrArg Value.bool (decide_eq_true (by omega)))) rfl ?_)
  refine At.op rfl (op_pick_t rfl rfl rfl ?_)
  refine At.op rfl (op_assign rfl rfl ?_)
  refine At.nil ?_
  refine At.then_n ?_
  refine At.ret ?_
  exact At.fin1 rfl rfl rfl ⟨rfl, rfl⟩ .nil
theorem power_Up (pw : Nat) : Does Tryd.prog G 24 [ptr pw 0] [row pw powL 57 (0, 0)] (OneR (.bool true) [row pw powL 57 (0, 0)]) := by
  refine Does.of Tryd.func24 rfl Tryd.ntmps24 rfl (fun w0 => ?_)
  refine At.keep [(0, _)] (.cons rfl .nil) ?_
  refine At.seq ?_
  refine At.region ?_
  refine At.op rfl (op_assign rfl rfl ?_)
  refine At.nil ?_
  refine At.then_n ?_
  refine At.seq ?_
  refine At.region ?_
  refine At.op rfl (op_move rfl rfl ?_)
  refine At.op rfl (op_nilCheck rfl rfl ?_)
  refine At.op rfl (op_fieldAddr (o' := 0) rfl Tryd.underlying57 rfl Tryd.sizeOf4 rfl rfl ?_)
  refine At.op rfl (op_load rfl Tryd.isAgg4 (by first | with_reducible exact Pull.p0 | with_reducible exact Pull.p1 | with_reducible exact Pull.p2 | with_reducible exact Pull.p3 | with_reducible exact Pull.p4 | with_reducible exact Pull.p5 | with_reducible exact Pull.p6 | with_reducible exact Pull.p7 | with_reducible exact Pull.p8 | with_reducible exact Pull.p9) rfl rfl ?_)
  refine At.op rfl (op_not rfl rfl ?_)
  refine At.op rfl (op_assign rfl rfl ?_)
  refine At.nil ?_
  refine At.then_n ?_
  refine At.ret ?_
  exact At.fin1 rfl rfl rfl ⟨rfl, rfl⟩ (.cons (by first | with_reducible exact Pull.p0 | with_reducible exact Pull.p1 | with_reducible exact Pull.p2 | with_reducible exact Pull.p3 | with_reducible exact Pull.p4 | with_reducible exact Pull.p5 | with_reducible exact Pull.p6 | with_reducible exact Pull.p7 | with_reducible exact Pull.p8 | with_reducible exact Pull.p9) .nil)
theorem power_Kept (pw : Nat) : Does Tryd.prog G 40 [ptr pw 0] [row pw powL 57 (0, 0)] (OneR (.tuple #[i64 0, .int .u8 0]) [row pw powL 57 (0, 0)]) := by
  refine Does.of Tryd.func40 rfl Tryd.ntmps40 rfl (fun w0 => ?_)
  refine At.keep [(0, _)] (.cons rfl .nil) ?_
  refine At.seq ?_
  refine At.region ?_
  refine At.op rfl (op_assign rfl rfl ?_)
  refine At.op rfl (op_assign rfl rfl ?_)
  refine At.nil ?_
  refine At.then_n ?_
  refine At.seq ?_
  refine At.drawC [_, _, _, _, _, _, _, _, _, _] (by kernel_rfl) (by decide) (by kernel_rfl) 
    (Steps'.cons (Step.op rfl (fun D h1 h2 h3 K hK => op_move (mD_base rfl rfl) rfl hK))
    (Steps'.cons (Step.op rfl (fun D h1 h2 h3 K hK => op_nilCheck (mD_done 0 (by decide) (pre_at h2 0 rfl rfl) rfl rfl rfl) rfl hK))
    (Steps'.cons (Step.op rfl (fun D h1 h2 h3 K hK => op_fieldAddr (o' := 2) (mD_done 1 (by decide) (pre_at h2 0 rfl rfl) rfl rfl rfl) Tryd.underlying57 rfl Tryd.sizeOf3 rfl rfl hK))
    (Steps'.cons (Step.op rfl (fun D h1 h2 h3 K hK => op_load (mD_done 2 (by decide) (pre_at h2 0 rfl rfl) rfl rfl rfl) Tryd.isAgg3 (by first | with_reducible exact Pull.p0 | with_reducible exact Pull.p1 | with_reducible exact Pull.p2 | with_reducible exact Pull.p3 | with_reducible exact Pull.p4 | with_reducible exact Pull.p5 | with_reducible exact Pull.p6 | with_reducible exact Pull.p7 | with_reducible exact Pull.p8 | with_reducible exact Pull.p9) rfl rfl hK))
    (Steps'.cons (Step.op rfl (fun D h1 h2 h3 K hK => op_move (mD_base rfl rfl) rfl hK))
    (Steps'.cons (Step.op rfl (fun D h1 h2 h3 K hK => op_nilCheck (mD_done 4 (by decide) (pre_at h2 0 rfl rfl) rfl rfl rfl) rfl hK))
    (Steps'.cons (Step.op rfl (fun D h1 h2 h3 K hK => op_fieldAddr (o' := 3) (mD_done 5 (by decide) (pre_at h2 0 rfl rfl) rfl rfl rfl) Tryd.underlying57 rfl Tryd.sizeOf5 rfl rfl hK))
    (Steps'.cons (Step.op rfl (fun D h1 h2 h3 K hK => op_load (mD_done 6 (by decide) (pre_at h2 0 rfl rfl) rfl rfl rfl) Tryd.isAgg5 (by first | with_reducible exact Pull.p0 | with_reducible exact Pull.p1 | with_reducible exact Pull.p2 | with_reducible exact Pull.p3 | with_reducible exact Pull.p4 | with_reducible exact Pull.p5 | with_reducible exact Pull.p6 | with_reducible exact Pull.p7 | with_reducible exact Pull.p8 | with_reducible exact Pull.p9) rfl rfl hK))
    (Steps'.cons (Step.op rfl (fun D h1 h2 h3 K hK => op_assign (mD_done 3 (by decide) (pre_at h2 0 rfl rfl) rfl rfl rfl) rfl hK))
    (Steps'.cons (Step.op rfl (fun D h1 h2 h3 K hK => op_assign (mD_done 7 (by decide) (pre_at h2 0 rfl rfl) rfl rfl rfl) rfl hK))
    Steps'.nil)))))))))) ?_
  refine At.keep [(2, _), (3, _)] (.cons rfl (.cons rfl .nil)) ?_
  refine At.then_n ?_
  refine At.ret ?_
  exact At.fin2 rfl rfl rfl rfl ⟨rfl, rfl⟩ (.cons (by first | with_reducible exact Pull.p0 | with_reducible exact Pull.p1 | with_reducible exact Pull.p2 | with_reducible exact Pull.p3 | with_reducible exact Pull.p4 | with_reducible exact Pull.p5 | with_reducible exact Pull.p6 | with_reducible exact Pull.p7 | with_reducible exact Pull.p8 | with_reducible exact Pull.p9) .nil)
theorem atomic_Load (pw : Nat) : Does Tryd.prog G 79 [ptr pw 1] [row pw powL 57 (0, 0)] (OneR (i64 0) [row pw powL 57 (0, 0)]) := by
  refine Does.of Tryd.func79 rfl Tryd.ntmps79 rfl (fun w0 => ?_)
  refine At.keep [(0, _)] (.cons rfl .nil) ?_
  refine At.seq ?_
  refine At.region ?_
  refine At.op rfl (op_assign rfl rfl ?_)
  refine At.nil ?_
  refine At.then_n ?_
  refine At.seq ?_
  refine At.region ?_
  refine At.op rfl (op_move rfl rfl ?_)
  refine At.op rfl (op_nilCheck rfl rfl ?_)
  refine At.op rfl (op_fieldAddr (o' := 1) rfl Tryd.underlying55 rfl Tryd.sizeOf2 rfl rfl ?_)
  refine At.op rfl (op_extR rfl (by first | with_reducible exact Pull.p0 | with_reducible exact Pull.p1 | with_reducible exact Pull.p2 | with_reducible exact Pull.p3 | with_reducible exact Pull.p4 | with_reducible exact Pull.p5 | with_reducible exact Pull.p6 | with_reducible exact Pull.p7 | with_reducible exact Pull.p8 | with_reducible exact Pull.p9) (fun w hw => run_call_load Tryd.func89 (by kernel_rfl) (by kernel_rfl) (by kernel_rfl) .i64 (by kernel_rfl) (a := ⟨pw, 1, none⟩) (by rw [row_cell hw]; rfl)) rfl ?_)
  refine At.op rfl (op_assign rfl rfl ?_)
  refine At.nil ?_
  refine At.then_n ?_
  refine At.ret ?_
  exact At.fin1 rfl rfl rfl ⟨rfl, rfl⟩ (.cons (by first | with_reducible exact Pull.p0 | with_reducible exact Pull.p1 | with_reducible exact Pull.p2 | with_reducible exact Pull.p3 | with_reducible exact Pull.p4 | with_reducible exact Pull.p5 | with_reducible exact Pull.p6 | with_reducible exact Pull.p7 | with_reducible exact Pull.p8 | with_reducible exact Pull.p9) .nil)
theorem power_Act (pw : Nat) : Does Tryd.prog G 61 [ptr pw 0] [row pw powL 57 (0, 0)] (OneR (.tuple #[.bool true, .bool true]) [row pw powL 57 (0, 0)]) := by
  refine Does.of Tryd.func61 rfl Tryd.ntmps61 rfl (fun w0 => ?_)
  refine At.keep [(0, _)] (.cons rfl .nil) ?_
  refine At.seq ?_
  refine At.region ?_
  refine At.op rfl (op_assign rfl rfl ?_)
  refine At.op rfl (op_assign rfl rfl ?_)
  refine At.nil ?_
  refine At.then_n ?_
  refine At.seq ?_
  refine At.block ?_
  refine At.seq ?_
  refine At.region ?_
  refine At.op rfl (op_move rfl rfl ?_)
  refine At.op rfl (op_nilCheck rfl rfl ?_)
  refine At.op rfl (op_fieldAddr (o' := 0) rfl Tryd.underlying57 rfl Tryd.sizeOf4 rfl rfl ?_)
  refine At.op rfl (op_load rfl Tryd.isAgg4 (by first | with_reducible exact Pull.p0 | with_reducible exact Pull.p1 | with_reducible exact Pull.p2 | with_reducible exact Pull.p3 | with_reducible exact Pull.p4 | with_reducible exact Pull.p5 | with_reducible exact Pull.p6 | with_reducible exact Pull.p7 | with_reducible exact Pull.p8 | with_reducible exact Pull.p9) rfl rfl ?_)
  refine At.op rfl (op_assign rfl rfl ?_)
  refine At.nil ?_
  refine At.then_n ?_
  refine At.cond_f rfl ?_
  refine At.seq ?_
  refine At.region ?_
  refine At.op rfl (op_move rfl rfl ?_)
  refine At.op rfl (op_nilCheck rfl rfl ?_)
  refine At.op rfl (op_fieldAddr (o' := 1) rfl Tryd.underlying57 rfl Tryd.sizeOf55 rfl rfl ?_)
  refine At.op rfl (op_callQ rfl Tryd.call79 (atomic_Load pw) (.cons (by first | with_reducible exact Pull.p0 | with_reducible exact Pull.p1 | with_reducible exact Pull.p2 | with_reducible exact Pull.p3 | with_reducible exact Pull.p4 | with_reducible exact Pull.p5 | with_reducible exact Pull.p6 | with_reducible exact Pull.p7 | with_reducible exact Pull.p8 | with_reducible exact Pull.p9) .nil) rfl ?_)
  refine At.op rfl (op_bin rfl rfl (Bin.cast (v' := .bool true) b_eq (congrArg Value.bool (decide_eq_true rfl))) rfl ?_)
  refine At.op rfl (op_assign rfl rfl ?_)
  refine At.nil ?_
  refine At.then_n ?_
  refine At.cond_t rfl ?_
  refine At.seq ?_
  refine At.region ?_
  refine At.op rfl (op_assign rfl rfl ?_)
  refine At.op rfl (op_assign rfl rfl ?_)
  refine At.nil ?_
  refine At.then_n ?_
  refine At.ret ?_
  refine At.blk_r ?_
  refine At.then_r ?_
  exact At.fin2 rfl rfl rfl rfl ⟨rfl, rfl⟩ (.cons (by first | with_reducible exact Pull.p0 | with_reducible exact Pull.p1 | with_reducible exact Pull.p2 | with_reducible exact Pull.p3 | with_reducible exact Pull.p4 | with_reducible exact Pull.p5 | with_reducible exact Pull.p6 | with_reducible exact Pull.p7 | with_reducible exact Pull.p8 | with_reducible exact Pull.p9) .nil)
theorem nand_NewPower : Does Tryd.prog G 5 [] [] (fun v rs' => ∃ pw, v = ptr pw 0 ∧ rs' = [row pw powL 57 (0, 0)]) := by
  refine Does.of Tryd.func5 rfl Tryd.ntmps5 rfl (fun w0 => ?_)
  refine At.keep [] .nil ?_
  refine At.seq ?_
  refine At.region ?_
  refine At.op rfl (op_assign rfl rfl ?_)
  refine At.nil ?_
  refine At.then_n ?_
  refine At.seq ?_
  refine At.region ?_
  refine At.op rfl (op_build (v := .agg powL.toArray) rfl (fun w => run_build w _ _ _ (by kernel_rfl)) rfl ?_)
  refine At.op rfl (op_box rfl rfl rfl ?_)
  intro pw
  refine At.op rfl (op_assign rfl rfl ?_)
  refine At.nil ?_
  refine At.then_n ?_
  refine At.ret ?_
  exact At.fin1 rfl rfl rfl ⟨pw, rfl, rfl⟩ (.cons (by first | with_reducible exact Pull.p0 | with_reducible exact Pull.p1 | with_reducible exact Pull.p2 | with_reducible exact Pull.p3 | with_reducible exact Pull.p4 | with_reducible exact Pull.p5 | with_reducible exact Pull.p6 | with_reducible exact Pull.p7 | with_reducible exact Pull.p8 | with_reducible exact Pull.p9) .nil)
end Go.Proofs.YteckdahgkkmlaaaDoor
end

section
set_option maxRecDepth 20000
set_option linter.unusedVariables false
set_option linter.unusedSimpArgs false
namespace Go.Proofs.YteckdahgkkmlaaaDoor
open Go SL
variable {G : List (Nat × Obj)}
theorem nand_Read (c : Chp) (h : c.wf) (i j : Nat) (hi : i < c.segs) (hj : j < c.pages) : Does Tryd.prog G 13 [ptr c.cb 0, i64 i, i64 j] [chipR c] (OneR (readV (c.at i j)) [chipR c]) := by
  refine Does.of Tryd.func13 rfl Tryd.ntmps13 rfl (fun w0 => ?_)
  refine At.keep [(0, _), (1, _), (2, _)] (.cons rfl (.cons rfl (.cons rfl .nil))) ?_
  obtain ⟨s, p, hs, hp, hsl, hpo⟩ := h.page hi hj
  refine At.chip (by first | with_reducible exact Pull.p0 | with_reducible exact Pull.p1 | with_reducible exact Pull.p2 | with_reducible exact Pull.p3 | with_reducible exact Pull.p4 | with_reducible exact Pull.p5 | with_reducible exact Pull.p6 | with_reducible exact Pull.p7 | with_reducible exact Pull.p8 | with_reducible exact Pull.p9) ?_
  refine At.seq ?_
  refine At.region ?_
  refine At.op rfl (op_assign rfl rfl ?_)
  refine At.op rfl (op_assign rfl rfl ?_)
  refine At.op rfl (op_assign rfl rfl ?_)
  refine At.nil ?_
  refine At.then_n ?_
  refine At.seq ?_
  refine At.block ?_
  refine At.seq ?_
  refine At.region ?_
  refine At.op rfl (op_move rfl rfl ?_)
  refine At.op rfl (op_nilCheck rfl rfl ?_)
  refine At.op rfl (op_fieldAddr (o' := 2) rfl Tryd.underlying46 rfl Tryd.sizeOf24 rfl rfl ?_)
  refine At.op rfl (op_load rfl Tryd.isAgg24 (by first | with_reducible exact Pull.p0 | with_reducible exact Pull.p1 | with_reducible exact Pull.p2 | with_reducible exact Pull.p3 | with_reducible exact Pull.p4 | with_reducible exact Pull.p5 | with_reducible exact Pull.p6 | with_reducible exact Pull.p7 | with_reducible exact Pull.p8 | with_reducible exact Pull.p9) rfl rfl ?_)
  refine At.op rfl (op_callQ rfl Tryd.call24 (power_Up c.pw) (.cons (by first | with_reducible exact Pull.p0 | with_reducible exact Pull.p1 | with_reducible exact Pull.p2 | with_reducible exact Pull.p3 | with_reducible exact Pull.p4 | with_reducible exact Pull.p5 | with_reducible exact Pull.p6 | with_reducible exact Pull.p7 | with_reducible exact Pull.p8 | with_reducible exact Pull.p9) .nil) rfl ?_)
  refine At.op rfl (op_not rfl rfl ?_)
  refine At.op rfl (op_assign rfl rfl ?_)
  refine At.nil ?_
  refine At.then_n ?_
  refine At.cond_f rfl ?_
  refine At.seq ?_
  refine At.region ?_
  refine At.op rfl (op_move rfl rfl ?_)
  refine At.op rfl (op_nilCheck rfl rfl ?_)
  refine At.op rfl (op_fieldAddr (o' := 0) rfl Tryd.underlying46 rfl Tryd.sizeOf42 rfl rfl ?_)
  refine At.op rfl (op_loadA (us := [_, _]) rfl Tryd.isAgg42 Tryd.sizeOf42 (by first | with_reducible exact Pull.p0 | with_reducible exact Pull.p1 | with_reducible exact Pull.p2 | with_reducible exact Pull.p3 | with_reducible exact Pull.p4 | with_reducible exact Pull.p5 | with_reducible exact Pull.p6 | with_reducible exact Pull.p7 | with_reducible exact Pull.p8 | with_reducible exact Pull.p9) rfl rfl rfl ?_)
  refine At.op rfl (op_move rfl rfl ?_)
  refine At.op rfl (op_move rfl rfl ?_)
  refine At.op rfl (op_call1 rfl Tryd.call25 (size_has c.segs c.pages i j ⟨by omega, by omega⟩ ⟨by omega, by omega⟩) rfl ?_)
  refine At.op rfl (op_not rfl rfl ?_)
  refine At.op rfl (op_assign rfl rfl ?_)
  refine At.nil ?_
  refine At.then_n ?_
  refine At.cond_f rfl ?_
  refine At.skip ?_
  refine At.blk_n ?_
  refine At.then_n ?_
  refine At.seq ?_
  refine At.seq ?_
  refine At.keep [(0, _), (1, _), (2, _), (6, _), (7, _), (8, _)] (.cons rfl (.cons rfl (.cons rfl (.cons rfl (.cons rfl (.cons rfl .nil)))))) ?_
  refine At.region ?_
  refine At.op rfl (op_move rfl rfl ?_)
  refine At.op rfl (op_nilCheck rfl rfl ?_)
  refine At.op rfl (op_fieldAddr (o' := 4) rfl Tryd.underlying46 rfl Tryd.sizeOf43 rfl rfl ?_)
  refine At.op rfl (op_load rfl Tryd.isAgg43 (by first | with_reducible exact Pull.p0 | with_reducible exact Pull.p1 | with_reducible exact Pull.p2 | with_reducible exact Pull.p3 | with_reducible exact Pull.p4 | with_reducible exact Pull.p5 | with_reducible exact Pull.p6 | with_reducible exact Pull.p7 | with_reducible exact Pull.p8 | with_reducible exact Pull.p9) rfl rfl ?_)
  refine At.op rfl (op_move rfl rfl ?_)
  refine At.op rfl (op_indexS rfl rfl Tryd.underlying43 Tryd.sizeOf49 (by omega) (by omega) rfl ?_)
  refine At.op rfl (op_fieldAddr rfl Tryd.underlying49 rfl Tryd.sizeOf47 rfl rfl ?_)
  refine At.op rfl (op_load rfl Tryd.isAgg47 (by first | with_reducible exact Pull.p0 | with_reducible exact Pull.p1 | with_reducible exact Pull.p2 | with_reducible exact Pull.p3 | with_reducible exact Pull.p4 | with_reducible exact Pull.p5 | with_reducible exact Pull.p6 | with_reducible exact Pull.p7 | with_reducible exact Pull.p8 | with_reducible exact Pull.p9) (seg_get0 hs) rfl ?_)
  refine At.op rfl (op_move rfl rfl ?_)
  refine At.op rfl (op_indexS rfl rfl Tryd.underlying47 Tryd.sizeOf78 (by omega) (by omega) rfl ?_)
  refine At.op rfl (op_loadG (pgsR c.l) rfl Tryd.isAgg78 (by first | with_reducible exact Pull.p0 | with_reducible exact Pull.p1 | with_reducible exact Pull.p2 | with_reducible exact Pull.p3 | with_reducible exact Pull.p4 | with_reducible exact Pull.p5 | with_reducible exact Pull.p6 | with_reducible exact Pull.p7 | with_reducible exact Pull.p8 | with_reducible exact Pull.p9) (fun w hw => by have := pgs_ptr hw hs hp; simpa [Pg.ptr] using this) rfl ?_)
  rcases p with _ | ⟨b, t⟩ | b
  ·
    refine At.op rfl (op_assign rfl rfl ?_)
    refine At.nil ?_
    refine At.then_n ?_
    refine At.seq ?_
    refine At.keep [(6, _), (7, _), (8, _), (9, _)] (.cons rfl (.cons rfl (.cons rfl (.cons rfl .nil)))) ?_
    refine At.region ?_
    refine At.op rfl (op_move rfl rfl ?_)
    refine At.op rfl (op_bin rfl rfl (Bin.cast (v' := .bool false) (b_pnnil Tryd.underlying78) rfl) rfl ?_)
    refine At.nil ?_
    refine At.then_n ?_
    refine At.cond_f rfl ?_
    refine At.skip ?_
    refine At.then_n ?_
    refine At.seq ?_
    refine At.region ?_
    refine At.op rfl (op_assign rfl rfl ?_)
    refine At.op rfl (op_assign rfl rfl ?_)
    refine At.op rfl (op_assign rfl rfl ?_)
    refine At.nil ?_
    refine At.then_n ?_
    refine At.ret ?_
    refine At.unchip c (.cons (by first | exact Pull.p0 | exact Pull.p1 | exact Pull.p2 | exact Pull.p3 | exact Pull.p4 | exact Pull.p5 | exact Pull.p6 | exact Pull.p7 | exact Pull.p8 | exact Pull.p9) (.cons (by first | exact Pull.p0 | exact Pull.p1 | exact Pull.p2 | exact Pull.p3 | exact Pull.p4 | exact Pull.p5 | exact Pull.p6 | exact Pull.p7 | exact Pull.p8 | exact Pull.p9) (.cons (by first | exact Pull.p0 | exact Pull.p1 | exact Pull.p2 | exact Pull.p3 | exact Pull.p4 | exact Pull.p5 | exact Pull.p6 | exact Pull.p7 | exact Pull.p8 | exact Pull.p9) (.cons (by first | exact Pull.p0 | exact Pull.p1 | exact Pull.p2 | exact Pull.p3 | exact Pull.p4 | exact Pull.p5 | exact Pull.p6 | exact Pull.p7 | exact Pull.p8 | exact Pull.p9) (.cons (by first | exact Pull.p0 | exact Pull.p1 | exact Pull.p2 | exact Pull.p3 | exact Pull.p4 | exact Pull.p5 | exact Pull.p6 | exact Pull.p7 | exact Pull.p8 | exact Pull.p9) .nil))))) ?_
    exact At.fin3 rfl rfl rfl rfl rfl ⟨(by rw [Chp.at_eq hs hp]; rfl), rfl⟩ (.cons (by first | with_reducible exact Pull.p0 | with_reducible exact Pull.p1 | with_reducible exact Pull.p2 | with_reducible exact Pull.p3 | with_reducible exact Pull.p4 | with_reducible exact Pull.p5 | with_reducible exact Pull.p6 | with_reducible exact Pull.p7 | with_reducible exact Pull.p8 | with_reducible exact Pull.p9) .nil)
  ·
    refine At.op rfl (op_assign rfl rfl ?_)
    refine At.nil ?_
    refine At.then_n ?_
    refine At.seq ?_
    refine At.keep [(6, _), (7, _), (8, _), (9, _)] (.cons rfl (.cons rfl (.cons rfl (.cons rfl .nil)))) ?_
    refine At.region ?_
    refine At.op rfl (op_move rfl rfl ?_)
    refine At.op rfl (op_bin rfl rfl (Bin.cast (v' := .bool true) (b_pnnil Tryd.underlying78) rfl) rfl ?_)
    refine At.nil ?_
    refine At.then_n ?_
    refine At.cond_t rfl ?_
    refine At.seq ?_
    refine At.region ?_
    refine At.op rfl (op_move rfl rfl ?_)
    refine At.op rfl (op_nilCheck rfl rfl ?_)
    refine At.op rfl (op_loadG (pgsR c.l) rfl Tryd.isAgg9 (by first | with_reducible exact Pull.p0 | with_reducible exact Pull.p1 | with_reducible exact Pull.p2 | with_reducible exact Pull.p3 | with_reducible exact Pull.p4 | with_reducible exact Pull.p5 | with_reducible exact Pull.p6 | with_reducible exact Pull.p7 | with_reducible exact Pull.p8 | with_reducible exact Pull.p9) (fun w hw => pgs_str hw hs hp) rfl ?_)
    refine At.op rfl (op_assign rfl rfl ?_)
    refine At.op rfl (op_assign rfl rfl ?_)
    refine At.op rfl (op_assign rfl rfl ?_)
    refine At.nil ?_
    refine At.then_n ?_
    refine At.ret ?_
    refine At.then_r ?_
    refine At.unchip c (.cons (by first | exact Pull.p0 | exact Pull.p1 | exact Pull.p2 | exact Pull.p3 | exact Pull.p4 | exact Pull.p5 | exact Pull.p6 | exact Pull.p7 | exact Pull.p8 | exact Pull.p9) (.cons (by first | exact Pull.p0 | exact Pull.p1 | exact Pull.p2 | exact Pull.p3 | exact Pull.p4 | exact Pull.p5 | exact Pull.p6 | exact Pull.p7 | exact Pull.p8 | exact Pull.p9) (.cons (by first | exact Pull.p0 | exact Pull.p1 | exact Pull.p2 | exact Pull.p3 | exact Pull.p4 | exact Pull.p5 | exact Pull.p6 | exact Pull.p7 | exact Pull.p8 | exact Pull.p9) (.cons (by first | exact Pull.p0 | exact Pull.p1 | exact Pull.p2 | exact Pull.p3 | exact Pull.p4 | exact Pull.p5 | exact Pull.p6 | exact Pull.p7 | exact Pull.p8 | exact Pull.p9) (.cons (by first | exact Pull.p0 | exact Pull.p1 | exact Pull.p2 | exact Pull.p3 | exact Pull.p4 | exact Pull.p5 | exact Pull.p6 | exact Pull.p7 | exact Pull.p8 | exact Pull.p9) .nil))))) ?_
    exact At.fin3 rfl rfl rfl rfl rfl ⟨(by rw [Chp.at_eq hs hp]; rfl), rfl⟩ (.cons (by first | with_reducible exact Pull.p0 | with_reducible exact Pull.p1 | with_reducible exact Pull.p2 | with_reducible exact Pull.p3 | with_reducible exact Pull.p4 | with_reducible exact Pull.p5 | with_reducible exact Pull.p6 | with_reducible exact Pull.p7 | with_reducible exact Pull.p8 | with_reducible exact Pull.p9) .nil)
  ·
    exact absurd rfl (hpo b)
theorem nand_Wear (c : Chp) (h : c.wf) (i : Nat) (hi : i < c.segs) : Does Tryd.prog G 37 [ptr c.cb 0, i64 i] [chipR c] (OneR (i64 (c.wearAt i)) [chipR c]) := by
  refine Does.of Tryd.func37 rfl Tryd.ntmps37 rfl (fun w0 => ?_)
  refine At.keep [(0, _), (1, _)] (.cons rfl (.cons rfl .nil)) ?_
  obtain ⟨s, hs, hsl, hsw, hso⟩ := h.seg hi
  refine At.chip (by first | with_reducible exact Pull.p0 | with_reducible exact Pull.p1 | with_reducible exact Pull.p2 | with_reducible exact Pull.p3 | with_reducible exact Pull.p4 | with_reducible exact Pull.p5 | with_reducible exact Pull.p6 | with_reducible exact Pull.p7 | with_reducible exact Pull.p8 | with_reducible exact Pull.p9) ?_
  refine At.seq ?_
  refine At.region ?_
  refine At.op rfl (op_assign rfl rfl ?_)
  refine At.nil ?_
  refine At.then_n ?_
  refine At.seq ?_
  refine At.seq ?_
  refine At.region ?_
  refine At.op rfl (op_move rfl rfl ?_)
  refine At.op rfl (op_nilCheck rfl rfl ?_)
  refine At.op rfl (op_fieldAddr (o' := 0) rfl Tryd.underlying46 rfl Tryd.sizeOf42 rfl rfl ?_)
  refine At.op rfl (op_loadA (us := [_, _]) rfl Tryd.isAgg42 Tryd.sizeOf42 (by first | with_reducible exact Pull.p0 | with_reducible exact Pull.p1 | with_reducible exact Pull.p2 | with_reducible exact Pull.p3 | with_reducible exact Pull.p4 | with_reducible exact Pull.p5 | with_reducible exact Pull.p6 | with_reducible exact Pull.p7 | with_reducible exact Pull.p8 | with_reducible exact Pull.p9) rfl rfl rfl ?_)
  refine At.op rfl (op_move rfl rfl ?_)
  refine At.op rfl (op_call1 rfl Tryd.call25 (size_has c.segs c.pages i 0 ⟨by omega, by omega⟩ ⟨by omega, by have := h.pages1; omega⟩) rfl ?_)
  refine At.op rfl (op_not rfl rfl ?_)
  refine At.nil ?_
  refine At.then_n ?_
  refine At.cond_f rfl ?_
  refine At.skip ?_
  refine At.then_n ?_
  refine At.seq ?_
  refine At.region ?_
  refine At.op rfl (op_move rfl rfl ?_)
  refine At.op rfl (op_nilCheck rfl rfl ?_)
  refine At.op rfl (op_fieldAddr (o' := 4) rfl Tryd.underlying46 rfl Tryd.sizeOf43 rfl rfl ?_)
  refine At.op rfl (op_load rfl Tryd.isAgg43 (by first | with_reducible exact Pull.p0 | with_reducible exact Pull.p1 | with_reducible exact Pull.p2 | with_reducible exact Pull.p3 | with_reducible exact Pull.p4 | with_reducible exact Pull.p5 | with_reducible exact Pull.p6 | with_reducible exact Pull.p7 | with_reducible exact Pull.p8 | with_reducible exact Pull.p9) rfl rfl ?_)
  refine At.op rfl (op_move rfl rfl ?_)
  refine At.op rfl (op_indexS rfl rfl Tryd.underlying43 Tryd.sizeOf49 (by omega) (by omega) rfl ?_)
  refine At.op rfl (op_fieldAddr rfl Tryd.underlying49 rfl Tryd.sizeOf3 rfl rfl ?_)
  refine At.op rfl (op_load rfl Tryd.isAgg3 (by first | with_reducible exact Pull.p0 | with_reducible exact Pull.p1 | with_reducible exact Pull.p2 | with_reducible exact Pull.p3 | with_reducible exact Pull.p4 | with_reducible exact Pull.p5 | with_reducible exact Pull.p6 | with_reducible exact Pull.p7 | with_reducible exact Pull.p8 | with_reducible exact Pull.p9) (seg_get1 hs) rfl ?_)
  refine At.op rfl (op_assign rfl rfl ?_)
  refine At.nil ?_
  refine At.then_n ?_
  refine At.ret ?_
  refine At.unchip c (.cons (by first | exact Pull.p0 | exact Pull.p1 | exact Pull.p2 | exact Pull.p3 | exact Pull.p4 | exact Pull.p5 | exact Pull.p6 | exact Pull.p7 | exact Pull.p8 | exact Pull.p9) (.cons (by first | exact Pull.p0 | exact Pull.p1 | exact Pull.p2 | exact Pull.p3 | exact Pull.p4 | exact Pull.p5 | exact Pull.p6 | exact Pull.p7 | exact Pull.p8 | exact Pull.p9) (.cons (by first | exact Pull.p0 | exact Pull.p1 | exact Pull.p2 | exact Pull.p3 | exact Pull.p4 | exact Pull.p5 | exact Pull.p6 | exact Pull.p7 | exact Pull.p8 | exact Pull.p9) (.cons (by first | exact Pull.p0 | exact Pull.p1 | exact Pull.p2 | exact Pull.p3 | exact Pull.p4 | exact Pull.p5 | exact Pull.p6 | exact Pull.p7 | exact Pull.p8 | exact Pull.p9) (.cons (by first | exact Pull.p0 | exact Pull.p1 | exact Pull.p2 | exact Pull.p3 | exact Pull.p4 | exact Pull.p5 | exact Pull.p6 | exact Pull.p7 | exact Pull.p8 | exact Pull.p9) .nil))))) ?_
  exact At.fin1 rfl rfl rfl ⟨by simp [Chp.wearAt, hs], rfl⟩ (.cons (by first | with_reducible exact Pull.p0 | with_reducible exact Pull.p1 | with_reducible exact Pull.p2 | with_reducible exact Pull.p3 | with_reducible exact Pull.p4 | with_reducible exact Pull.p5 | with_reducible exact Pull.p6 | with_reducible exact Pull.p7 | with_reducible exact Pull.p8 | with_reducible exact Pull.p9) .nil)
theorem nand_act (cb pw fid : Nat) (x y : Value) (X fs cap : List Value) (R : List Res) (Q : List Res → Prop) (hcall : ∀ a w, (callFunc fid a).run Tryd.prog w = .ok (.enter fid a) w) (hf : Does Tryd.prog G fid (fs ++ [.bool true] ++ cap) (row cb (x :: y :: ptr pw 0 :: X) 46 (0, 0) :: row pw powL 57 (0, 0) :: R) (fun _ rs' => Q rs')) : Does Tryd.prog G 38 [ptr cb 0, .func (.func fid) fs.toArray cap.toArray] (row cb (x :: y :: ptr pw 0 :: X) 46 (0, 0) :: row pw powL 57 (0, 0) :: R) (fun v rs' => v = i64 0 ∧ Q rs') := by
  refine Does.of Tryd.func38 rfl Tryd.ntmps38 rfl (fun w0 => ?_)
  refine At.keep [(0, _), (1, _)] (.cons rfl (.cons rfl .nil)) ?_
  refine At.seq ?_
  refine At.region ?_
  refine At.op rfl (op_assign rfl rfl ?_)
  refine At.nil ?_
  refine At.then_n ?_
  refine At.seq ?_
  refine At.region ?_
  refine At.op rfl (op_move rfl rfl ?_)
  refine At.op rfl (op_nilCheck rfl rfl ?_)
  refine At.op rfl (op_fieldAddr (o' := 2) rfl Tryd.underlying46 rfl Tryd.sizeOf24 rfl rfl ?_)
  refine At.op rfl (op_load rfl Tryd.isAgg24 (by first | with_reducible exact Pull.p0 | with_reducible exact Pull.p1 | with_reducible exact Pull.p2 | with_reducible exact Pull.p3 | with_reducible exact Pull.p4 | with_reducible exact Pull.p5 | with_reducible exact Pull.p6 | with_reducible exact Pull.p7 | with_reducible exact Pull.p8 | with_reducible exact Pull.p9) rfl rfl ?_)
  refine At.op rfl (op_callQ rfl Tryd.call61 (power_Act pw) (.cons (by first | with_reducible exact Pull.p0 | with_reducible exact Pull.p1 | with_reducible exact Pull.p2 | with_reducible exact Pull.p3 | with_reducible exact Pull.p4 | with_reducible exact Pull.p5 | with_reducible exact Pull.p6 | with_reducible exact Pull.p7 | with_reducible exact Pull.p8 | with_reducible exact Pull.p9) .nil) rfl ?_)
  refine At.op rfl (op_move rfl rfl ?_)
  refine At.op rfl (op_extractL rfl .zero rfl ?_)
  refine At.op rfl (op_extractL rfl (.succ .zero) rfl ?_)
  refine At.op rfl (op_assign rfl rfl ?_)
  refine At.op rfl (op_assign rfl rfl ?_)
  refine At.nil ?_
  refine At.then_n ?_
  refine At.seq ?_
  refine At.region ?_
  refine At.op rfl (op_move rfl rfl ?_)
  refine At.op rfl (op_move rfl rfl ?_)
  refine At.op rfl (op_callC (fs := fs) (cap := cap) rfl rfl hcall rfl hf (cut_all _) rfl ?_)
  intro v us hus
  refine At.app_nil ?_
  refine At.nil ?_
  refine At.then_n ?_
  refine At.seq ?_
  refine At.seq ?_
  refine At.keep [(4, _), (6, _)] (.cons rfl (.cons rfl .nil)) ?_
  refine At.region ?_
  refine At.op rfl (op_move rfl rfl ?_)
  refine At.op rfl (op_not rfl rfl ?_)
  refine At.nil ?_
  refine At.then_n ?_
  refine At.cond_f rfl ?_
  refine At.skip ?_
  refine At.then_n ?_
  refine At.seq ?_
  refine At.region ?_
  refine At.op rfl (op_assign rfl rfl ?_)
  refine At.nil ?_
  refine At.then_n ?_
  refine At.ret ?_
  exact At.fin1 rfl rfl rfl ⟨rfl, hus⟩ (cut_all _)
end Go.Proofs.YteckdahgkkmlaaaDoor
end

section
set_option maxRecDepth 20000
set_option linter.unusedVariables false
set_option linter.unusedSimpArgs false
namespace Go.Proofs.YteckdahgkkmlaaaDoor
open Go SL
variable {G : List (Nat × Obj)}
/-! what a log is -/
structure Item where
  seg : Nat
  page : Nat
  t : List UInt8
def segItems (i : Nat) : Nat → List Pg → List Item
  | _, [] => []
  | j, p :: l => match p.view with
    | some t => ⟨i, j, t⟩ :: segItems i (j + 1) l
    | none => segItems i (j + 1) l
def allItems : Nat → List Sg → List Item
  | _, [] => []
  | i, s :: l => segItems i 0 s.pg ++ allItems (i + 1) l
def Chp.items (c : Chp) : List Item := allItems 0 c.l
theorem segItems_snoc (i : Nat) (p : Pg) : ∀ (l : List Pg) (j : Nat), segItems i j (l ++ [p]) = segItems i j l ++ (match p.view with | some t => [⟨i, j + l.length, t⟩] | none => [])
  | [], j => by cases h : p.view <;> simp [segItems, h]
  | q :: l, j => by
    have ih := segItems_snoc i p l (j + 1)
    rw [show j + 1 + l.length = j + (l.length + 1) by omega] at ih
    cases hq : q.view <;> simp only [List.cons_append, segItems, hq, ih, List.length_cons]
theorem segItems_take {i j : Nat} {s : Sg} {p : Pg} (hp : s.pg[j]? = some p) : segItems i 0 (s.pg.take (j + 1)) = segItems i 0 (s.pg.take j) ++ (match p.view with | some t => [⟨i, j, t⟩] | none => []) := by
  have hj := (List.getElem?_eq_some_iff.1 hp).1
  rw [List.take_succ_eq_append_getElem hj, (List.getElem?_eq_some_iff.1 hp).2, segItems_snoc, List.length_take, Nat.min_eq_left (by omega), Nat.zero_add]
theorem allItems_snoc (s : Sg) : ∀ (l : List Sg) (i : Nat), allItems i (l ++ [s]) = allItems i l ++ segItems (i + l.length) 0 s.pg
  | [], i => by simp [allItems]
  | q :: l, i => by
    have ih := allItems_snoc s l (i + 1)
    rw [show i + 1 + l.length = i + (l.length + 1) by omega] at ih
    simp only [List.cons_append, allItems, ih, List.length_cons, List.append_assoc]
theorem allItems_take {l : List Sg} {i : Nat} {s : Sg} (hs : l[i]? = some s) : allItems 0 (l.take (i + 1)) = allItems 0 (l.take i) ++ segItems i 0 s.pg := by
  have hi := (List.getElem?_eq_some_iff.1 hs).1
  rw [List.take_succ_eq_append_getElem hi, (List.getElem?_eq_some_iff.1 hs).2, allItems_snoc, List.length_take, Nat.min_eq_left (by omega), Nat.zero_add]
/-- how many pages of a segment are programmed -/
def pgCount (l : List Pg) : Nat := l.countP fun p => p.view.isSome
def Chp.many (c : Chp) (i : Nat) : Nat := (c.l[i]?.map fun s => pgCount s.pg).getD 0
theorem segItems_count (i k : Nat) : ∀ (l : List Pg) (j : Nat), (segItems i j l).countP (fun a => decide (a.seg = k)) = if i = k then pgCount l else 0
  | [], j => by simp [segItems, pgCount]
  | p :: l, j => by
    have ih := segItems_count i k l (j + 1)
    cases hp : p.view with
    | none => simp only [segItems, hp, ih, pgCount, List.countP_cons]; simp
    | some t =>
      simp only [segItems, hp, List.countP_cons, ih, pgCount]
      by_cases e : i = k <;> simp [e]
theorem allItems_count (k : Nat) : ∀ (l : List Sg) (i : Nat), (allItems i l).countP (fun a => decide (a.seg = k)) = if i ≤ k then (l[k - i]?.map fun s => pgCount s.pg).getD 0 else 0
  | [], i => by simp [allItems]
  | s :: l, i => by
    rw [allItems, List.countP_append, segItems_count, allItems_count k l (i + 1)]
    by_cases e : i = k
    · subst e; rw [if_pos rfl, if_neg (by omega), if_pos (Nat.le_refl _), Nat.sub_self]; simp
    · rw [if_neg e]
      by_cases e2 : i ≤ k
      · rw [if_pos (by omega), if_pos e2, show k - i = (k - (i + 1)) + 1 by omega]; simp
      · rw [if_neg (by omega), if_neg e2]
theorem Chp.items_count (c : Chp) (k : Nat) : c.items.countP (fun a => decide (a.seg = k)) = c.many k := by
  rw [Chp.items, allItems_count, if_pos (Nat.zero_le _)]; rfl
/-- the first page that is not programmed -/
def pgNext : List Pg → Nat → Int
  | [], _ => -1
  | p :: l, j => match p.view with
    | some _ => pgNext l (j + 1)
    | none => j
def Chp.next (c : Chp) (i : Nat) : Int := (c.l[i]?.map fun s => pgNext s.pg 0).getD (-1)
/-- a log: its chip's block, its own, the segment that is open, the next number, what is retired -/
structure Lg where
  lb : Nat
  mb : Nat
  op : Int
  seq : UInt64
  ret : List IE
  clock : Nat
@[reducible] def Lg.tl (g : Lg) : List Value := [i64 g.op, u64 g.seq, .map (some g.mb)]
@[reducible] def logRow (g : Lg) (cb : Nat) : Res := row g.lb (SL.ptr cb 0 :: g.tl) 63 (0, 0)
@[reducible] def logMap (g : Lg) : Res := mapI g.mb g.ret g.clock
/-- a segment is free -/
def isFree (g : Lg) (c : Chp) (i : Nat) : Bool := !decide ((i : Int) = g.op) && (decide (iget g.ret i = 0) && decide (((c.many i : Nat) : Int) = 0))
def freeL (g : Lg) (c : Chp) : List Nat := (List.range c.segs).filter (isFree g c)
def isUsed (g : Lg) (c : Chp) (i : Nat) : Bool := !decide ((i : Int) = g.op) && (decide (iget g.ret i = 0) && decide (0 < ((c.many i : Nat) : Int)))
def isRetired (g : Lg) (i : Nat) : Bool := decide (0 < iget g.ret i)
theorem chip_cell (c : Chp) (w : World) (h : (chipR c).holds w) (j : Nat) : w.cell? ⟨c.cb, j, none⟩ = c.row0[j]? := row_cell (h.1 _ (List.mem_cons_self ..))
theorem pgCount_le (l : List Pg) : pgCount l ≤ l.length := List.countP_le_length
theorem Chp.many_le {c : Chp} (h : c.wf) (i : Nat) : c.many i ≤ c.pages := by
  unfold Chp.many
  cases hx : c.l[i]? with
  | none => simp
  | some s => have := pgCount_le s.pg; have := (h.pgs s (List.mem_of_getElem? hx)).1; simp; omega
theorem chip_size (c : Chp) (w : World) (h : (chipR c).holds w) (j : Nat) (v : Value) (hv : [i64 c.segs, i64 c.pages][j]? = some v) : w.cell? ⟨c.cb, 0 + j, none⟩ = some v := by
  rw [Nat.zero_add, chip_cell c w h]
  rcases j with _ | _ | j
  · exact hv
  · exact hv
  · simp at hv
theorem readV_split (x : Option (List UInt8)) : ∃ a b, readV x = .tuple #[a, b, i64 0] := by
  cases x
  · exact ⟨_, _, rfl⟩
  · exact ⟨_, _, rfl⟩
theorem segItems_append (i : Nat) : ∀ (l l' : List Pg) (j : Nat), segItems i j (l ++ l') = segItems i j l ++ segItems i (j + l.length) l'
  | [], l', j => rfl
  | p :: l, l', j => by
    have ih := segItems_append i l l' (j + 1)
    rw [show j + 1 + l.length = j + (l.length + 1) by omega] at ih
    cases hp : p.view <;> simp only [List.cons_append, segItems, hp, ih, List.length_cons]
theorem allItems_append : ∀ (l l' : List Sg) (i : Nat), allItems i (l ++ l') = allItems i l ++ allItems (i + l.length) l'
  | [], l', i => rfl
  | s :: l, l', i => by
    have ih := allItems_append l l' (i + 1)
    rw [show i + 1 + l.length = i + (l.length + 1) by omega] at ih
    simp only [List.cons_append, allItems, ih, List.length_cons, List.append_assoc]
theorem items_split {c : Chp} {i j : Nat} {s : Sg} {p : Pg} {t : List UInt8} (hs : c.l[i]? = some s) (hp : s.pg[j]? = some p) (hv : p.view = some t) : ∃ suf, c.items = (allItems 0 (c.l.take i) ++ segItems i 0 (s.pg.take j)) ++ ⟨i, j, t⟩ :: suf := by
  have h1 : s.pg = s.pg.take (j + 1) ++ s.pg.drop (j + 1) := (List.take_append_drop _ _).symm
  have h2 : c.l = c.l.take (i + 1) ++ c.l.drop (i + 1) := (List.take_append_drop _ _).symm
  have h3 : segItems i 0 s.pg = segItems i 0 (s.pg.take j) ++ ⟨i, j, t⟩ :: segItems i (0 + (s.pg.take (j + 1)).length) (s.pg.drop (j + 1)) := by
    conv => lhs; rw [h1]
    rw [segItems_append, segItems_take hp, hv, List.append_assoc]; rfl
  refine ⟨segItems i (0 + (s.pg.take (j + 1)).length) (s.pg.drop (j + 1)) ++ allItems (0 + (c.l.take (i + 1)).length) (c.l.drop (i + 1)), ?_⟩
  rw [Chp.items]
  conv => lhs; rw [h2]
  rw [allItems_append, allItems_take hs, h3]
  simp only [List.append_assoc, List.cons_append]
theorem Chp.items_at {c : Chp} {a : Item} (h : a ∈ c.items) : c.at a.seg a.page = some a.t := by
  have seg : ∀ (i : Nat) (l : List Pg) (j : Nat), a ∈ segItems i j l → a.seg = i ∧ ∃ q p, a.page = j + q ∧ l[q]? = some p ∧ p.view = some a.t := by
    intro i l
    induction l with
    | nil => intro j h; simp [segItems] at h
    | cons p l ih =>
      intro j h
      cases hp : p.view with
      | none =>
        simp only [segItems, hp] at h
        obtain ⟨h1, q, p', h2, h3, h4⟩ := ih _ h
        exact ⟨h1, q + 1, p', by omega, by simpa using h3, h4⟩
      | some t =>
        simp only [segItems, hp] at h
        rcases List.mem_cons.1 h with rfl | h
        · exact ⟨rfl, 0, p, rfl, rfl, hp⟩
        · obtain ⟨h1, q, p', h2, h3, h4⟩ := ih _ h
          exact ⟨h1, q + 1, p', by omega, by simpa using h3, h4⟩
  have all : ∀ (l : List Sg) (i : Nat), a ∈ allItems i l → ∃ q s, a.seg = i + q ∧ l[q]? = some s ∧ ∃ p, s.pg[a.page]? = some p ∧ p.view = some a.t := by
    intro l
    induction l with
    | nil => intro i h; simp [allItems] at h
    | cons s l ih =>
      intro i h
      rcases List.mem_append.1 h with h | h
      · obtain ⟨h1, q, p, h2, h3, h4⟩ := seg _ _ _ h
        exact ⟨0, s, by omega, rfl, p, by rw [h2, Nat.zero_add]; exact h3, h4⟩
      · obtain ⟨q, s', h1, h2, h3⟩ := ih _ h
        exact ⟨q + 1, s', by omega, by simpa using h2, h3⟩
  obtain ⟨q, s, h1, h2, p, h3, h4⟩ := all c.l 0 h
  unfold Chp.at
  rw [h1, Nat.zero_add, h2, Option.bind_some, h3, Option.bind_some, h4]
/-- the first of the least -/
def minF (f : Nat → Int) : List Nat → Nat
  | [] => 0
  | x :: l => l.foldl (fun m y => if f y < f m then y else m) x
def wearZ (c : Chp) (i : Nat) : Int := c.wearAt i
def takeOK (g : Lg) (c : Chp) (r : Int) : Bool := decide ((if r < 0 then 0 else r) < ((freeL g c).length : Int))
def takeL (g : Lg) (c : Chp) : Lg := { g with op := minF (wearZ c) (freeL g c) }
theorem minF_foldl_mem (f : Nat → Int) : ∀ (l : List Nat) (x : Nat), l.foldl (fun m y => if f y < f m then y else m) x ∈ x :: l
  | [], x => by simp
  | y :: l, x => by
    rw [List.foldl_cons]
    by_cases hh : f y < f x
    · rw [if_pos hh]; exact List.mem_cons_of_mem _ (minF_foldl_mem f l y)
    · rw [if_neg hh]
      rcases List.mem_cons.1 (minF_foldl_mem f l x) with h | h
      · rw [h]; exact List.mem_cons_self ..
      · exact List.mem_cons_of_mem _ (List.mem_cons_of_mem _ h)
theorem minF_mem (f : Nat → Int) {l : List Nat} (h : l ≠ []) : minF f l ∈ l := by
  cases l with
  | nil => exact absurd rfl h
  | cons x l => exact minF_foldl_mem f l x
theorem mem_freeL {g : Lg} {c : Chp} {i : Nat} (h : i ∈ freeL g c) : i < c.segs ∧ isFree g c i = true := by
  have := List.mem_filter.1 h
  exact ⟨List.mem_range.1 this.1, this.2⟩
theorem pgNext_spec : ∀ (l : List Pg) (j n : Nat), pgNext l j = (n : Int) → ∃ q p, n = j + q ∧ l[q]? = some p ∧ p.view = none
  | [], j, n, h => by simp [pgNext] at h
  | p :: l, j, n, h => by
    cases hp : p.view with
    | none => simp only [pgNext, hp] at h; exact ⟨0, p, by omega, rfl, hp⟩
    | some t =>
      simp only [pgNext, hp] at h
      obtain ⟨q, p', h1, h2, h3⟩ := pgNext_spec l (j + 1) n h
      exact ⟨q + 1, p', by omega, by simpa using h2, h3⟩
theorem Chp.next_spec {c : Chp} (hc : c.wf) {i j : Nat} (hi : i < c.segs) (h : c.next i = (j : Int)) : j < c.pages ∧ c.at i j = none := by
  obtain ⟨s, hs, hl, _⟩ := hc.seg hi
  unfold Chp.next at h
  rw [hs] at h
  obtain ⟨q, p, h1, h2, h3⟩ := pgNext_spec s.pg 0 j (by simpa using h)
  rw [Nat.zero_add] at h1
  subst h1
  exact ⟨by have := (List.getElem?_eq_some_iff.1 h2).1; omega, by rw [Chp.at_eq hs h2]; exact h3⟩
theorem pgNext_cases : ∀ (l : List Pg) (j : Nat), pgNext l j = -1 ∨ ∃ n : Nat, pgNext l j = n
  | [], j => .inl rfl
  | p :: l, j => by
    cases hp : p.view with
    | none => simp only [pgNext, hp]; exact .inr ⟨j, rfl⟩
    | some t => simp only [pgNext, hp]; exact pgNext_cases l (j + 1)
theorem Chp.next_cases (c : Chp) (i : Nat) : c.next i = -1 ∨ ∃ n : Nat, c.next i = n := by
  unfold Chp.next
  cases hx : c.l[i]? with
  | none => exact .inl rfl
  | some s => simpa using pgNext_cases s.pg 0
theorem pgNext_free : ∀ (l : List Pg) (j : Nat), l ≠ [] → pgCount l = 0 → pgNext l j = j
  | [], _, h, _ => absurd rfl h
  | p :: l, j, _, h => by
    cases hp : p.view with
    | none => simp only [pgNext, hp]
    | some t => simp [pgCount, hp] at h
theorem Chp.next_free {c : Chp} (hc : c.wf) {i : Nat} (hi : i < c.segs) (h : c.many i = 0) : c.next i = ((0 : Nat) : Int) := by
  obtain ⟨s, hs, hl, _⟩ := hc.seg hi
  unfold Chp.many at h
  unfold Chp.next
  rw [hs] at h ⊢
  have h1 := hc.pages1
  have := pgNext_free s.pg 0 (by intro e; rw [e] at hl; simp at hl; omega) (by simpa using h)
  simpa using this
theorem pgNext_drop {l : List Pg} {k : Nat} {p : Pg} (hp : l[k]? = some p) : pgNext (l.drop k) k = match p.view with | some _ => pgNext (l.drop (k + 1)) (k + 1) | none => (k : Int) := by
  rw [List.drop_eq_getElem_cons (List.getElem?_eq_some_iff.1 hp).1, (List.getElem?_eq_some_iff.1 hp).2]
  cases hv : p.view <;> simp only [pgNext, hv]
end Go.Proofs.YteckdahgkkmlaaaDoor
end

section
set_option maxRecDepth 20000
set_option linter.unusedVariables false
set_option linter.unusedSimpArgs false
namespace Go.Proofs.YteckdahgkkmlaaaDoor
open Go SL
variable {G : List (Nat × Obj)}
theorem seglog_pages1 {σ : Type} (c : Chp) (hc : c.wf) (lg bb : Nat) (hd : σ → List Value) (base : σ → List Res) (y : Value) (inv : List Item → σ → Prop) (x0 : σ) (h0 : inv [] x0)
    (hy : ∀ (pre : List Item) (a : Item) (x : σ), a.seg < c.segs → a.page < c.pages → c.at a.seg a.page = some a.t → (∃ suf, c.items = pre ++ a :: suf) → inv pre x → CallY Tryd.prog G y [.agg [i64 a.seg, i64 a.page].toArray, str a.t] (row lg (ptr c.cb 0 :: hd x) 63 (0, 0) :: base x) true (fun rs' => ∃ x1, inv (pre ++ [a]) x1 ∧ rs' = row lg (ptr c.cb 0 :: hd x1) 63 (0, 0) :: base x1)) :
    Does Tryd.prog G 41 [y, ptr bb 0] (row bb [ptr lg 0] 26 (0, 0) :: chipR c :: row lg (ptr c.cb 0 :: hd x0) 63 (0, 0) :: base x0) (fun v rs' => ∃ x1, inv c.items x1 ∧ rs' = row bb [ptr lg 0] 26 (0, 0) :: chipR c :: row lg (ptr c.cb 0 :: hd x1) 63 (0, 0) :: base x1) := by
  refine Does.of Tryd.func41 rfl Tryd.ntmps41 rfl (fun w0 => ?_)
  refine At.keep [(0, _), (1, _)] (.cons rfl (.cons rfl .nil)) ?_
  have hb1 := hc.segs1
  have hb2 := hc.pages1
  refine At.seq ?_
  refine At.region ?_
  refine At.op rfl (op_load rfl Tryd.isAgg26 (by first | with_reducible exact Pull.p0 | with_reducible exact Pull.p1 | with_reducible exact Pull.p2 | with_reducible exact Pull.p3 | with_reducible exact Pull.p4 | with_reducible exact Pull.p5 | with_reducible exact Pull.p6 | with_reducible exact Pull.p7 | with_reducible exact Pull.p8 | with_reducible exact Pull.p9) rfl rfl ?_)
  refine At.op rfl (op_nilCheck rfl rfl ?_)
  refine At.op rfl (op_fieldAddr (o' := 0) rfl Tryd.underlying63 rfl Tryd.sizeOf22 rfl rfl ?_)
  refine At.op rfl (op_load rfl Tryd.isAgg22 (by first | with_reducible exact Pull.p0 | with_reducible exact Pull.p1 | with_reducible exact Pull.p2 | with_reducible exact Pull.p3 | with_reducible exact Pull.p4 | with_reducible exact Pull.p5 | with_reducible exact Pull.p6 | with_reducible exact Pull.p7 | with_reducible exact Pull.p8 | with_reducible exact Pull.p9) rfl rfl ?_)
  refine At.op rfl (op_nilCheck rfl rfl ?_)
  refine At.op rfl (op_fieldAddr (o' := 0) rfl Tryd.underlying46 rfl Tryd.sizeOf42 rfl rfl ?_)
  refine At.op rfl (op_loadGA (us := [i64 c.segs, i64 c.pages]) (chipR c) rfl Tryd.isAgg42 Tryd.sizeOf42 (by first | with_reducible exact Pull.p0 | with_reducible exact Pull.p1 | with_reducible exact Pull.p2 | with_reducible exact Pull.p3 | with_reducible exact Pull.p4 | with_reducible exact Pull.p5 | with_reducible exact Pull.p6 | with_reducible exact Pull.p7 | with_reducible exact Pull.p8 | with_reducible exact Pull.p9) (chip_size c) rfl rfl ?_)
  refine At.op rfl (op_call1 rfl Tryd.call42 (size_Segs c.segs c.pages) rfl ?_)
  refine At.op rfl (op_move rfl rfl ?_)
  refine At.nil ?_
  refine At.then_n ?_
  refine At.block ?_
  refine At.keep ((fun s => [(0, y), (1, ptr bb 0), (15, i64 c.segs), (16, i64 s.1)]) ((0, x0) : Nat × σ)) (.cons rfl (.cons rfl (.cons rfl (.cons rfl .nil)))) ?_
  refine At.loop (σ := Nat × σ) (fun s => s.1 ≤ c.segs ∧ inv (allItems 0 (c.l.take s.1)) s.2) (fun s => [(0, y), (1, ptr bb 0), (15, i64 c.segs), (16, i64 s.1)]) (fun s => row bb [ptr lg 0] 26 (0, 0) :: chipR c :: row lg (ptr c.cb 0 :: hd s.2) 63 (0, 0) :: base s.2) (fun s => c.segs - s.1) ((0, x0) : Nat × σ) ⟨Nat.zero_le _, h0⟩ ?_
  rintro ⟨k, x⟩ ⟨hk, hix⟩
  dsimp only at hk hix ⊢
  refine At.seq ?_
  refine At.region ?_
  refine At.op rfl (op_bin rfl rfl b_lt rfl ?_)
  refine At.nil ?_
  refine At.then_n ?_
  refine At.seq ?_
  refine At.cond_p rfl (fun hlt0 => ?_) (fun hlt0 => ?_)
  ·
    have hlt : k < c.segs := by omega
    obtain ⟨sg, hsg, hsl, _, _⟩ := hc.seg hlt
    refine At.skip ?_
    refine At.then_n ?_
    refine At.seq ?_
    refine At.block ?_
    refine At.seq ?_
    refine At.region ?_
    refine At.op rfl (op_move rfl rfl ?_)
    refine At.op rfl (op_assign rfl rfl ?_)
    refine At.nil ?_
    refine At.then_n ?_
    refine At.seq ?_
    refine At.region ?_
    refine At.op rfl (op_load rfl Tryd.isAgg26 (by first | with_reducible exact Pull.p0 | with_reducible exact Pull.p1 | with_reducible exact Pull.p2 | with_reducible exact Pull.p3 | with_reducible exact Pull.p4 | with_reducible exact Pull.p5 | with_reducible exact Pull.p6 | with_reducible exact Pull.p7 | with_reducible exact Pull.p8 | with_reducible exact Pull.p9) rfl rfl ?_)
    refine At.op rfl (op_nilCheck rfl rfl ?_)
    refine At.op rfl (op_fieldAddr (o' := 0) rfl Tryd.underlying63 rfl Tryd.sizeOf22 rfl rfl ?_)
    refine At.op rfl (op_load rfl Tryd.isAgg22 (by first | with_reducible exact Pull.p0 | with_reducible exact Pull.p1 | with_reducible exact Pull.p2 | with_reducible exact Pull.p3 | with_reducible exact Pull.p4 | with_reducible exact Pull.p5 | with_reducible exact Pull.p6 | with_reducible exact Pull.p7 | with_reducible exact Pull.p8 | with_reducible exact Pull.p9) rfl rfl ?_)
    refine At.op rfl (op_nilCheck rfl rfl ?_)
    refine At.op rfl (op_fieldAddr (o' := 0) rfl Tryd.underlying46 rfl Tryd.sizeOf42 rfl rfl ?_)
    refine At.op rfl (op_loadGA (us := [i64 c.segs, i64 c.pages]) (chipR c) rfl Tryd.isAgg42 Tryd.sizeOf42 (by first | with_reducible exact Pull.p0 | with_reducible exact Pull.p1 | with_reducible exact Pull.p2 | with_reducible exact Pull.p3 | with_reducible exact Pull.p4 | with_reducible exact Pull.p5 | with_reducible exact Pull.p6 | with_reducible exact Pull.p7 | with_reducible exact Pull.p8 | with_reducible exact Pull.p9) (chip_size c) rfl rfl ?_)
    refine At.op rfl (op_call1 rfl Tryd.call17 (size_Pages c.segs c.pages) rfl ?_)
    refine At.op rfl (op_move rfl rfl ?_)
    refine At.nil ?_
    refine At.then_n ?_
    refine At.block ?_
    refine At.keep ((fun s => [(0, y), (1, ptr bb 0), (3, i64 k), (15, i64 c.segs), (16, i64 k), (26, i64 c.pages), (27, i64 s.1)]) ((0, x) : Nat × σ)) (.cons rfl (.cons rfl (.cons rfl (.cons rfl (.cons rfl (.cons rfl (.cons rfl .nil))))))) ?_
    refine At.loop (σ := Nat × σ) (fun s => s.1 ≤ c.pages ∧ inv (allItems 0 (c.l.take k) ++ segItems k 0 (sg.pg.take s.1)) s.2) (fun s => [(0, y), (1, ptr bb 0), (3, i64 k), (15, i64 c.segs), (16, i64 k), (26, i64 c.pages), (27, i64 s.1)]) (fun s => row bb [ptr lg 0] 26 (0, 0) :: chipR c :: row lg (ptr c.cb 0 :: hd s.2) 63 (0, 0) :: base s.2) (fun s => c.pages - s.1) ((0, x) : Nat × σ) ⟨Nat.zero_le _, by simpa [segItems] using hix⟩ ?_
    rintro ⟨j, z⟩ ⟨hj, hi⟩
    dsimp only at hj hi ⊢
    refine At.seq ?_
    refine At.region ?_
    refine At.op rfl (op_bin rfl rfl b_lt rfl ?_)
    refine At.nil ?_
    refine At.then_n ?_
    refine At.seq ?_
    refine At.cond_p rfl (fun hlt1 => ?_) (fun hlt1 => ?_)
    ·
      have hlt2 : j < c.pages := by omega
      obtain ⟨p, hp⟩ : ∃ p, sg.pg[j]? = some p := ⟨_, List.getElem?_eq_getElem (by omega)⟩
      refine At.skip ?_
      refine At.then_n ?_
      refine At.seq ?_
      refine At.block ?_
      refine At.seq ?_
      refine At.region ?_
      refine At.op rfl (op_move rfl rfl ?_)
      refine At.op rfl (op_assign rfl rfl ?_)
      refine At.nil ?_
      refine At.then_n ?_
      refine At.seq ?_
      refine At.region ?_
      refine At.op rfl (op_load rfl Tryd.isAgg26 (by first | with_reducible exact Pull.p0 | with_reducible exact Pull.p1 | with_reducible exact Pull.p2 | with_reducible exact Pull.p3 | with_reducible exact Pull.p4 | with_reducible exact Pull.p5 | with_reducible exact Pull.p6 | with_reducible exact Pull.p7 | with_reducible exact Pull.p8 | with_reducible exact Pull.p9) rfl rfl ?_)
      refine At.op rfl (op_nilCheck rfl rfl ?_)
      refine At.op rfl (op_fieldAddr (o' := 0) rfl Tryd.underlying63 rfl Tryd.sizeOf22 rfl rfl ?_)
      refine At.op rfl (op_load rfl Tryd.isAgg22 (by first | with_reducible exact Pull.p0 | with_reducible exact Pull.p1 | with_reducible exact Pull.p2 | with_reducible exact Pull.p3 | with_reducible exact Pull.p4 | with_reducible exact Pull.p5 | with_reducible exact Pull.p6 | with_reducible exact Pull.p7 | with_reducible exact Pull.p8 | with_reducible exact Pull.p9) rfl rfl ?_)
      refine At.op rfl (op_move rfl rfl ?_)
      refine At.op rfl (op_move rfl rfl ?_)
      refine At.op rfl (op_callQ rfl Tryd.call13 (nand_Read c hc k j hlt hlt2) (.cons (by first | with_reducible exact Pull.p0 | with_reducible exact Pull.p1 | with_reducible exact Pull.p2 | with_reducible exact Pull.p3 | with_reducible exact Pull.p4 | with_reducible exact Pull.p5 | with_reducible exact Pull.p6 | with_reducible exact Pull.p7 | with_reducible exact Pull.p8 | with_reducible exact Pull.p9) .nil) rfl ?_)
      have hat := Chp.at_eq hsg hp
      rcases hv : p.view with _ | t <;> rw [hv] at hat <;> rw [hat]
      ·
        refine At.op rfl (op_move rfl rfl ?_)
        refine At.op rfl (op_extractL rfl .zero rfl ?_)
        refine At.op rfl (op_extractL rfl (.succ .zero) rfl ?_)
        refine At.op rfl (op_extractL rfl (.succ (.succ .zero)) rfl ?_)
        refine At.op rfl (op_assign rfl rfl ?_)
        refine At.op rfl (op_assign rfl rfl ?_)
        refine At.op rfl (op_assign rfl rfl ?_)
        refine At.nil ?_
        refine At.then_n ?_
        refine At.seq ?_
        refine At.keep [(0, _), (1, _), (3, _), (15, _), (16, _), (26, _), (27, _), (4, _), (5, _), (6, _), (7, _)] (.cons rfl (.cons rfl (.cons rfl (.cons rfl (.cons rfl (.cons rfl (.cons rfl (.cons rfl (.cons rfl (.cons rfl (.cons rfl .nil))))))))))) ?_
        refine At.region ?_
        refine At.op rfl (op_move rfl rfl ?_)
        refine At.op rfl (op_move rfl rfl ?_)
        refine At.opk (want := false) rfl rfl rfl rfl rfl ?_
        refine At.opk (want := false) rfl rfl rfl rfl rfl ?_
        refine At.op rfl (op_pick_f rfl rfl rfl ?_)
        refine At.op rfl (op_move rfl rfl ?_)
        refine At.opk (want := false) rfl rfl rfl rfl rfl ?_
        refine At.opk (want := false) rfl rfl rfl rfl rfl ?_
        refine At.opk (want := false) rfl rfl rfl rfl rfl ?_
        refine At.opk (want := false) rfl rfl rfl rfl rfl ?_
        refine At.opk (want := false) rfl rfl rfl rfl rfl ?_
        refine At.opk (want := false) rfl rfl rfl rfl rfl ?_
        refine At.opk (want := false) rfl rfl rfl rfl rfl ?_
        refine At.op rfl (op_pick_f rfl rfl rfl ?_)
        refine At.nil ?_
        refine At.then_n ?_
        refine At.cond_f rfl ?_
        refine At.skip ?_
        refine At.blk_n ?_
        refine At.then_n ?_
        refine At.keep [(0, _), (1, _), (3, _), (15, _), (16, _), (26, _), (27, _)] (.cons rfl (.cons rfl (.cons rfl (.cons rfl (.cons rfl (.cons rfl (.cons rfl .nil))))))) ?_
        refine At.region ?_
        refine At.op rfl (op_bin rfl rfl (b_add (by omega) (by omega)) rfl ?_)
        refine At.op rfl (op_move rfl rfl ?_)
        refine At.nil ?_
        refine At.then_n ?_
        first
          | exact At.back (kk := []) (j + 1, x1) ⟨by dsimp only; omega, by dsimp only; rw [segItems_take hp, hv, ← List.append_assoc]; exact hi1⟩ (by dsimp only; omega) (.cons rfl (.cons rfl (.cons rfl (.cons rfl (.cons rfl (.cons rfl (.cons rfl .nil))))))) (cut_all _)
          | exact At.back (kk := []) (j + 1, z) ⟨by dsimp only; omega, by dsimp only; rw [segItems_take hp, hv, List.append_nil]; exact hi⟩ (by dsimp only; omega) (.cons rfl (.cons rfl (.cons rfl (.cons rfl (.cons rfl (.cons rfl (.cons rfl .nil))))))) (cut_all _)
      ·
        refine At.op rfl (op_move rfl rfl ?_)
        refine At.op rfl (op_extractL rfl .zero rfl ?_)
        refine At.op rfl (op_extractL rfl (.succ .zero) rfl ?_)
        refine At.op rfl (op_extractL rfl (.succ (.succ .zero)) rfl ?_)
        refine At.op rfl (op_assign rfl rfl ?_)
        refine At.op rfl (op_assign rfl rfl ?_)
        refine At.op rfl (op_assign rfl rfl ?_)
        refine At.nil ?_
        refine At.then_n ?_
        refine At.seq ?_
        refine At.keep [(0, _), (1, _), (3, _), (15, _), (16, _), (26, _), (27, _), (4, _), (5, _), (6, _), (7, _)] (.cons rfl (.cons rfl (.cons rfl (.cons rfl (.cons rfl (.cons rfl (.cons rfl (.cons rfl (.cons rfl (.cons rfl (.cons rfl .nil))))))))))) ?_
        refine At.region ?_
        refine At.op rfl (op_move rfl rfl ?_)
        refine At.op rfl (op_move rfl rfl ?_)
        refine At.opg rfl rfl rfl (op_move rfl rfl ?_)
        refine At.opg rfl rfl rfl (op_bin rfl rfl (Bin.cast (v' := .bool true) b_eq (congrArg Value.bool (decide_eq_true rfl))) rfl ?_)
        refine At.op rfl (op_pick_t rfl rfl rfl ?_)
        refine At.op rfl (op_move rfl rfl ?_)
        refine At.opg rfl rfl rfl (op_move rfl rfl ?_)
        refine At.opg rfl rfl rfl (op_move rfl rfl ?_)
        refine At.opg rfl rfl rfl (op_move rfl rfl ?_)
        refine At.opg rfl rfl rfl (op_build (v := .agg [i64 k, i64 j].toArray) rfl (fun w => run_build w _ _ _ (by kernel_rfl)) rfl ?_)
        refine At.opg rfl rfl rfl (op_move rfl rfl ?_)
        refine At.opg rfl rfl rfl (op_callY rfl rfl (hy _ ⟨k, j, t⟩ z hlt hlt2 hat (items_split hsg hp hv) hi) (.cons Pull.p2 (cut_tail2 _ _ _)) rfl ?_)
        rintro _ ⟨x1, hi1, rfl⟩
        refine At.rot2 ?_
        refine At.opg rfl rfl rfl (op_not rfl rfl ?_)
        refine At.op rfl (op_pick_t rfl rfl rfl ?_)
        refine At.nil ?_
        refine At.then_n ?_
        refine At.cond_f rfl ?_
        refine At.skip ?_
        refine At.blk_n ?_
        refine At.then_n ?_
        refine At.keep [(0, _), (1, _), (3, _), (15, _), (16, _), (26, _), (27, _)] (.cons rfl (.cons rfl (.cons rfl (.cons rfl (.cons rfl (.cons rfl (.cons rfl .nil))))))) ?_
        refine At.region ?_
        refine At.op rfl (op_bin rfl rfl (b_add (by omega) (by omega)) rfl ?_)
        refine At.op rfl (op_move rfl rfl ?_)
        refine At.nil ?_
        refine At.then_n ?_
        first
          | exact At.back (kk := []) (j + 1, x1) ⟨by dsimp only; omega, by dsimp only; rw [segItems_take hp, hv, ← List.append_assoc]; exact hi1⟩ (by dsimp only; omega) (.cons rfl (.cons rfl (.cons rfl (.cons rfl (.cons rfl (.cons rfl (.cons rfl .nil))))))) (cut_all _)
          | exact At.back (kk := []) (j + 1, z) ⟨by dsimp only; omega, by dsimp only; rw [segItems_take hp, hv, List.append_nil]; exact hi⟩ (by dsimp only; omega) (.cons rfl (.cons rfl (.cons rfl (.cons rfl (.cons rfl (.cons rfl (.cons rfl .nil))))))) (cut_all _)
    ·
      obtain rfl : j = c.pages := by omega
      refine At.exit ?_
      refine At.then_e ?_
      refine At.then_e ?_
      refine At.blk_e ?_
      refine At.blk_n ?_
      refine At.then_n ?_
      refine At.region ?_
      refine At.op rfl (op_bin rfl rfl (b_add (by omega) (by omega)) rfl ?_)
      refine At.op rfl (op_move rfl rfl ?_)
      refine At.nil ?_
      refine At.then_n ?_
      refine At.back (kk := []) (k + 1, z) ⟨by dsimp only; omega, ?_⟩ (by dsimp only; omega) (.cons rfl (.cons rfl (.cons rfl (.cons rfl .nil)))) (cut_all _)
      dsimp only
      rw [List.take_of_length_le (l := sg.pg) (by omega)] at hi
      rw [allItems_take hsg]; exact hi
  ·
    obtain rfl : k = c.segs := by omega
    rw [List.take_of_length_le (by rw [hc.len]; exact Nat.le_refl _)] at hix
    refine At.exit ?_
    refine At.then_e ?_
    refine At.then_e ?_
    refine At.blk_e ?_
    exact At.fin0 _ (.inr rfl) rfl rfl ⟨x, hix, rfl⟩ (cut_all _)
theorem seglog_pages (lg : Nat) : Does Tryd.prog G 27 [ptr lg 0] [] (fun v rs' => ∃ bb, v = .func (.func 41) [].toArray [ptr bb 0].toArray ∧ rs' = [row bb [ptr lg 0] 26 (0, 0)]) := by
  refine Does.of Tryd.func27 rfl Tryd.ntmps27 rfl (fun w0 => ?_)
  refine At.keep [(0, _)] (.cons rfl .nil) ?_
  refine At.seq ?_
  refine At.region ?_
  refine At.op rfl (op_box rfl rfl rfl ?_)
  intro bb
  refine At.op rfl (op_assign rfl rfl ?_)
  refine At.nil ?_
  refine At.then_n ?_
  refine At.seq ?_
  refine At.region ?_
  refine At.op rfl (op_makeFunc rfl rfl rfl ?_)
  refine At.op rfl (op_assign rfl rfl ?_)
  refine At.nil ?_
  refine At.then_n ?_
  refine At.ret ?_
  exact At.fin1 rfl rfl rfl ⟨bb, rfl, rfl⟩ (.cons (by first | with_reducible exact Pull.p0 | with_reducible exact Pull.p1 | with_reducible exact Pull.p2 | with_reducible exact Pull.p3 | with_reducible exact Pull.p4 | with_reducible exact Pull.p5 | with_reducible exact Pull.p6 | with_reducible exact Pull.p7 | with_reducible exact Pull.p8 | with_reducible exact Pull.p9) .nil)
theorem seglog_frames (lg : Nat) : Does Tryd.prog G 14 [ptr lg 0] [] (fun v rs' => ∃ bb, v = .func (.func 26) [].toArray [ptr bb 0].toArray ∧ rs' = [row bb [ptr lg 0] 26 (0, 0)]) := by
  refine Does.of Tryd.func14 rfl Tryd.ntmps14 rfl (fun w0 => ?_)
  refine At.keep [(0, _)] (.cons rfl .nil) ?_
  refine At.seq ?_
  refine At.region ?_
  refine At.op rfl (op_box rfl rfl rfl ?_)
  intro bb
  refine At.op rfl (op_assign rfl rfl ?_)
  refine At.nil ?_
  refine At.then_n ?_
  refine At.seq ?_
  refine At.region ?_
  refine At.op rfl (op_makeFunc rfl rfl rfl ?_)
  refine At.op rfl (op_assign rfl rfl ?_)
  refine At.nil ?_
  refine At.then_n ?_
  refine At.ret ?_
  exact At.fin1 rfl rfl rfl ⟨bb, rfl, rfl⟩ (.cons (by first | with_reducible exact Pull.p0 | with_reducible exact Pull.p1 | with_reducible exact Pull.p2 | with_reducible exact Pull.p3 | with_reducible exact Pull.p4 | with_reducible exact Pull.p5 | with_reducible exact Pull.p6 | with_reducible exact Pull.p7 | with_reducible exact Pull.p8 | with_reducible exact Pull.p9) .nil)
end Go.Proofs.YteckdahgkkmlaaaDoor
end

section
set_option maxRecDepth 20000
set_option linter.unusedVariables false
set_option linter.unusedSimpArgs false
namespace Go.Proofs.YteckdahgkkmlaaaDoor
open Go SL
variable {G : List (Nat × Obj)}
structure FItem where
  seg : Nat
  page : Nat
  k : UInt8
  q : UInt64
  t : List UInt8
def frm (s : List UInt8) : Option (UInt8 × UInt64 × List UInt8) := if getOK s = true then some (s.getD 0 0, UInt64.ofNat (leN ((rr s).take 8)), ttT ((rr s).drop 8)) else none
theorem getV_some {s t : List UInt8} {k : UInt8} {q : UInt64} (h : frm s = some (k, q, t)) : getV s = .tuple #[frmV k q t, i64 0] := by
  unfold frm at h
  unfold getV
  split at h
  · rename_i e; rw [if_pos e]; cases h; rfl
  · cases h
theorem getV_none {s : List UInt8} (h : frm s = none) : getV s = .tuple #[frmV 0 0 [], i64 120] := by
  unfold frm at h
  unfold getV
  split at h
  · cases h
  · rename_i e; rw [if_neg e]
def toF (a : Item) : Option FItem := (frm a.t).map fun x => ⟨a.seg, a.page, x.1, x.2.1, x.2.2⟩
def Chp.frames (c : Chp) : List FItem := c.items.filterMap toF
theorem getV_cut (s : List UInt8) : ∃ (k : UInt8) (q : UInt64) (t : List UInt8) (e : Int), getV s = .tuple #[frmV k q t, i64 e] := by
  unfold getV
  split
  · exact ⟨_, _, _, 0, rfl⟩
  · exact ⟨_, _, _, 120, rfl⟩
def maxQ (l : List FItem) : UInt64 := l.foldl (fun m a => if m < a.q then a.q else m) 0
theorem seglog_many (c : Chp) (hc : c.wf) (g : Lg) (i : Nat) : Does Tryd.prog G 18 [ptr g.lb 0, i64 i] [chipR c, logRow g c.cb] (OneR (i64 (c.many i)) [chipR c, logRow g c.cb]) := by
  refine Does.ofM Tryd.func18 rfl Tryd.ntmps18 rfl (fun w0 => ?_)
  refine At.keep [(0, _), (1, _)] (.cons rfl (.cons rfl .nil)) ?_
  refine At.seq ?_
  refine At.region ?_
  refine At.op rfl (op_box rfl rfl rfl ?_)
  intro b3
  refine At.op rfl (op_alloc Tryd.zeroValue3 rfl rfl ?_)
  intro b4
  refine At.nil ?_
  refine At.then_n ?_
  refine At.seq ?_
  refine At.seq ?_
  refine At.region ?_
  refine At.op rfl (op_move rfl rfl ?_)
  refine At.op rfl (op_callF rfl Tryd.call27 (seglog_pages g.lb) .nil rfl ?_)
  rintro v _ ⟨bb, rfl, rfl⟩
  refine At.app1 ?_
  refine At.nil ?_
  refine At.then_n ?_
  refine At.block ?_
  refine At.keep [(3, ptr b3 0), (4, ptr b4 0), (7, _)] (.cons rfl (.cons rfl (.cons rfl .nil))) ?_
  refine At.rangeF (fs := []) (cap := [ptr bb 0]) rfl Tryd.call41 (fun fn tmps l D RC hRC hsz hlk => ⟨[row bb [ptr g.lb 0] 26 (0, 0), chipR c, logRow g c.cb, row b4 [i64 0] 3 (0, 0), row b3 [i64 i] 3 (0, 0)], _, (fun rs1 => ∃ n : Nat, n = c.items.countP (fun a => decide (a.seg = i)) ∧ rs1 = [row bb [ptr g.lb 0] 26 (0, 0), chipR c, logRow g c.cb, row b4 [i64 n] 3 (0, 0), row b3 [i64 i] 3 (0, 0)]), (.cons (by first | exact Pull.p0 | exact Pull.p1 | exact Pull.p2 | exact Pull.p3 | exact Pull.p4 | exact Pull.p5 | exact Pull.p6 | exact Pull.p7 | exact Pull.p8 | exact Pull.p9) (.cons (by first | exact Pull.p0 | exact Pull.p1 | exact Pull.p2 | exact Pull.p3 | exact Pull.p4 | exact Pull.p5 | exact Pull.p6 | exact Pull.p7 | exact Pull.p8 | exact Pull.p9) (.cons (by first | exact Pull.p0 | exact Pull.p1 | exact Pull.p2 | exact Pull.p3 | exact Pull.p4 | exact Pull.p5 | exact Pull.p6 | exact Pull.p7 | exact Pull.p8 | exact Pull.p9) (.cons (by first | exact Pull.p0 | exact Pull.p1 | exact Pull.p2 | exact Pull.p3 | exact Pull.p4 | exact Pull.p5 | exact Pull.p6 | exact Pull.p7 | exact Pull.p8 | exact Pull.p9) (.cons (by first | exact Pull.p0 | exact Pull.p1 | exact Pull.p2 | exact Pull.p3 | exact Pull.p4 | exact Pull.p5 | exact Pull.p6 | exact Pull.p7 | exact Pull.p8 | exact Pull.p9) .nil))))), ?_, ?_⟩)
  ·
    refine Does.conv (seglog_pages1 (σ := Nat) c hc g.lb bb (fun _ => g.tl) (fun n => [RC, defR D, row b4 [i64 n] 3 (0, 0), row b3 [i64 i] 3 (0, 0)]) _ (fun pre n => n = pre.countP (fun a => decide (a.seg = i))) 0 rfl ?_) (perm_of_cut (.cons (by first | exact Pull.p0 | exact Pull.p1 | exact Pull.p2 | exact Pull.p3 | exact Pull.p4 | exact Pull.p5 | exact Pull.p6 | exact Pull.p7 | exact Pull.p8 | exact Pull.p9) (.cons (by first | exact Pull.p0 | exact Pull.p1 | exact Pull.p2 | exact Pull.p3 | exact Pull.p4 | exact Pull.p5 | exact Pull.p6 | exact Pull.p7 | exact Pull.p8 | exact Pull.p9) (.cons (by first | exact Pull.p0 | exact Pull.p1 | exact Pull.p2 | exact Pull.p3 | exact Pull.p4 | exact Pull.p5 | exact Pull.p6 | exact Pull.p7 | exact Pull.p8 | exact Pull.p9) (.cons (by first | exact Pull.p0 | exact Pull.p1 | exact Pull.p2 | exact Pull.p3 | exact Pull.p4 | exact Pull.p5 | exact Pull.p6 | exact Pull.p7 | exact Pull.p8 | exact Pull.p9) (.cons (by first | exact Pull.p0 | exact Pull.p1 | exact Pull.p2 | exact Pull.p3 | exact Pull.p4 | exact Pull.p5 | exact Pull.p6 | exact Pull.p7 | exact Pull.p8 | exact Pull.p9) (.cons (by first | exact Pull.p0 | exact Pull.p1 | exact Pull.p2 | exact Pull.p3 | exact Pull.p4 | exact Pull.p5 | exact Pull.p6 | exact Pull.p7 | exact Pull.p8 | exact Pull.p9) (.cons (by first | exact Pull.p0 | exact Pull.p1 | exact Pull.p2 | exact Pull.p3 | exact Pull.p4 | exact Pull.p5 | exact Pull.p6 | exact Pull.p7 | exact Pull.p8 | exact Pull.p9) .nil)))))))) (fun v rs h => by obtain ⟨x1, h1, rfl⟩ := h; exact ⟨_, ⟨_, ⟨x1, h1, rfl⟩, perm_of_cut (.cons (by first | exact Pull.p0 | exact Pull.p1 | exact Pull.p2 | exact Pull.p3 | exact Pull.p4 | exact Pull.p5 | exact Pull.p6 | exact Pull.p7 | exact Pull.p8 | exact Pull.p9) (.cons (by first | exact Pull.p0 | exact Pull.p1 | exact Pull.p2 | exact Pull.p3 | exact Pull.p4 | exact Pull.p5 | exact Pull.p6 | exact Pull.p7 | exact Pull.p8 | exact Pull.p9) (.cons (by first | exact Pull.p0 | exact Pull.p1 | exact Pull.p2 | exact Pull.p3 | exact Pull.p4 | exact Pull.p5 | exact Pull.p6 | exact Pull.p7 | exact Pull.p8 | exact Pull.p9) (.cons (by first | exact Pull.p0 | exact Pull.p1 | exact Pull.p2 | exact Pull.p3 | exact Pull.p4 | exact Pull.p5 | exact Pull.p6 | exact Pull.p7 | exact Pull.p8 | exact Pull.p9) (.cons (by first | exact Pull.p0 | exact Pull.p1 | exact Pull.p2 | exact Pull.p3 | exact Pull.p4 | exact Pull.p5 | exact Pull.p6 | exact Pull.p7 | exact Pull.p8 | exact Pull.p9) (.cons (by first | exact Pull.p0 | exact Pull.p1 | exact Pull.p2 | exact Pull.p3 | exact Pull.p4 | exact Pull.p5 | exact Pull.p6 | exact Pull.p7 | exact Pull.p8 | exact Pull.p9) (.cons (by first | exact Pull.p0 | exact Pull.p1 | exact Pull.p2 | exact Pull.p3 | exact Pull.p4 | exact Pull.p5 | exact Pull.p6 | exact Pull.p7 | exact Pull.p8 | exact Pull.p9) .nil)))))))⟩, List.Perm.refl _⟩)
    rintro pre a n ha1 ha2 ha3 ⟨suf, ha4⟩ hi
    refine CallY.perm (pre := [RC, logRow g c.cb, defR D, row b4 [i64 n] 3 (0, 0), row b3 [i64 i] 3 (0, 0)]) ?_ (perm_of_cut (.cons (by first | exact Pull.p0 | exact Pull.p1 | exact Pull.p2 | exact Pull.p3 | exact Pull.p4 | exact Pull.p5 | exact Pull.p6 | exact Pull.p7 | exact Pull.p8 | exact Pull.p9) (.cons (by first | exact Pull.p0 | exact Pull.p1 | exact Pull.p2 | exact Pull.p3 | exact Pull.p4 | exact Pull.p5 | exact Pull.p6 | exact Pull.p7 | exact Pull.p8 | exact Pull.p9) (.cons (by first | exact Pull.p0 | exact Pull.p1 | exact Pull.p2 | exact Pull.p3 | exact Pull.p4 | exact Pull.p5 | exact Pull.p6 | exact Pull.p7 | exact Pull.p8 | exact Pull.p9) (.cons (by first | exact Pull.p0 | exact Pull.p1 | exact Pull.p2 | exact Pull.p3 | exact Pull.p4 | exact Pull.p5 | exact Pull.p6 | exact Pull.p7 | exact Pull.p8 | exact Pull.p9) (.cons (by first | exact Pull.p0 | exact Pull.p1 | exact Pull.p2 | exact Pull.p3 | exact Pull.p4 | exact Pull.p5 | exact Pull.p6 | exact Pull.p7 | exact Pull.p8 | exact Pull.p9) .nil))))))
    subst hRC
    refine CallY.yield (m := (9, str a.t) :: (8, .agg [i64 a.seg, i64 a.page].toArray) :: [(3, ptr b3 0), (4, ptr b4 0), _]) hsz rfl (zip2_look hsz rfl rfl rfl hlk) (fun w1 => ?_)
    refine At.region ?_
    refine At.op rfl (op_alloc Tryd.zeroValue34 rfl rfl ?_)
    intro ba
    refine At.op rfl (op_storeW rfl rfl Tryd.sizeOf34 (by repeat' (first | refine List.forall_mem_cons.2 ⟨rfl, ?_⟩ | exact (fun _ h => by cases h))) (by first | with_reducible exact Pull.p0 | with_reducible exact Pull.p1 | with_reducible exact Pull.p2 | with_reducible exact Pull.p3 | with_reducible exact Pull.p4 | with_reducible exact Pull.p5 | with_reducible exact Pull.p6 | with_reducible exact Pull.p7 | with_reducible exact Pull.p8 | with_reducible exact Pull.p9) rfl rfl ?_)
    refine At.nil ?_
    refine At.then_n ?_
    refine At.beginR (by first | with_reducible exact Pull.p0 | with_reducible exact Pull.p1 | with_reducible exact Pull.p2 | with_reducible exact Pull.p3 | with_reducible exact Pull.p4 | with_reducible exact Pull.p5 | with_reducible exact Pull.p6 | with_reducible exact Pull.p7 | with_reducible exact Pull.p8 | with_reducible exact Pull.p9) ?_
    refine At.block ?_
    refine At.seq ?_
    refine At.region ?_
    refine At.op rfl (op_fieldAddr (o' := 0) rfl Tryd.underlying34 rfl Tryd.sizeOf3 rfl rfl ?_)
    refine At.op rfl (op_load rfl Tryd.isAgg3 (by first | with_reducible exact Pull.p0 | with_reducible exact Pull.p1 | with_reducible exact Pull.p2 | with_reducible exact Pull.p3 | with_reducible exact Pull.p4 | with_reducible exact Pull.p5 | with_reducible exact Pull.p6 | with_reducible exact Pull.p7 | with_reducible exact Pull.p8 | with_reducible exact Pull.p9) rfl rfl ?_)
    refine At.op rfl (op_load rfl Tryd.isAgg3 (by first | with_reducible exact Pull.p0 | with_reducible exact Pull.p1 | with_reducible exact Pull.p2 | with_reducible exact Pull.p3 | with_reducible exact Pull.p4 | with_reducible exact Pull.p5 | with_reducible exact Pull.p6 | with_reducible exact Pull.p7 | with_reducible exact Pull.p8 | with_reducible exact Pull.p9) rfl rfl ?_)
    refine At.op rfl (op_bin rfl rfl b_eq rfl ?_)
    refine At.nil ?_
    refine At.then_n ?_
    refine At.cond_p rfl (fun hsg => ?_) (fun hsg => ?_)
    ·
      have hn1 : n + 1 = (pre ++ [a]).countP (fun a => decide (a.seg = i)) := by rw [List.countP_append, ← hi]; simp [show a.seg = i by omega]
      have hnb : n + 1 ≤ 16 := by
        have e1 := c.items_count i
        have e2 := c.many_le hc i
        have e3 := hc.pages1
        rw [ha4, List.countP_append, List.countP_cons, ← hi, if_pos (by simp [show a.seg = i by omega])] at e1
        omega
      refine At.region ?_
      refine At.op rfl (op_load rfl Tryd.isAgg3 (by first | with_reducible exact Pull.p0 | with_reducible exact Pull.p1 | with_reducible exact Pull.p2 | with_reducible exact Pull.p3 | with_reducible exact Pull.p4 | with_reducible exact Pull.p5 | with_reducible exact Pull.p6 | with_reducible exact Pull.p7 | with_reducible exact Pull.p8 | with_reducible exact Pull.p9) rfl rfl ?_)
      refine At.op rfl (op_bin rfl rfl (b_add (by omega) (by omega)) rfl ?_)
      refine At.op rfl (op_store rfl rfl Tryd.sizeOf3 rfl rfl (by first | with_reducible exact Pull.p0 | with_reducible exact Pull.p1 | with_reducible exact Pull.p2 | with_reducible exact Pull.p3 | with_reducible exact Pull.p4 | with_reducible exact Pull.p5 | with_reducible exact Pull.p6 | with_reducible exact Pull.p7 | with_reducible exact Pull.p8 | with_reducible exact Pull.p9) .zero rfl ?_)
      refine At.nil ?_
      refine At.blk_n ?_
      first
        | exact At.endR (by first | with_reducible exact Pull.p0 | with_reducible exact Pull.p1 | with_reducible exact Pull.p2 | with_reducible exact Pull.p3 | with_reducible exact Pull.p4 | with_reducible exact Pull.p5 | with_reducible exact Pull.p6 | with_reducible exact Pull.p7 | with_reducible exact Pull.p8 | with_reducible exact Pull.p9) ⟨n + 1, hn1, rfl⟩ (.cons (by first | exact Pull.p0 | exact Pull.p1 | exact Pull.p2 | exact Pull.p3 | exact Pull.p4 | exact Pull.p5 | exact Pull.p6 | exact Pull.p7 | exact Pull.p8 | exact Pull.p9) (.cons (by first | exact Pull.p0 | exact Pull.p1 | exact Pull.p2 | exact Pull.p3 | exact Pull.p4 | exact Pull.p5 | exact Pull.p6 | exact Pull.p7 | exact Pull.p8 | exact Pull.p9) (.cons (by first | exact Pull.p0 | exact Pull.p1 | exact Pull.p2 | exact Pull.p3 | exact Pull.p4 | exact Pull.p5 | exact Pull.p6 | exact Pull.p7 | exact Pull.p8 | exact Pull.p9) (.cons (by first | exact Pull.p0 | exact Pull.p1 | exact Pull.p2 | exact Pull.p3 | exact Pull.p4 | exact Pull.p5 | exact Pull.p6 | exact Pull.p7 | exact Pull.p8 | exact Pull.p9) (.cons (by first | exact Pull.p0 | exact Pull.p1 | exact Pull.p2 | exact Pull.p3 | exact Pull.p4 | exact Pull.p5 | exact Pull.p6 | exact Pull.p7 | exact Pull.p8 | exact Pull.p9) .nil)))))
        | exact At.endR (by first | with_reducible exact Pull.p0 | with_reducible exact Pull.p1 | with_reducible exact Pull.p2 | with_reducible exact Pull.p3 | with_reducible exact Pull.p4 | with_reducible exact Pull.p5 | with_reducible exact Pull.p6 | with_reducible exact Pull.p7 | with_reducible exact Pull.p8 | with_reducible exact Pull.p9) ⟨n, hn1, rfl⟩ (.cons (by first | exact Pull.p0 | exact Pull.p1 | exact Pull.p2 | exact Pull.p3 | exact Pull.p4 | exact Pull.p5 | exact Pull.p6 | exact Pull.p7 | exact Pull.p8 | exact Pull.p9) (.cons (by first | exact Pull.p0 | exact Pull.p1 | exact Pull.p2 | exact Pull.p3 | exact Pull.p4 | exact Pull.p5 | exact Pull.p6 | exact Pull.p7 | exact Pull.p8 | exact Pull.p9) (.cons (by first | exact Pull.p0 | exact Pull.p1 | exact Pull.p2 | exact Pull.p3 | exact Pull.p4 | exact Pull.p5 | exact Pull.p6 | exact Pull.p7 | exact Pull.p8 | exact Pull.p9) (.cons (by first | exact Pull.p0 | exact Pull.p1 | exact Pull.p2 | exact Pull.p3 | exact Pull.p4 | exact Pull.p5 | exact Pull.p6 | exact Pull.p7 | exact Pull.p8 | exact Pull.p9) (.cons (by first | exact Pull.p0 | exact Pull.p1 | exact Pull.p2 | exact Pull.p3 | exact Pull.p4 | exact Pull.p5 | exact Pull.p6 | exact Pull.p7 | exact Pull.p8 | exact Pull.p9) .nil)))))
    ·
      have hn1 : n = (pre ++ [a]).countP (fun a => decide (a.seg = i)) := by rw [List.countP_append, ← hi]; simp [show ¬ a.seg = i by omega]
      refine At.skip ?_
      refine At.blk_n ?_
      first
        | exact At.endR (by first | with_reducible exact Pull.p0 | with_reducible exact Pull.p1 | with_reducible exact Pull.p2 | with_reducible exact Pull.p3 | with_reducible exact Pull.p4 | with_reducible exact Pull.p5 | with_reducible exact Pull.p6 | with_reducible exact Pull.p7 | with_reducible exact Pull.p8 | with_reducible exact Pull.p9) ⟨n + 1, hn1, rfl⟩ (.cons (by first | exact Pull.p0 | exact Pull.p1 | exact Pull.p2 | exact Pull.p3 | exact Pull.p4 | exact Pull.p5 | exact Pull.p6 | exact Pull.p7 | exact Pull.p8 | exact Pull.p9) (.cons (by first | exact Pull.p0 | exact Pull.p1 | exact Pull.p2 | exact Pull.p3 | exact Pull.p4 | exact Pull.p5 | exact Pull.p6 | exact Pull.p7 | exact Pull.p8 | exact Pull.p9) (.cons (by first | exact Pull.p0 | exact Pull.p1 | exact Pull.p2 | exact Pull.p3 | exact Pull.p4 | exact Pull.p5 | exact Pull.p6 | exact Pull.p7 | exact Pull.p8 | exact Pull.p9) (.cons (by first | exact Pull.p0 | exact Pull.p1 | exact Pull.p2 | exact Pull.p3 | exact Pull.p4 | exact Pull.p5 | exact Pull.p6 | exact Pull.p7 | exact Pull.p8 | exact Pull.p9) (.cons (by first | exact Pull.p0 | exact Pull.p1 | exact Pull.p2 | exact Pull.p3 | exact Pull.p4 | exact Pull.p5 | exact Pull.p6 | exact Pull.p7 | exact Pull.p8 | exact Pull.p9) .nil)))))
        | exact At.endR (by first | with_reducible exact Pull.p0 | with_reducible exact Pull.p1 | with_reducible exact Pull.p2 | with_reducible exact Pull.p3 | with_reducible exact Pull.p4 | with_reducible exact Pull.p5 | with_reducible exact Pull.p6 | with_reducible exact Pull.p7 | with_reducible exact Pull.p8 | with_reducible exact Pull.p9) ⟨n, hn1, rfl⟩ (.cons (by first | exact Pull.p0 | exact Pull.p1 | exact Pull.p2 | exact Pull.p3 | exact Pull.p4 | exact Pull.p5 | exact Pull.p6 | exact Pull.p7 | exact Pull.p8 | exact Pull.p9) (.cons (by first | exact Pull.p0 | exact Pull.p1 | exact Pull.p2 | exact Pull.p3 | exact Pull.p4 | exact Pull.p5 | exact Pull.p6 | exact Pull.p7 | exact Pull.p8 | exact Pull.p9) (.cons (by first | exact Pull.p0 | exact Pull.p1 | exact Pull.p2 | exact Pull.p3 | exact Pull.p4 | exact Pull.p5 | exact Pull.p6 | exact Pull.p7 | exact Pull.p8 | exact Pull.p9) (.cons (by first | exact Pull.p0 | exact Pull.p1 | exact Pull.p2 | exact Pull.p3 | exact Pull.p4 | exact Pull.p5 | exact Pull.p6 | exact Pull.p7 | exact Pull.p8 | exact Pull.p9) (.cons (by first | exact Pull.p0 | exact Pull.p1 | exact Pull.p2 | exact Pull.p3 | exact Pull.p4 | exact Pull.p5 | exact Pull.p6 | exact Pull.p7 | exact Pull.p8 | exact Pull.p9) .nil)))))
  ·
    rintro _ ⟨n, hn, rfl⟩
    show At _ _ [defR D, row bb [ptr g.lb 0] 26 (0, 0), chipR c, logRow g c.cb, row b4 [i64 n] 3 (0, 0), row b3 [i64 i] 3 (0, 0)] _
    refine At.blk_n ?_
    refine At.then_n ?_
    refine At.seq ?_
    refine At.region ?_
    refine At.op rfl (op_load rfl Tryd.isAgg3 (by first | with_reducible exact Pull.p0 | with_reducible exact Pull.p1 | with_reducible exact Pull.p2 | with_reducible exact Pull.p3 | with_reducible exact Pull.p4 | with_reducible exact Pull.p5 | with_reducible exact Pull.p6 | with_reducible exact Pull.p7 | with_reducible exact Pull.p8 | with_reducible exact Pull.p9) rfl rfl ?_)
    refine At.op rfl (op_store rfl rfl Tryd.sizeOf3 rfl rfl (by first | with_reducible exact Pull.p0 | with_reducible exact Pull.p1 | with_reducible exact Pull.p2 | with_reducible exact Pull.p3 | with_reducible exact Pull.p4 | with_reducible exact Pull.p5 | with_reducible exact Pull.p6 | with_reducible exact Pull.p7 | with_reducible exact Pull.p8 | with_reducible exact Pull.p9) .zero rfl ?_)
    refine At.nil ?_
    refine At.then_n ?_
    refine At.ret ?_
    rw [c.items_count] at hn
    subst hn
    exact At.finM (l := [.cell 4 3]) _ (.inl rfl) rfl rfl (by first | with_reducible exact Pull.p0 | with_reducible exact Pull.p1 | with_reducible exact Pull.p2 | with_reducible exact Pull.p3 | with_reducible exact Pull.p4 | with_reducible exact Pull.p5 | with_reducible exact Pull.p6 | with_reducible exact Pull.p7 | with_reducible exact Pull.p8 | with_reducible exact Pull.p9) (.cell rfl (by first | with_reducible exact Pull.p0 | with_reducible exact Pull.p1 | with_reducible exact Pull.p2 | with_reducible exact Pull.p3 | with_reducible exact Pull.p4 | with_reducible exact Pull.p5 | with_reducible exact Pull.p6 | with_reducible exact Pull.p7 | with_reducible exact Pull.p8 | with_reducible exact Pull.p9) Tryd.isAgg3 rfl .nil) rfl ⟨rfl, rfl⟩ (.cons (by first | exact Pull.p0 | exact Pull.p1 | exact Pull.p2 | exact Pull.p3 | exact Pull.p4 | exact Pull.p5 | exact Pull.p6 | exact Pull.p7 | exact Pull.p8 | exact Pull.p9) (.cons (by first | exact Pull.p0 | exact Pull.p1 | exact Pull.p2 | exact Pull.p3 | exact Pull.p4 | exact Pull.p5 | exact Pull.p6 | exact Pull.p7 | exact Pull.p8 | exact Pull.p9) .nil))
theorem seglog_frames1 (hG : GOK G) {σ : Type} (c : Chp) (hc : c.wf) (lg bb : Nat) (hd : σ → List Value) (base : σ → List Res) (yf : Fn) (inv : List FItem → σ → Prop) (x0 : σ) (h0 : inv [] x0)
    (hy : ∀ (pre : List FItem) (a : FItem) (x : σ), a.seg < c.segs → a.page < c.pages → ∀ s, c.at a.seg a.page = some s → frm s = some (a.k, a.q, a.t) → (∃ suf, c.frames = pre ++ a :: suf) → inv pre x → CallY Tryd.prog G (.func yf #[] #[]) [.agg [i64 a.seg, i64 a.page].toArray, frmV a.k a.q a.t] (row lg (ptr c.cb 0 :: hd x) 63 (0, 0) :: base x) true (fun rs' => ∃ x1, inv (pre ++ [a]) x1 ∧ rs' = row lg (ptr c.cb 0 :: hd x1) 63 (0, 0) :: base x1)) :
    Does Tryd.prog G 26 [(.func yf #[] #[]), ptr bb 0] (row bb [ptr lg 0] 26 (0, 0) :: chipR c :: row lg (ptr c.cb 0 :: hd x0) 63 (0, 0) :: base x0) (fun v rs' => ∃ x1, inv c.frames x1 ∧ rs' = row bb [ptr lg 0] 26 (0, 0) :: chipR c :: row lg (ptr c.cb 0 :: hd x1) 63 (0, 0) :: base x1) := by
  refine Does.ofM Tryd.func26 rfl Tryd.ntmps26 rfl (fun w0 => ?_)
  refine At.keep [(0, _), (1, _)] (.cons rfl (.cons rfl .nil)) ?_
  refine At.seq ?_
  refine At.region ?_
  refine At.op rfl (op_box rfl rfl rfl ?_)
  intro b2
  refine At.nil ?_
  refine At.then_n ?_
  refine At.seq ?_
  refine At.region ?_
  refine At.op rfl (op_load rfl Tryd.isAgg26 (by first | with_reducible exact Pull.p0 | with_reducible exact Pull.p1 | with_reducible exact Pull.p2 | with_reducible exact Pull.p3 | with_reducible exact Pull.p4 | with_reducible exact Pull.p5 | with_reducible exact Pull.p6 | with_reducible exact Pull.p7 | with_reducible exact Pull.p8 | with_reducible exact Pull.p9) rfl rfl ?_)
  refine At.op rfl (op_callF rfl Tryd.call27 (seglog_pages lg) .nil rfl ?_)
  rintro v _ ⟨bb2, rfl, rfl⟩
  refine At.app1 ?_
  refine At.nil ?_
  refine At.then_n ?_
  refine At.block ?_
  refine At.keep [(2, ptr b2 0), (8, _)] (.cons rfl (.cons rfl .nil)) ?_
  refine At.rangeF (fs := []) (cap := [ptr bb2 0]) rfl Tryd.call41 (fun fn tmps l D RC hRC hsz hlk => ⟨row bb2 [ptr lg 0] 26 (0, 0) :: chipR c :: row lg (ptr c.cb 0 :: hd x0) 63 (0, 0) :: row b2 [.func yf #[] #[]] 79 (0, 0) :: row bb [ptr lg 0] 26 (0, 0) :: base x0, _, (fun rs1 => ∃ x1, inv c.frames x1 ∧ rs1 = row bb2 [ptr lg 0] 26 (0, 0) :: chipR c :: row lg (ptr c.cb 0 :: hd x1) 63 (0, 0) :: row b2 [.func yf #[] #[]] 79 (0, 0) :: row bb [ptr lg 0] 26 (0, 0) :: base x1), (.cons (by first | exact Pull.p0 | exact Pull.p1 | exact Pull.p2 | exact Pull.p3 | exact Pull.p4 | exact Pull.p5 | exact Pull.p6 | exact Pull.p7 | exact Pull.p8 | exact Pull.p9) (.cons (by first | exact Pull.p0 | exact Pull.p1 | exact Pull.p2 | exact Pull.p3 | exact Pull.p4 | exact Pull.p5 | exact Pull.p6 | exact Pull.p7 | exact Pull.p8 | exact Pull.p9) (.cons (by first | exact Pull.p0 | exact Pull.p1 | exact Pull.p2 | exact Pull.p3 | exact Pull.p4 | exact Pull.p5 | exact Pull.p6 | exact Pull.p7 | exact Pull.p8 | exact Pull.p9) (.cons (by first | exact Pull.p0 | exact Pull.p1 | exact Pull.p2 | exact Pull.p3 | exact Pull.p4 | exact Pull.p5 | exact Pull.p6 | exact Pull.p7 | exact Pull.p8 | exact Pull.p9) (.cons (by first | exact Pull.p0 | exact Pull.p1 | exact Pull.p2 | exact Pull.p3 | exact Pull.p4 | exact Pull.p5 | exact Pull.p6 | exact Pull.p7 | exact Pull.p8 | exact Pull.p9) (cut_all _)))))), ?_, ?_⟩)
  ·
    refine Does.conv (seglog_pages1 c hc lg bb2 hd (fun x => RC :: defR D :: row b2 [.func yf #[] #[]] 79 (0, 0) :: row bb [ptr lg 0] 26 (0, 0) :: base x) _ (fun pre x => inv (pre.filterMap toF) x) x0 h0 ?_) (perm_of_cut (.cons (by first | exact Pull.p0 | exact Pull.p1 | exact Pull.p2 | exact Pull.p3 | exact Pull.p4 | exact Pull.p5 | exact Pull.p6 | exact Pull.p7 | exact Pull.p8 | exact Pull.p9) (.cons (by first | exact Pull.p0 | exact Pull.p1 | exact Pull.p2 | exact Pull.p3 | exact Pull.p4 | exact Pull.p5 | exact Pull.p6 | exact Pull.p7 | exact Pull.p8 | exact Pull.p9) (.cons (by first | exact Pull.p0 | exact Pull.p1 | exact Pull.p2 | exact Pull.p3 | exact Pull.p4 | exact Pull.p5 | exact Pull.p6 | exact Pull.p7 | exact Pull.p8 | exact Pull.p9) (.cons (by first | exact Pull.p0 | exact Pull.p1 | exact Pull.p2 | exact Pull.p3 | exact Pull.p4 | exact Pull.p5 | exact Pull.p6 | exact Pull.p7 | exact Pull.p8 | exact Pull.p9) (.cons (by first | exact Pull.p0 | exact Pull.p1 | exact Pull.p2 | exact Pull.p3 | exact Pull.p4 | exact Pull.p5 | exact Pull.p6 | exact Pull.p7 | exact Pull.p8 | exact Pull.p9) (.cons (by first | exact Pull.p0 | exact Pull.p1 | exact Pull.p2 | exact Pull.p3 | exact Pull.p4 | exact Pull.p5 | exact Pull.p6 | exact Pull.p7 | exact Pull.p8 | exact Pull.p9) (.cons (by first | exact Pull.p0 | exact Pull.p1 | exact Pull.p2 | exact Pull.p3 | exact Pull.p4 | exact Pull.p5 | exact Pull.p6 | exact Pull.p7 | exact Pull.p8 | exact Pull.p9) (cut_all _))))))))) (fun v rs h => by obtain ⟨x1, h1, rfl⟩ := h; exact ⟨_, ⟨_, ⟨x1, h1, rfl⟩, perm_of_cut (.cons (by first | exact Pull.p0 | exact Pull.p1 | exact Pull.p2 | exact Pull.p3 | exact Pull.p4 | exact Pull.p5 | exact Pull.p6 | exact Pull.p7 | exact Pull.p8 | exact Pull.p9) (.cons (by first | exact Pull.p0 | exact Pull.p1 | exact Pull.p2 | exact Pull.p3 | exact Pull.p4 | exact Pull.p5 | exact Pull.p6 | exact Pull.p7 | exact Pull.p8 | exact Pull.p9) (.cons (by first | exact Pull.p0 | exact Pull.p1 | exact Pull.p2 | exact Pull.p3 | exact Pull.p4 | exact Pull.p5 | exact Pull.p6 | exact Pull.p7 | exact Pull.p8 | exact Pull.p9) (.cons (by first | exact Pull.p0 | exact Pull.p1 | exact Pull.p2 | exact Pull.p3 | exact Pull.p4 | exact Pull.p5 | exact Pull.p6 | exact Pull.p7 | exact Pull.p8 | exact Pull.p9) (.cons (by first | exact Pull.p0 | exact Pull.p1 | exact Pull.p2 | exact Pull.p3 | exact Pull.p4 | exact Pull.p5 | exact Pull.p6 | exact Pull.p7 | exact Pull.p8 | exact Pull.p9) (.cons (by first | exact Pull.p0 | exact Pull.p1 | exact Pull.p2 | exact Pull.p3 | exact Pull.p4 | exact Pull.p5 | exact Pull.p6 | exact Pull.p7 | exact Pull.p8 | exact Pull.p9) (.cons (by first | exact Pull.p0 | exact Pull.p1 | exact Pull.p2 | exact Pull.p3 | exact Pull.p4 | exact Pull.p5 | exact Pull.p6 | exact Pull.p7 | exact Pull.p8 | exact Pull.p9) (cut_all _))))))))⟩, List.Perm.refl _⟩)
    rintro pre a x ha1 ha2 ha3 ha4 hi
    refine CallY.perm (pre := RC :: row lg (ptr c.cb 0 :: hd x) 63 (0, 0) :: defR D :: row b2 [.func yf #[] #[]] 79 (0, 0) :: row bb [ptr lg 0] 26 (0, 0) :: base x) ?_ (perm_of_cut (.cons (by first | exact Pull.p0 | exact Pull.p1 | exact Pull.p2 | exact Pull.p3 | exact Pull.p4 | exact Pull.p5 | exact Pull.p6 | exact Pull.p7 | exact Pull.p8 | exact Pull.p9) (.cons (by first | exact Pull.p0 | exact Pull.p1 | exact Pull.p2 | exact Pull.p3 | exact Pull.p4 | exact Pull.p5 | exact Pull.p6 | exact Pull.p7 | exact Pull.p8 | exact Pull.p9) (.cons (by first | exact Pull.p0 | exact Pull.p1 | exact Pull.p2 | exact Pull.p3 | exact Pull.p4 | exact Pull.p5 | exact Pull.p6 | exact Pull.p7 | exact Pull.p8 | exact Pull.p9) (.cons (by first | exact Pull.p0 | exact Pull.p1 | exact Pull.p2 | exact Pull.p3 | exact Pull.p4 | exact Pull.p5 | exact Pull.p6 | exact Pull.p7 | exact Pull.p8 | exact Pull.p9) (.cons (by first | exact Pull.p0 | exact Pull.p1 | exact Pull.p2 | exact Pull.p3 | exact Pull.p4 | exact Pull.p5 | exact Pull.p6 | exact Pull.p7 | exact Pull.p8 | exact Pull.p9) (cut_all _)))))))
    subst hRC
    refine CallY.yield (m := (10, str a.t) :: (9, .agg [i64 a.seg, i64 a.page].toArray) :: [(2, ptr b2 0), _]) hsz rfl (zip2_look hsz rfl rfl rfl hlk) (fun w1 => ?_)
    refine At.seq ?_
    refine At.region ?_
    refine At.op rfl (op_alloc Tryd.zeroValue34 rfl rfl ?_)
    intro ba
    refine At.op rfl (op_storeW rfl rfl Tryd.sizeOf34 (by repeat' (first | refine List.forall_mem_cons.2 ⟨rfl, ?_⟩ | exact (fun _ h => by cases h))) (by first | with_reducible exact Pull.p0 | with_reducible exact Pull.p1 | with_reducible exact Pull.p2 | with_reducible exact Pull.p3 | with_reducible exact Pull.p4 | with_reducible exact Pull.p5 | with_reducible exact Pull.p6 | with_reducible exact Pull.p7 | with_reducible exact Pull.p8 | with_reducible exact Pull.p9) rfl rfl ?_)
    refine At.nil ?_
    refine At.then_n ?_
    refine At.region ?_
    refine At.op rfl (op_assign rfl rfl ?_)
    refine At.nil ?_
    refine At.then_n ?_
    refine At.beginR (by first | with_reducible exact Pull.p0 | with_reducible exact Pull.p1 | with_reducible exact Pull.p2 | with_reducible exact Pull.p3 | with_reducible exact Pull.p4 | with_reducible exact Pull.p5 | with_reducible exact Pull.p6 | with_reducible exact Pull.p7 | with_reducible exact Pull.p8 | with_reducible exact Pull.p9) ?_
    refine At.block ?_
    refine At.seq ?_
    refine At.region ?_
    refine At.op rfl (op_move rfl rfl ?_)
    refine At.op rfl (op_call1 rfl Tryd.call28 (frame_Get hG a.t (by have := hc.strs _ _ _ ha3; omega)) rfl ?_)
    rcases hfr : frm a.t with _ | fr
    ·
      have hf0 := getV_none hfr
      rw [hf0]
      refine At.op rfl (op_move rfl rfl ?_)
      refine At.op rfl (op_extractL rfl .zero rfl ?_)
      refine At.op rfl (op_extractL rfl (.succ .zero) rfl ?_)
      refine At.op rfl (op_alloc Tryd.zeroValue68 rfl rfl ?_)
      intro bf
      refine At.op rfl (op_storeW rfl rfl Tryd.sizeOf68 (by repeat' (first | refine List.forall_mem_cons.2 ⟨rfl, ?_⟩ | exact (fun _ h => by cases h))) (by first | with_reducible exact Pull.p0 | with_reducible exact Pull.p1 | with_reducible exact Pull.p2 | with_reducible exact Pull.p3 | with_reducible exact Pull.p4 | with_reducible exact Pull.p5 | with_reducible exact Pull.p6 | with_reducible exact Pull.p7 | with_reducible exact Pull.p8 | with_reducible exact Pull.p9) rfl rfl ?_)
      refine At.op rfl (op_assign rfl rfl ?_)
      refine At.nil ?_
      refine At.then_n ?_
      refine At.seq ?_
      refine At.region ?_
      refine At.op rfl (op_move rfl rfl ?_)
      refine At.op rfl (op_bin rfl rfl (Bin.cast (v' := .bool false) b_eq (by simp)) rfl ?_)
      refine At.op rfl (op_move rfl rfl ?_)
      refine At.opk (want := false) rfl rfl rfl rfl rfl ?_
      refine At.opk (want := false) rfl rfl rfl rfl rfl ?_
      refine At.opk (want := false) rfl rfl rfl rfl rfl ?_
      refine At.opk (want := false) rfl rfl rfl rfl rfl ?_
      refine At.opk (want := false) rfl rfl rfl rfl rfl ?_
      refine At.op rfl (op_pick_f rfl rfl rfl ?_)
      refine At.nil ?_
      refine At.then_n ?_
      refine At.cond_f rfl ?_
      refine At.skip ?_
      refine At.blk_n ?_
      first
        | exact At.endR (by first | with_reducible exact Pull.p0 | with_reducible exact Pull.p1 | with_reducible exact Pull.p2 | with_reducible exact Pull.p3 | with_reducible exact Pull.p4 | with_reducible exact Pull.p5 | with_reducible exact Pull.p6 | with_reducible exact Pull.p7 | with_reducible exact Pull.p8 | with_reducible exact Pull.p9) ⟨x1, by rw [List.filterMap_append]; simp only [List.filterMap_cons, List.filterMap_nil, toF, hfr, Option.map_some]; exact hi1, rfl⟩ (.cons (by first | exact Pull.p0 | exact Pull.p1 | exact Pull.p2 | exact Pull.p3 | exact Pull.p4 | exact Pull.p5 | exact Pull.p6 | exact Pull.p7 | exact Pull.p8 | exact Pull.p9) (.cons (by first | exact Pull.p0 | exact Pull.p1 | exact Pull.p2 | exact Pull.p3 | exact Pull.p4 | exact Pull.p5 | exact Pull.p6 | exact Pull.p7 | exact Pull.p8 | exact Pull.p9) (.cons (by first | exact Pull.p0 | exact Pull.p1 | exact Pull.p2 | exact Pull.p3 | exact Pull.p4 | exact Pull.p5 | exact Pull.p6 | exact Pull.p7 | exact Pull.p8 | exact Pull.p9) (.cons (by first | exact Pull.p0 | exact Pull.p1 | exact Pull.p2 | exact Pull.p3 | exact Pull.p4 | exact Pull.p5 | exact Pull.p6 | exact Pull.p7 | exact Pull.p8 | exact Pull.p9) (.cons (by first | exact Pull.p0 | exact Pull.p1 | exact Pull.p2 | exact Pull.p3 | exact Pull.p4 | exact Pull.p5 | exact Pull.p6 | exact Pull.p7 | exact Pull.p8 | exact Pull.p9) (cut_suf _ [_, _]))))))
        | exact At.endR (by first | with_reducible exact Pull.p0 | with_reducible exact Pull.p1 | with_reducible exact Pull.p2 | with_reducible exact Pull.p3 | with_reducible exact Pull.p4 | with_reducible exact Pull.p5 | with_reducible exact Pull.p6 | with_reducible exact Pull.p7 | with_reducible exact Pull.p8 | with_reducible exact Pull.p9) ⟨x, by rw [List.filterMap_append]; simp only [List.filterMap_cons, List.filterMap_nil, toF, hfr, Option.map_none, List.append_nil]; exact hi, rfl⟩ (.cons (by first | exact Pull.p0 | exact Pull.p1 | exact Pull.p2 | exact Pull.p3 | exact Pull.p4 | exact Pull.p5 | exact Pull.p6 | exact Pull.p7 | exact Pull.p8 | exact Pull.p9) (.cons (by first | exact Pull.p0 | exact Pull.p1 | exact Pull.p2 | exact Pull.p3 | exact Pull.p4 | exact Pull.p5 | exact Pull.p6 | exact Pull.p7 | exact Pull.p8 | exact Pull.p9) (.cons (by first | exact Pull.p0 | exact Pull.p1 | exact Pull.p2 | exact Pull.p3 | exact Pull.p4 | exact Pull.p5 | exact Pull.p6 | exact Pull.p7 | exact Pull.p8 | exact Pull.p9) (.cons (by first | exact Pull.p0 | exact Pull.p1 | exact Pull.p2 | exact Pull.p3 | exact Pull.p4 | exact Pull.p5 | exact Pull.p6 | exact Pull.p7 | exact Pull.p8 | exact Pull.p9) (.cons (by first | exact Pull.p0 | exact Pull.p1 | exact Pull.p2 | exact Pull.p3 | exact Pull.p4 | exact Pull.p5 | exact Pull.p6 | exact Pull.p7 | exact Pull.p8 | exact Pull.p9) (cut_suf _ [_, _]))))))
    ·
      obtain ⟨k, q, t⟩ := fr
      have hf0 := getV_some hfr
      rw [hf0]
      refine At.op rfl (op_move rfl rfl ?_)
      refine At.op rfl (op_extractL rfl .zero rfl ?_)
      refine At.op rfl (op_extractL rfl (.succ .zero) rfl ?_)
      refine At.op rfl (op_alloc Tryd.zeroValue68 rfl rfl ?_)
      intro bf
      refine At.op rfl (op_storeW rfl rfl Tryd.sizeOf68 (by repeat' (first | refine List.forall_mem_cons.2 ⟨rfl, ?_⟩ | exact (fun _ h => by cases h))) (by first | with_reducible exact Pull.p0 | with_reducible exact Pull.p1 | with_reducible exact Pull.p2 | with_reducible exact Pull.p3 | with_reducible exact Pull.p4 | with_reducible exact Pull.p5 | with_reducible exact Pull.p6 | with_reducible exact Pull.p7 | with_reducible exact Pull.p8 | with_reducible exact Pull.p9) rfl rfl ?_)
      refine At.op rfl (op_assign rfl rfl ?_)
      refine At.nil ?_
      refine At.then_n ?_
      refine At.seq ?_
      refine At.region ?_
      refine At.op rfl (op_move rfl rfl ?_)
      refine At.op rfl (op_bin rfl rfl (Bin.cast (v' := .bool true) b_eq (by simp)) rfl ?_)
      refine At.op rfl (op_move rfl rfl ?_)
      refine At.opg rfl rfl rfl (op_load rfl Tryd.isAgg79 (by first | with_reducible exact Pull.p0 | with_reducible exact Pull.p1 | with_reducible exact Pull.p2 | with_reducible exact Pull.p3 | with_reducible exact Pull.p4 | with_reducible exact Pull.p5 | with_reducible exact Pull.p6 | with_reducible exact Pull.p7 | with_reducible exact Pull.p8 | with_reducible exact Pull.p9) rfl rfl ?_)
      refine At.opg rfl rfl rfl (op_loadW rfl Tryd.isAgg34 Tryd.sizeOf34 (by first | with_reducible exact Pull.p0 | with_reducible exact Pull.p1 | with_reducible exact Pull.p2 | with_reducible exact Pull.p3 | with_reducible exact Pull.p4 | with_reducible exact Pull.p5 | with_reducible exact Pull.p6 | with_reducible exact Pull.p7 | with_reducible exact Pull.p8 | with_reducible exact Pull.p9) rfl rfl ?_)
      refine At.opg rfl rfl rfl (op_loadW rfl Tryd.isAgg68 Tryd.sizeOf68 (by first | with_reducible exact Pull.p0 | with_reducible exact Pull.p1 | with_reducible exact Pull.p2 | with_reducible exact Pull.p3 | with_reducible exact Pull.p4 | with_reducible exact Pull.p5 | with_reducible exact Pull.p6 | with_reducible exact Pull.p7 | with_reducible exact Pull.p8 | with_reducible exact Pull.p9) rfl rfl ?_)
      refine At.opg rfl rfl rfl (op_callY rfl rfl (hy _ ⟨a.seg, a.page, k, q, t⟩ x ha1 ha2 a.t ha3 hfr (by obtain ⟨suf, hs⟩ := ha4; exact ⟨suf.filterMap toF, by rw [Chp.frames, hs, List.filterMap_append, List.filterMap_cons]; simp [toF, hfr]⟩) hi) (.cons (by first | exact Pull.p0 | exact Pull.p1 | exact Pull.p2 | exact Pull.p3 | exact Pull.p4 | exact Pull.p5 | exact Pull.p6 | exact Pull.p7 | exact Pull.p8 | exact Pull.p9) (cut_suf _ [_, _, _, _, _, _])) rfl ?_)
      rintro _ ⟨x1, hi1, rfl⟩
      refine At.permR List.perm_append_comm ?_
      refine At.app6 ?_
      refine At.opg rfl rfl rfl (op_not rfl rfl ?_)
      refine At.op rfl (op_pick_t rfl rfl rfl ?_)
      refine At.nil ?_
      refine At.then_n ?_
      refine At.cond_f rfl ?_
      refine At.skip ?_
      refine At.blk_n ?_
      first
        | exact At.endR (by first | with_reducible exact Pull.p0 | with_reducible exact Pull.p1 | with_reducible exact Pull.p2 | with_reducible exact Pull.p3 | with_reducible exact Pull.p4 | with_reducible exact Pull.p5 | with_reducible exact Pull.p6 | with_reducible exact Pull.p7 | with_reducible exact Pull.p8 | with_reducible exact Pull.p9) ⟨x1, by rw [List.filterMap_append]; simp only [List.filterMap_cons, List.filterMap_nil, toF, hfr, Option.map_some]; exact hi1, rfl⟩ (.cons (by first | exact Pull.p0 | exact Pull.p1 | exact Pull.p2 | exact Pull.p3 | exact Pull.p4 | exact Pull.p5 | exact Pull.p6 | exact Pull.p7 | exact Pull.p8 | exact Pull.p9) (.cons (by first | exact Pull.p0 | exact Pull.p1 | exact Pull.p2 | exact Pull.p3 | exact Pull.p4 | exact Pull.p5 | exact Pull.p6 | exact Pull.p7 | exact Pull.p8 | exact Pull.p9) (.cons (by first | exact Pull.p0 | exact Pull.p1 | exact Pull.p2 | exact Pull.p3 | exact Pull.p4 | exact Pull.p5 | exact Pull.p6 | exact Pull.p7 | exact Pull.p8 | exact Pull.p9) (.cons (by first | exact Pull.p0 | exact Pull.p1 | exact Pull.p2 | exact Pull.p3 | exact Pull.p4 | exact Pull.p5 | exact Pull.p6 | exact Pull.p7 | exact Pull.p8 | exact Pull.p9) (.cons (by first | exact Pull.p0 | exact Pull.p1 | exact Pull.p2 | exact Pull.p3 | exact Pull.p4 | exact Pull.p5 | exact Pull.p6 | exact Pull.p7 | exact Pull.p8 | exact Pull.p9) (cut_suf _ [_, _]))))))
        | exact At.endR (by first | with_reducible exact Pull.p0 | with_reducible exact Pull.p1 | with_reducible exact Pull.p2 | with_reducible exact Pull.p3 | with_reducible exact Pull.p4 | with_reducible exact Pull.p5 | with_reducible exact Pull.p6 | with_reducible exact Pull.p7 | with_reducible exact Pull.p8 | with_reducible exact Pull.p9) ⟨x, by rw [List.filterMap_append]; simp only [List.filterMap_cons, List.filterMap_nil, toF, hfr, Option.map_none, List.append_nil]; exact hi, rfl⟩ (.cons (by first | exact Pull.p0 | exact Pull.p1 | exact Pull.p2 | exact Pull.p3 | exact Pull.p4 | exact Pull.p5 | exact Pull.p6 | exact Pull.p7 | exact Pull.p8 | exact Pull.p9) (.cons (by first | exact Pull.p0 | exact Pull.p1 | exact Pull.p2 | exact Pull.p3 | exact Pull.p4 | exact Pull.p5 | exact Pull.p6 | exact Pull.p7 | exact Pull.p8 | exact Pull.p9) (.cons (by first | exact Pull.p0 | exact Pull.p1 | exact Pull.p2 | exact Pull.p3 | exact Pull.p4 | exact Pull.p5 | exact Pull.p6 | exact Pull.p7 | exact Pull.p8 | exact Pull.p9) (.cons (by first | exact Pull.p0 | exact Pull.p1 | exact Pull.p2 | exact Pull.p3 | exact Pull.p4 | exact Pull.p5 | exact Pull.p6 | exact Pull.p7 | exact Pull.p8 | exact Pull.p9) (.cons (by first | exact Pull.p0 | exact Pull.p1 | exact Pull.p2 | exact Pull.p3 | exact Pull.p4 | exact Pull.p5 | exact Pull.p6 | exact Pull.p7 | exact Pull.p8 | exact Pull.p9) (cut_suf _ [_, _]))))))
  ·
    rintro _ ⟨x1, hx1, rfl⟩
    show At _ _ (defR D :: row bb2 [ptr lg 0] 26 (0, 0) :: chipR c :: row lg (ptr c.cb 0 :: hd x1) 63 (0, 0) :: row b2 [.func yf #[] #[]] 79 (0, 0) :: row bb [ptr lg 0] 26 (0, 0) :: (base x1 ++ [])) _
    rw [List.append_nil]
    refine At.blk_n ?_
    exact At.finM (l := []) _ (.inr rfl) rfl rfl (by first | with_reducible exact Pull.p0 | with_reducible exact Pull.p1 | with_reducible exact Pull.p2 | with_reducible exact Pull.p3 | with_reducible exact Pull.p4 | with_reducible exact Pull.p5 | with_reducible exact Pull.p6 | with_reducible exact Pull.p7 | with_reducible exact Pull.p8 | with_reducible exact Pull.p9) .nil rfl ⟨x1, hx1, rfl⟩ (.cons (by first | exact Pull.p0 | exact Pull.p1 | exact Pull.p2 | exact Pull.p3 | exact Pull.p4 | exact Pull.p5 | exact Pull.p6 | exact Pull.p7 | exact Pull.p8 | exact Pull.p9) (.cons (by first | exact Pull.p0 | exact Pull.p1 | exact Pull.p2 | exact Pull.p3 | exact Pull.p4 | exact Pull.p5 | exact Pull.p6 | exact Pull.p7 | exact Pull.p8 | exact Pull.p9) (.cons (by first | exact Pull.p0 | exact Pull.p1 | exact Pull.p2 | exact Pull.p3 | exact Pull.p4 | exact Pull.p5 | exact Pull.p6 | exact Pull.p7 | exact Pull.p8 | exact Pull.p9) (cut_suf _ [_, _]))))
end Go.Proofs.YteckdahgkkmlaaaDoor
end

section
set_option maxRecDepth 20000
set_option linter.unusedVariables false
set_option linter.unusedSimpArgs false
namespace Go.Proofs.YteckdahgkkmlaaaDoor
open Go SL
variable {G : List (Nat × Obj)}
theorem seglog_Mount (hG : GOK G) (c : Chp) (hc : c.wf) : Does Tryd.prog G 6 [ptr c.cb 0] [chipR c] (fun v rs' => ∃ g : Lg, v = .tuple #[ptr g.lb 0, i64 0] ∧ g.op = -1 ∧ g.ret = [] ∧ g.seq = maxQ c.frames + 1 ∧ rs' = [chipR c, logRow g c.cb, logMap g]) := by
  refine Does.ofM Tryd.func6 rfl Tryd.ntmps6 rfl (fun w0 => ?_)
  refine At.keep [(0, _)] (.cons rfl .nil) ?_
  refine At.seq ?_
  refine At.region ?_
  refine At.op rfl (op_assign rfl rfl ?_)
  refine At.op rfl (op_assign rfl rfl ?_)
  refine At.nil ?_
  refine At.then_n ?_
  refine At.seq ?_
  refine At.seq ?_
  refine At.region ?_
  refine At.op rfl (op_move rfl rfl ?_)
  refine At.op rfl (op_bin rfl rfl (Bin.cast (v' := .bool false) (b_pnil Tryd.underlying22) rfl) rfl ?_)
  refine At.nil ?_
  refine At.then_n ?_
  refine At.cond_f rfl ?_
  refine At.skip ?_
  refine At.then_n ?_
  refine At.seq ?_
  refine At.seq ?_
  refine At.region ?_
  refine At.op rfl (op_move rfl rfl ?_)
  refine At.op rfl (op_callQ rfl Tryd.call13 (nand_Read c hc 0 0 (by have := hc.segs1; omega) (by have := hc.pages1; omega)) (.cons (by first | with_reducible exact Pull.p0 | with_reducible exact Pull.p1 | with_reducible exact Pull.p2 | with_reducible exact Pull.p3 | with_reducible exact Pull.p4 | with_reducible exact Pull.p5 | with_reducible exact Pull.p6 | with_reducible exact Pull.p7 | with_reducible exact Pull.p8 | with_reducible exact Pull.p9) .nil) rfl ?_)
  obtain ⟨ra, rb, hr⟩ := readV_split (c.at 0 0)
  rw [hr]
  refine At.op rfl (op_move rfl rfl ?_)
  refine At.op rfl (op_extractL rfl .zero rfl ?_)
  refine At.op rfl (op_extractL rfl (.succ .zero) rfl ?_)
  refine At.op rfl (op_extractL rfl (.succ (.succ .zero)) rfl ?_)
  refine At.op rfl (op_assign rfl rfl ?_)
  refine At.op rfl (op_assign rfl rfl ?_)
  refine At.op rfl (op_assign rfl rfl ?_)
  refine At.nil ?_
  refine At.then_n ?_
  refine At.seq ?_
  refine At.region ?_
  refine At.op rfl (op_move rfl rfl ?_)
  refine At.op rfl (op_bin rfl rfl (Bin.cast (v' := .bool false) b_ne (congrArg Value.bool (by rw [decide_eq_true rfl]; rfl))) rfl ?_)
  refine At.nil ?_
  refine At.then_n ?_
  refine At.cond_f rfl ?_
  refine At.skip ?_
  refine At.then_n ?_
  refine At.seq ?_
  refine At.keep [(0, _), (2, _), (3, _)] (.cons rfl (.cons rfl (.cons rfl .nil))) ?_
  refine At.region ?_
  refine At.op rfl (op_move rfl rfl ?_)
  refine At.op rfl (op_makeMapI rfl ?_)
  intro r
  refine At.op rfl (op_build (v := .agg [ptr c.cb 0, i64 (-1), u64 0, .map (some r)].toArray) rfl (fun w => run_build w _ _ _ (by kernel_rfl)) rfl ?_)
  refine At.op rfl (op_box rfl rfl rfl ?_)
  intro lg
  refine At.op rfl (op_alloc Tryd.zeroValue26 rfl rfl ?_)
  intro b7
  refine At.op rfl (op_store rfl rfl Tryd.sizeOf26 rfl rfl (by first | with_reducible exact Pull.p0 | with_reducible exact Pull.p1 | with_reducible exact Pull.p2 | with_reducible exact Pull.p3 | with_reducible exact Pull.p4 | with_reducible exact Pull.p5 | with_reducible exact Pull.p6 | with_reducible exact Pull.p7 | with_reducible exact Pull.p8 | with_reducible exact Pull.p9) .zero rfl ?_)
  refine At.nil ?_
  refine At.then_n ?_
  refine At.seq ?_
  refine At.seq ?_
  refine At.region ?_
  refine At.op rfl (op_load rfl Tryd.isAgg26 (by first | with_reducible exact Pull.p0 | with_reducible exact Pull.p1 | with_reducible exact Pull.p2 | with_reducible exact Pull.p3 | with_reducible exact Pull.p4 | with_reducible exact Pull.p5 | with_reducible exact Pull.p6 | with_reducible exact Pull.p7 | with_reducible exact Pull.p8 | with_reducible exact Pull.p9) rfl rfl ?_)
  refine At.op rfl (op_callF rfl Tryd.call14 (seglog_frames lg) .nil rfl ?_)
  rintro v _ ⟨bb, rfl, rfl⟩
  refine At.app1 ?_
  refine At.nil ?_
  refine At.then_n ?_
  refine At.block ?_
  refine At.keep [(7, ptr b7 0), (26, _)] (.cons rfl (.cons rfl .nil)) ?_
  refine At.rangeF (fs := []) (cap := [ptr bb 0]) rfl Tryd.call26 (fun fn tmps l D RC hRC hsz hlk => ⟨[row bb [ptr lg 0] 26 (0, 0), chipR c, row lg [ptr c.cb 0, i64 (-1), u64 0, .map (some r)] 63 (0, 0), row b7 [ptr lg 0] 26 (0, 0)], _, (fun rs1 => ∃ q, q = maxQ c.frames ∧ rs1 = [row bb [ptr lg 0] 26 (0, 0), chipR c, row lg [ptr c.cb 0, i64 (-1), u64 q, .map (some r)] 63 (0, 0), row b7 [ptr lg 0] 26 (0, 0)]), (.cons (by first | exact Pull.p0 | exact Pull.p1 | exact Pull.p2 | exact Pull.p3 | exact Pull.p4 | exact Pull.p5 | exact Pull.p6 | exact Pull.p7 | exact Pull.p8 | exact Pull.p9) (.cons (by first | exact Pull.p0 | exact Pull.p1 | exact Pull.p2 | exact Pull.p3 | exact Pull.p4 | exact Pull.p5 | exact Pull.p6 | exact Pull.p7 | exact Pull.p8 | exact Pull.p9) (.cons (by first | exact Pull.p0 | exact Pull.p1 | exact Pull.p2 | exact Pull.p3 | exact Pull.p4 | exact Pull.p5 | exact Pull.p6 | exact Pull.p7 | exact Pull.p8 | exact Pull.p9) (.cons (by first | exact Pull.p0 | exact Pull.p1 | exact Pull.p2 | exact Pull.p3 | exact Pull.p4 | exact Pull.p5 | exact Pull.p6 | exact Pull.p7 | exact Pull.p8 | exact Pull.p9) .nil)))), ?_, ?_⟩)
  ·
    refine Does.conv (seglog_frames1 hG (σ := UInt64) c hc lg bb (fun q => [i64 (-1), u64 q, .map (some r)]) (fun q => [RC, defR D, row b7 [ptr lg 0] 26 (0, 0)]) _ (fun pre q => q = maxQ pre) 0 rfl ?_) (perm_of_cut (.cons (by first | exact Pull.p0 | exact Pull.p1 | exact Pull.p2 | exact Pull.p3 | exact Pull.p4 | exact Pull.p5 | exact Pull.p6 | exact Pull.p7 | exact Pull.p8 | exact Pull.p9) (.cons (by first | exact Pull.p0 | exact Pull.p1 | exact Pull.p2 | exact Pull.p3 | exact Pull.p4 | exact Pull.p5 | exact Pull.p6 | exact Pull.p7 | exact Pull.p8 | exact Pull.p9) (.cons (by first | exact Pull.p0 | exact Pull.p1 | exact Pull.p2 | exact Pull.p3 | exact Pull.p4 | exact Pull.p5 | exact Pull.p6 | exact Pull.p7 | exact Pull.p8 | exact Pull.p9) (.cons (by first | exact Pull.p0 | exact Pull.p1 | exact Pull.p2 | exact Pull.p3 | exact Pull.p4 | exact Pull.p5 | exact Pull.p6 | exact Pull.p7 | exact Pull.p8 | exact Pull.p9) (.cons (by first | exact Pull.p0 | exact Pull.p1 | exact Pull.p2 | exact Pull.p3 | exact Pull.p4 | exact Pull.p5 | exact Pull.p6 | exact Pull.p7 | exact Pull.p8 | exact Pull.p9) (.cons (by first | exact Pull.p0 | exact Pull.p1 | exact Pull.p2 | exact Pull.p3 | exact Pull.p4 | exact Pull.p5 | exact Pull.p6 | exact Pull.p7 | exact Pull.p8 | exact Pull.p9) .nil))))))) (fun v rs h => by obtain ⟨x1, h1, rfl⟩ := h; exact ⟨_, ⟨_, ⟨x1, h1, rfl⟩, perm_of_cut (.cons (by first | exact Pull.p0 | exact Pull.p1 | exact Pull.p2 | exact Pull.p3 | exact Pull.p4 | exact Pull.p5 | exact Pull.p6 | exact Pull.p7 | exact Pull.p8 | exact Pull.p9) (.cons (by first | exact Pull.p0 | exact Pull.p1 | exact Pull.p2 | exact Pull.p3 | exact Pull.p4 | exact Pull.p5 | exact Pull.p6 | exact Pull.p7 | exact Pull.p8 | exact Pull.p9) (.cons (by first | exact Pull.p0 | exact Pull.p1 | exact Pull.p2 | exact Pull.p3 | exact Pull.p4 | exact Pull.p5 | exact Pull.p6 | exact Pull.p7 | exact Pull.p8 | exact Pull.p9) (.cons (by first | exact Pull.p0 | exact Pull.p1 | exact Pull.p2 | exact Pull.p3 | exact Pull.p4 | exact Pull.p5 | exact Pull.p6 | exact Pull.p7 | exact Pull.p8 | exact Pull.p9) (.cons (by first | exact Pull.p0 | exact Pull.p1 | exact Pull.p2 | exact Pull.p3 | exact Pull.p4 | exact Pull.p5 | exact Pull.p6 | exact Pull.p7 | exact Pull.p8 | exact Pull.p9) (.cons (by first | exact Pull.p0 | exact Pull.p1 | exact Pull.p2 | exact Pull.p3 | exact Pull.p4 | exact Pull.p5 | exact Pull.p6 | exact Pull.p7 | exact Pull.p8 | exact Pull.p9) .nil))))))⟩, List.Perm.refl _⟩)
    rintro pre a q ha1 ha2 s ha3 ha4 _ hi
    refine CallY.perm (pre := [RC, row lg [ptr c.cb 0, i64 (-1), u64 q, .map (some r)] 63 (0, 0), defR D, row b7 [ptr lg 0] 26 (0, 0)]) ?_ (perm_of_cut (.cons (by first | exact Pull.p0 | exact Pull.p1 | exact Pull.p2 | exact Pull.p3 | exact Pull.p4 | exact Pull.p5 | exact Pull.p6 | exact Pull.p7 | exact Pull.p8 | exact Pull.p9) (.cons (by first | exact Pull.p0 | exact Pull.p1 | exact Pull.p2 | exact Pull.p3 | exact Pull.p4 | exact Pull.p5 | exact Pull.p6 | exact Pull.p7 | exact Pull.p8 | exact Pull.p9) (.cons (by first | exact Pull.p0 | exact Pull.p1 | exact Pull.p2 | exact Pull.p3 | exact Pull.p4 | exact Pull.p5 | exact Pull.p6 | exact Pull.p7 | exact Pull.p8 | exact Pull.p9) (.cons (by first | exact Pull.p0 | exact Pull.p1 | exact Pull.p2 | exact Pull.p3 | exact Pull.p4 | exact Pull.p5 | exact Pull.p6 | exact Pull.p7 | exact Pull.p8 | exact Pull.p9) .nil)))))
    subst hRC
    refine CallY.yield (m := (28, frmV a.k a.q a.t) :: (27, .agg [i64 a.seg, i64 a.page].toArray) :: [(7, ptr b7 0), _]) hsz rfl (zip2_look hsz rfl rfl rfl hlk) (fun w1 => ?_)
    refine At.region ?_
    refine At.op rfl (op_alloc Tryd.zeroValue68 rfl rfl ?_)
    intro b9
    refine At.op rfl (op_storeW rfl rfl Tryd.sizeOf68 (by repeat' (first | refine List.forall_mem_cons.2 ⟨rfl, ?_⟩ | exact (fun _ h => by cases h))) (by first | with_reducible exact Pull.p0 | with_reducible exact Pull.p1 | with_reducible exact Pull.p2 | with_reducible exact Pull.p3 | with_reducible exact Pull.p4 | with_reducible exact Pull.p5 | with_reducible exact Pull.p6 | with_reducible exact Pull.p7 | with_reducible exact Pull.p8 | with_reducible exact Pull.p9) rfl rfl ?_)
    refine At.nil ?_
    refine At.then_n ?_
    refine At.beginR (by first | with_reducible exact Pull.p0 | with_reducible exact Pull.p1 | with_reducible exact Pull.p2 | with_reducible exact Pull.p3 | with_reducible exact Pull.p4 | with_reducible exact Pull.p5 | with_reducible exact Pull.p6 | with_reducible exact Pull.p7 | with_reducible exact Pull.p8 | with_reducible exact Pull.p9) ?_
    refine At.block ?_
    refine At.drawE (rs' := [row lg [ptr c.cb 0, i64 (-1), u64 (if q < a.q then a.q else q), .map (some r)] 63 (0, 0), recR l fn tmps _ _ _ D .busy none, row b9 [u8 a.k, u64 a.q, str a.t] 68 (0, 0), defR D, row b7 [ptr lg 0] 26 (0, 0)]) [10] [[row lg [ptr c.cb 0, i64 (-1), u64 (if q < a.q then a.q else q), .map (some r)] 63 (0, 0), recR l fn tmps _ _ _ D .busy none, row b9 [u8 a.k, u64 a.q, str a.t] 68 (0, 0), defR D, row b7 [ptr lg 0] 26 (0, 0)]] [_, _, _, _, _, _, _, _, _, _, undef] (by kernel_rfl) (by decide) (by kernel_rfl) (by decide) rfl 
      (.quiet 0 (by kernel_rfl) (by kernel_rfl) (.cons (Step.op rfl (fun D h1 h2 h3 K hK => op_load (mD_base rfl rfl) Tryd.isAgg26 (by first | with_reducible exact Pull.p0 | with_reducible exact Pull.p1 | with_reducible exact Pull.p2 | with_reducible exact Pull.p3 | with_reducible exact Pull.p4 | with_reducible exact Pull.p5 | with_reducible exact Pull.p6 | with_reducible exact Pull.p7 | with_reducible exact Pull.p8 | with_reducible exact Pull.p9) rfl rfl hK)) .nil)
      (.quiet 0 (by kernel_rfl) (by kernel_rfl) (.cons (Step.op rfl (fun D h1 h2 h3 K hK => op_load (mD_base rfl rfl) Tryd.isAgg26 (by first | with_reducible exact Pull.p0 | with_reducible exact Pull.p1 | with_reducible exact Pull.p2 | with_reducible exact Pull.p3 | with_reducible exact Pull.p4 | with_reducible exact Pull.p5 | with_reducible exact Pull.p6 | with_reducible exact Pull.p7 | with_reducible exact Pull.p8 | with_reducible exact Pull.p9) rfl rfl hK)) .nil)
      (.quiet 0 (by kernel_rfl) (by kernel_rfl) (.cons (Step.op rfl (fun D h1 h2 h3 K hK => op_nilCheck (mD_done 1 (by decide) (pre_at h2 0 rfl rfl) rfl rfl rfl) rfl hK)) .nil)
      (.quiet 0 (by kernel_rfl) (by kernel_rfl) (.cons (Step.op rfl (fun D h1 h2 h3 K hK => op_fieldAddr (o' := 2) (mD_done 2 (by decide) (pre_at h2 0 rfl rfl) rfl rfl rfl) Tryd.underlying63 rfl Tryd.sizeOf61 rfl rfl hK)) .nil)
      (.quiet 0 (by kernel_rfl) (by kernel_rfl) (.cons (Step.op rfl (fun D h1 h2 h3 K hK => op_load (mD_done 3 (by decide) (pre_at h2 0 rfl rfl) rfl rfl rfl) Tryd.isAgg61 (by first | with_reducible exact Pull.p0 | with_reducible exact Pull.p1 | with_reducible exact Pull.p2 | with_reducible exact Pull.p3 | with_reducible exact Pull.p4 | with_reducible exact Pull.p5 | with_reducible exact Pull.p6 | with_reducible exact Pull.p7 | with_reducible exact Pull.p8 | with_reducible exact Pull.p9) rfl rfl hK)) .nil)
      (.quiet 0 (by kernel_rfl) (by kernel_rfl) (.cons (Step.op rfl (fun D h1 h2 h3 K hK => op_fieldAddr (o' := 1) (mD_base rfl rfl) Tryd.underlying68 rfl Tryd.sizeOf61 rfl rfl hK)) .nil)
      (.quiet 0 (by kernel_rfl) (by kernel_rfl) (.cons (Step.op rfl (fun D h1 h2 h3 K hK => op_load (mD_done 5 (by decide) (pre_at h2 0 rfl rfl) rfl rfl rfl) Tryd.isAgg61 (by first | with_reducible exact Pull.p0 | with_reducible exact Pull.p1 | with_reducible exact Pull.p2 | with_reducible exact Pull.p3 | with_reducible exact Pull.p4 | with_reducible exact Pull.p5 | with_reducible exact Pull.p6 | with_reducible exact Pull.p7 | with_reducible exact Pull.p8 | with_reducible exact Pull.p9) rfl rfl hK)) .nil)
      (.quiet 0 (by kernel_rfl) (by kernel_rfl) (.cons (Step.op rfl (fun D h1 h2 h3 K hK => op_maxU (mD_done 4 (by decide) (pre_at h2 0 rfl rfl) rfl rfl rfl) (mD_done 6 (by decide) (pre_at h2 1 rfl rfl) rfl rfl rfl) rfl hK)) .nil)
      (.quiet 1 (by kernel_rfl) (by kernel_rfl) (.cons (Step.op rfl (fun D h1 h2 h3 K hK => op_nilCheck (mD_done 0 (by decide) (pre_at h2 0 rfl rfl) rfl rfl rfl) rfl hK)) (.cons (Step.op rfl (fun D h1 h2 h3 K hK => op_nilCheck (mD_done 0 (by decide) (pre_at h2 0 rfl rfl) rfl rfl rfl) rfl hK)) .nil))
      (.quiet 0 (by kernel_rfl) (by kernel_rfl) (.cons (Step.op rfl (fun D h1 h2 h3 K hK => op_fieldAddr (o' := 2) (mD_done 8 (by decide) (pre_at h2 0 rfl rfl) rfl rfl rfl) Tryd.underlying63 rfl Tryd.sizeOf61 rfl rfl hK)) .nil)
      (.eff 0 rfl (by kernel_rfl) (by kernel_rfl) rfl rfl (Last.op rfl (fun D h2 K hK => op_store (mD_done 9 (by decide) (pre_at h2 0 rfl rfl) rfl rfl rfl) (mD_done 7 (by decide) (pre_at h2 1 rfl rfl) rfl rfl rfl) Tryd.sizeOf61 rfl rfl (by first | with_reducible exact Pull.p0 | with_reducible exact Pull.p1 | with_reducible exact Pull.p2 | with_reducible exact Pull.p3 | with_reducible exact Pull.p4 | with_reducible exact Pull.p5 | with_reducible exact Pull.p6 | with_reducible exact Pull.p7 | with_reducible exact Pull.p8 | with_reducible exact Pull.p9) (.succ (.succ .zero)) rfl (by exact hK)))
      .nil))))))))))) ?_
    refine At.keep [] .nil ?_
    refine At.blk_n ?_
    have hx : (if q < a.q then a.q else q) = maxQ (pre ++ [a]) := by rw [hi, maxQ, maxQ, List.foldl_append]; rfl
    exact At.endR (by first | with_reducible exact Pull.p0 | with_reducible exact Pull.p1 | with_reducible exact Pull.p2 | with_reducible exact Pull.p3 | with_reducible exact Pull.p4 | with_reducible exact Pull.p5 | with_reducible exact Pull.p6 | with_reducible exact Pull.p7 | with_reducible exact Pull.p8 | with_reducible exact Pull.p9) ⟨_, hx, rfl⟩ (.cons (by first | exact Pull.p0 | exact Pull.p1 | exact Pull.p2 | exact Pull.p3 | exact Pull.p4 | exact Pull.p5 | exact Pull.p6 | exact Pull.p7 | exact Pull.p8 | exact Pull.p9) (.cons (by first | exact Pull.p0 | exact Pull.p1 | exact Pull.p2 | exact Pull.p3 | exact Pull.p4 | exact Pull.p5 | exact Pull.p6 | exact Pull.p7 | exact Pull.p8 | exact Pull.p9) (.cons (by first | exact Pull.p0 | exact Pull.p1 | exact Pull.p2 | exact Pull.p3 | exact Pull.p4 | exact Pull.p5 | exact Pull.p6 | exact Pull.p7 | exact Pull.p8 | exact Pull.p9) (.cons (by first | exact Pull.p0 | exact Pull.p1 | exact Pull.p2 | exact Pull.p3 | exact Pull.p4 | exact Pull.p5 | exact Pull.p6 | exact Pull.p7 | exact Pull.p8 | exact Pull.p9) .nil))))
  ·
    rintro _ ⟨q, hq, rfl⟩
    show At _ _ [defR D, row bb [ptr lg 0] 26 (0, 0), chipR c, row lg [ptr c.cb 0, i64 (-1), u64 q, .map (some r)] 63 (0, 0), row b7 [ptr lg 0] 26 (0, 0), mapI r [] 0] _
    refine At.blk_n ?_
    refine At.then_n ?_
    refine At.seq ?_
    refine At.region ?_
    refine At.op rfl (op_load rfl Tryd.isAgg26 (by first | with_reducible exact Pull.p0 | with_reducible exact Pull.p1 | with_reducible exact Pull.p2 | with_reducible exact Pull.p3 | with_reducible exact Pull.p4 | with_reducible exact Pull.p5 | with_reducible exact Pull.p6 | with_reducible exact Pull.p7 | with_reducible exact Pull.p8 | with_reducible exact Pull.p9) rfl rfl ?_)
    refine At.op rfl (op_nilCheck rfl rfl ?_)
    refine At.op rfl (op_fieldAddr (o' := 2) rfl Tryd.underlying63 rfl Tryd.sizeOf61 rfl rfl ?_)
    refine At.op rfl (op_load rfl Tryd.isAgg61 (by first | with_reducible exact Pull.p0 | with_reducible exact Pull.p1 | with_reducible exact Pull.p2 | with_reducible exact Pull.p3 | with_reducible exact Pull.p4 | with_reducible exact Pull.p5 | with_reducible exact Pull.p6 | with_reducible exact Pull.p7 | with_reducible exact Pull.p8 | with_reducible exact Pull.p9) rfl rfl ?_)
    refine At.op rfl (op_bin rfl rfl (b64_add _ (1 : UInt64)) rfl ?_)
    refine At.op rfl (op_nilCheck rfl rfl ?_)
    refine At.op rfl (op_fieldAddr (o' := 2) rfl Tryd.underlying63 rfl Tryd.sizeOf61 rfl rfl ?_)
    refine At.op rfl (op_store rfl rfl Tryd.sizeOf61 rfl rfl (by first | with_reducible exact Pull.p0 | with_reducible exact Pull.p1 | with_reducible exact Pull.p2 | with_reducible exact Pull.p3 | with_reducible exact Pull.p4 | with_reducible exact Pull.p5 | with_reducible exact Pull.p6 | with_reducible exact Pull.p7 | with_reducible exact Pull.p8 | with_reducible exact Pull.p9) (.succ (.succ .zero)) rfl ?_)
    refine At.nil ?_
    refine At.then_n ?_
    refine At.seq ?_
    refine At.region ?_
    refine At.op rfl (op_load rfl Tryd.isAgg26 (by first | with_reducible exact Pull.p0 | with_reducible exact Pull.p1 | with_reducible exact Pull.p2 | with_reducible exact Pull.p3 | with_reducible exact Pull.p4 | with_reducible exact Pull.p5 | with_reducible exact Pull.p6 | with_reducible exact Pull.p7 | with_reducible exact Pull.p8 | with_reducible exact Pull.p9) rfl rfl ?_)
    refine At.op rfl (op_assign rfl rfl ?_)
    refine At.op rfl (op_assign rfl rfl ?_)
    refine At.nil ?_
    refine At.then_n ?_
    refine At.ret ?_
    exact At.finM (l := [.tmp 2, .tmp 3]) _ (.inl rfl) rfl rfl (by first | with_reducible exact Pull.p0 | with_reducible exact Pull.p1 | with_reducible exact Pull.p2 | with_reducible exact Pull.p3 | with_reducible exact Pull.p4 | with_reducible exact Pull.p5 | with_reducible exact Pull.p6 | with_reducible exact Pull.p7 | with_reducible exact Pull.p8 | with_reducible exact Pull.p9) (.tmp rfl (.tmp rfl .nil)) rfl ⟨⟨lg, r, -1, q + 1, [], 0⟩, rfl, rfl, rfl, by dsimp only; rw [hq], rfl⟩ (.cons (by first | exact Pull.p0 | exact Pull.p1 | exact Pull.p2 | exact Pull.p3 | exact Pull.p4 | exact Pull.p5 | exact Pull.p6 | exact Pull.p7 | exact Pull.p8 | exact Pull.p9) (.cons (by first | exact Pull.p0 | exact Pull.p1 | exact Pull.p2 | exact Pull.p3 | exact Pull.p4 | exact Pull.p5 | exact Pull.p6 | exact Pull.p7 | exact Pull.p8 | exact Pull.p9) (.cons (by first | exact Pull.p0 | exact Pull.p1 | exact Pull.p2 | exact Pull.p3 | exact Pull.p4 | exact Pull.p5 | exact Pull.p6 | exact Pull.p7 | exact Pull.p8 | exact Pull.p9) .nil)))
theorem seglog_those (c : Chp) (hc : c.wf) (g : Lg) (fid : Nat) (fs cap : List Value) (R : List Res) (p : Nat → Bool) (hcall : ∀ a w, (callFunc fid a).run Tryd.prog w = .ok (.enter fid a) w)
    (hf : ∀ i, i < c.segs → Does Tryd.prog G fid (fs ++ [i64 i] ++ cap) (chipR c :: logRow g c.cb :: R) (OneR (.bool (p i)) (chipR c :: logRow g c.cb :: R))) :
    Does Tryd.prog G 29 [ptr g.lb 0, .func (.func fid) fs.toArray cap.toArray] (chipR c :: logRow g c.cb :: R) (fun v rs' => ∃ ad cp, v = .slice ad ((List.range c.segs).filter p).length cp ∧ rs' = ownS ad cp (((List.range c.segs).filter p).map fun n : Nat => i64 n) 3 1 :: (chipR c :: logRow g c.cb :: R)) := by
  refine Does.of Tryd.func29 rfl Tryd.ntmps29 rfl (fun w0 => ?_)
  refine At.keep [(0, _), (1, _)] (.cons rfl (.cons rfl .nil)) ?_
  have hb1 := hc.segs1
  refine At.seq ?_
  refine At.region ?_
  refine At.op rfl (op_assign rfl rfl ?_)
  refine At.nil ?_
  refine At.then_n ?_
  refine At.seq ?_
  refine At.seq ?_
  refine At.region ?_
  refine At.op rfl (op_move rfl rfl ?_)
  refine At.op rfl (op_nilCheck rfl rfl ?_)
  refine At.op rfl (op_fieldAddr (o' := 0) rfl Tryd.underlying63 rfl Tryd.sizeOf22 rfl rfl ?_)
  refine At.op rfl (op_load rfl Tryd.isAgg22 (by first | with_reducible exact Pull.p0 | with_reducible exact Pull.p1 | with_reducible exact Pull.p2 | with_reducible exact Pull.p3 | with_reducible exact Pull.p4 | with_reducible exact Pull.p5 | with_reducible exact Pull.p6 | with_reducible exact Pull.p7 | with_reducible exact Pull.p8 | with_reducible exact Pull.p9) rfl rfl ?_)
  refine At.op rfl (op_nilCheck rfl rfl ?_)
  refine At.op rfl (op_fieldAddr (o' := 0) rfl Tryd.underlying46 rfl Tryd.sizeOf42 rfl rfl ?_)
  refine At.op rfl (op_loadGA (us := [i64 c.segs, i64 c.pages]) (chipR c) rfl Tryd.isAgg42 Tryd.sizeOf42 (by first | with_reducible exact Pull.p0 | with_reducible exact Pull.p1 | with_reducible exact Pull.p2 | with_reducible exact Pull.p3 | with_reducible exact Pull.p4 | with_reducible exact Pull.p5 | with_reducible exact Pull.p6 | with_reducible exact Pull.p7 | with_reducible exact Pull.p8 | with_reducible exact Pull.p9) (chip_size c) rfl rfl ?_)
  refine At.op rfl (op_call1 rfl Tryd.call42 (size_Segs c.segs c.pages) rfl ?_)
  refine At.op rfl (op_move rfl rfl ?_)
  refine At.nil ?_
  refine At.then_n ?_
  refine At.block ?_
  refine At.own0 3 1 ?_
  refine At.keep ((fun s => [(1, .func (.func fid) fs.toArray cap.toArray), (4, .slice s.2.1 ((List.range s.1).filter p).length s.2.2), (13, i64 c.segs), (14, i64 s.1)]) ((0, none, 0) : Nat × Option Addr × Nat)) (.cons rfl (.cons rfl (.cons rfl (.cons rfl .nil)))) ?_
  refine At.loop (σ := Nat × Option Addr × Nat) (fun s => s.1 ≤ c.segs) (fun s => [(1, .func (.func fid) fs.toArray cap.toArray), (4, .slice s.2.1 ((List.range s.1).filter p).length s.2.2), (13, i64 c.segs), (14, i64 s.1)]) (fun s => ownS s.2.1 s.2.2 (((List.range s.1).filter p).map fun n : Nat => i64 n) 3 1 :: (chipR c :: logRow g c.cb :: R)) (fun s => c.segs - s.1) ((0, none, 0) : Nat × Option Addr × Nat) (Nat.zero_le _) ?_
  rintro ⟨k, sd, sc⟩ hk
  dsimp only at hk ⊢
  refine At.seq ?_
  refine At.region ?_
  refine At.op rfl (op_bin rfl rfl b_lt rfl ?_)
  refine At.nil ?_
  refine At.then_n ?_
  refine At.seq ?_
  refine At.cond_p rfl (fun hlt0 => ?_) (fun hlt0 => ?_)
  ·
    have hlt : k < c.segs := by omega
    refine At.skip ?_
    refine At.then_n ?_
    refine At.seq ?_
    refine At.block ?_
    refine At.seq ?_
    refine At.region ?_
    refine At.op rfl (op_move rfl rfl ?_)
    refine At.op rfl (op_assign rfl rfl ?_)
    refine At.nil ?_
    refine At.then_n ?_
    refine At.seq ?_
    refine At.region ?_
    refine At.op rfl (op_move rfl rfl ?_)
    refine At.op rfl (op_move rfl rfl ?_)
    refine At.op rfl (op_callQC (fs := fs) (cap := cap) rfl rfl hcall rfl (hf k hlt) (cut_suf _ [_]) rfl ?_)
    refine At.nil ?_
    refine At.then_n ?_
    refine At.cond rfl (fun hpk => ?_) (fun hpk => ?_)
    ·
      have hfil : (List.range (k + 1)).filter p = (List.range k).filter p ++ [k] := by rw [List.range_succ, List.filter_append]; simp [hpk]
      refine At.region ?_
      refine At.op rfl (op_move rfl rfl ?_)
      refine At.op rfl (op_move rfl rfl ?_)
      refine At.op rfl (op_buildSlice1 [_] rfl rfl Tryd.underlying40 et3 rfl (by decide) (List.forall_mem_cons.2 ⟨rfl, (fun _ h => by cases h)⟩) rfl ?_)
      intro b1
      refine At.op rfl (op_append rfl rfl Tryd.underlying40 et3 (by first | with_reducible exact Pull.p0 | with_reducible exact Pull.p1 | with_reducible exact Pull.p2 | with_reducible exact Pull.p3 | with_reducible exact Pull.p4 | with_reducible exact Pull.p5 | with_reducible exact Pull.p6 | with_reducible exact Pull.p7 | with_reducible exact Pull.p8 | with_reducible exact Pull.p9) (by first | with_reducible exact Pull.p0 | with_reducible exact Pull.p1 | with_reducible exact Pull.p2 | with_reducible exact Pull.p3 | with_reducible exact Pull.p4 | with_reducible exact Pull.p5 | with_reducible exact Pull.p6 | with_reducible exact Pull.p7 | with_reducible exact Pull.p8 | with_reducible exact Pull.p9) (by simp) rfl (by decide) (List.forall_mem_cons.2 ⟨rfl, (fun _ h => by cases h)⟩) (by have := List.length_filter_le p (List.range k); rw [List.length_range] at this; omega) (by have := List.length_filter_le p (List.range k); rw [List.length_range] at this; omega) rfl ?_)
      intro ad cad had
      refine At.op rfl (op_assign rfl rfl ?_)
      refine At.nil ?_
      refine At.blk_n ?_
      refine At.then_n ?_
      refine At.region ?_
      refine At.op rfl (op_bin rfl rfl (b_add (by omega) (by omega)) rfl ?_)
      refine At.op rfl (op_move rfl rfl ?_)
      refine At.nil ?_
      refine At.then_n ?_
      first
        | exact At.back (kk := [_]) (k + 1, ad, cad) (by dsimp only; omega) (by dsimp only; omega) (.cons rfl (.cons (by dsimp only; rw [hfil, List.length_append]; rfl) (.cons rfl (.cons rfl .nil)))) (by rw [hfil]; simp only [List.map_append, List.map_cons, List.map_nil]; exact .cons (by first | exact Pull.p0 | exact Pull.p1 | exact Pull.p2 | exact Pull.p3 | exact Pull.p4 | exact Pull.p5 | exact Pull.p6 | exact Pull.p7 | exact Pull.p8 | exact Pull.p9) (cut_suf _ [_]))
        | exact At.back (kk := []) (k + 1, sd, sc) (by dsimp only; omega) (by dsimp only; omega) (.cons rfl (.cons (by dsimp only; rw [hfil]; rfl) (.cons rfl (.cons rfl .nil)))) (by rw [hfil]; exact cut_all _)
    ·
      have hfil : (List.range (k + 1)).filter p = (List.range k).filter p := by rw [List.range_succ, List.filter_append]; simp [hpk]
      refine At.skip ?_
      refine At.blk_n ?_
      refine At.then_n ?_
      refine At.region ?_
      refine At.op rfl (op_bin rfl rfl (b_add (by omega) (by omega)) rfl ?_)
      refine At.op rfl (op_move rfl rfl ?_)
      refine At.nil ?_
      refine At.then_n ?_
      first
        | exact At.back (kk := [_]) (k + 1, ad, cad) (by dsimp only; omega) (by dsimp only; omega) (.cons rfl (.cons (by dsimp only; rw [hfil, List.length_append]; rfl) (.cons rfl (.cons rfl .nil)))) (by rw [hfil]; simp only [List.map_append, List.map_cons, List.map_nil]; exact .cons (by first | exact Pull.p0 | exact Pull.p1 | exact Pull.p2 | exact Pull.p3 | exact Pull.p4 | exact Pull.p5 | exact Pull.p6 | exact Pull.p7 | exact Pull.p8 | exact Pull.p9) (cut_suf _ [_]))
        | exact At.back (kk := []) (k + 1, sd, sc) (by dsimp only; omega) (by dsimp only; omega) (.cons rfl (.cons (by dsimp only; rw [hfil]; rfl) (.cons rfl (.cons rfl .nil)))) (by rw [hfil]; exact cut_all _)
  ·
    obtain rfl : k = c.segs := by omega
    refine At.exit ?_
    refine At.then_e ?_
    refine At.then_e ?_
    refine At.blk_e ?_
    refine At.then_n ?_
    refine At.seq ?_
    refine At.region ?_
    refine At.op rfl (op_move rfl rfl ?_)
    refine At.op rfl (op_assign rfl rfl ?_)
    refine At.nil ?_
    refine At.then_n ?_
    refine At.ret ?_
    exact At.fin1 rfl rfl rfl ⟨sd, sc, rfl, rfl⟩ (cut_all _)
end Go.Proofs.YteckdahgkkmlaaaDoor
end

section
set_option maxRecDepth 20000
set_option linter.unusedVariables false
set_option linter.unusedSimpArgs false
namespace Go.Proofs.YteckdahgkkmlaaaDoor
open Go SL
variable {G : List (Nat × Obj)}
theorem seglog_free (c : Chp) (hc : c.wf) (g : Lg) (i : Nat) : Does Tryd.prog G 30 [ptr g.lb 0, i64 i] [chipR c, logRow g c.cb, logMap g] (OneR (.bool (isFree g c i)) [chipR c, logRow g c.cb, logMap g]) := by
  refine Does.of Tryd.func30 rfl Tryd.ntmps30 rfl (fun w0 => ?_)
  refine At.keep [(0, _), (1, _)] (.cons rfl (.cons rfl .nil)) ?_
  refine At.seq ?_
  refine At.region ?_
  refine At.op rfl (op_assign rfl rfl ?_)
  refine At.nil ?_
  refine At.then_n ?_
  refine At.seq ?_
  refine At.region ?_
  refine At.op rfl (op_move rfl rfl ?_)
  refine At.op rfl (op_move rfl rfl ?_)
  refine At.op rfl (op_nilCheck rfl rfl ?_)
  refine At.op rfl (op_fieldAddr (o' := 1) rfl Tryd.underlying63 rfl Tryd.sizeOf3 rfl rfl ?_)
  refine At.op rfl (op_load rfl Tryd.isAgg3 (by first | with_reducible exact Pull.p0 | with_reducible exact Pull.p1 | with_reducible exact Pull.p2 | with_reducible exact Pull.p3 | with_reducible exact Pull.p4 | with_reducible exact Pull.p5 | with_reducible exact Pull.p6 | with_reducible exact Pull.p7 | with_reducible exact Pull.p8 | with_reducible exact Pull.p9) rfl rfl ?_)
  refine At.op rfl (op_bin rfl rfl b_ne rfl ?_)
  refine At.op rfl (op_move rfl rfl ?_)
  refine At.nsplit (i := 11) rfl (fun hg1 => ?_) (fun hg1 => ?_)
  ·
    refine At.opg rfl rfl rfl (op_move rfl rfl ?_)
    refine At.opg rfl rfl rfl (op_nilCheck rfl rfl ?_)
    refine At.opg rfl rfl rfl (op_fieldAddr (o' := 3) rfl Tryd.underlying63 rfl Tryd.sizeOf60 rfl rfl ?_)
    refine At.opg rfl rfl rfl (op_load rfl Tryd.isAgg60 (by first | with_reducible exact Pull.p0 | with_reducible exact Pull.p1 | with_reducible exact Pull.p2 | with_reducible exact Pull.p3 | with_reducible exact Pull.p4 | with_reducible exact Pull.p5 | with_reducible exact Pull.p6 | with_reducible exact Pull.p7 | with_reducible exact Pull.p8 | with_reducible exact Pull.p9) rfl rfl ?_)
    refine At.opg rfl rfl rfl (op_move rfl rfl ?_)
    refine At.opg rfl rfl rfl (op_lookupI rfl rfl Tryd.underlying60 Tryd.underlying3 Tryd.zeroValue3 (by first | with_reducible exact Pull.p0 | with_reducible exact Pull.p1 | with_reducible exact Pull.p2 | with_reducible exact Pull.p3 | with_reducible exact Pull.p4 | with_reducible exact Pull.p5 | with_reducible exact Pull.p6 | with_reducible exact Pull.p7 | with_reducible exact Pull.p8 | with_reducible exact Pull.p9) rfl ?_)
    refine At.opg rfl rfl rfl (op_bin rfl rfl b_eq rfl ?_)
    refine At.op rfl (op_pick_t rfl rfl rfl ?_)
    refine At.op rfl (op_move rfl rfl ?_)
    refine At.dsplit (i := 20) rfl (fun hg1b => ?_) (fun hg1b => ?_)
    ·
      refine At.opg rfl rfl rfl (op_move rfl rfl ?_)
      refine At.opg rfl rfl rfl (op_move rfl rfl ?_)
      refine At.opg rfl rfl rfl (op_callQ rfl Tryd.call18 (seglog_many c hc g i) (.cons (by first | with_reducible exact Pull.p0 | with_reducible exact Pull.p1 | with_reducible exact Pull.p2 | with_reducible exact Pull.p3 | with_reducible exact Pull.p4 | with_reducible exact Pull.p5 | with_reducible exact Pull.p6 | with_reducible exact Pull.p7 | with_reducible exact Pull.p8 | with_reducible exact Pull.p9) (.cons (by first | with_reducible exact Pull.p0 | with_reducible exact Pull.p1 | with_reducible exact Pull.p2 | with_reducible exact Pull.p3 | with_reducible exact Pull.p4 | with_reducible exact Pull.p5 | with_reducible exact Pull.p6 | with_reducible exact Pull.p7 | with_reducible exact Pull.p8 | with_reducible exact Pull.p9) .nil)) rfl ?_)
      refine At.opg rfl rfl rfl (op_bin rfl rfl b_eq rfl ?_)
      refine At.op rfl (op_pick_t rfl rfl rfl ?_)
      refine At.op rfl (op_assign rfl rfl ?_)
      refine At.nil ?_
      refine At.then_n ?_
      refine At.ret ?_
      have h2 := hg1b
      refine At.fin1 rfl rfl rfl ⟨by simp [isFree, hg1, h2], rfl⟩ (.cons (by first | exact Pull.p0 | exact Pull.p1 | exact Pull.p2 | exact Pull.p3 | exact Pull.p4 | exact Pull.p5 | exact Pull.p6 | exact Pull.p7 | exact Pull.p8 | exact Pull.p9) (.cons (by first | exact Pull.p0 | exact Pull.p1 | exact Pull.p2 | exact Pull.p3 | exact Pull.p4 | exact Pull.p5 | exact Pull.p6 | exact Pull.p7 | exact Pull.p8 | exact Pull.p9) (.cons (by first | exact Pull.p0 | exact Pull.p1 | exact Pull.p2 | exact Pull.p3 | exact Pull.p4 | exact Pull.p5 | exact Pull.p6 | exact Pull.p7 | exact Pull.p8 | exact Pull.p9) .nil)))
    ·
      refine At.opk (want := false) rfl rfl rfl rfl rfl ?_
      refine At.opk (want := false) rfl rfl rfl rfl rfl ?_
      refine At.opk (want := false) rfl rfl rfl rfl rfl ?_
      refine At.opk (want := false) rfl rfl rfl rfl rfl ?_
      refine At.op rfl (op_pick_f rfl rfl rfl ?_)
      refine At.op rfl (op_assign rfl rfl ?_)
      refine At.nil ?_
      refine At.then_n ?_
      refine At.ret ?_
      have h2 := hg1b
      refine At.fin1 rfl rfl rfl ⟨by simp [isFree, hg1, h2], rfl⟩ (.cons (by first | exact Pull.p0 | exact Pull.p1 | exact Pull.p2 | exact Pull.p3 | exact Pull.p4 | exact Pull.p5 | exact Pull.p6 | exact Pull.p7 | exact Pull.p8 | exact Pull.p9) (.cons (by first | exact Pull.p0 | exact Pull.p1 | exact Pull.p2 | exact Pull.p3 | exact Pull.p4 | exact Pull.p5 | exact Pull.p6 | exact Pull.p7 | exact Pull.p8 | exact Pull.p9) (.cons (by first | exact Pull.p0 | exact Pull.p1 | exact Pull.p2 | exact Pull.p3 | exact Pull.p4 | exact Pull.p5 | exact Pull.p6 | exact Pull.p7 | exact Pull.p8 | exact Pull.p9) .nil)))
  ·
    refine At.opk (want := false) rfl rfl rfl rfl rfl ?_
    refine At.opk (want := false) rfl rfl rfl rfl rfl ?_
    refine At.opk (want := false) rfl rfl rfl rfl rfl ?_
    refine At.opk (want := false) rfl rfl rfl rfl rfl ?_
    refine At.opk (want := false) rfl rfl rfl rfl rfl ?_
    refine At.opk (want := false) rfl rfl rfl rfl rfl ?_
    refine At.opk (want := false) rfl rfl rfl rfl rfl ?_
    refine At.op rfl (op_pick_f rfl rfl rfl ?_)
    refine At.op rfl (op_move rfl rfl ?_)
    refine At.opk (want := false) rfl rfl rfl rfl rfl ?_
    refine At.opk (want := false) rfl rfl rfl rfl rfl ?_
    refine At.opk (want := false) rfl rfl rfl rfl rfl ?_
    refine At.opk (want := false) rfl rfl rfl rfl rfl ?_
    refine At.op rfl (op_pick_f rfl rfl rfl ?_)
    refine At.op rfl (op_assign rfl rfl ?_)
    refine At.nil ?_
    refine At.then_n ?_
    refine At.ret ?_
    refine At.fin1 rfl rfl rfl ⟨by simp [isFree, hg1], rfl⟩ (.cons (by first | exact Pull.p0 | exact Pull.p1 | exact Pull.p2 | exact Pull.p3 | exact Pull.p4 | exact Pull.p5 | exact Pull.p6 | exact Pull.p7 | exact Pull.p8 | exact Pull.p9) (.cons (by first | exact Pull.p0 | exact Pull.p1 | exact Pull.p2 | exact Pull.p3 | exact Pull.p4 | exact Pull.p5 | exact Pull.p6 | exact Pull.p7 | exact Pull.p8 | exact Pull.p9) (.cons (by first | exact Pull.p0 | exact Pull.p1 | exact Pull.p2 | exact Pull.p3 | exact Pull.p4 | exact Pull.p5 | exact Pull.p6 | exact Pull.p7 | exact Pull.p8 | exact Pull.p9) .nil)))
theorem seglog_Free (c : Chp) (hc : c.wf) (g : Lg) : Does Tryd.prog G 16 [ptr g.lb 0] [chipR c, logRow g c.cb, logMap g] (OneR (i64 (freeL g c).length) [chipR c, logRow g c.cb, logMap g]) := by
  refine Does.of Tryd.func16 rfl Tryd.ntmps16 rfl (fun w0 => ?_)
  refine At.keep [(0, _)] (.cons rfl .nil) ?_
  refine At.seq ?_
  refine At.region ?_
  refine At.op rfl (op_assign rfl rfl ?_)
  refine At.nil ?_
  refine At.then_n ?_
  refine At.seq ?_
  refine At.region ?_
  refine At.op rfl (op_move rfl rfl ?_)
  refine At.op rfl (op_move rfl rfl ?_)
  refine At.op rfl (op_makeFunc rfl rfl rfl ?_)
  refine At.op rfl (op_callF rfl Tryd.call29 (seglog_those c hc g 30 [ptr g.lb 0] [] [logMap g] (isFree g c) Tryd.call30 (fun i _ => seglog_free c hc g i)) (.cons (by first | exact Pull.p0 | exact Pull.p1 | exact Pull.p2 | exact Pull.p3 | exact Pull.p4 | exact Pull.p5 | exact Pull.p6 | exact Pull.p7 | exact Pull.p8 | exact Pull.p9) (.cons (by first | exact Pull.p0 | exact Pull.p1 | exact Pull.p2 | exact Pull.p3 | exact Pull.p4 | exact Pull.p5 | exact Pull.p6 | exact Pull.p7 | exact Pull.p8 | exact Pull.p9) (.cons (by first | exact Pull.p0 | exact Pull.p1 | exact Pull.p2 | exact Pull.p3 | exact Pull.p4 | exact Pull.p5 | exact Pull.p6 | exact Pull.p7 | exact Pull.p8 | exact Pull.p9) .nil))) rfl ?_)
  rintro v _ ⟨ad, cp, rfl, rfl⟩
  show At _ _ [ownS ad cp (((List.range c.segs).filter (isFree g c)).map fun n : Nat => i64 n) 3 1, chipR c, logRow g c.cb, logMap g] _
  refine At.op rfl (op_len_slc rfl Tryd.underlying40 rfl ?_)
  refine At.op rfl (op_assign rfl rfl ?_)
  refine At.nil ?_
  refine At.then_n ?_
  refine At.ret ?_
  exact At.fin1 rfl rfl rfl ⟨rfl, rfl⟩ (.cons (by first | exact Pull.p0 | exact Pull.p1 | exact Pull.p2 | exact Pull.p3 | exact Pull.p4 | exact Pull.p5 | exact Pull.p6 | exact Pull.p7 | exact Pull.p8 | exact Pull.p9) (.cons (by first | exact Pull.p0 | exact Pull.p1 | exact Pull.p2 | exact Pull.p3 | exact Pull.p4 | exact Pull.p5 | exact Pull.p6 | exact Pull.p7 | exact Pull.p8 | exact Pull.p9) (.cons (by first | exact Pull.p0 | exact Pull.p1 | exact Pull.p2 | exact Pull.p3 | exact Pull.p4 | exact Pull.p5 | exact Pull.p6 | exact Pull.p7 | exact Pull.p8 | exact Pull.p9) .nil)))
theorem seglog_Open (cb : Nat) (g : Lg) : Does Tryd.prog G 8 [ptr g.lb 0] [logRow g cb] (OneR (i64 g.op) [logRow g cb]) := by
  refine Does.of Tryd.func8 rfl Tryd.ntmps8 rfl (fun w0 => ?_)
  refine At.keep [(0, _)] (.cons rfl .nil) ?_
  refine At.seq ?_
  refine At.region ?_
  refine At.op rfl (op_assign rfl rfl ?_)
  refine At.nil ?_
  refine At.then_n ?_
  refine At.seq ?_
  refine At.region ?_
  refine At.op rfl (op_move rfl rfl ?_)
  refine At.op rfl (op_nilCheck rfl rfl ?_)
  refine At.op rfl (op_fieldAddr (o' := 1) rfl Tryd.underlying63 rfl Tryd.sizeOf3 rfl rfl ?_)
  refine At.op rfl (op_load rfl Tryd.isAgg3 (by first | with_reducible exact Pull.p0 | with_reducible exact Pull.p1 | with_reducible exact Pull.p2 | with_reducible exact Pull.p3 | with_reducible exact Pull.p4 | with_reducible exact Pull.p5 | with_reducible exact Pull.p6 | with_reducible exact Pull.p7 | with_reducible exact Pull.p8 | with_reducible exact Pull.p9) rfl rfl ?_)
  refine At.op rfl (op_assign rfl rfl ?_)
  refine At.nil ?_
  refine At.then_n ?_
  refine At.ret ?_
  exact At.fin1 rfl rfl rfl ⟨rfl, rfl⟩ (.cons (by first | with_reducible exact Pull.p0 | with_reducible exact Pull.p1 | with_reducible exact Pull.p2 | with_reducible exact Pull.p3 | with_reducible exact Pull.p4 | with_reducible exact Pull.p5 | with_reducible exact Pull.p6 | with_reducible exact Pull.p7 | with_reducible exact Pull.p8 | with_reducible exact Pull.p9) .nil)
theorem seglog_next (c : Chp) (hc : c.wf) (g : Lg) (i : Nat) (hi : i < c.segs) : Does Tryd.prog G 20 [ptr g.lb 0, i64 i] [chipR c, logRow g c.cb] (OneR (i64 (c.next i)) [chipR c, logRow g c.cb]) := by
  refine Does.of Tryd.func20 rfl Tryd.ntmps20 rfl (fun w0 => ?_)
  refine At.keep [(0, _), (1, _)] (.cons rfl (.cons rfl .nil)) ?_
  obtain ⟨sg, hsg, hsl, _, _⟩ := hc.seg hi
  have hb2 := hc.pages1
  refine At.seq ?_
  refine At.region ?_
  refine At.op rfl (op_assign rfl rfl ?_)
  refine At.nil ?_
  refine At.then_n ?_
  refine At.seq ?_
  refine At.seq ?_
  refine At.region ?_
  refine At.op rfl (op_move rfl rfl ?_)
  refine At.op rfl (op_nilCheck rfl rfl ?_)
  refine At.op rfl (op_fieldAddr (o' := 0) rfl Tryd.underlying63 rfl Tryd.sizeOf22 rfl rfl ?_)
  refine At.op rfl (op_load rfl Tryd.isAgg22 (by first | with_reducible exact Pull.p0 | with_reducible exact Pull.p1 | with_reducible exact Pull.p2 | with_reducible exact Pull.p3 | with_reducible exact Pull.p4 | with_reducible exact Pull.p5 | with_reducible exact Pull.p6 | with_reducible exact Pull.p7 | with_reducible exact Pull.p8 | with_reducible exact Pull.p9) rfl rfl ?_)
  refine At.op rfl (op_nilCheck rfl rfl ?_)
  refine At.op rfl (op_fieldAddr (o' := 0) rfl Tryd.underlying46 rfl Tryd.sizeOf42 rfl rfl ?_)
  refine At.op rfl (op_loadGA (us := [i64 c.segs, i64 c.pages]) (chipR c) rfl Tryd.isAgg42 Tryd.sizeOf42 (by first | with_reducible exact Pull.p0 | with_reducible exact Pull.p1 | with_reducible exact Pull.p2 | with_reducible exact Pull.p3 | with_reducible exact Pull.p4 | with_reducible exact Pull.p5 | with_reducible exact Pull.p6 | with_reducible exact Pull.p7 | with_reducible exact Pull.p8 | with_reducible exact Pull.p9) (chip_size c) rfl rfl ?_)
  refine At.op rfl (op_call1 rfl Tryd.call17 (size_Pages c.segs c.pages) rfl ?_)
  refine At.op rfl (op_move rfl rfl ?_)
  refine At.nil ?_
  refine At.then_n ?_
  refine At.block ?_
  refine At.cut (rs' := (fun _ => [chipR c, logRow g c.cb]) (0 : Nat)) (.cons (by first | exact Pull.p0 | exact Pull.p1 | exact Pull.p2 | exact Pull.p3 | exact Pull.p4 | exact Pull.p5 | exact Pull.p6 | exact Pull.p7 | exact Pull.p8 | exact Pull.p9) (.cons (by first | exact Pull.p0 | exact Pull.p1 | exact Pull.p2 | exact Pull.p3 | exact Pull.p4 | exact Pull.p5 | exact Pull.p6 | exact Pull.p7 | exact Pull.p8 | exact Pull.p9) .nil)) ?_
  refine At.keep ((fun k => [(0, ptr g.lb 0), (1, i64 i), (16, i64 c.pages), (17, i64 k)]) (0 : Nat)) (.cons rfl (.cons rfl (.cons rfl (.cons rfl .nil)))) ?_
  refine At.loop (σ := Nat) (fun k => k ≤ c.pages ∧ c.next i = pgNext (sg.pg.drop k) k) (fun k => [(0, ptr g.lb 0), (1, i64 i), (16, i64 c.pages), (17, i64 k)]) (fun _ => [chipR c, logRow g c.cb]) (fun k => c.pages - k) (0 : Nat) ⟨Nat.zero_le _, by simp [Chp.next, hsg]⟩ ?_
  rintro k ⟨hk, hnx⟩
  refine At.seq ?_
  refine At.region ?_
  refine At.op rfl (op_bin rfl rfl b_lt rfl ?_)
  refine At.nil ?_
  refine At.then_n ?_
  refine At.seq ?_
  refine At.cond_p rfl (fun hlt0 => ?_) (fun hlt0 => ?_)
  ·
    have hlt : k < c.pages := by omega
    obtain ⟨p, hp⟩ : ∃ p, sg.pg[k]? = some p := ⟨_, List.getElem?_eq_getElem (by omega)⟩
    refine At.skip ?_
    refine At.then_n ?_
    refine At.seq ?_
    refine At.block ?_
    refine At.seq ?_
    refine At.region ?_
    refine At.op rfl (op_move rfl rfl ?_)
    refine At.op rfl (op_assign rfl rfl ?_)
    refine At.nil ?_
    refine At.then_n ?_
    refine At.seq ?_
    refine At.region ?_
    refine At.op rfl (op_move rfl rfl ?_)
    refine At.op rfl (op_nilCheck rfl rfl ?_)
    refine At.op rfl (op_fieldAddr (o' := 0) rfl Tryd.underlying63 rfl Tryd.sizeOf22 rfl rfl ?_)
    refine At.op rfl (op_load rfl Tryd.isAgg22 (by first | with_reducible exact Pull.p0 | with_reducible exact Pull.p1 | with_reducible exact Pull.p2 | with_reducible exact Pull.p3 | with_reducible exact Pull.p4 | with_reducible exact Pull.p5 | with_reducible exact Pull.p6 | with_reducible exact Pull.p7 | with_reducible exact Pull.p8 | with_reducible exact Pull.p9) rfl rfl ?_)
    refine At.op rfl (op_move rfl rfl ?_)
    refine At.op rfl (op_move rfl rfl ?_)
    refine At.op rfl (op_callQ rfl Tryd.call13 (nand_Read c hc i k hi hlt) (.cons (by first | with_reducible exact Pull.p0 | with_reducible exact Pull.p1 | with_reducible exact Pull.p2 | with_reducible exact Pull.p3 | with_reducible exact Pull.p4 | with_reducible exact Pull.p5 | with_reducible exact Pull.p6 | with_reducible exact Pull.p7 | with_reducible exact Pull.p8 | with_reducible exact Pull.p9) .nil) rfl ?_)
    have hat := Chp.at_eq hsg hp
    rcases hv : p.view with _ | t <;> rw [hv] at hat <;> rw [hat]
    ·
      refine At.op rfl (op_move rfl rfl ?_)
      refine At.op rfl (op_extractL rfl .zero rfl ?_)
      refine At.op rfl (op_extractL rfl (.succ .zero) rfl ?_)
      refine At.op rfl (op_extractL rfl (.succ (.succ .zero)) rfl ?_)
      refine At.op rfl (op_assign rfl rfl ?_)
      refine At.op rfl (op_assign rfl rfl ?_)
      refine At.op rfl (op_assign rfl rfl ?_)
      refine At.nil ?_
      refine At.then_n ?_
      refine At.seq ?_
      refine At.keep [(0, _), (1, _), (16, _), (17, _), (5, _), (7, _)] (.cons rfl (.cons rfl (.cons rfl (.cons rfl (.cons rfl (.cons rfl .nil)))))) ?_
      refine At.region ?_
      refine At.op rfl (op_move rfl rfl ?_)
      refine At.op rfl (op_not rfl rfl ?_)
      refine At.nil ?_
      refine At.then_n ?_
      refine At.cond_t rfl ?_
      refine At.seq ?_
      refine At.region ?_
      refine At.op rfl (op_move rfl rfl ?_)
      refine At.op rfl (op_assign rfl rfl ?_)
      refine At.nil ?_
      refine At.then_n ?_
      refine At.ret ?_
      refine At.blk_r ?_
      refine At.then_r ?_
      refine At.then_r ?_
      refine At.blk_r ?_
      refine At.then_r ?_
      exact At.fin1 rfl rfl rfl ⟨by rw [hnx, pgNext_drop hp, hv], rfl⟩ (.cons (by first | exact Pull.p0 | exact Pull.p1 | exact Pull.p2 | exact Pull.p3 | exact Pull.p4 | exact Pull.p5 | exact Pull.p6 | exact Pull.p7 | exact Pull.p8 | exact Pull.p9) (.cons (by first | exact Pull.p0 | exact Pull.p1 | exact Pull.p2 | exact Pull.p3 | exact Pull.p4 | exact Pull.p5 | exact Pull.p6 | exact Pull.p7 | exact Pull.p8 | exact Pull.p9) .nil))
    ·
      refine At.op rfl (op_move rfl rfl ?_)
      refine At.op rfl (op_extractL rfl .zero rfl ?_)
      refine At.op rfl (op_extractL rfl (.succ .zero) rfl ?_)
      refine At.op rfl (op_extractL rfl (.succ (.succ .zero)) rfl ?_)
      refine At.op rfl (op_assign rfl rfl ?_)
      refine At.op rfl (op_assign rfl rfl ?_)
      refine At.op rfl (op_assign rfl rfl ?_)
      refine At.nil ?_
      refine At.then_n ?_
      refine At.seq ?_
      refine At.keep [(0, _), (1, _), (16, _), (17, _), (5, _), (7, _)] (.cons rfl (.cons rfl (.cons rfl (.cons rfl (.cons rfl (.cons rfl .nil)))))) ?_
      refine At.region ?_
      refine At.op rfl (op_move rfl rfl ?_)
      refine At.op rfl (op_not rfl rfl ?_)
      refine At.nil ?_
      refine At.then_n ?_
      refine At.cond_f rfl ?_
      refine At.skip ?_
      refine At.blk_n ?_
      refine At.then_n ?_
      refine At.region ?_
      refine At.op rfl (op_bin rfl rfl (b_add (by omega) (by omega)) rfl ?_)
      refine At.op rfl (op_move rfl rfl ?_)
      refine At.nil ?_
      refine At.then_n ?_
      exact At.back (k + 1) ⟨by omega, by rw [hnx, pgNext_drop hp, hv]⟩ (by omega) (.cons rfl (.cons rfl (.cons rfl (.cons rfl .nil)))) (.cons (by first | with_reducible exact Pull.p0 | with_reducible exact Pull.p1 | with_reducible exact Pull.p2 | with_reducible exact Pull.p3 | with_reducible exact Pull.p4 | with_reducible exact Pull.p5 | with_reducible exact Pull.p6 | with_reducible exact Pull.p7 | with_reducible exact Pull.p8 | with_reducible exact Pull.p9) (.cons (by first | with_reducible exact Pull.p0 | with_reducible exact Pull.p1 | with_reducible exact Pull.p2 | with_reducible exact Pull.p3 | with_reducible exact Pull.p4 | with_reducible exact Pull.p5 | with_reducible exact Pull.p6 | with_reducible exact Pull.p7 | with_reducible exact Pull.p8 | with_reducible exact Pull.p9) .nil))
  ·
    refine At.exit ?_
    refine At.then_e ?_
    refine At.then_e ?_
    refine At.blk_e ?_
    refine At.then_n ?_
    refine At.seq ?_
    refine At.region ?_
    refine At.op rfl (op_assign rfl rfl ?_)
    refine At.nil ?_
    refine At.then_n ?_
    refine At.ret ?_
    exact At.fin1 rfl rfl rfl ⟨by rw [hnx, List.drop_of_length_le (by omega)]; rfl, rfl⟩ (.cons (by first | exact Pull.p0 | exact Pull.p1 | exact Pull.p2 | exact Pull.p3 | exact Pull.p4 | exact Pull.p5 | exact Pull.p6 | exact Pull.p7 | exact Pull.p8 | exact Pull.p9) (.cons (by first | exact Pull.p0 | exact Pull.p1 | exact Pull.p2 | exact Pull.p3 | exact Pull.p4 | exact Pull.p5 | exact Pull.p6 | exact Pull.p7 | exact Pull.p8 | exact Pull.p9) .nil))
theorem wear_lt {c : Chp} (hc : c.wf) (i : Nat) : c.wearAt i < 1000000 := by
  unfold Chp.wearAt
  cases hx : c.l[i]? with
  | none => simp
  | some s => simpa using (hc.pgs s (List.mem_of_getElem? hx)).2.1
theorem seglog_take1 (c : Chp) (hc : c.wf) (g : Lg) (bg a b : Nat) (ha : a < c.segs) (hb : b < c.segs) : Does Tryd.prog G 36 [i64 a, i64 b, ptr bg 0] [row bg [ptr g.lb 0] 26 (0, 0), chipR c, logRow g c.cb, logMap g] (OneR (i64 (wearZ c a - wearZ c b)) [row bg [ptr g.lb 0] 26 (0, 0), chipR c, logRow g c.cb, logMap g]) := by
  refine Does.of Tryd.func36 rfl Tryd.ntmps36 rfl (fun w0 => ?_)
  refine At.keep [(0, _), (1, _), (2, _)] (.cons rfl (.cons rfl (.cons rfl .nil))) ?_
  refine At.seq ?_
  refine At.region ?_
  refine At.op rfl (op_assign rfl rfl ?_)
  refine At.nil ?_
  refine At.then_n ?_
  refine At.seq ?_
  refine At.drawC [_, _, _, _, _, _, _, _, _, _, _, _, _, _] (by kernel_rfl) (by decide) (by kernel_rfl) 
    (Steps'.cons (Step.op rfl (fun D h1 h2 h3 K hK => op_load (mD_base rfl rfl) Tryd.isAgg26 (by first | with_reducible exact Pull.p0 | with_reducible exact Pull.p1 | with_reducible exact Pull.p2 | with_reducible exact Pull.p3 | with_reducible exact Pull.p4 | with_reducible exact Pull.p5 | with_reducible exact Pull.p6 | with_reducible exact Pull.p7 | with_reducible exact Pull.p8 | with_reducible exact Pull.p9) rfl rfl hK))
    (Steps'.cons (Step.op rfl (fun D h1 h2 h3 K hK => op_nilCheck (mD_done 0 (by decide) (pre_at h2 0 rfl rfl) rfl rfl rfl) rfl hK))
    (Steps'.cons (Step.op rfl (fun D h1 h2 h3 K hK => op_fieldAddr (o' := 0) (mD_done 1 (by decide) (pre_at h2 0 rfl rfl) rfl rfl rfl) Tryd.underlying63 rfl Tryd.sizeOf22 rfl rfl hK))
    (Steps'.cons (Step.op rfl (fun D h1 h2 h3 K hK => op_load (mD_done 2 (by decide) (pre_at h2 0 rfl rfl) rfl rfl rfl) Tryd.isAgg22 (by first | with_reducible exact Pull.p0 | with_reducible exact Pull.p1 | with_reducible exact Pull.p2 | with_reducible exact Pull.p3 | with_reducible exact Pull.p4 | with_reducible exact Pull.p5 | with_reducible exact Pull.p6 | with_reducible exact Pull.p7 | with_reducible exact Pull.p8 | with_reducible exact Pull.p9) rfl rfl hK))
    (Steps'.cons (Step.op rfl (fun D h1 h2 h3 K hK => op_move (mD_base rfl rfl) rfl hK))
    (Steps'.cons (Step.op rfl (fun D h1 h2 h3 K hK => op_callQ (evs_cons (mD_done 3 (by decide) (pre_at h2 0 rfl rfl) rfl rfl rfl) (evs_cons (mD_done 4 (by decide) (pre_at h2 1 rfl rfl) rfl rfl rfl) evs_nil)) Tryd.call37 (nand_Wear c hc a ha) (.cons (by first | with_reducible exact Pull.p0 | with_reducible exact Pull.p1 | with_reducible exact Pull.p2 | with_reducible exact Pull.p3 | with_reducible exact Pull.p4 | with_reducible exact Pull.p5 | with_reducible exact Pull.p6 | with_reducible exact Pull.p7 | with_reducible exact Pull.p8 | with_reducible exact Pull.p9) .nil) rfl hK))
    (Steps'.cons (Step.op rfl (fun D h1 h2 h3 K hK => op_load (mD_base rfl rfl) Tryd.isAgg26 (by first | with_reducible exact Pull.p0 | with_reducible exact Pull.p1 | with_reducible exact Pull.p2 | with_reducible exact Pull.p3 | with_reducible exact Pull.p4 | with_reducible exact Pull.p5 | with_reducible exact Pull.p6 | with_reducible exact Pull.p7 | with_reducible exact Pull.p8 | with_reducible exact Pull.p9) rfl rfl hK))
    (Steps'.cons (Step.op rfl (fun D h1 h2 h3 K hK => op_nilCheck (mD_done 6 (by decide) (pre_at h2 0 rfl rfl) rfl rfl rfl) rfl hK))
    (Steps'.cons (Step.op rfl (fun D h1 h2 h3 K hK => op_fieldAddr (o' := 0) (mD_done 7 (by decide) (pre_at h2 0 rfl rfl) rfl rfl rfl) Tryd.underlying63 rfl Tryd.sizeOf22 rfl rfl hK))
    (Steps'.cons (Step.op rfl (fun D h1 h2 h3 K hK => op_load (mD_done 8 (by decide) (pre_at h2 0 rfl rfl) rfl rfl rfl) Tryd.isAgg22 (by first | with_reducible exact Pull.p0 | with_reducible exact Pull.p1 | with_reducible exact Pull.p2 | with_reducible exact Pull.p3 | with_reducible exact Pull.p4 | with_reducible exact Pull.p5 | with_reducible exact Pull.p6 | with_reducible exact Pull.p7 | with_reducible exact Pull.p8 | with_reducible exact Pull.p9) rfl rfl hK))
    (Steps'.cons (Step.op rfl (fun D h1 h2 h3 K hK => op_move (mD_base rfl rfl) rfl hK))
    (Steps'.cons (Step.op rfl (fun D h1 h2 h3 K hK => op_callQ (evs_cons (mD_done 9 (by decide) (pre_at h2 0 rfl rfl) rfl rfl rfl) (evs_cons (mD_done 10 (by decide) (pre_at h2 1 rfl rfl) rfl rfl rfl) evs_nil)) Tryd.call37 (nand_Wear c hc b hb) (.cons (by first | with_reducible exact Pull.p0 | with_reducible exact Pull.p1 | with_reducible exact Pull.p2 | with_reducible exact Pull.p3 | with_reducible exact Pull.p4 | with_reducible exact Pull.p5 | with_reducible exact Pull.p6 | with_reducible exact Pull.p7 | with_reducible exact Pull.p8 | with_reducible exact Pull.p9) .nil) rfl hK))
    (Steps'.cons (Step.op rfl (fun D h1 h2 h3 K hK => op_bin (mD_done 5 (by decide) (pre_at h2 0 rfl rfl) rfl rfl rfl) (mD_done 11 (by decide) (pre_at h2 1 rfl rfl) rfl rfl rfl) (b_sub (by have := wear_lt hc a; have := wear_lt hc b; omega) (by have := wear_lt hc a; have := wear_lt hc b; omega)) rfl hK))
    (Steps'.cons (Step.op rfl (fun D h1 h2 h3 K hK => op_assign (mD_done 12 (by decide) (pre_at h2 0 rfl rfl) rfl rfl rfl) rfl hK))
    Steps'.nil)))))))))))))) ?_
  refine At.keep [(5, _)] (.cons rfl .nil) ?_
  refine At.then_n ?_
  refine At.ret ?_
  exact At.fin1 rfl rfl rfl ⟨rfl, rfl⟩ (.cons (by first | exact Pull.p0 | exact Pull.p1 | exact Pull.p2 | exact Pull.p3 | exact Pull.p4 | exact Pull.p5 | exact Pull.p6 | exact Pull.p7 | exact Pull.p8 | exact Pull.p9) (.cons (by first | exact Pull.p0 | exact Pull.p1 | exact Pull.p2 | exact Pull.p3 | exact Pull.p4 | exact Pull.p5 | exact Pull.p6 | exact Pull.p7 | exact Pull.p8 | exact Pull.p9) (.cons (by first | exact Pull.p0 | exact Pull.p1 | exact Pull.p2 | exact Pull.p3 | exact Pull.p4 | exact Pull.p5 | exact Pull.p6 | exact Pull.p7 | exact Pull.p8 | exact Pull.p9) (.cons (by first | exact Pull.p0 | exact Pull.p1 | exact Pull.p2 | exact Pull.p3 | exact Pull.p4 | exact Pull.p5 | exact Pull.p6 | exact Pull.p7 | exact Pull.p8 | exact Pull.p9) .nil))))
theorem xget {xs : List Nat} {k y : Nat} (h : xs[k]? = some y) : (xs.map fun n : Nat => i64 n)[0 + ((k : Int)).toNat * 1]? = some (i64 y) := by simp [h]
theorem minF_snoc {f : Nat → Int} {xs : List Nat} {k y : Nat} (hk : 1 ≤ k) (hy : xs[k]? = some y) : minF f (xs.take (k + 1)) = if f y < f (minF f (xs.take k)) then y else minF f (xs.take k) := by
  rw [take_snoc xs k y hy]
  cases xs with
  | nil => simp at hy
  | cons a l =>
    obtain ⟨k, rfl⟩ : ∃ q, k = q + 1 := ⟨k - 1, by omega⟩
    simp only [List.take_succ_cons, List.cons_append, minF, List.foldl_append, List.foldl_cons, List.foldl_nil]
    rfl
theorem slices_MinFunc (b cp fid : Nat) (xs : List Nat) (f : Nat → Int) (fs cap : List Value) (R : List Res) (hne : xs ≠ []) (hxl : xs.length < 1000000) (hcall : ∀ a w, (callFunc fid a).run Tryd.prog w = .ok (.enter fid a) w)
    (hf : ∀ y m, y ∈ xs → m ∈ xs → Does Tryd.prog G fid (fs ++ [i64 y, i64 m] ++ cap) R (OneR (i64 (f y - f m)) R)) :
    Does Tryd.prog G 35 [slc b 0 xs.length cp, .func (.func fid) fs.toArray cap.toArray] (ownS (some ⟨b, 0, none⟩) cp (xs.map fun n : Nat => i64 n) 3 1 :: R) (OneR (i64 (minF f xs)) (ownS (some ⟨b, 0, none⟩) cp (xs.map fun n : Nat => i64 n) 3 1 :: R)) := by
  refine Does.of Tryd.func35 rfl Tryd.ntmps35 rfl (fun w0 => ?_)
  refine At.keep [(0, _), (1, _)] (.cons rfl (.cons rfl .nil)) ?_
  obtain ⟨x0, hx0⟩ : ∃ x0, xs[0]? = some x0 := ⟨_, List.getElem?_eq_getElem (List.length_pos_iff.2 hne)⟩
  refine At.seq ?_
  refine At.region ?_
  refine At.op rfl (op_assign rfl rfl ?_)
  refine At.nil ?_
  refine At.then_n ?_
  refine At.seq ?_
  refine At.seq ?_
  refine At.region ?_
  refine At.op rfl (op_move rfl rfl ?_)
  refine At.op rfl (op_len_slc rfl Tryd.underlying40 rfl ?_)
  refine At.op rfl (op_bin rfl rfl (Bin.cast (v' := .bool false) b_lt (congrArg Value.bool (decide_eq_false (by have : 0 < xs.length := List.length_pos_iff.2 hne; omega)))) rfl ?_)
  refine At.nil ?_
  refine At.then_n ?_
  refine At.cond_f rfl ?_
  refine At.skip ?_
  refine At.then_n ?_
  refine At.seq ?_
  refine At.region ?_
  refine At.op rfl (op_move rfl rfl ?_)
  refine At.op rfl (op_indexS rfl rfl Tryd.underlying40 Tryd.sizeOf3 (by decide) (by have : 0 < xs.length := List.length_pos_iff.2 hne; omega) rfl ?_)
  refine At.op rfl (op_loadO rfl Tryd.isAgg3 (by first | with_reducible exact Pull.p0 | with_reducible exact Pull.p1 | with_reducible exact Pull.p2 | with_reducible exact Pull.p3 | with_reducible exact Pull.p4 | with_reducible exact Pull.p5 | with_reducible exact Pull.p6 | with_reducible exact Pull.p7 | with_reducible exact Pull.p8 | with_reducible exact Pull.p9) (xget (k := 0) hx0) rfl ?_)
  refine At.op rfl (op_assign rfl rfl ?_)
  refine At.nil ?_
  refine At.then_n ?_
  refine At.seq ?_
  refine At.seq ?_
  refine At.region ?_
  refine At.op rfl (op_assign rfl rfl ?_)
  refine At.nil ?_
  refine At.then_n ?_
  refine At.block ?_
  refine At.keep ((fun s => [(0, slc b 0 xs.length cp), (1, .func (.func fid) fs.toArray cap.toArray), (5, i64 s.2), (6, i64 s.1)]) ((1, x0) : Nat × Nat)) (.cons rfl (.cons rfl (.cons rfl (.cons rfl .nil)))) ?_
  refine At.loop (σ := Nat × Nat) (fun s => 1 ≤ s.1 ∧ s.1 ≤ xs.length ∧ s.2 = minF f (xs.take s.1) ∧ s.2 ∈ xs) (fun s => [(0, slc b 0 xs.length cp), (1, .func (.func fid) fs.toArray cap.toArray), (5, i64 s.2), (6, i64 s.1)]) (fun _ => ownS (some ⟨b, 0, none⟩) cp (xs.map fun n : Nat => i64 n) 3 1 :: R) (fun s => xs.length - s.1) ((1, x0) : Nat × Nat) ⟨Nat.le_refl _, List.length_pos_iff.2 hne, by cases xs with | nil => simp at hx0 | cons a l => simp at hx0; subst hx0; rfl, List.mem_of_getElem? hx0⟩ ?_
  rintro ⟨k, m⟩ ⟨hk1, hk, hmf, hm⟩
  dsimp only at hk1 hk hmf hm ⊢
  refine At.seq ?_
  refine At.seq ?_
  refine At.region ?_
  refine At.op rfl (op_move rfl rfl ?_)
  refine At.op rfl (op_move rfl rfl ?_)
  refine At.op rfl (op_len_slc rfl Tryd.underlying40 rfl ?_)
  refine At.op rfl (op_bin rfl rfl b_lt rfl ?_)
  refine At.nil ?_
  refine At.then_n ?_
  refine At.cond_p rfl (fun hlt0 => ?_) (fun hlt0 => ?_)
  ·
    obtain ⟨y, hy0⟩ : ∃ y, xs[k]? = some y := ⟨_, List.getElem?_eq_getElem (by omega)⟩
    have hy := List.mem_of_getElem? hy0
    refine At.skip ?_
    refine At.then_n ?_
    refine At.seq ?_
    refine At.block ?_
    refine At.seq ?_
    refine At.region ?_
    refine At.op rfl (op_move rfl rfl ?_)
    refine At.op rfl (op_move rfl rfl ?_)
    refine At.op rfl (op_move rfl rfl ?_)
    refine At.op rfl (op_indexS rfl rfl Tryd.underlying40 Tryd.sizeOf3 (by omega) (by omega) rfl ?_)
    refine At.op rfl (op_loadO rfl Tryd.isAgg3 (by first | with_reducible exact Pull.p0 | with_reducible exact Pull.p1 | with_reducible exact Pull.p2 | with_reducible exact Pull.p3 | with_reducible exact Pull.p4 | with_reducible exact Pull.p5 | with_reducible exact Pull.p6 | with_reducible exact Pull.p7 | with_reducible exact Pull.p8 | with_reducible exact Pull.p9) (xget hy0) rfl ?_)
    refine At.op rfl (op_move rfl rfl ?_)
    refine At.op rfl (op_callQC (fs := fs) (cap := cap) rfl rfl hcall rfl (hf y m hy hm) (cut_tail _ _) rfl ?_)
    refine At.op rfl (op_bin rfl rfl b_lt rfl ?_)
    refine At.nil ?_
    refine At.then_n ?_
    refine At.cond_p rfl (fun hcmp => ?_) (fun hcmp => ?_)
    ·
      have hnew : y = minF f (xs.take (k + 1)) := by rw [minF_snoc (k := k) (by omega) hy0, ← hmf, if_pos (by omega)]
      refine At.keep [(0, _), (1, _), (5, _), (6, _)] (.cons rfl (.cons rfl (.cons rfl (.cons rfl .nil)))) ?_
      refine At.region ?_
      refine At.op rfl (op_move rfl rfl ?_)
      refine At.op rfl (op_move rfl rfl ?_)
      refine At.op rfl (op_indexS rfl rfl Tryd.underlying40 Tryd.sizeOf3 (by omega) (by omega) rfl ?_)
      refine At.op rfl (op_loadO rfl Tryd.isAgg3 (by first | with_reducible exact Pull.p0 | with_reducible exact Pull.p1 | with_reducible exact Pull.p2 | with_reducible exact Pull.p3 | with_reducible exact Pull.p4 | with_reducible exact Pull.p5 | with_reducible exact Pull.p6 | with_reducible exact Pull.p7 | with_reducible exact Pull.p8 | with_reducible exact Pull.p9) (xget hy0) rfl ?_)
      refine At.op rfl (op_assign rfl rfl ?_)
      refine At.nil ?_
      refine At.blk_n ?_
      refine At.then_n ?_
      refine At.region ?_
      refine At.op rfl (op_move rfl rfl ?_)
      refine At.op rfl (op_bin rfl rfl (b_add (by omega) (by omega)) rfl ?_)
      refine At.op rfl (op_assign rfl rfl ?_)
      refine At.nil ?_
      refine At.then_n ?_
      first
        | exact At.back (kk := []) (k + 1, y) ⟨by dsimp only; omega, by dsimp only; omega, hnew, hy⟩ (by dsimp only; omega) (.cons rfl (.cons rfl (.cons rfl (.cons rfl .nil)))) (cut_all _)
        | exact At.back (kk := []) (k + 1, m) ⟨by dsimp only; omega, by dsimp only; omega, hnew, hm⟩ (by dsimp only; omega) (.cons rfl (.cons rfl (.cons rfl (.cons rfl .nil)))) (cut_all _)
    ·
      have hnew : m = minF f (xs.take (k + 1)) := by rw [minF_snoc (k := k) (by omega) hy0, ← hmf, if_neg (by omega)]
      refine At.skip ?_
      refine At.blk_n ?_
      refine At.then_n ?_
      refine At.keep [(0, _), (1, _), (5, _), (6, _)] (.cons rfl (.cons rfl (.cons rfl (.cons rfl .nil)))) ?_
      refine At.region ?_
      refine At.op rfl (op_move rfl rfl ?_)
      refine At.op rfl (op_bin rfl rfl (b_add (by omega) (by omega)) rfl ?_)
      refine At.op rfl (op_assign rfl rfl ?_)
      refine At.nil ?_
      refine At.then_n ?_
      first
        | exact At.back (kk := []) (k + 1, y) ⟨by dsimp only; omega, by dsimp only; omega, hnew, hy⟩ (by dsimp only; omega) (.cons rfl (.cons rfl (.cons rfl (.cons rfl .nil)))) (cut_all _)
        | exact At.back (kk := []) (k + 1, m) ⟨by dsimp only; omega, by dsimp only; omega, hnew, hm⟩ (by dsimp only; omega) (.cons rfl (.cons rfl (.cons rfl (.cons rfl .nil)))) (cut_all _)
  ·
    refine At.exit ?_
    refine At.then_e ?_
    refine At.then_e ?_
    refine At.blk_e ?_
    refine At.then_n ?_
    refine At.seq ?_
    refine At.region ?_
    refine At.op rfl (op_move rfl rfl ?_)
    refine At.op rfl (op_assign rfl rfl ?_)
    refine At.nil ?_
    refine At.then_n ?_
    refine At.ret ?_
    obtain rfl : k = xs.length := by omega
    exact At.fin1 rfl rfl rfl ⟨by rw [hmf, List.take_length], rfl⟩ (cut_all _)
end Go.Proofs.YteckdahgkkmlaaaDoor
end

section
set_option maxRecDepth 20000
set_option linter.unusedVariables false
set_option linter.unusedSimpArgs false
namespace Go.Proofs.YteckdahgkkmlaaaDoor
open Go SL
variable {G : List (Nat × Obj)}
theorem nand_Program1 (c : Chp) (h : c.wf) (i j sb c1 c3 c4 : Nat) (t : List UInt8) (hpast : c.past.length < 1000000) (s : Sg) (p : Pg) (hs : c.l[i]? = some s) (hp : s.pg[j]? = some p) (hi : i < c.segs) (hj : j < c.pages) : Does Tryd.prog G 39 [.bool true, ptr c1 0, ptr sb 0, ptr c3 0, ptr c4 0] [row c.cb c.row0 46 (0, 0), row c.pw powL 57 (0, 0), row c.lb (segCells c.pages c.l) 49 (0, 0), pgsR (c.l), ownS c.pa c.pc (c.past.map str) 9 1, row c1 [ptr c.cb 0] 22 (0, 0), row sb [str t] 9 (0, 0), row c3 [i64 i] 3 (0, 0), row c4 [i64 j] 3 (0, 0)] (fun _ rs' => ∃ ad cp, rs' = [row c.cb [i64 c.segs, i64 c.pages, ptr c.pw 0, i64 c.rated, slc c.lb 0 c.segs c.segs, .slice ad (c.past.length + 1) cp, i64 (IntKind.i64.wrap (c.pr + 1)), i64 c.er] 46 (0, 0), row c.pw powL 57 (0, 0), row c.lb (segCells c.pages c.l) 49 (0, 0), pgsR (c.l.set i { s with pg := s.pg.set j (.out sb) }), ownS ad cp (c.past.map str ++ [str t]) 9 1, row sb [str t] 9 (0, 0)]) := by
  refine Does.of Tryd.func39 rfl Tryd.ntmps39 rfl (fun w0 => ?_)
  refine At.keep [(0, _), (1, _), (2, _), (3, _), (4, _)] (.cons rfl (.cons rfl (.cons rfl (.cons rfl (.cons rfl .nil))))) ?_
  refine At.seq ?_
  refine At.seq ?_
  refine At.region ?_
  refine At.op rfl (op_load rfl Tryd.isAgg22 (by first | with_reducible exact Pull.p0 | with_reducible exact Pull.p1 | with_reducible exact Pull.p2 | with_reducible exact Pull.p3 | with_reducible exact Pull.p4 | with_reducible exact Pull.p5 | with_reducible exact Pull.p6 | with_reducible exact Pull.p7 | with_reducible exact Pull.p8 | with_reducible exact Pull.p9) rfl rfl ?_)
  refine At.op rfl (op_nilCheck rfl rfl ?_)
  refine At.op rfl (op_fieldAddr (o' := 2) rfl Tryd.underlying46 rfl Tryd.sizeOf24 rfl rfl ?_)
  refine At.op rfl (op_load rfl Tryd.isAgg24 (by first | with_reducible exact Pull.p0 | with_reducible exact Pull.p1 | with_reducible exact Pull.p2 | with_reducible exact Pull.p3 | with_reducible exact Pull.p4 | with_reducible exact Pull.p5 | with_reducible exact Pull.p6 | with_reducible exact Pull.p7 | with_reducible exact Pull.p8 | with_reducible exact Pull.p9) rfl rfl ?_)
  refine At.op rfl (op_callQ rfl Tryd.call40 (power_Kept c.pw) (.cons (by first | with_reducible exact Pull.p0 | with_reducible exact Pull.p1 | with_reducible exact Pull.p2 | with_reducible exact Pull.p3 | with_reducible exact Pull.p4 | with_reducible exact Pull.p5 | with_reducible exact Pull.p6 | with_reducible exact Pull.p7 | with_reducible exact Pull.p8 | with_reducible exact Pull.p9) .nil) rfl ?_)
  refine At.op rfl (op_move rfl rfl ?_)
  refine At.op rfl (op_extractL rfl .zero rfl ?_)
  refine At.op rfl (op_extractL rfl (.succ .zero) rfl ?_)
  refine At.op rfl (op_assign rfl rfl ?_)
  refine At.op rfl (op_assign rfl rfl ?_)
  refine At.nil ?_
  refine At.then_n ?_
  refine At.seq ?_
  refine At.region ?_
  refine At.op rfl (op_move rfl rfl ?_)
  refine At.op rfl (op_not rfl rfl ?_)
  refine At.nil ?_
  refine At.then_n ?_
  refine At.cond_f rfl ?_
  refine At.skip ?_
  refine At.then_n ?_
  refine At.seq ?_
  refine At.keep [(1, _), (2, _), (3, _), (4, _)] (.cons rfl (.cons rfl (.cons rfl (.cons rfl .nil)))) ?_
  refine At.drawL _ [_, _, _, _, _, _, _, _, _, _, undef] (by kernel_rfl) (by decide) (by kernel_rfl) (by kernel_rfl) 
    (.cons (Step.op rfl (fun D h1 h2 h3 K hK => op_load (mD_base rfl rfl) Tryd.isAgg22 (by first | with_reducible exact Pull.p0 | with_reducible exact Pull.p1 | with_reducible exact Pull.p2 | with_reducible exact Pull.p3 | with_reducible exact Pull.p4 | with_reducible exact Pull.p5 | with_reducible exact Pull.p6 | with_reducible exact Pull.p7 | with_reducible exact Pull.p8 | with_reducible exact Pull.p9) rfl rfl hK))
    (.cons (Step.op rfl (fun D h1 h2 h3 K hK => op_nilCheck (mD_done 0 (by decide) (pre_at h2 0 rfl rfl) rfl rfl rfl) rfl hK))
    (.cons (Step.op rfl (fun D h1 h2 h3 K hK => op_fieldAddr (o' := 4) (mD_done 1 (by decide) (pre_at h2 0 rfl rfl) rfl rfl rfl) Tryd.underlying46 rfl Tryd.sizeOf43 rfl rfl hK))
    (.cons (Step.op rfl (fun D h1 h2 h3 K hK => op_load (mD_done 2 (by decide) (pre_at h2 0 rfl rfl) rfl rfl rfl) Tryd.isAgg43 (by first | with_reducible exact Pull.p0 | with_reducible exact Pull.p1 | with_reducible exact Pull.p2 | with_reducible exact Pull.p3 | with_reducible exact Pull.p4 | with_reducible exact Pull.p5 | with_reducible exact Pull.p6 | with_reducible exact Pull.p7 | with_reducible exact Pull.p8 | with_reducible exact Pull.p9) rfl rfl hK))
    (.cons (Step.op rfl (fun D h1 h2 h3 K hK => op_load (mD_base rfl rfl) Tryd.isAgg3 (by first | with_reducible exact Pull.p0 | with_reducible exact Pull.p1 | with_reducible exact Pull.p2 | with_reducible exact Pull.p3 | with_reducible exact Pull.p4 | with_reducible exact Pull.p5 | with_reducible exact Pull.p6 | with_reducible exact Pull.p7 | with_reducible exact Pull.p8 | with_reducible exact Pull.p9) rfl rfl hK))
    (.cons (Step.op rfl (fun D h1 h2 h3 K hK => op_indexS (mD_done 3 (by decide) (pre_at h2 0 rfl rfl) rfl rfl rfl) (mD_done 4 (by decide) (pre_at h2 1 rfl rfl) rfl rfl rfl) Tryd.underlying43 Tryd.sizeOf49 (by omega) (by omega) rfl hK))
    (.cons (Step.op rfl (fun D h1 h2 h3 K hK => op_fieldAddr (mD_done 5 (by decide) (pre_at h2 0 rfl rfl) rfl rfl rfl) Tryd.underlying49 rfl Tryd.sizeOf47 rfl rfl hK))
    (.cons (Step.op rfl (fun D h1 h2 h3 K hK => op_load (mD_done 6 (by decide) (pre_at h2 0 rfl rfl) rfl rfl rfl) Tryd.isAgg47 (by first | with_reducible exact Pull.p0 | with_reducible exact Pull.p1 | with_reducible exact Pull.p2 | with_reducible exact Pull.p3 | with_reducible exact Pull.p4 | with_reducible exact Pull.p5 | with_reducible exact Pull.p6 | with_reducible exact Pull.p7 | with_reducible exact Pull.p8 | with_reducible exact Pull.p9) (seg_get0 hs) rfl hK))
    (.cons (Step.op rfl (fun D h1 h2 h3 K hK => op_load (mD_base rfl rfl) Tryd.isAgg3 (by first | with_reducible exact Pull.p0 | with_reducible exact Pull.p1 | with_reducible exact Pull.p2 | with_reducible exact Pull.p3 | with_reducible exact Pull.p4 | with_reducible exact Pull.p5 | with_reducible exact Pull.p6 | with_reducible exact Pull.p7 | with_reducible exact Pull.p8 | with_reducible exact Pull.p9) rfl rfl hK))
    (.cons (Step.op rfl (fun D h1 h2 h3 K hK => op_indexS (mD_done 7 (by decide) (pre_at h2 0 rfl rfl) rfl rfl rfl) (mD_done 8 (by decide) (pre_at h2 1 rfl rfl) rfl rfl rfl) Tryd.underlying47 Tryd.sizeOf78 (by omega) (by omega) rfl hK))
    (.last (Last.op rfl (fun D h2 K hK => op_storeG (pgsR c.l) (pgsR (c.l.set i { s with pg := s.pg.set j (.out sb) })) (mD_done 9 (by decide) (pre_at h2 0 rfl rfl) rfl rfl rfl) (mD_base rfl rfl) Tryd.sizeOf78 rfl rfl (by first | with_reducible exact Pull.p0 | with_reducible exact Pull.p1 | with_reducible exact Pull.p2 | with_reducible exact Pull.p3 | with_reducible exact Pull.p4 | with_reducible exact Pull.p5 | with_reducible exact Pull.p6 | with_reducible exact Pull.p7 | with_reducible exact Pull.p8 | with_reducible exact Pull.p9) (fun w hw => by simpa using pgs_put hw hs hp sb) (pgs_fp hs) (pgs_put_fp hs sb) (by exact hK)))
    ))))))))))) ?_
  refine At.keep [(1, _), (2, _)] (.cons rfl (.cons rfl .nil)) ?_
  refine At.then_n ?_
  refine At.seq ?_
  refine At.drawX2 (γ := Nat × Option Addr × Nat) (0, none, 0) [6, 7, 10] (fun g => [[row g.1 [str t] 9 (0, 0), pgsR (c.l.set i { s with pg := s.pg.set j (.out sb) }), row c.cb [i64 c.segs, i64 c.pages, ptr c.pw 0, i64 c.rated, slc c.lb 0 c.segs c.segs, .slice c.pa c.past.length c.pc, i64 c.pr, i64 c.er] 46 (0, 0), row c.pw powL 57 (0, 0), row c.lb (segCells c.pages c.l) 49 (0, 0), ownS c.pa c.pc (c.past.map str) 9 1, row c1 [ptr c.cb 0] 22 (0, 0), row sb [str t] 9 (0, 0), row c3 [i64 i] 3 (0, 0), row c4 [i64 j] 3 (0, 0)], [ownS g.2.1 g.2.2 (c.past.map str ++ [str t]) 9 1, row g.1 [str t] 9 (0, 0), pgsR (c.l.set i { s with pg := s.pg.set j (.out sb) }), row c.cb [i64 c.segs, i64 c.pages, ptr c.pw 0, i64 c.rated, slc c.lb 0 c.segs c.segs, .slice c.pa c.past.length c.pc, i64 c.pr, i64 c.er] 46 (0, 0), row c.pw powL 57 (0, 0), row c.lb (segCells c.pages c.l) 49 (0, 0), row c1 [ptr c.cb 0] 22 (0, 0), row sb [str t] 9 (0, 0), row c3 [i64 i] 3 (0, 0), row c4 [i64 j] 3 (0, 0)], [row c.cb [i64 c.segs, i64 c.pages, ptr c.pw 0, i64 c.rated, slc c.lb 0 c.segs c.segs, .slice g.2.1 (c.past.length + 1) g.2.2, i64 c.pr, i64 c.er] 46 (0, 0), ownS g.2.1 g.2.2 (c.past.map str ++ [str t]) 9 1, row g.1 [str t] 9 (0, 0), pgsR (c.l.set i { s with pg := s.pg.set j (.out sb) }), row c.pw powL 57 (0, 0), row c.lb (segCells c.pages c.l) 49 (0, 0), row c1 [ptr c.cb 0] 22 (0, 0), row sb [str t] 9 (0, 0), row c3 [i64 i] 3 (0, 0), row c4 [i64 j] 3 (0, 0)]]) (fun g => [ptr c.cb 0, ptr c.cb 0, ptr c.cb 0, ptr c.cb 5, .slice c.pa c.past.length c.pc, str t, slc g.1 0 1 1, .slice g.2.1 (c.past.length + 1) g.2.2, ptr c.cb 0, ptr c.cb 5, undef]) (by kernel_rfl) (by decide) (by kernel_rfl) (by decide) (by kernel_rfl) (fun _ => rfl) (fun g => 
    (.quiet 2 (by kernel_rfl) (by kernel_rfl) (.cons (Step.op rfl (fun D h1 h2 h3 K hK => op_load (mD_base rfl rfl) Tryd.isAgg22 (by first | with_reducible exact Pull.p0 | with_reducible exact Pull.p1 | with_reducible exact Pull.p2 | with_reducible exact Pull.p3 | with_reducible exact Pull.p4 | with_reducible exact Pull.p5 | with_reducible exact Pull.p6 | with_reducible exact Pull.p7 | with_reducible exact Pull.p8 | with_reducible exact Pull.p9) rfl rfl hK)) (.cons (Step.op rfl (fun D h1 h2 h3 K hK => op_load (mD_base rfl rfl) Tryd.isAgg22 (by first | with_reducible exact Pull.p0 | with_reducible exact Pull.p1 | with_reducible exact Pull.p2 | with_reducible exact Pull.p3 | with_reducible exact Pull.p4 | with_reducible exact Pull.p5 | with_reducible exact Pull.p6 | with_reducible exact Pull.p7 | with_reducible exact Pull.p8 | with_reducible exact Pull.p9) rfl rfl hK)) (.cons (Step.op rfl (fun D h1 h2 h3 K hK => op_load (mD_base rfl rfl) Tryd.isAgg22 (by first | with_reducible exact Pull.p0 | with_reducible exact Pull.p1 | with_reducible exact Pull.p2 | with_reducible exact Pull.p3 | with_reducible exact Pull.p4 | with_reducible exact Pull.p5 | with_reducible exact Pull.p6 | with_reducible exact Pull.p7 | with_reducible exact Pull.p8 | with_reducible exact Pull.p9) rfl rfl hK)) .nil)))
    (.quiet 2 (by kernel_rfl) (by kernel_rfl) (.cons (Step.op rfl (fun D h1 h2 h3 K hK => op_load (mD_base rfl rfl) Tryd.isAgg22 (by first | with_reducible exact Pull.p0 | with_reducible exact Pull.p1 | with_reducible exact Pull.p2 | with_reducible exact Pull.p3 | with_reducible exact Pull.p4 | with_reducible exact Pull.p5 | with_reducible exact Pull.p6 | with_reducible exact Pull.p7 | with_reducible exact Pull.p8 | with_reducible exact Pull.p9) rfl rfl hK)) (.cons (Step.op rfl (fun D h1 h2 h3 K hK => op_load (mD_base rfl rfl) Tryd.isAgg22 (by first | with_reducible exact Pull.p0 | with_reducible exact Pull.p1 | with_reducible exact Pull.p2 | with_reducible exact Pull.p3 | with_reducible exact Pull.p4 | with_reducible exact Pull.p5 | with_reducible exact Pull.p6 | with_reducible exact Pull.p7 | with_reducible exact Pull.p8 | with_reducible exact Pull.p9) rfl rfl hK)) (.cons (Step.op rfl (fun D h1 h2 h3 K hK => op_load (mD_base rfl rfl) Tryd.isAgg22 (by first | with_reducible exact Pull.p0 | with_reducible exact Pull.p1 | with_reducible exact Pull.p2 | with_reducible exact Pull.p3 | with_reducible exact Pull.p4 | with_reducible exact Pull.p5 | with_reducible exact Pull.p6 | with_reducible exact Pull.p7 | with_reducible exact Pull.p8 | with_reducible exact Pull.p9) rfl rfl hK)) .nil)))
    (.quiet 2 (by kernel_rfl) (by kernel_rfl) (.cons (Step.op rfl (fun D h1 h2 h3 K hK => op_nilCheck (mD_done 1 (by decide) (pre_at h2 0 rfl rfl) rfl rfl rfl) rfl hK)) (.cons (Step.op rfl (fun D h1 h2 h3 K hK => op_nilCheck (mD_done 1 (by decide) (pre_at h2 0 rfl rfl) rfl rfl rfl) rfl hK)) (.cons (Step.op rfl (fun D h1 h2 h3 K hK => op_nilCheck (mD_done 1 (by decide) (pre_at h2 0 rfl rfl) rfl rfl rfl) rfl hK)) .nil)))
    (.quiet 2 (by kernel_rfl) (by kernel_rfl) (.cons (Step.op rfl (fun D h1 h2 h3 K hK => op_fieldAddr (o' := 5) (mD_done 2 (by decide) (pre_at h2 0 rfl rfl) rfl rfl rfl) Tryd.underlying46 rfl Tryd.sizeOf44 rfl rfl hK)) (.cons (Step.op rfl (fun D h1 h2 h3 K hK => op_fieldAddr (o' := 5) (mD_done 2 (by decide) (pre_at h2 0 rfl rfl) rfl rfl rfl) Tryd.underlying46 rfl Tryd.sizeOf44 rfl rfl hK)) (.cons (Step.op rfl (fun D h1 h2 h3 K hK => op_fieldAddr (o' := 5) (mD_done 2 (by decide) (pre_at h2 0 rfl rfl) rfl rfl rfl) Tryd.underlying46 rfl Tryd.sizeOf44 rfl rfl hK)) .nil)))
    (.quiet 1 (by kernel_rfl) (by kernel_rfl) (.cons (Step.op rfl (fun D h1 h2 h3 K hK => op_load (mD_done 3 (by decide) (pre_at h2 0 rfl rfl) rfl rfl rfl) Tryd.isAgg44 (by first | with_reducible exact Pull.p0 | with_reducible exact Pull.p1 | with_reducible exact Pull.p2 | with_reducible exact Pull.p3 | with_reducible exact Pull.p4 | with_reducible exact Pull.p5 | with_reducible exact Pull.p6 | with_reducible exact Pull.p7 | with_reducible exact Pull.p8 | with_reducible exact Pull.p9) rfl rfl hK)) (.cons (Step.op rfl (fun D h1 h2 h3 K hK => op_load (mD_done 3 (by decide) (pre_at h2 0 rfl rfl) rfl rfl rfl) Tryd.isAgg44 (by first | with_reducible exact Pull.p0 | with_reducible exact Pull.p1 | with_reducible exact Pull.p2 | with_reducible exact Pull.p3 | with_reducible exact Pull.p4 | with_reducible exact Pull.p5 | with_reducible exact Pull.p6 | with_reducible exact Pull.p7 | with_reducible exact Pull.p8 | with_reducible exact Pull.p9) rfl rfl hK)) .nil))
    (.quiet 0 (by kernel_rfl) (by kernel_rfl) (.cons (Step.op rfl (fun D h1 h2 h3 K hK => op_load (mD_base rfl rfl) Tryd.isAgg9 (by first | with_reducible exact Pull.p0 | with_reducible exact Pull.p1 | with_reducible exact Pull.p2 | with_reducible exact Pull.p3 | with_reducible exact Pull.p4 | with_reducible exact Pull.p5 | with_reducible exact Pull.p6 | with_reducible exact Pull.p7 | with_reducible exact Pull.p8 | with_reducible exact Pull.p9) rfl rfl hK)) .nil)
    (.skip (by kernel_rfl) 
    (.skip (by kernel_rfl) 
    (.quiet 3 (by kernel_rfl) (by kernel_rfl) (.cons (Step.op rfl (fun D h1 h2 h3 K hK => op_nilCheck (mD_done 0 (by decide) (pre_at h2 0 rfl rfl) rfl rfl rfl) rfl hK)) (.cons (Step.op rfl (fun D h1 h2 h3 K hK => op_nilCheck (mD_done 0 (by decide) (pre_at h2 0 rfl rfl) rfl rfl rfl) rfl hK)) (.cons (Step.op rfl (fun D h1 h2 h3 K hK => op_nilCheck (mD_done 0 (by decide) (pre_at h2 0 rfl rfl) rfl rfl rfl) rfl hK)) (.cons (Step.op rfl (fun D h1 h2 h3 K hK => op_nilCheck (mD_done 0 (by decide) (pre_at h2 0 rfl rfl) rfl rfl rfl) rfl hK)) .nil))))
    (.quiet 2 (by kernel_rfl) (by kernel_rfl) (.cons (Step.op rfl (fun D h1 h2 h3 K hK => op_fieldAddr (o' := 5) (mD_done 8 (by decide) (pre_at h2 0 rfl rfl) rfl rfl rfl) Tryd.underlying46 rfl Tryd.sizeOf44 rfl rfl hK)) (.cons (Step.op rfl (fun D h1 h2 h3 K hK => op_fieldAddr (o' := 5) (mD_done 8 (by decide) (pre_at h2 0 rfl rfl) rfl rfl rfl) Tryd.underlying46 rfl Tryd.sizeOf44 rfl rfl hK)) (.cons (Step.op rfl (fun D h1 h2 h3 K hK => op_fieldAddr (o' := 5) (mD_done 8 (by decide) (pre_at h2 0 rfl rfl) rfl rfl rfl) Tryd.underlying46 rfl Tryd.sizeOf44 rfl rfl hK)) .nil)))
    (.skip (by kernel_rfl) 
    .nil))))))))))))
    (.cons rfl rfl (fun g => slc g.1 0 1 1) (fun _ => rfl) (fun g => _) (fun g => [row g.1 [str t] 9 (0, 0), pgsR (c.l.set i { s with pg := s.pg.set j (.out sb) }), row c.cb [i64 c.segs, i64 c.pages, ptr c.pw 0, i64 c.rated, slc c.lb 0 c.segs c.segs, .slice c.pa c.past.length c.pc, i64 c.pr, i64 c.er] 46 (0, 0), row c.pw powL 57 (0, 0), row c.lb (segCells c.pages c.l) 49 (0, 0), ownS c.pa c.pc (c.past.map str) 9 1, row c1 [ptr c.cb 0] 22 (0, 0), row sb [str t] 9 (0, 0), row c3 [i64 i] 3 (0, 0), row c4 [i64 j] 3 (0, 0)]) (fun _ => rfl) (fun _ => rfl) (fun g D h2 K hK => op_buildSlice1 [_] (evp_cons (mD_done 5 (by decide) (pre_at h2 0 rfl rfl) rfl rfl rfl) evp_nil) rfl Tryd.underlying44 et9 rfl (by decide) (List.forall_mem_cons.2 ⟨rfl, (fun _ h => by cases h)⟩) rfl (fun b => hK (b, g.2) (by
          intro j
          rcases j with _ | j
          · first | exact .inl rfl | exact .inr (by kernel_rfl)
          rcases j with _ | j
          · first | exact .inl rfl | exact .inr (by kernel_rfl)
          rcases j with _ | j
          · first | exact .inl rfl | exact .inr (by kernel_rfl)
          rcases j with _ | j
          · first | exact .inl rfl | exact .inr (by kernel_rfl)
          rcases j with _ | j
          · first | exact .inl rfl | exact .inr (by kernel_rfl)
          rcases j with _ | j
          · first | exact .inl rfl | exact .inr (by kernel_rfl)
          rcases j with _ | j
          · first | exact .inl rfl | exact .inr (by kernel_rfl)
          rcases j with _ | j
          · first | exact .inl rfl | exact .inr (by kernel_rfl)
          rcases j with _ | j
          · first | exact .inl rfl | exact .inr (by kernel_rfl)
          rcases j with _ | j
          · first | exact .inl rfl | exact .inr (by kernel_rfl)
          rcases j with _ | j
          · first | exact .inl rfl | exact .inr (by kernel_rfl)
          exact .inl rfl)))
    (.cons rfl rfl (fun g => .slice g.2.1 (c.past.length + 1) g.2.2) (fun _ => rfl) (fun g => [row g.1 [str t] 9 (0, 0), pgsR (c.l.set i { s with pg := s.pg.set j (.out sb) }), row c.cb [i64 c.segs, i64 c.pages, ptr c.pw 0, i64 c.rated, slc c.lb 0 c.segs c.segs, .slice c.pa c.past.length c.pc, i64 c.pr, i64 c.er] 46 (0, 0), row c.pw powL 57 (0, 0), row c.lb (segCells c.pages c.l) 49 (0, 0), ownS c.pa c.pc (c.past.map str) 9 1, row c1 [ptr c.cb 0] 22 (0, 0), row sb [str t] 9 (0, 0), row c3 [i64 i] 3 (0, 0), row c4 [i64 j] 3 (0, 0)]) (fun g => [ownS g.2.1 g.2.2 (c.past.map str ++ [str t]) 9 1, row g.1 [str t] 9 (0, 0), pgsR (c.l.set i { s with pg := s.pg.set j (.out sb) }), row c.cb [i64 c.segs, i64 c.pages, ptr c.pw 0, i64 c.rated, slc c.lb 0 c.segs c.segs, .slice c.pa c.past.length c.pc, i64 c.pr, i64 c.er] 46 (0, 0), row c.pw powL 57 (0, 0), row c.lb (segCells c.pages c.l) 49 (0, 0), row c1 [ptr c.cb 0] 22 (0, 0), row sb [str t] 9 (0, 0), row c3 [i64 i] 3 (0, 0), row c4 [i64 j] 3 (0, 0)]) (fun _ => rfl) (fun _ => rfl) (fun g D h2 K hK => op_append (mD_done 4 (by decide) (pre_at h2 0 rfl rfl) rfl rfl rfl) (mD_done 6 (by decide) (pre_at h2 1 rfl rfl) rfl rfl rfl) Tryd.underlying44 et9 (by first | with_reducible exact Pull.p0 | with_reducible exact Pull.p1 | with_reducible exact Pull.p2 | with_reducible exact Pull.p3 | with_reducible exact Pull.p4 | with_reducible exact Pull.p5 | with_reducible exact Pull.p6 | with_reducible exact Pull.p7 | with_reducible exact Pull.p8 | with_reducible exact Pull.p9) (by first | with_reducible exact Pull.p0 | with_reducible exact Pull.p1 | with_reducible exact Pull.p2 | with_reducible exact Pull.p3 | with_reducible exact Pull.p4 | with_reducible exact Pull.p5 | with_reducible exact Pull.p6 | with_reducible exact Pull.p7 | with_reducible exact Pull.p8 | with_reducible exact Pull.p9) (by simp) rfl (by decide) (List.forall_mem_cons.2 ⟨rfl, (fun _ h => by cases h)⟩) (by omega) (by omega) rfl (fun ad cp _ => (by exact hK (g.1, ad, cp) (by
          intro j
          rcases j with _ | j
          · first | exact .inl rfl | exact .inr (by kernel_rfl)
          rcases j with _ | j
          · first | exact .inl rfl | exact .inr (by kernel_rfl)
          rcases j with _ | j
          · first | exact .inl rfl | exact .inr (by kernel_rfl)
          rcases j with _ | j
          · first | exact .inl rfl | exact .inr (by kernel_rfl)
          rcases j with _ | j
          · first | exact .inl rfl | exact .inr (by kernel_rfl)
          rcases j with _ | j
          · first | exact .inl rfl | exact .inr (by kernel_rfl)
          rcases j with _ | j
          · first | exact .inl rfl | exact .inr (by kernel_rfl)
          rcases j with _ | j
          · first | exact .inl rfl | exact .inr (by kernel_rfl)
          rcases j with _ | j
          · first | exact .inl rfl | exact .inr (by kernel_rfl)
          rcases j with _ | j
          · first | exact .inl rfl | exact .inr (by kernel_rfl)
          rcases j with _ | j
          · first | exact .inl rfl | exact .inr (by kernel_rfl)
          exact .inl rfl))))
    (.cons rfl rfl (fun g => undef) (fun _ => rfl) (fun g => [ownS g.2.1 g.2.2 (c.past.map str ++ [str t]) 9 1, row g.1 [str t] 9 (0, 0), pgsR (c.l.set i { s with pg := s.pg.set j (.out sb) }), row c.cb [i64 c.segs, i64 c.pages, ptr c.pw 0, i64 c.rated, slc c.lb 0 c.segs c.segs, .slice c.pa c.past.length c.pc, i64 c.pr, i64 c.er] 46 (0, 0), row c.pw powL 57 (0, 0), row c.lb (segCells c.pages c.l) 49 (0, 0), row c1 [ptr c.cb 0] 22 (0, 0), row sb [str t] 9 (0, 0), row c3 [i64 i] 3 (0, 0), row c4 [i64 j] 3 (0, 0)]) (fun g => [row c.cb [i64 c.segs, i64 c.pages, ptr c.pw 0, i64 c.rated, slc c.lb 0 c.segs c.segs, .slice g.2.1 (c.past.length + 1) g.2.2, i64 c.pr, i64 c.er] 46 (0, 0), ownS g.2.1 g.2.2 (c.past.map str ++ [str t]) 9 1, row g.1 [str t] 9 (0, 0), pgsR (c.l.set i { s with pg := s.pg.set j (.out sb) }), row c.pw powL 57 (0, 0), row c.lb (segCells c.pages c.l) 49 (0, 0), row c1 [ptr c.cb 0] 22 (0, 0), row sb [str t] 9 (0, 0), row c3 [i64 i] 3 (0, 0), row c4 [i64 j] 3 (0, 0)]) (fun _ => rfl) (fun _ => rfl) (fun g D h2 K hK => op_store (mD_done 9 (by decide) (pre_at h2 0 rfl rfl) rfl rfl rfl) (mD_done 7 (by decide) (pre_at h2 1 rfl rfl) rfl rfl rfl) Tryd.sizeOf44 rfl rfl (by first | with_reducible exact Pull.p0 | with_reducible exact Pull.p1 | with_reducible exact Pull.p2 | with_reducible exact Pull.p3 | with_reducible exact Pull.p4 | with_reducible exact Pull.p5 | with_reducible exact Pull.p6 | with_reducible exact Pull.p7 | with_reducible exact Pull.p8 | with_reducible exact Pull.p9) (.succ (.succ (.succ (.succ (.succ .zero))))) rfl (by exact hK g (by
          intro j
          rcases j with _ | j
          · first | exact .inl rfl | exact .inr (by kernel_rfl)
          rcases j with _ | j
          · first | exact .inl rfl | exact .inr (by kernel_rfl)
          rcases j with _ | j
          · first | exact .inl rfl | exact .inr (by kernel_rfl)
          rcases j with _ | j
          · first | exact .inl rfl | exact .inr (by kernel_rfl)
          rcases j with _ | j
          · first | exact .inl rfl | exact .inr (by kernel_rfl)
          rcases j with _ | j
          · first | exact .inl rfl | exact .inr (by kernel_rfl)
          rcases j with _ | j
          · first | exact .inl rfl | exact .inr (by kernel_rfl)
          rcases j with _ | j
          · first | exact .inl rfl | exact .inr (by kernel_rfl)
          rcases j with _ | j
          · first | exact .inl rfl | exact .inr (by kernel_rfl)
          rcases j with _ | j
          · first | exact .inl rfl | exact .inr (by kernel_rfl)
          rcases j with _ | j
          · first | exact .inl rfl | exact .inr (by kernel_rfl)
          exact .inl rfl)))
    .nil))) ?_
  rintro ⟨nb, ad, cp⟩
  show At _ _ ([row c.cb [i64 c.segs, i64 c.pages, ptr c.pw 0, i64 c.rated, slc c.lb 0 c.segs c.segs, .slice ad (c.past.length + 1) cp, i64 c.pr, i64 c.er] 46 (0, 0), ownS ad cp (c.past.map str ++ [str t]) 9 1, row nb [str t] 9 (0, 0), pgsR (c.l.set i { s with pg := s.pg.set j (.out sb) }), row c.pw powL 57 (0, 0), row c.lb (segCells c.pages c.l) 49 (0, 0), row c1 [ptr c.cb 0] 22 (0, 0), row sb [str t] 9 (0, 0), row c3 [i64 i] 3 (0, 0), row c4 [i64 j] 3 (0, 0)]) _
  refine At.keep [(1, _)] (.cons rfl .nil) ?_
  refine At.then_n ?_
  refine At.region ?_
  refine At.op rfl (op_load rfl Tryd.isAgg22 (by first | with_reducible exact Pull.p0 | with_reducible exact Pull.p1 | with_reducible exact Pull.p2 | with_reducible exact Pull.p3 | with_reducible exact Pull.p4 | with_reducible exact Pull.p5 | with_reducible exact Pull.p6 | with_reducible exact Pull.p7 | with_reducible exact Pull.p8 | with_reducible exact Pull.p9) rfl rfl ?_)
  refine At.op rfl (op_nilCheck rfl rfl ?_)
  refine At.op rfl (op_fieldAddr (o' := 6) rfl Tryd.underlying46 rfl Tryd.sizeOf3 rfl rfl ?_)
  refine At.op rfl (op_load rfl Tryd.isAgg3 (by first | with_reducible exact Pull.p0 | with_reducible exact Pull.p1 | with_reducible exact Pull.p2 | with_reducible exact Pull.p3 | with_reducible exact Pull.p4 | with_reducible exact Pull.p5 | with_reducible exact Pull.p6 | with_reducible exact Pull.p7 | with_reducible exact Pull.p8 | with_reducible exact Pull.p9) rfl rfl ?_)
  refine At.op rfl (op_bin rfl rfl bk_add rfl ?_)
  refine At.op rfl (op_nilCheck rfl rfl ?_)
  refine At.op rfl (op_fieldAddr (o' := 6) rfl Tryd.underlying46 rfl Tryd.sizeOf3 rfl rfl ?_)
  refine At.op rfl (op_store rfl rfl Tryd.sizeOf3 rfl rfl (by first | with_reducible exact Pull.p0 | with_reducible exact Pull.p1 | with_reducible exact Pull.p2 | with_reducible exact Pull.p3 | with_reducible exact Pull.p4 | with_reducible exact Pull.p5 | with_reducible exact Pull.p6 | with_reducible exact Pull.p7 | with_reducible exact Pull.p8 | with_reducible exact Pull.p9) (.succ (.succ (.succ (.succ (.succ (.succ .zero)))))) rfl ?_)
  refine At.nil ?_
  exact At.fin0 _ (.inr rfl) rfl rfl ⟨ad, cp, rfl⟩ (.cons (by first | exact Pull.p0 | exact Pull.p1 | exact Pull.p2 | exact Pull.p3 | exact Pull.p4 | exact Pull.p5 | exact Pull.p6 | exact Pull.p7 | exact Pull.p8 | exact Pull.p9) (.cons (by first | exact Pull.p0 | exact Pull.p1 | exact Pull.p2 | exact Pull.p3 | exact Pull.p4 | exact Pull.p5 | exact Pull.p6 | exact Pull.p7 | exact Pull.p8 | exact Pull.p9) (.cons (by first | exact Pull.p0 | exact Pull.p1 | exact Pull.p2 | exact Pull.p3 | exact Pull.p4 | exact Pull.p5 | exact Pull.p6 | exact Pull.p7 | exact Pull.p8 | exact Pull.p9) (.cons (by first | exact Pull.p0 | exact Pull.p1 | exact Pull.p2 | exact Pull.p3 | exact Pull.p4 | exact Pull.p5 | exact Pull.p6 | exact Pull.p7 | exact Pull.p8 | exact Pull.p9) (.cons (by first | exact Pull.p0 | exact Pull.p1 | exact Pull.p2 | exact Pull.p3 | exact Pull.p4 | exact Pull.p5 | exact Pull.p6 | exact Pull.p7 | exact Pull.p8 | exact Pull.p9) (.cons (by first | exact Pull.p0 | exact Pull.p1 | exact Pull.p2 | exact Pull.p3 | exact Pull.p4 | exact Pull.p5 | exact Pull.p6 | exact Pull.p7 | exact Pull.p8 | exact Pull.p9) .nil))))))
end Go.Proofs.YteckdahgkkmlaaaDoor
end

