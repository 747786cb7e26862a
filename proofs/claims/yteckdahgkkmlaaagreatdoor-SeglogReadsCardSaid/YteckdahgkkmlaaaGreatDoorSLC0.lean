/- Walks of the program's functions. -/
import Derived.Test.YteckdahgkkmlaaaGreatDoorSLBase
import Derived.Test.YteckdahgkkmlaaaGreatDoorSLSep
import Derived.KernelRfl
set_option maxRecDepth 20000
set_option linter.unusedVariables false
set_option linter.unusedSimpArgs false
namespace Go.Proofs.YteckdahgkkmlaaaGreatDoor
open Go SL
variable {G : List (Nat × Obj)}
/-! A chip in memory -/
/-- no power is ever lost -/
@[reducible] def powL : List Value := [.bool false, i64 0, i64 0, .int .u8 0]
/-- a page: not programmed; a string of the chip's own; a string that lies elsewhere for now -/
inductive Pg where
  | no
  | own (b : Nat) (t : List UInt8)
  | out (b : Nat)
def Pg.ptr : Pg → Value
  | .no => .pointer none
  | .own b _ => SL.ptr b 0
  | .out b => SL.ptr b 0
def Pg.view : Pg → Option (List UInt8)
  | .own _ t => some t
  | _ => none
structure Sg where
  pb : Nat
  pg : List Pg
  wear : Nat
  bad : Bool
def Sg.cells (n : Nat) (s : Sg) : List Value := [slc s.pb 0 n n, i64 s.wear, .bool s.bad]
def segCells (n : Nat) : List Sg → List Value
  | [] => []
  | s :: l => slc s.pb 0 n n :: i64 s.wear :: .bool s.bad :: segCells n l
theorem segCells_length (n : Nat) : ∀ l : List Sg, (segCells n l).length = l.length * 3
  | [] => rfl
  | _ :: l => by simp only [segCells, List.length_cons, segCells_length n l]; omega
theorem segCells_append (n : Nat) : ∀ l l' : List Sg, segCells n (l ++ l') = segCells n l ++ segCells n l'
  | [], _ => rfl
  | s :: l, l' => by simp only [List.cons_append, segCells, segCells_append n l l']
theorem seg_get0 {n : Nat} : ∀ {l : List Sg} {i : Nat} {s : Sg}, l[i]? = some s → (segCells n l)[0 + i * 3 + 0]? = some (slc s.pb 0 n n)
  | [], _, _, h => by simp at h
  | _ :: _, 0, _, h => by simp at h; subst h; rfl
  | x :: l, i + 1, s, h => by
    have := seg_get0 (n := n) (l := l) (i := i) (by simpa using h)
    rw [show 0 + (i + 1) * 3 + 0 = (0 + i * 3 + 0) + 3 by omega]; simpa [segCells] using this
theorem seg_get1 {n : Nat} : ∀ {l : List Sg} {i : Nat} {s : Sg}, l[i]? = some s → (segCells n l)[0 + i * 3 + 1]? = some (i64 s.wear)
  | [], _, _, h => by simp at h
  | _ :: _, 0, _, h => by simp at h; subst h; rfl
  | x :: l, i + 1, s, h => by
    have := seg_get1 (n := n) (l := l) (i := i) (by simpa using h)
    rw [show 0 + (i + 1) * 3 + 1 = (0 + i * 3 + 1) + 3 by omega]; simpa [segCells] using this
theorem seg_get2 {n : Nat} : ∀ {l : List Sg} {i : Nat} {s : Sg}, l[i]? = some s → (segCells n l)[0 + i * 3 + 2]? = some (.bool s.bad)
  | [], _, _, h => by simp at h
  | _ :: _, 0, _, h => by simp at h; subst h; rfl
  | x :: l, i + 1, s, h => by
    have := seg_get2 (n := n) (l := l) (i := i) (by simpa using h)
    rw [show 0 + (i + 1) * 3 + 2 = (0 + i * 3 + 2) + 3 by omega]; simpa [segCells] using this
theorem seg_set1 {n : Nat} (w : Nat) (pg : List Pg) : ∀ {l : List Sg} {i : Nat} {s : Sg}, l[i]? = some s → SetAt (segCells n l) (0 + i * 3 + 1) (i64 w) (segCells n (l.set i { s with pg := pg, wear := w }))
  | [], _, _, h => by simp at h
  | _ :: _, 0, _, h => by simp at h; subst h; exact .succ .zero
  | x :: l, i + 1, s, h => by
    have := seg_set1 (n := n) w pg (l := l) (i := i) (by simpa using h)
    rw [show 0 + (i + 1) * 3 + 1 = (0 + i * 3 + 1) + 1 + 1 + 1 by omega]; exact .succ (.succ (.succ this))
/-- what has no bearing on the array's cells -/
theorem segCells_pg {n : Nat} (pg : List Pg) : ∀ {l : List Sg} {i : Nat} {s : Sg}, l[i]? = some s → segCells n (l.set i { s with pg := pg }) = segCells n l
  | [], _, _, h => by simp at h
  | _ :: _, 0, _, h => by simp at h; subst h; rfl
  | x :: l, i + 1, s, h => by
    have := segCells_pg (n := n) pg (l := l) (i := i) (by simpa using h)
    simp only [List.set_cons_succ, segCells, this]

/-- the pages' arrays and strings -/
def pgsR (l : List Sg) : Res where
  fp := fun b => (∃ s ∈ l, s.pb = b) ∨ ∃ s ∈ l, ∃ t, Pg.own b t ∈ s.pg
  holds := fun w => (l.map Sg.pb).Nodup ∧ (∀ s ∈ l, w.heap[s.pb]? = some (.cells (s.pg.map Pg.ptr).toArray 84 (0, 0))) ∧ ∀ s ∈ l, ∀ b t, Pg.own b t ∈ s.pg → w.heap[b]? = some (.cells #[str t] 9 (0, 0))
  loc := fun w w' h hk => ⟨(id h.1 : (l.map Sg.pb).Nodup), fun s hs => (hk _ (.inl ⟨s, hs, rfl⟩)).trans (h.2.1 s hs), fun s hs b t hb => (hk _ (.inr ⟨s, hs, t, hb⟩)).trans (h.2.2 s hs b t hb)⟩
  bnd := fun w b h hb => by
    rcases hb with ⟨s, hs, rfl⟩ | ⟨s, hs, t, ht⟩
    · exact (Array.getElem?_eq_some_iff.1 (h.2.1 s hs)).1
    · exact (Array.getElem?_eq_some_iff.1 (h.2.2 s hs b t ht)).1
theorem pgsR_ne {l : List Sg} {w : World} (h : (pgsR l).holds w) {s : Sg} (hs : s ∈ l) {s' : Sg} (hs' : s' ∈ l) {b : Nat} {t : List UInt8} (hb : Pg.own b t ∈ s'.pg) : b ≠ s.pb := by
  intro e
  have h1 := h.2.1 s hs
  have h2 := h.2.2 s' hs' b t hb
  rw [e, h1] at h2
  injection h2 with h3
  injection h3 with _ h4
  exact absurd h4 (by decide)
theorem pgs_ptr {l : List Sg} {w : World} (h : (pgsR l).holds w) {i j : Nat} {s : Sg} {p : Pg} (hs : l[i]? = some s) (hp : s.pg[j]? = some p) : w.cell? ⟨s.pb, j, none⟩ = some p.ptr := by
  have h1 := h.2.1 s (List.mem_of_getElem? hs)
  simp [World.cell?, h1, hp]
theorem pgs_str {l : List Sg} {w : World} (h : (pgsR l).holds w) {i j : Nat} {s : Sg} {b : Nat} {t : List UInt8} (hs : l[i]? = some s) (hp : s.pg[j]? = some (.own b t)) : w.cell? ⟨b, 0, none⟩ = some (str t) := by
  have h1 := h.2.2 s (List.mem_of_getElem? hs) b t (List.mem_of_getElem? hp)
  simp [World.cell?, h1]
theorem pbs_set {l : List Sg} {i : Nat} {s s' : Sg} (hs : l[i]? = some s) (he : s'.pb = s.pb) : (l.set i s').map Sg.pb = l.map Sg.pb := by
  rw [List.map_set, he]
  apply List.ext_getElem?
  intro k
  rw [List.getElem?_set]
  split
  · rename_i e; subst e
    simp [hs]
    have := (List.getElem?_eq_some_iff.1 hs).1
    exact this
  · rfl
theorem mem_set_ne {l : List Sg} {i : Nat} {s s' x : Sg} (hn : (l.map Sg.pb).Nodup) (hs : l[i]? = some s) (he : s'.pb = s.pb) (hx : x ∈ l.set i s') : x = s' ∨ (x ∈ l ∧ x.pb ≠ s.pb) := by
  obtain ⟨k, hk⟩ := List.getElem?_of_mem hx
  rw [List.getElem?_set] at hk
  split at hk
  · split at hk
    · left; exact (Option.some.inj hk).symm
    · cases hk
  · rename_i hne
    right
    refine ⟨List.mem_of_getElem? hk, fun e => hne ?_⟩
    have h1 : (l.map Sg.pb)[k]? = some s.pb := by simp [hk, e]
    have h2 : (l.map Sg.pb)[i]? = some s.pb := by simp [hs]
    have hki : k < (l.map Sg.pb).length := (List.getElem?_eq_some_iff.1 h1).1
    exact (((List.getElem?_inj hki hn).1 (h1.trans h2.symm))).symm
theorem mem_set_of {l : List Sg} {i : Nat} {s' : Sg} (h : i < l.length) : s' ∈ l.set i s' := by
  exact List.mem_of_getElem? (i := i) (by simp [h])
/-- a segment's pages' array is turned, its strings' blocks are of its own still -/
theorem pgs_turn {l : List Sg} {w w' : World} (h : (pgsR l).holds w) {i : Nat} {s : Sg} (hs : l[i]? = some s) (pg : List Pg) (wear : Nat) (hsub : ∀ b t, Pg.own b t ∈ pg → Pg.own b t ∈ s.pg)
    (hb : w'.heap[s.pb]? = some (.cells (pg.map Pg.ptr).toArray 84 (0, 0))) (ho : ∀ j, j ≠ s.pb → w'.heap[j]? = w.heap[j]?) : (pgsR (l.set i { s with pg := pg, wear := wear })).holds w' := by
  have hm := List.mem_of_getElem? hs
  refine ⟨by rw [pbs_set (s' := { s with pg := pg, wear := wear }) hs rfl]; exact h.1, fun x hx => ?_, fun x hx b t ht => ?_⟩
  · rcases mem_set_ne (s' := { s with pg := pg, wear := wear }) h.1 hs rfl hx with rfl | ⟨hx, hne⟩
    · exact hb
    · rw [ho _ hne]; exact h.2.1 x hx
  · rcases mem_set_ne (s' := { s with pg := pg, wear := wear }) h.1 hs rfl hx with rfl | ⟨hx, hne⟩
    · have h1 := hsub b t ht
      rw [ho _ (pgsR_ne h hm hm h1)]; exact h.2.2 s hm b t h1
    · rw [ho _ (pgsR_ne h hm hx ht)]; exact h.2.2 x hx b t ht
theorem pgs_turn_fp {l : List Sg} {i : Nat} {s : Sg} (hs : l[i]? = some s) (pg : List Pg) (wear : Nat) (hsub : ∀ b t, Pg.own b t ∈ pg → Pg.own b t ∈ s.pg) : ∀ b, (pgsR (l.set i { s with pg := pg, wear := wear })).fp b → (pgsR l).fp b := by
  have hm := List.mem_of_getElem? hs
  rintro b (⟨x, hx, rfl⟩ | ⟨x, hx, t, ht⟩)
  · rcases List.mem_or_eq_of_mem_set hx with hx | rfl
    · exact .inl ⟨x, hx, rfl⟩
    · exact .inl ⟨s, hm, rfl⟩
  · rcases List.mem_or_eq_of_mem_set hx with hx | rfl
    · exact .inr ⟨x, hx, t, ht⟩
    · exact .inr ⟨s, hm, t, hsub b t ht⟩
/-- a pointer is stored in a page -/
theorem pgs_put {l : List Sg} {w : World} (h : (pgsR l).holds w) {i j : Nat} {s : Sg} {p : Pg} (hs : l[i]? = some s) (hp : s.pg[j]? = some p) (sb : Nat) :
    (∃ u, w.cell? ⟨s.pb, j, none⟩ = some u) ∧ w.frozen? ⟨s.pb, j, none⟩ = false ∧ (pgsR (l.set i { s with pg := s.pg.set j (.out sb) })).holds (w.setCell ⟨s.pb, j, none⟩ (ptr sb 0)) := by
  have h1 := h.2.1 s (List.mem_of_getElem? hs)
  refine ⟨⟨_, pgs_ptr h hs hp⟩, by simp [World.frozen?, h1], ?_⟩
  refine pgs_turn (s := s) h hs (s.pg.set j (.out sb)) s.wear (fun b t ht => ?_) ?_ (fun k hk => RowKit.Below.heap_setCell _ _ _ _ hk)
  · rcases List.mem_or_eq_of_mem_set ht with h | h
    · exact h
    · cases h
  · simp only [World.setCell, Array.getElem?_modify, h1]
    simp [List.map_set, Pg.ptr]
theorem pgs_put_fp {l : List Sg} {i j : Nat} {s : Sg} (hs : l[i]? = some s) (sb : Nat) : ∀ b, (pgsR (l.set i { s with pg := s.pg.set j (.out sb) })).fp b → (pgsR l).fp b :=
  pgs_turn_fp hs _ s.wear (fun b t ht => by
    rcases List.mem_or_eq_of_mem_set ht with h | h
    · exact h
    · cases h)
/-- .. and the string becomes the chip's own -/
theorem pgs_own {l : List Sg} {w : World} {i j sb : Nat} {s : Sg} {t : List UInt8} (hs : l[i]? = some s) (hj : j < s.pg.length) (h : (pgsR (l.set i { s with pg := s.pg.set j (.out sb) })).holds w) (hb : (row sb [str t] 9 (0, 0)).holds w) :
    (pgsR (l.set i { s with pg := s.pg.set j (.own sb t) })).holds w := by
  have hil := (List.getElem?_eq_some_iff.1 hs).1
  obtain ⟨h1, h2, h3⟩ := h
  refine ⟨by rw [pbs_set (s' := { s with pg := s.pg.set j (.own sb t) }) hs rfl]; rw [pbs_set (s' := { s with pg := s.pg.set j (.out sb) }) hs rfl] at h1; exact h1, fun x hx => ?_, fun x hx b t' ht => ?_⟩
  · rw [pbs_set (s' := { s with pg := s.pg.set j (.out sb) }) hs rfl] at h1
    rcases mem_set_ne (s' := { s with pg := s.pg.set j (.own sb t) }) h1 hs rfl hx with rfl | ⟨hx, hne⟩
    · have := h2 _ (mem_set_of hil)
      simp only [List.map_set] at this ⊢
      exact this
    · exact h2 x (by
        obtain ⟨k, hk⟩ := List.getElem?_of_mem hx
        refine List.mem_of_getElem? (i := k) ?_
        rw [List.getElem?_set]
        split
        · rename_i e; subst e; rw [hs] at hk; cases hk; exact absurd rfl hne
        · exact hk)
  · rw [pbs_set (s' := { s with pg := s.pg.set j (.out sb) }) hs rfl] at h1
    rcases mem_set_ne (s' := { s with pg := s.pg.set j (.own sb t) }) h1 hs rfl hx with rfl | ⟨hx, hne⟩
    · obtain ⟨k, hk⟩ := List.getElem?_of_mem ht
      rw [List.getElem?_set] at hk
      split at hk
      · cases hk; exact hb
      · rename_i e
        exact h3 _ (mem_set_of hil) b t' (List.mem_of_getElem? (i := k) (by rw [List.getElem?_set, if_neg e]; exact hk))
    · exact h3 x (by
        obtain ⟨k, hk⟩ := List.getElem?_of_mem hx
        refine List.mem_of_getElem? (i := k) ?_
        rw [List.getElem?_set]
        split
        · rename_i e; subst e; rw [hs] at hk; cases hk; exact absurd rfl hne
        · exact hk) b t' ht
theorem pgs_own_fp {l : List Sg} {i j sb : Nat} {s : Sg} {t : List UInt8} (hs : l[i]? = some s) : ∀ b, (pgsR (l.set i { s with pg := s.pg.set j (.own sb t) })).fp b → (pgsR (l.set i { s with pg := s.pg.set j (.out sb) })).fp b ∨ (row sb [str t] 9 (0, 0)).fp b := by
  have hil := (List.getElem?_eq_some_iff.1 hs).1
  rintro b (⟨x, hx, rfl⟩ | ⟨x, hx, t', ht⟩)
  · obtain ⟨k, hk⟩ := List.getElem?_of_mem hx
    rw [List.getElem?_set] at hk
    split at hk
    · cases hk; exact .inl (.inl ⟨_, mem_set_of hil, rfl⟩)
    · rename_i e
      exact .inl (.inl ⟨x, List.mem_of_getElem? (i := k) (by rw [List.getElem?_set, if_neg e]; exact hk), rfl⟩)
  · obtain ⟨k, hk⟩ := List.getElem?_of_mem hx
    rw [List.getElem?_set] at hk
    split at hk
    · cases hk
      obtain ⟨q, hq⟩ := List.getElem?_of_mem ht
      rw [List.getElem?_set] at hq
      split at hq
      · split at hq
        · cases hq; exact .inr rfl
        · cases hq
      · rename_i e
        exact .inl (.inr ⟨_, mem_set_of hil, t', List.mem_of_getElem? (i := q) (by rw [List.getElem?_set, if_neg e]; exact hq)⟩)
    · rename_i e
      exact .inl (.inr ⟨x, List.mem_of_getElem? (i := k) (by rw [List.getElem?_set, if_neg e]; exact hk), t', ht⟩)
/-- all pages of a segment are cleared -/
theorem pgs_clear {l : List Sg} {i : Nat} {s : Sg} (hs : l[i]? = some s) (n wr : Nat) : ∀ w, (pgsR l).holds w → w.heap[s.pb]? = some (.cells (s.pg.map Pg.ptr).toArray 84 (0, 0)) ∧ ∀ w', w'.heap[s.pb]? = some (.cells (List.replicate n (Value.pointer none)).toArray 84 (0, 0)) → (∀ j, j ≠ s.pb → w'.heap[j]? = w.heap[j]?) → (pgsR (l.set i { s with pg := List.replicate n .no, wear := wr })).holds w' := by
  intro w hw
  refine ⟨hw.2.1 s (List.mem_of_getElem? hs), fun w' h1 h2 => ?_⟩
  refine pgs_turn (s := s) hw hs (List.replicate n .no) wr (fun b t ht => by have := List.eq_of_mem_replicate ht; cases this) ?_ h2
  rw [List.map_replicate]; exact h1
theorem pgs_clear_fp {l : List Sg} {i : Nat} {s : Sg} (hs : l[i]? = some s) (n wr : Nat) : ∀ b, (pgsR (l.set i { s with pg := List.replicate n .no, wear := wr })).fp b → (pgsR l).fp b :=
  pgs_turn_fp hs _ wr (fun b t ht => by have := List.eq_of_mem_replicate ht; cases this)
theorem pgs_fp {l : List Sg} {i : Nat} {s : Sg} (hs : l[i]? = some s) : (pgsR l).fp s.pb := .inl ⟨s, List.mem_of_getElem? hs, rfl⟩
/-- one more segment -/
theorem pgs_more {l : List Sg} {n pb : Nat} (wear : Nat) (bad : Bool) (w : World) (h1 : (pgsR l).holds w) (h2 : (ownS (some ⟨pb, 0, none⟩) n (List.replicate n (Value.pointer none)) 84 1).holds w) (ha : Res.apart (pgsR l) (ownS (some ⟨pb, 0, none⟩) n (List.replicate n (Value.pointer none)) 84 1)) :
    (pgsR (l ++ [⟨pb, List.replicate n .no, wear, bad⟩])).holds w := by
  obtain ⟨_, _, _, cur, h4, h5, h6⟩ := h2
  have h4' : w.heap[pb]? = some (.cells cur 84 (0, 0)) := h4
  have hcur : cur = (List.replicate n (Value.pointer none)).toArray := by
    have hl : cur.toList.length = n := by simpa using h5
    rw [List.length_replicate, List.take_of_length_le (by omega)] at h6
    rw [← h6]
  refine ⟨?_, fun x hx => ?_, fun x hx b t ht => ?_⟩
  · rw [List.map_append, List.map_cons, List.map_nil]
    refine List.nodup_append.2 ⟨h1.1, by simp, fun a ha' b hb => ?_⟩
    rcases List.mem_map.1 ha' with ⟨s, hs, rfl⟩
    rw [List.mem_singleton.1 hb]
    intro e
    exact ha pb (.inl ⟨s, hs, e⟩) ⟨_, rfl, rfl⟩
  · rcases List.mem_append.1 hx with hx | hx
    · exact h1.2.1 x hx
    · rw [List.mem_singleton.1 hx, h4', hcur, List.map_replicate]; rfl
  · rcases List.mem_append.1 hx with hx | hx
    · exact h1.2.2 x hx b t ht
    · rw [List.mem_singleton.1 hx] at ht
      have := List.eq_of_mem_replicate ht; cases this
theorem pgs_more_fp {l : List Sg} {n pb : Nat} (wear : Nat) (bad : Bool) : ∀ b, (pgsR (l ++ [⟨pb, List.replicate n .no, wear, bad⟩])).fp b → (pgsR l).fp b ∨ (ownS (some ⟨pb, 0, none⟩) n (List.replicate n (Value.pointer none)) 84 1).fp b := by
  rintro b (⟨x, hx, rfl⟩ | ⟨x, hx, t, ht⟩)
  · rcases List.mem_append.1 hx with hx | hx
    · exact .inl (.inl ⟨x, hx, rfl⟩)
    · rw [List.mem_singleton.1 hx]; exact .inr ⟨_, rfl, rfl⟩
  · rcases List.mem_append.1 hx with hx | hx
    · exact .inl (.inr ⟨x, hx, t, ht⟩)
    · rw [List.mem_singleton.1 hx] at ht
      have := List.eq_of_mem_replicate ht; cases this
/-- of no segments yet -/
theorem At.pgs0 {c : Cx} {m : List (Nat × Value)} {rs : List Res} {K : Act → World → Prop} (h : At c m (pgsR [] :: rs) K) : At c m rs K := by
  intro a w hs hh
  refine h a w hs ⟨hh.upd, ⟨hh.good.glob, ?_, ?_, List.pairwise_cons.2 ⟨?_, hh.good.disj⟩⟩, ?_⟩
  · intro r hr b hb
    rcases List.mem_cons.1 hr with rfl | hr
    · rcases hb with ⟨_, h, _⟩ | ⟨_, h, _⟩ <;> cases h
    · exact hh.good.gfp r hr b hb
  · intro r hr
    rcases List.mem_cons.1 hr with rfl | hr
    · exact ⟨List.nodup_nil, by simp, by simp⟩
    · exact hh.good.holds r hr
  · intro r _ b hb; rcases hb with ⟨_, h, _⟩ | ⟨_, h, _⟩ <;> cases h
  · intro r hr b hb
    rcases List.mem_cons.1 hr with rfl | hr
    · rcases hb with ⟨_, h, _⟩ | ⟨_, h, _⟩ <;> cases h
    · exact hh.fresh r hr b hb
theorem row_cell {w : World} {b : Nat} {cs : List Value} {T : TypeId} {fr : Nat × Nat} (h : (row b cs T fr).holds w) {off : Nat} : w.cell? ⟨b, off, none⟩ = cs[off]? := by
  have hb : w.heap[b]? = some (.cells cs.toArray T fr) := h
  simp [World.cell?, hb]
/-- a slice's own array as a row -/
theorem own_row {b n sz : Nat} {cs : List Value} {E : TypeId} (hl : cs.length = n * sz) (w : World) (h : (ownS (some ⟨b, 0, none⟩) n cs E sz).holds w) : (row b cs E (0, 0)).holds w := by
  obtain ⟨_, _, _, cur, h4, h5, h6⟩ := h
  have h4' : w.heap[b]? = some (.cells cur E (0, 0)) := h4
  have : cur = cs.toArray := by
    rw [List.take_of_length_le (by simp [h5, hl])] at h6
    rw [← h6]
  show w.heap[b]? = _
  rw [h4', this]

/-- a chip -/
structure Chp where
  cb : Nat
  pw : Nat
  lb : Nat
  segs : Nat
  pages : Nat
  rated : Nat
  l : List Sg
  pa : Option Addr
  pc : Nat
  past : List (List UInt8)
  pr : Int
  er : Int
@[reducible] def Chp.row0 (c : Chp) : List Value := [i64 c.segs, i64 c.pages, ptr c.pw 0, i64 c.rated, slc c.lb 0 c.segs c.segs, .slice c.pa c.past.length c.pc, i64 c.pr, i64 c.er]
@[reducible] def Chp.rows (c : Chp) : List Res := [row c.cb c.row0 55 (0, 0), row c.pw powL 66 (0, 0), row c.lb (segCells c.pages c.l) 58 (0, 0), pgsR c.l, ownS c.pa c.pc (c.past.map str) 9 1]
def chipR (c : Chp) : Res := sep c.rows
def Chp.at (c : Chp) (i j : Nat) : Option (List UInt8) := (c.l[i]?).bind fun s => (s.pg[j]?).bind Pg.view
structure Chp.wf (c : Chp) : Prop where
  len : c.l.length = c.segs
  pgs : ∀ s ∈ c.l, s.pg.length = c.pages ∧ s.wear < 1000000 ∧ ∀ b, Pg.out b ∉ s.pg
  segs1 : 1 ≤ c.segs ∧ c.segs ≤ 64
  pages1 : 1 ≤ c.pages ∧ c.pages ≤ 16
  rated1 : c.rated < 1000000
  strs : ∀ (i j : Nat) (t : List UInt8), c.at i j = some t → t.length ≤ 256
theorem Chp.wf.seg {c : Chp} (h : c.wf) {i : Nat} (hi : i < c.segs) : ∃ s, c.l[i]? = some s ∧ s.pg.length = c.pages ∧ s.wear < 1000000 ∧ ∀ b, Pg.out b ∉ s.pg := by
  have hl : i < c.l.length := by rw [h.len]; exact hi
  exact ⟨c.l[i], List.getElem?_eq_getElem hl, h.pgs _ (List.getElem_mem hl)⟩
theorem Chp.wf.page {c : Chp} (h : c.wf) {i j : Nat} (hi : i < c.segs) (hj : j < c.pages) : ∃ s p, c.l[i]? = some s ∧ s.pg[j]? = some p ∧ s.pg.length = c.pages ∧ ∀ b, p ≠ .out b := by
  obtain ⟨s, h1, h2, h3, h4⟩ := h.seg hi
  have hj' : j < s.pg.length := by omega
  exact ⟨s, s.pg[j], h1, List.getElem?_eq_getElem hj', h2, fun b e => h4 b (by rw [← e]; exact List.getElem_mem hj')⟩
theorem At.chip {cx : Cx} {m : List (Nat × Value)} {rs k : List Res} {K : Act → World → Prop} {c : Chp} (hp : Pull (chipR c) rs k)
    (h : At cx m (row c.cb c.row0 55 (0, 0) :: row c.pw powL 66 (0, 0) :: row c.lb (segCells c.pages c.l) 58 (0, 0) :: pgsR c.l :: ownS c.pa c.pc (c.past.map str) 9 1 :: k) K) : At cx m rs K :=
  At.open (l := c.rows) hp h
theorem At.unchip {cx : Cx} {m : List (Nat × Value)} {rs k : List Res} {K : Act → World → Prop} (c : Chp) (hp : Cut c.rows rs k) (h : At cx m (chipR c :: k) K) : At cx m rs K := At.close c.rows hp h
def readV : Option (List UInt8) → Value
  | none => .tuple #[str [], .bool false, i64 0]
  | some t => .tuple #[str t, .bool true, i64 0]
theorem Chp.at_eq {c : Chp} {i j : Nat} {s : Sg} {p : Pg} (hs : c.l[i]? = some s) (hp : s.pg[j]? = some p) : c.at i j = p.view := by simp [Chp.at, hs, hp]
def Chp.wearAt (c : Chp) (i : Nat) : Nat := (c.l[i]?.map (·.wear)).getD 0
/-- a page is programmed -/
def Chp.prog (c : Chp) (i j b : Nat) (t : List UInt8) (pa : Option Addr) (pc : Nat) : Chp :=
  { c with l := c.l.modify i (fun s => { s with pg := s.pg.set j (.own b t) }), past := c.past ++ [t], pa := pa, pc := pc, pr := IntKind.i64.wrap (c.pr + 1) }
/-- a segment is erased -/
def Chp.erased (c : Chp) (i : Nat) : Chp :=
  { c with l := c.l.modify i (fun s => { s with pg := List.replicate c.pages .no, wear := s.wear + 1 }), er := IntKind.i64.wrap (c.er + 1) }
theorem modify_eq {l : List Sg} {i : Nat} {s : Sg} (f : Sg → Sg) (h : l[i]? = some s) : l.modify i f = l.set i (f s) := by
  apply List.ext_getElem?
  intro k
  rw [List.getElem?_modify, List.getElem?_set]
  have hi := (List.getElem?_eq_some_iff.1 h).1
  by_cases e : i = k
  · subst e; simp [h, hi, (List.getElem?_eq_some_iff.1 h).2]
  · simp [e]
structure Chp.fresh (c : Chp) (segs pages rated : Nat) (bads : List Int) : Prop where
  fsegs : c.segs = segs
  fpages : c.pages = pages
  frated : c.rated = rated
  fpast : c.past = []
  feach : ∀ (i : Nat) (s : Sg), c.l[i]? = some s → s.pg = List.replicate pages Pg.no ∧ s.wear = 0 ∧ s.bad = decide ((i : Int) ∈ bads)
theorem Chp.at_prog {c : Chp} (h : c.wf) {i j : Nat} (hi : i < c.segs) (hj : j < c.pages) (b : Nat) (t : List UInt8) (pa : Option Addr) (pc i' j' : Nat) : (c.prog i j b t pa pc).at i' j' = if i' = i ∧ j' = j then some t else c.at i' j' := by
  obtain ⟨s, h1, h2, _, _⟩ := h.seg hi
  unfold Chp.at Chp.prog
  simp only [modify_eq _ h1, List.getElem?_set]
  by_cases e : i = i'
  · subst e
    have hil := (List.getElem?_eq_some_iff.1 h1).1
    simp only [if_true, hil, h1, Option.bind_some, List.getElem?_set]
    by_cases e2 : j = j'
    · subst e2
      have hj' : j < s.pg.length := by omega
      simp [hj', Pg.view]
    · rw [if_neg e2, if_neg (fun hh => e2 hh.2.symm)]
  · rw [if_neg e, if_neg (fun hh => e hh.1.symm)]
theorem Chp.at_erased {c : Chp} (i i' j' : Nat) : (c.erased i).at i' j' = if i' = i then none else c.at i' j' := by
  unfold Chp.at Chp.erased
  simp only [List.getElem?_modify]
  cases hx : c.l[i']? with
  | none => simp
  | some x =>
    by_cases e : i = i'
    · subst e
      simp only [if_true, Option.map_eq_map, Option.map_some, Option.bind_some, List.getElem?_replicate]
      by_cases e2 : j' < c.pages <;> simp [e2, Pg.view]
    · rw [if_neg (fun hh => e hh.symm)]; simp [e]
def Chp.badAt (c : Chp) (i : Nat) : Bool := (c.l[i]?.map (·.bad)).getD false
theorem Chp.wear_prog {c : Chp} (i j b : Nat) (t : List UInt8) (pa : Option Addr) (pc i' : Nat) : (c.prog i j b t pa pc).wearAt i' = c.wearAt i' := by
  unfold Chp.wearAt Chp.prog
  simp only [List.getElem?_modify]
  cases c.l[i']? with
  | none => simp
  | some x => by_cases e : i = i' <;> simp [e]
theorem Chp.bad_prog {c : Chp} (i j b : Nat) (t : List UInt8) (pa : Option Addr) (pc i' : Nat) : (c.prog i j b t pa pc).badAt i' = c.badAt i' := by
  unfold Chp.badAt Chp.prog
  simp only [List.getElem?_modify]
  cases c.l[i']? with
  | none => simp
  | some x => by_cases e : i = i' <;> simp [e]
theorem Chp.wear_erased {c : Chp} (h : c.wf) {i : Nat} (hi : i < c.segs) (i' : Nat) : (c.erased i).wearAt i' = if i' = i then c.wearAt i + 1 else c.wearAt i' := by
  obtain ⟨s, h1, _⟩ := h.seg hi
  unfold Chp.wearAt Chp.erased
  simp only [List.getElem?_modify]
  by_cases e : i = i'
  · subst e; simp [h1]
  · rw [if_neg (fun hh => e hh.symm)]
    cases c.l[i']? <;> simp [e]
theorem Chp.bad_erased {c : Chp} (i i' : Nat) : (c.erased i).badAt i' = c.badAt i' := by
  unfold Chp.badAt Chp.erased
  simp only [List.getElem?_modify]
  cases c.l[i']? with
  | none => simp
  | some x => by_cases e : i = i' <;> simp [e]
theorem Chp.at_fresh {c : Chp} {segs pages rated : Nat} {bads : List Int} (h : c.fresh segs pages rated bads) (i j : Nat) : c.at i j = none := by
  unfold Chp.at
  cases hx : c.l[i]? with
  | none => rfl
  | some s =>
    rw [Option.bind_some, (h.feach i s hx).1, List.getElem?_replicate]
    by_cases e : j < pages <;> simp [e, Pg.view]
theorem Chp.wear_fresh {c : Chp} {segs pages rated : Nat} {bads : List Int} (h : c.fresh segs pages rated bads) (i : Nat) : c.wearAt i = 0 := by
  unfold Chp.wearAt
  cases hx : c.l[i]? with
  | none => rfl
  | some s => simpa using (h.feach i s hx).2.1
theorem Chp.bad_fresh {c : Chp} (hw : c.wf) {segs pages rated : Nat} {bads : List Int} (h : c.fresh segs pages rated bads) {i : Nat} (hi : i < segs) : c.badAt i = decide ((i : Int) ∈ bads) := by
  obtain ⟨s, hs, _⟩ := hw.seg (i := i) (by rw [h.fsegs]; exact hi)
  unfold Chp.badAt
  rw [hs]; simpa using (h.feach i s hs).2.2
theorem Chp.wf.prog {c : Chp} (h : c.wf) {i j : Nat} (hi : i < c.segs) (hj : j < c.pages) (b : Nat) (t : List UInt8) (ht : t.length ≤ 256) (pa : Option Addr) (pc : Nat) : (c.prog i j b t pa pc).wf := by
  refine ⟨by simp [Chp.prog, h.len], fun s hs => ?_, h.segs1, h.pages1, h.rated1, fun i' j' t' ht' => by
    rw [Chp.at_prog h hi hj] at ht'
    split at ht'
    · cases ht'; exact ht
    · exact h.strs _ _ _ ht'⟩
  obtain ⟨k, hk⟩ := List.getElem?_of_mem hs
  simp only [Chp.prog, List.getElem?_modify] at hk
  cases hx : c.l[k]? with
  | none => rw [hx] at hk; simp at hk
  | some x =>
    rw [hx] at hk
    obtain ⟨h1, h2, h3⟩ := h.pgs x (List.mem_of_getElem? hx)
    by_cases e : i = k
    · simp only [e, if_true, Option.map_eq_map, Option.map_some, Option.some.injEq] at hk
      subst hk
      refine ⟨by simp [h1, Chp.prog], h2, fun b' hb' => ?_⟩
      rcases List.mem_or_eq_of_mem_set hb' with h4 | h4
      · exact h3 b' h4
      · cases h4
    · simp only [e, if_false, Option.map_eq_map, Option.map_some, id, Option.some.injEq] at hk
      subst hk; exact ⟨h1, h2, h3⟩
theorem Chp.wf.erased {c : Chp} (h : c.wf) (i : Nat) (hw : c.wearAt i < c.rated) : (c.erased i).wf := by
  refine ⟨by simp [Chp.erased, h.len], fun s hs => ?_, h.segs1, h.pages1, h.rated1, fun i' j' t' ht' => by
    rw [Chp.at_erased] at ht'
    split at ht'
    · cases ht'
    · exact h.strs _ _ _ ht'⟩
  obtain ⟨k, hk⟩ := List.getElem?_of_mem hs
  simp only [Chp.erased, List.getElem?_modify] at hk
  cases hx : c.l[k]? with
  | none => rw [hx] at hk; simp at hk
  | some x =>
    rw [hx] at hk
    obtain ⟨h1, h2, h3⟩ := h.pgs x (List.mem_of_getElem? hx)
    by_cases e : i = k
    · subst e
      simp only [if_true, Option.map_eq_map, Option.map_some, Option.some.injEq] at hk
      subst hk
      have : x.wear < c.rated := by simpa [Chp.wearAt, hx] using hw
      have hr := h.rated1
      exact ⟨by simp [Chp.erased], by show x.wear + 1 < _; omega, fun b hb => by have := List.eq_of_mem_replicate hb; cases this⟩
    · simp only [e, if_false, Option.map_eq_map, Option.map_some, id, Option.some.injEq] at hk
      subst hk; exact ⟨h1, h2, h3⟩
/-- segments not made yet -/
def zeroSegs : Nat → List Value
  | 0 => []
  | n + 1 => nilS :: i64 0 :: .bool false :: zeroSegs n
theorem zeroSegs_get : ∀ (n i : Nat), i < n * 3 → (zeroSegs n)[i]? = some (#[nilS, i64 0, Value.bool false][i % 3]!)
  | 0, i, h => by omega
  | n + 1, 0, _ => rfl
  | n + 1, 1, _ => rfl
  | n + 1, 2, _ => rfl
  | n + 1, i + 3, h => by
    have := zeroSegs_get n i (by omega)
    rw [show (i + 3) % 3 = i % 3 by omega, ← this]; rfl
theorem zeroSegs_length : ∀ n : Nat, (zeroSegs n).length = n * 3
  | 0 => rfl
  | n + 1 => by simp only [zeroSegs, List.length_cons, zeroSegs_length n]; omega
theorem made_segs (n : Nat) : (madeCells (Value.agg [nilS, i64 0, Value.bool false].toArray).cells (n * 3)).toList = zeroSegs n := by
  apply List.ext_getElem?
  intro i
  rcases Nat.lt_or_ge i (n * 3) with h | h
  · rw [zeroSegs_get n i h]
    simp [madeCells, Value.cells, h]
  · rw [List.getElem?_eq_none (by simpa [madeCells] using h), List.getElem?_eq_none (by rw [zeroSegs_length]; exact h)]
theorem made_nil (n : Nat) : (madeCells (Value.pointer none).cells (n * 1)).toList = List.replicate n (Value.pointer none) := by
  apply List.ext_getElem
  · simp [madeCells]
  · intro i h1 h2
    simp [madeCells, Value.cells, Nat.mod_one]
theorem zset0 {n k : Nat} (v : Value) : ∀ {l : List Sg} {i : Nat}, l.length = i → SetAt (segCells n l ++ zeroSegs (k + 1)) (0 + i * 3 + 0) v (segCells n l ++ (v :: i64 0 :: .bool false :: zeroSegs k))
  | [], _, h => by subst h; exact .zero
  | x :: l, _, h => by
    subst h
    have := zset0 (n := n) (k := k) v (l := l) rfl
    rw [List.length_cons, show 0 + (l.length + 1) * 3 + 0 = (0 + l.length * 3 + 0) + 1 + 1 + 1 by omega]
    exact .succ (.succ (.succ this))
theorem zset2 {n k : Nat} (u v : Value) : ∀ {l : List Sg} {i : Nat}, l.length = i → SetAt (segCells n l ++ (u :: i64 0 :: .bool false :: zeroSegs k)) (0 + i * 3 + 2) v (segCells n l ++ (u :: i64 0 :: v :: zeroSegs k))
  | [], _, h => by subst h; exact .succ (.succ .zero)
  | x :: l, _, h => by
    subst h
    have := zset2 (n := n) (k := k) u v (l := l) rfl
    rw [List.length_cons, show 0 + (l.length + 1) * 3 + 2 = (0 + l.length * 3 + 2) + 1 + 1 + 1 by omega]
    exact .succ (.succ (.succ this))
/-- new segments -/
def newSegs (n : Nat) (bads : List Int) : Nat → List Nat → List Sg
  | _, [] => []
  | i, b :: l => ⟨b, List.replicate n .no, 0, decide ((i : Int) ∈ bads)⟩ :: newSegs n bads (i + 1) l
theorem newSegs_length (n : Nat) (bads : List Int) : ∀ (l : List Nat) (i : Nat), (newSegs n bads i l).length = l.length
  | [], _ => rfl
  | _ :: l, i => by simp [newSegs, newSegs_length n bads l]
theorem newSegs_snoc (n : Nat) (bads : List Int) (b : Nat) : ∀ (l : List Nat) (i : Nat), newSegs n bads i (l ++ [b]) = newSegs n bads i l ++ [⟨b, List.replicate n .no, 0, decide (((i + l.length : Nat) : Int) ∈ bads)⟩]
  | [], i => rfl
  | x :: l, i => by
    simp only [List.cons_append, newSegs, newSegs_snoc n bads b l (i + 1), List.length_cons]
    rw [show i + 1 + l.length = i + (l.length + 1) by omega]
theorem newSegs_get (n : Nat) (bads : List Int) : ∀ (l : List Nat) (i k : Nat) (s : Sg), (newSegs n bads i l)[k]? = some s → s.pg = List.replicate n .no ∧ s.wear = 0 ∧ s.bad = decide (((i + k : Nat) : Int) ∈ bads)
  | [], _, _, _, h => by simp [newSegs] at h
  | x :: l, i, 0, s, h => by
    simp only [newSegs, List.getElem?_cons_zero, Option.some.injEq] at h
    subst h; exact ⟨rfl, rfl, rfl⟩
  | x :: l, i, k + 1, s, h => by
    have := newSegs_get n bads l (i + 1) k s (by simpa [newSegs] using h)
    rw [show i + (k + 1) = i + 1 + k by omega]; exact this
theorem Chp.prog_rows {c : Chp} {i : Nat} {s : Sg} (hs : c.l[i]? = some s) (j b : Nat) (t : List UInt8) (pa : Option Addr) (pc : Nat) : (c.prog i j b t pa pc).rows =
    [row c.cb [i64 c.segs, i64 c.pages, ptr c.pw 0, i64 c.rated, slc c.lb 0 c.segs c.segs, .slice pa (c.past.length + 1) pc, i64 (IntKind.i64.wrap (c.pr + 1)), i64 c.er] 55 (0, 0), row c.pw powL 66 (0, 0), row c.lb (segCells c.pages c.l) 58 (0, 0), pgsR (c.l.set i { s with pg := s.pg.set j (.own b t) }), ownS pa pc (c.past.map str ++ [str t]) 9 1] := by
  unfold Chp.rows Chp.row0 Chp.prog
  rw [modify_eq _ hs]
  simp only [List.length_append, List.length_cons, List.length_nil, List.map_append, List.map_cons, List.map_nil, segCells_pg _ hs]
theorem Chp.erased_rows {c : Chp} {i : Nat} {s : Sg} (hs : c.l[i]? = some s) : (c.erased i).rows =
    [row c.cb [i64 c.segs, i64 c.pages, ptr c.pw 0, i64 c.rated, slc c.lb 0 c.segs c.segs, .slice c.pa c.past.length c.pc, i64 c.pr, i64 (IntKind.i64.wrap (c.er + 1))] 55 (0, 0), row c.pw powL 66 (0, 0), row c.lb (segCells c.pages (c.l.set i { s with pg := List.replicate c.pages .no, wear := s.wear + 1 })) 58 (0, 0), pgsR (c.l.set i { s with pg := List.replicate c.pages .no, wear := s.wear + 1 }), ownS c.pa c.pc (c.past.map str) 9 1] := by
  unfold Chp.rows Chp.row0 Chp.erased
  rw [modify_eq _ hs]
def padS (t : List UInt8) : List UInt8 := t ++ List.replicate (256 - t.length) 0
theorem Chp.free_page {c : Chp} (h : c.wf) {i j : Nat} (hi : i < c.segs) (hj : j < c.pages) (hf : c.at i j = none) : ∃ s, c.l[i]? = some s ∧ s.pg[j]? = some .no ∧ s.pg.length = c.pages := by
  obtain ⟨s, p, h1, h2, h3, h4⟩ := h.page hi hj
  rw [Chp.at_eq h1 h2] at hf
  rcases p with _ | ⟨b, t⟩ | b
  · exact ⟨s, h1, h2, h3⟩
  · cases hf
  · exact absurd rfl (h4 b)
theorem mapi_get {l : List Int} {k : Nat} {y : Int} (h : l[k]? = some y) : (l.map i64)[0 + ((k : Int)).toNat * 1]? = some (i64 y) := by simp [h]
theorem newChp_fresh {cb pw lb segs pages rated : Nat} {bads : List Int} {pbs : List Nat} : (Chp.mk cb pw lb segs pages rated (newSegs pages bads 0 pbs) none 0 [] 0 0).fresh segs pages rated bads :=
  ⟨rfl, rfl, rfl, rfl, fun i s hs => by have := newSegs_get _ _ _ _ _ _ hs; simpa using this⟩
theorem newChp_wf {cb pw lb segs pages rated : Nat} {bads : List Int} {pbs : List Nat} (h1 : 1 ≤ segs ∧ segs ≤ 64) (h2 : 1 ≤ pages ∧ pages ≤ 16) (h3 : rated < 1000000) (hk : pbs.length = segs) : (Chp.mk cb pw lb segs pages rated (newSegs pages bads 0 pbs) none 0 [] 0 0).wf := by
  refine ⟨by rw [newSegs_length]; exact hk, fun s hs => ?_, h1, h2, h3, fun i j t ht => by rw [Chp.at_fresh newChp_fresh] at ht; cases ht⟩
  obtain ⟨k, hk⟩ := List.getElem?_of_mem hs
  obtain ⟨e1, e2, _⟩ := newSegs_get _ _ _ _ _ _ hk
  rw [e1, e2]
  exact ⟨by simp, by decide, fun b hb => by have := List.eq_of_mem_replicate hb; cases this⟩
end Go.Proofs.YteckdahgkkmlaaaGreatDoor
