/- A small calculus for walks: a frame's slots as a list, the memory as a list of resources that lie apart. Generic over the program. -/
import Derived.RangeFuncIn
import Derived.Below
namespace SL
open Go

/-! ### Slots -/
def lk : List (Nat × Value) → Nat → Option Value
  | [], _ => none
  | (j, v) :: m, i => match Nat.beq j i with
    | true => some v
    | false => lk m i

structure Slots (n : Nat) (ds : List Deferred) (m : List (Nat × Value)) (a : Act) : Prop where
  defers : a.defers = ds
  size : a.tmps.size = n
  look : ∀ i v, lk m i = some v → a.tmps[i]? = some v

theorem Slots.put {n : Nat} {ds : List Deferred} {m : List (Nat × Value)} {a : Act} (h : Slots n ds m a) {d : Nat} {v : Value} (hd : Nat.blt d n = true) :
    Slots n ds ((d, v) :: m) (a.put (some d) v) := by
  have hd' : d < n := Nat.blt_eq.mp hd
  refine ⟨h.defers, by simp [Act.put, h.size], fun i u hu => ?_⟩
  simp only [lk] at hu
  simp only [Act.put, Array.getElem?_setIfInBounds]
  by_cases e : d = i
  · subst e
    rw [Nat.beq_refl] at hu
    cases hu
    rw [if_pos rfl, if_pos (by rw [h.size]; exact hd')]
  · rw [if_neg e]
    have : Nat.beq d i = false := by cases hb : Nat.beq d i with
      | false => rfl
      | true => exact absurd (Nat.eq_of_beq_eq_true hb) e
    rw [this] at hu
    exact h.look i u hu

theorem Slots.put_none {n : Nat} {ds : List Deferred} {m : List (Nat × Value)} {a : Act} (h : Slots n ds m a) (v : Value) : Slots n ds m (a.put none v) := h

def ev (m : List (Nat × Value)) : Operand → Option Value
  | .tmp t => lk m t
  | .const v => some v
  | .global g => some (.pointer (some ⟨g, 0, none⟩))
  | .func f => some (.func (.func f) #[] #[])

theorem Slots.eval {n : Nat} {ds : List Deferred} {m : List (Nat × Value)} {a : Act} (h : Slots n ds m a) {x : Operand} {v : Value} (hx : ev m x = some v) : a.eval x = v := by
  cases x with
  | tmp t => have := h.look t v hx; simp [Act.eval, this]
  | const u => exact Option.some.inj hx
  | global g => exact Option.some.inj hx
  | func f => exact Option.some.inj hx

def evs (m : List (Nat × Value)) : List Operand → Option (List Value)
  | [] => some []
  | x :: xs => match ev m x with
    | some v => match evs m xs with
      | some vs => some (v :: vs)
      | none => none
    | none => none

theorem Slots.evals {n : Nat} {ds : List Deferred} {m : List (Nat × Value)} {a : Act} (h : Slots n ds m a) : ∀ {xs : List Operand} {vs : List Value}, evs m xs = some vs → xs.map a.eval = vs
  | [], vs, hv => by simp only [evs, Option.some.injEq] at hv; subst hv; rfl
  | x :: xs, vs, hv => by
    simp only [evs] at hv
    cases hx : ev m x with
    | none => rw [hx] at hv; simp at hv
    | some v =>
      cases hxs : evs m xs with
      | none => rw [hx, hxs] at hv; simp at hv
      | some us =>
        rw [hx, hxs] at hv; simp at hv
        subst hv
        rw [List.map_cons, h.eval hx, h.evals hxs]

/-- numbered operands (struct and slice literals) -/
def evp (m : List (Nat × Value)) : List (Nat × Operand) → Option (List (Nat × Value))
  | [] => some []
  | (i, x) :: xs => match ev m x with
    | some v => match evp m xs with
      | some vs => some ((i, v) :: vs)
      | none => none
    | none => none

theorem Slots.evalp {n : Nat} {ds : List Deferred} {m : List (Nat × Value)} {a : Act} (h : Slots n ds m a) : ∀ {xs : List (Nat × Operand)} {vs : List (Nat × Value)}, evp m xs = some vs → xs.map (fun p => (p.1, a.eval p.2)) = vs
  | [], vs, hv => by simp only [evp, Option.some.injEq] at hv; subst hv; rfl
  | (i, x) :: xs, vs, hv => by
    simp only [evp] at hv
    cases hx : ev m x with
    | none => rw [hx] at hv; simp at hv
    | some v =>
      cases hxs : evp m xs with
      | none => rw [hx, hxs] at hv; simp at hv
      | some us =>
        rw [hx, hxs] at hv; simp at hv
        subst hv
        rw [List.map_cons, h.eval hx, h.evalp hxs]

theorem evs_nil {m : List (Nat × Value)} : evs m [] = some [] := rfl
theorem evs_cons {m : List (Nat × Value)} {x : Operand} {xs : List Operand} {v : Value} {vs : List Value} (h : ev m x = some v) (t : evs m xs = some vs) : evs m (x :: xs) = some (v :: vs) := by simp only [evs, h, t]
theorem evp_nil {m : List (Nat × Value)} : evp m [] = some [] := rfl
theorem evp_cons {m : List (Nat × Value)} {i : Nat} {x : Operand} {xs : List (Nat × Operand)} {v : Value} {vs : List (Nat × Value)} (h : ev m x = some v) (t : evp m xs = some vs) : evp m ((i, x) :: xs) = some ((i, v) :: vs) := by simp only [evp, h, t]

/-! ### Resources -/
structure Res where
  fp : Nat → Prop
  holds : World → Prop
  loc : ∀ w w', holds w → (∀ b, fp b → w'.heap[b]? = w.heap[b]?) → holds w'
  bnd : ∀ w b, holds w → fp b → b < w.heap.size

def blk (b : Nat) (o : Obj) : Res where
  fp := fun k => k = b
  holds := fun w => w.heap[b]? = some o
  loc := fun _ _ h hk => (hk b rfl).trans h
  bnd := fun _ k h hk => by subst hk; exact (Array.getElem?_eq_some_iff.1 h).1

/-- a row of cells -/
def row (b : Nat) (cs : List Value) (T : TypeId) (fr : Nat × Nat) : Res := blk b (.cells cs.toArray T fr)

def Res.apart (r s : Res) : Prop := ∀ b, r.fp b → s.fp b → False

def fpAll (rs : List Res) (b : Nat) : Prop := ∃ r ∈ rs, r.fp b

structure Upd (S : Nat → Prop) (w w' : World) : Prop where
  os : w'.os = w.os
  tape : w'.tape = w.tape
  output : w'.output = w.output
  size : w.heap.size ≤ w'.heap.size
  frame : ∀ b, b < w.heap.size → ¬ S b → w'.heap[b]? = w.heap[b]?

theorem Upd.refl (S : Nat → Prop) (w : World) : Upd S w w := ⟨rfl, rfl, rfl, Nat.le_refl _, fun _ _ _ => rfl⟩

structure Good (G : List (Nat × Obj)) (rs : List Res) (w : World) : Prop where
  glob : ∀ p ∈ G, w.heap[p.1]? = some p.2
  gfp : ∀ r ∈ rs, ∀ b, r.fp b → ∀ p ∈ G, p.1 ≠ b
  holds : ∀ r ∈ rs, r.holds w
  disj : rs.Pairwise Res.apart

structure Hp (G : List (Nat × Obj)) (w0 : World) (S : Nat → Prop) (rs : List Res) (w : World) : Prop where
  upd : Upd S w0 w
  good : Good G rs w
  fresh : ∀ r ∈ rs, ∀ b, r.fp b → S b ∨ w0.heap.size ≤ b

theorem Hp.start {G : List (Nat × Obj)} {rs : List Res} {w : World} (h : Good G rs w) : Hp G w (fpAll rs) rs w :=
  ⟨Upd.refl _ _, h, fun r hr _ hb => .inl ⟨r, hr, hb⟩⟩

/-- rs' is picked out of rs -/
inductive Pull (r : Res) : List Res → List Res → Prop
  | here {l : List Res} : Pull r (r :: l) l
  | there {x : Res} {l l' : List Res} : Pull r l l' → Pull r (x :: l) (x :: l')

theorem Pull.perm {r : Res} {l l' : List Res} (h : Pull r l l') : l.Perm (r :: l') := by
  induction h with
  | here => exact List.Perm.refl _
  | there _ ih => exact (List.Perm.cons _ ih).trans (List.Perm.swap _ _ _)

theorem Pull.p0 {r : Res} {l : List Res} : Pull r (r :: l) l := .here
theorem Pull.p1 {r a : Res} {l : List Res} : Pull r (a :: r :: l) (a :: l) := .there .here
theorem Pull.p2 {r a b : Res} {l : List Res} : Pull r (a :: b :: r :: l) (a :: b :: l) := .there p1
theorem Pull.p3 {r a b c : Res} {l : List Res} : Pull r (a :: b :: c :: r :: l) (a :: b :: c :: l) := .there p2
theorem Pull.p4 {r a b c d : Res} {l : List Res} : Pull r (a :: b :: c :: d :: r :: l) (a :: b :: c :: d :: l) := .there p3
theorem Pull.p5 {r a b c d e : Res} {l : List Res} : Pull r (a :: b :: c :: d :: e :: r :: l) (a :: b :: c :: d :: e :: l) := .there p4
theorem Pull.p6 {r a b c d e f : Res} {l : List Res} : Pull r (a :: b :: c :: d :: e :: f :: r :: l) (a :: b :: c :: d :: e :: f :: l) := .there p5
theorem Pull.p7 {r a b c d e f g : Res} {l : List Res} : Pull r (a :: b :: c :: d :: e :: f :: g :: r :: l) (a :: b :: c :: d :: e :: f :: g :: l) := .there p6
theorem Pull.p8 {r a b c d e f g h : Res} {l : List Res} : Pull r (a :: b :: c :: d :: e :: f :: g :: h :: r :: l) (a :: b :: c :: d :: e :: f :: g :: h :: l) := .there p7
theorem Pull.p9 {r a b c d e f g h i : Res} {l : List Res} : Pull r (a :: b :: c :: d :: e :: f :: g :: h :: i :: r :: l) (a :: b :: c :: d :: e :: f :: g :: h :: i :: l) := .there p8

/-- l splits into t and what is left -/
inductive Cut : List Res → List Res → List Res → Prop
  | nil {l : List Res} : Cut [] l l
  | cons {r : Res} {t l l' k : List Res} : Pull r l l' → Cut t l' k → Cut (r :: t) l k

theorem Cut.perm {t l k : List Res} (h : Cut t l k) : l.Perm (t ++ k) := by
  induction h with
  | nil => exact List.Perm.refl _
  | cons h _ ih => exact h.perm.trans (List.Perm.cons _ ih)

theorem Good.perm {G : List (Nat × Obj)} {rs rs' : List Res} {w : World} (h : Good G rs w) (hp : rs.Perm rs') : Good G rs' w :=
  ⟨h.glob, fun r hr => h.gfp r (hp.mem_iff.2 hr), fun r hr => h.holds r (hp.mem_iff.2 hr),
    (List.Perm.pairwise_iff (fun {x y} (hxy : Res.apart x y) b h1 h2 => hxy b h2 h1) hp).1 h.disj⟩

theorem Good.left {G : List (Nat × Obj)} {rs k : List Res} {w : World} (h : Good G (rs ++ k) w) : Good G rs w :=
  ⟨h.glob, fun r hr => h.gfp r (List.mem_append_left _ hr), fun r hr => h.holds r (List.mem_append_left _ hr), (List.pairwise_append.1 h.disj).1⟩

theorem Hp.perm {G : List (Nat × Obj)} {w0 w : World} {S : Nat → Prop} {rs rs' : List Res} (h : Hp G w0 S rs w) (hp : rs.Perm rs') : Hp G w0 S rs' w :=
  ⟨h.upd, h.good.perm hp, fun r hr => h.fresh r (hp.mem_iff.2 hr)⟩

theorem Hp.left {G : List (Nat × Obj)} {w0 w : World} {S : Nat → Prop} {rs k : List Res} (h : Hp G w0 S (rs ++ k) w) : Hp G w0 S rs w :=
  ⟨h.upd, h.good.left, fun r hr => h.fresh r (List.mem_append_left _ hr)⟩

theorem Hp.cut {G : List (Nat × Obj)} {w0 w : World} {S : Nat → Prop} {rs t k : List Res} (h : Hp G w0 S rs w) (hc : Cut t rs k) : Hp G w0 S (t ++ k) w := h.perm hc.perm

theorem Hp.pull {G : List (Nat × Obj)} {w0 w : World} {S : Nat → Prop} {rs k : List Res} {r : Res} (h : Hp G w0 S rs w) (hc : Pull r rs k) : Hp G w0 S (r :: k) w := h.perm hc.perm

/-- what is called turns pre into rs': the rest abides -/
theorem Hp.call {G : List (Nat × Obj)} {w0 w w' : World} {S : Nat → Prop} {pre k rs' : List Res} (h : Hp G w0 S (pre ++ k) w) (h' : Hp G w (fpAll pre) rs' w') : Hp G w0 S (rs' ++ k) w' := by
  obtain ⟨hg1, hg2, hg3⟩ := List.pairwise_append.1 h.good.disj
  have hk : ∀ r ∈ k, ∀ b, r.fp b → b < w.heap.size ∧ ¬ fpAll pre b := fun r hr b hb =>
    ⟨r.bnd w b (h.good.holds r (List.mem_append_right _ hr)) hb, fun ⟨s, hs, hsb⟩ => hg3 s hs r hr b hsb hb⟩
  refine ⟨⟨h'.upd.os.trans h.upd.os, h'.upd.tape.trans h.upd.tape, h'.upd.output.trans h.upd.output, Nat.le_trans h.upd.size h'.upd.size, fun b hb hS => ?_⟩, ⟨h'.good.glob, ?_, ?_, ?_⟩, ?_⟩
  · rw [h'.upd.frame b (Nat.lt_of_lt_of_le hb h.upd.size) ?_, h.upd.frame b hb hS]
    rintro ⟨r, hr, hrb⟩
    rcases h.fresh r (List.mem_append_left _ hr) b hrb with h1 | h1
    · exact hS h1
    · omega
  · intro r hr
    rcases List.mem_append.1 hr with hr | hr
    · exact h'.good.gfp r hr
    · exact h.good.gfp r (List.mem_append_right _ hr)
  · intro r hr
    rcases List.mem_append.1 hr with hr | hr
    · exact h'.good.holds r hr
    · exact r.loc w w' (h.good.holds r (List.mem_append_right _ hr)) fun b hb => h'.upd.frame b (hk r hr b hb).1 (hk r hr b hb).2
  · refine List.pairwise_append.2 ⟨h'.good.disj, hg2, fun r hr s hs b h1 h2 => ?_⟩
    rcases h'.fresh r hr b h1 with h3 | h3
    · exact (hk s hs b h2).2 h3
    · have := (hk s hs b h2).1; omega
  · intro r hr b hb
    rcases List.mem_append.1 hr with hr | hr
    · rcases h'.fresh r hr b hb with ⟨s, hs, hsb⟩ | h3
      · exact h.fresh s (List.mem_append_left _ hs) b hsb
      · exact .inr (Nat.le_trans h.upd.size h3)
    · exact h.fresh r (List.mem_append_right _ hr) b hb

/-- a draw turns nothing -/
theorem Hp.drew {G : List (Nat × Obj)} {w0 w : World} {S : Nat → Prop} {rs : List Res} (h : Hp G w0 S rs w) (k : Nat) : Hp G w0 S rs { w with drawn := k } :=
  ⟨⟨h.upd.os, h.upd.tape, h.upd.output, h.upd.size, h.upd.frame⟩, ⟨h.good.glob, h.good.gfp, fun r hr => r.loc w _ (h.good.holds r hr) fun _ _ => rfl, h.good.disj⟩, h.fresh⟩

/-- a new block -/
theorem Hp.new {G : List (Nat × Obj)} {w0 w : World} {S : Nat → Prop} {rs : List Res} (h : Hp G w0 S rs w) (o : Obj) : Hp G w0 S (blk w.heap.size o :: rs) (w.alloc o) := by
  have hold : ∀ b, b < w.heap.size → (w.alloc o).heap[b]? = w.heap[b]? := fun b hb => RowKit.Below.heap_alloc w o b hb
  refine ⟨⟨h.upd.os, h.upd.tape, h.upd.output, by rw [World.size_alloc]; exact Nat.le_succ_of_le h.upd.size, fun b hb hS => ?_⟩, ⟨fun p hp => ?_, ?_, ?_, ?_⟩, ?_⟩
  · rw [hold b (Nat.lt_of_lt_of_le hb h.upd.size), h.upd.frame b hb hS]
  · have := h.good.glob p hp
    rw [hold p.1 (Array.getElem?_eq_some_iff.1 this).1]; exact this
  · intro r hr b hb p hp
    rcases List.mem_cons.1 hr with rfl | hr
    · have := h.good.glob p hp
      have h1 := (Array.getElem?_eq_some_iff.1 this).1
      have h2 : b = w.heap.size := hb
      omega
    · exact h.good.gfp r hr b hb p hp
  · intro r hr
    rcases List.mem_cons.1 hr with rfl | hr
    · show (w.heap.push o)[w.heap.size]? = some o
      simp
    · exact r.loc w _ (h.good.holds r hr) fun b hb => hold b (r.bnd w b (h.good.holds r hr) hb)
  · refine List.pairwise_cons.2 ⟨fun r hr b h1 h2 => ?_, h.good.disj⟩
    have := r.bnd w b (h.good.holds r hr) h2
    have h3 : b = w.heap.size := h1
    omega
  · intro r hr b hb
    rcases List.mem_cons.1 hr with rfl | hr
    · have h3 : b = w.heap.size := hb
      exact .inr (by rw [h3]; exact h.upd.size)
    · exact h.fresh r hr b hb

/-- one block is turned -/
theorem Hp.turn {G : List (Nat × Obj)} {w0 w w' : World} {S : Nat → Prop} {k : List Res} {b : Nat} {o o' : Obj} (h : Hp G w0 S (blk b o :: k) w)
    (hos : w'.os = w.os) (htape : w'.tape = w.tape) (hout : w'.output = w.output) (hsize : w'.heap.size = w.heap.size)
    (hb : w'.heap[b]? = some o') (hne : ∀ j, j ≠ b → w'.heap[j]? = w.heap[j]?) : Hp G w0 S (blk b o' :: k) w' := by
  have hp : Hp G w0 S ([blk b o] ++ k) w := h
  refine hp.call (rs' := [blk b o']) (w' := w') ⟨⟨hos, htape, hout, by omega, fun j _ hj => hne j fun e => hj ⟨_, List.mem_singleton.2 rfl, e⟩⟩, ⟨fun p hp' => ?_, ?_, ?_, ?_⟩, ?_⟩
  · rw [hne p.1 (h.good.gfp _ (List.mem_cons_self ..) b rfl p hp')]; exact h.good.glob p hp'
  · intro r hr j hj p hp'
    rcases List.mem_singleton.1 hr with rfl
    exact h.good.gfp _ (List.mem_cons_self ..) j hj p hp'
  · intro r hr
    rcases List.mem_singleton.1 hr with rfl
    exact hb
  · exact List.pairwise_singleton _ _
  · intro r hr j hj
    rcases List.mem_singleton.1 hr with rfl
    exact .inl ⟨_, List.mem_singleton.2 rfl, hj⟩

theorem Hp.setCell {G : List (Nat × Obj)} {w0 w : World} {S : Nat → Prop} {k : List Res} {b : Nat} {cs : List Value} {T : TypeId} {fr : Nat × Nat} (h : Hp G w0 S (row b cs T fr :: k) w)
    (off : Nat) (v : Value) : Hp G w0 S (row b (cs.set off v) T fr :: k) (w.setCell ⟨b, off, none⟩ v) := by
  have hb : w.heap[b]? = some (.cells cs.toArray T fr) := h.good.holds _ (List.mem_cons_self ..)
  refine h.turn rfl rfl rfl (by simp) ?_ (fun j hj => RowKit.Below.heap_setCell _ _ _ _ hj)
  simp only [World.setCell, Array.getElem?_modify, hb]
  simp

theorem Hp.cell {G : List (Nat × Obj)} {w0 w : World} {S : Nat → Prop} {k : List Res} {b : Nat} {cs : List Value} {T : TypeId} {fr : Nat × Nat} (h : Hp G w0 S (row b cs T fr :: k) w)
    (off : Nat) : w.cell? ⟨b, off, none⟩ = cs[off]? := by
  have hb : w.heap[b]? = some (.cells cs.toArray T fr) := h.good.holds _ (List.mem_cons_self ..)
  simp [World.cell?, hb]

theorem Hp.frozen {G : List (Nat × Obj)} {w0 w : World} {S : Nat → Prop} {k : List Res} {b : Nat} {cs : List Value} {T : TypeId} {fr : Nat × Nat} (h : Hp G w0 S (row b cs T fr :: k) w)
    (off : Nat) : w.frozen? ⟨b, off, none⟩ = (decide (fr.1 ≤ off) && decide (off < fr.2)) := by
  have hb : w.heap[b]? = some (.cells cs.toArray T fr) := h.good.holds _ (List.mem_cons_self ..)
  simp [World.frozen?, hb]

/-! ### The judgement -/
structure Cx where
  P : Program
  G : List (Nat × Obj)
  n : Nat
  ds : List Deferred
  w0 : World
  S : Nat → Prop

def At (c : Cx) (m : List (Nat × Value)) (rs : List Res) (K : Act → World → Prop) : Prop :=
  ∀ a w, Slots c.n c.ds m a → Hp c.G c.w0 c.S rs w → K a w

/-- the fence that asks nothing, in the frame of a round of loop l, or of a function -/
def Fr (r : Option Nat) : Fence := { Fence.wide with round := r }

theorem Fr_none : Fr none = Fence.wide := rfl
theorem Fr_fn (r : Option Nat) (f : FuncId) : (Fr r).fn f := trivial
theorem Fr_room (r : Option Nat) (k : Nat) : (Fr r).room k := fun _ h => by simp [Fr, Fence.wide] at h

/-- one operation that does not panic -/
def Op1 (P : Program) (o : Oper) (a : Act) (w : World) (K : Act → World → Prop) : Prop :=
  (∀ cl, o.op ≠ .defer cl) ∧ o.uponIn Fence.wide 0 P a K (fun _ _ _ => False) ((execOp a.eval o).run P w)

theorem not_letsOut : ¬ LetsOut (fun _ _ _ => False) := fun ⟨_, _, h⟩ => h

theorem uponIn_of {r : Option Nat} {P : Program} {o : Oper} {a : Act} {K : Act → World → Prop} {Q : Exit → Act → World → Prop} {x : Result Next}
    (h : o.uponIn Fence.wide 0 P a K (fun _ _ _ => False) x) : o.uponIn (Fr r) 0 P a K Q x := by
  have hc : ∀ f args w' (R R' : Ending → World → Prop), (∀ e w, R e w → R' e w) → CallsIn Fence.wide (0 - 1) P f args w' R → CallsIn (Fr r) (0 - 1) P f args w' R' :=
    fun f args w' R R' hr hcl => CallsIn.mono (F := Fr r) ⟨trivial, fun cs hroom => hcl.2 cs hroom⟩ hr
  unfold Oper.uponIn at h ⊢
  split at h <;> (try exact h)
  · rename_i f args w'
    refine ⟨fun hh => by simp [Fr, Fence.wide] at hh, hc _ _ _ _ _ ?_ h.2⟩
    intro e w1 hw
    cases e with
    | returned v => exact hw
    | panicked ch => exact hw.elim
    | outgrown => exact (not_letsOut hw).elim
  · rename_i l f tmps assign body w'
    refine ⟨fun hh => by simp [Fr, Fence.wide] at hh, RoundIn.mono (F := Fr r) ⟨trivial, fun cf cs hroom => h.2.2 cf cs hroom⟩ ?_⟩
    intro e w1 hw
    cases e with
    | returned v => exact hw
    | panicked ch => exact hw.elim
    | outgrown => exact (not_letsOut hw).elim
  · exact h.elim

theorem wpIn_of_op1 {r : Option Nat} {P : Program} {o : Oper} {a : Act} {w : World} {K : Act → World → Prop} {Q : Exit → Act → World → Prop} (h : Op1 P o a w K) : o.wpIn (Fr r) 0 P a w K Q := by
  refine ⟨fun _ _ => trivial, ?_⟩
  rw [Oper.semAt_eq _ _ _ h.1]
  exact uponIn_of h.2

def wpL (P : Program) (ops : Array Oper) (Q : Exit → Act → World → Prop) : List Oper → Act → World → Prop
  | [], a, w => Q .normal a w
  | o :: rest, a, w => if Region.wanted o (yielded ops a.tmps) then Op1 P o a w (wpL P ops Q rest) else wpL P ops Q rest (a.put o.dst undef) w

theorem Op1.mono {P : Program} {o : Oper} {a : Act} {w : World} {K K' : Act → World → Prop} (h : Op1 P o a w K) (hk : ∀ a w, K a w → K' a w) : Op1 P o a w K' := by
  refine ⟨h.1, ?_⟩
  have h := h.2
  unfold Oper.uponIn at h ⊢
  split at h <;> (try exact h)
  · exact hk _ _ h
  · exact hk _ _ h
  · exact hk _ _ h
  · refine ⟨h.1, h.2.mono ?_⟩
    intro e w1 hw
    cases e with
    | returned v => exact hk _ _ hw
    | panicked ch => exact hw
    | outgrown => exact (not_letsOut hw).elim
  · exact ⟨h.1, h.2.mono fun v w' hv => hk _ _ hv⟩
  · refine ⟨h.1, h.2.mono ?_⟩
    intro e w1 hw
    cases e with
    | returned v => exact hk _ _ hw
    | panicked ch => exact hw
    | outgrown => exact (not_letsOut hw).elim

theorem wpOpsIn_of_wpL {r : Option Nat} {P : Program} {ops : Array Oper} {Q : Exit → Act → World → Prop} (l : List Oper) : ∀ k, (∀ j, l[j]? = ops[k + j]? ∨ l.length ≤ j) →
    ∀ a w, wpL P ops Q l a w → wpOpsIn (Fr r) 0 P ops Q (List.range' k l.length) a w := by
  induction l with
  | nil => intro k _ a w h; exact h
  | cons o l ih =>
    intro k h a w hw
    have h0 : ops[k]? = some o := by
      rcases h 0 with h0 | h0
      · simpa using h0.symm
      · simp at h0
    have ih' := ih (k + 1) (fun j => by
      rcases h (j + 1) with h1 | h1
      · left; simpa [Nat.add_assoc, Nat.add_comm 1 j] using h1
      · right; simpa using h1)
    simp only [List.length_cons, List.range'_succ, wpOpsIn, h0]
    simp only [wpL] at hw
    split at hw
    · rename_i hc; rw [if_pos hc]
      exact wpIn_of_op1 (hw.mono ih')
    · rename_i hc; rw [if_neg hc]
      exact ⟨fun _ _ => trivial, ih' _ _ hw⟩

theorem wpIn_region_of {r : Option Nat} {P : Program} {id : Nat} {l : List Oper} {Q : Exit → Act → World → Prop} {a : Act} {w : World} (h : wpL P l.toArray Q l a w) :
    (Code.region id l.toArray false).wpIn (Fr r) 0 P Q a w :=
  wpIn_region (by
    rw [List.range_eq_range']
    exact wpOpsIn_of_wpL l 0 (fun j => .inl (by simp)) a w h)

section rules
variable {c : Cx} {r : Option Nat} {m m' : List (Nat × Value)} {rs rs' : List Res} {K : Act → World → Prop} {Q : Exit → Act → World → Prop}

theorem At.seq {x y : Code} (h : At c m rs (x.wpIn (Fr r) 0 c.P (Exit.then (y.wpIn (Fr r) 0 c.P Q) Q))) : At c m rs ((Code.seq x y).wpIn (Fr r) 0 c.P Q) :=
  fun a w hs hh => wpIn_seq (h a w hs hh)
theorem At.region {id : Nat} {l : List Oper} (h : At c m rs (wpL c.P l.toArray Q l)) : At c m rs ((Code.region id l.toArray false).wpIn (Fr r) 0 c.P Q) :=
  fun a w hs hh => wpIn_region_of (h a w hs hh)
theorem At.skip (h : At c m rs (Q .normal)) : At c m rs (Code.skip.wpIn (Fr r) 0 c.P Q) := fun a w hs hh => wpIn_skip (h a w hs hh)
theorem At.ret (h : At c m rs (Q .ret)) : At c m rs (Code.ret.wpIn (Fr r) 0 c.P Q) := fun a w hs hh => wpIn_ret (h a w hs hh)
theorem At.exit {id : Nat} (h : At c m rs (Q (.exit id))) : At c m rs ((Code.exit id).wpIn (Fr r) 0 c.P Q) := fun a w hs hh => wpIn_exit (h a w hs hh)
theorem At.block {id : Nat} {x : Code} (h : At c m rs (x.wpIn (Fr r) 0 c.P (Exit.inBlock id Q))) : At c m rs ((Code.block id x).wpIn (Fr r) 0 c.P Q) :=
  fun a w hs hh => wpIn_block (h a w hs hh)
theorem At.cond {x : Operand} {t : Bool} {A B : Code} (hx : ev m x = some (.bool t)) (ht : t = true → At c m rs (A.wpIn (Fr r) 0 c.P Q)) (hf : t = false → At c m rs (B.wpIn (Fr r) 0 c.P Q)) :
    At c m rs ((Code.cond x A B).wpIn (Fr r) 0 c.P Q) :=
  fun a w hs hh => wpIn_cond_split (hs.eval hx) (fun h => ht h a w hs hh) (fun h => hf h a w hs hh)
theorem At.cond_p {x : Operand} {p : Prop} [Decidable p] {A B : Code} (hx : ev m x = some (.bool (decide p))) (ht : p → At c m rs (A.wpIn (Fr r) 0 c.P Q)) (hf : ¬ p → At c m rs (B.wpIn (Fr r) 0 c.P Q)) :
    At c m rs ((Code.cond x A B).wpIn (Fr r) 0 c.P Q) :=
  At.cond hx (fun h => ht (of_decide_eq_true h)) (fun h => hf (of_decide_eq_false h))
theorem At.cond_np {x : Operand} {p : Prop} [Decidable p] {A B : Code} (hx : ev m x = some (.bool (!decide p))) (ht : ¬ p → At c m rs (A.wpIn (Fr r) 0 c.P Q)) (hf : p → At c m rs (B.wpIn (Fr r) 0 c.P Q)) :
    At c m rs ((Code.cond x A B).wpIn (Fr r) 0 c.P Q) :=
  At.cond hx (fun h => ht (by simpa using h)) (fun h => hf (by simpa using h))
theorem At.cond_t {x : Operand} {A B : Code} (hx : ev m x = some (.bool true)) (h : At c m rs (A.wpIn (Fr r) 0 c.P Q)) : At c m rs ((Code.cond x A B).wpIn (Fr r) 0 c.P Q) :=
  fun a w hs hh => wpIn_cond_true (hs.eval hx) (h a w hs hh)
theorem At.cond_f {x : Operand} {A B : Code} (hx : ev m x = some (.bool false)) (h : At c m rs (B.wpIn (Fr r) 0 c.P Q)) : At c m rs ((Code.cond x A B).wpIn (Fr r) 0 c.P Q) :=
  fun a w hs hh => wpIn_cond_false (hs.eval hx) (h a w hs hh)

theorem At.then_n (h : At c m rs K) : At c m rs (Exit.then K Q .normal) := h
theorem At.then_r (h : At c m rs (Q .ret)) : At c m rs (Exit.then K Q .ret) := h
theorem At.then_e {id : Nat} (h : At c m rs (Q (.exit id))) : At c m rs (Exit.then K Q (.exit id)) := h
theorem At.blk_n {id : Nat} (h : At c m rs (Q .normal)) : At c m rs (Exit.inBlock id Q .normal) := h
theorem At.blk_r {id : Nat} (h : At c m rs (Q .ret)) : At c m rs (Exit.inBlock id Q .ret) := h
theorem At.blk_e {id : Nat} (h : At c m rs (Q .normal)) : At c m rs (Exit.inBlock id Q (.exit id)) := fun a w hs hh => by
  have := h a w hs hh
  simp only [Exit.inBlock, if_true]; exact this
theorem At.blk_x {id id' : Nat} (hne : Nat.beq id' id = false) (h : At c m rs (Q (.exit id'))) : At c m rs (Exit.inBlock id Q (.exit id')) := fun a w hs hh => by
  have := h a w hs hh
  simp only [Exit.inBlock]; rw [if_neg (fun e => by subst e; rw [Nat.beq_refl] at hne; cases hne)]; exact this

theorem At.nil {ops : Array Oper} (h : At c m rs (Q .normal)) : At c m rs (wpL c.P ops Q []) := h
theorem At.op {ops : Array Oper} {o : Oper} {rest : List Oper} (hg : o.guard = none) (h : At c m rs (fun a w => Op1 c.P o a w (wpL c.P ops Q rest))) : At c m rs (wpL c.P ops Q (o :: rest)) :=
  fun a w hs hh => by
    simp only [wpL]
    rw [if_pos (by simp [Region.wanted, hg])]
    exact h a w hs hh

theorem yielded_of {c : Cx} {m : List (Nat × Value)} {a : Act} {ops : Array Oper} {j d : Nat} {b : Bool} (hs : Slots c.n c.ds m a) (hd : (ops[j]?).bind (·.dst) = some d) (hb : lk m d = some (.bool b)) : yielded ops a.tmps j = some b := by
  simp [yielded, hd, hs.look d _ hb]

/-- a guarded operation that is wanted -/
theorem At.opg {ops : Array Oper} {o : Oper} {rest : List Oper} {j d : Nat} {want : Bool} (hg : o.guard = some (j, want)) (hd : (ops[j]?).bind (·.dst) = some d) (hb : lk m d = some (.bool want))
    (h : At c m rs (fun a w => Op1 c.P o a w (wpL c.P ops Q rest))) : At c m rs (wpL c.P ops Q (o :: rest)) :=
  fun a w hs hh => by
    simp only [wpL]
    rw [if_pos (by simp [Region.wanted, hg, yielded_of hs hd hb])]
    exact h a w hs hh
/-- one that is not -/
theorem At.opk {ops : Array Oper} {o : Oper} {rest : List Oper} {j d e : Nat} {want : Bool} (hg : o.guard = some (j, !want)) (hd : (ops[j]?).bind (·.dst) = some d) (hb : lk m d = some (.bool want))
    (he : o.dst = some e) (hn : Nat.blt e c.n = true) (h : At c ((e, undef) :: m) rs (wpL c.P ops Q rest)) : At c m rs (wpL c.P ops Q (o :: rest)) :=
  fun a w hs hh => by
    simp only [wpL]
    rw [if_neg (by simp [Region.wanted, hg, yielded_of hs hd hb]), he]
    exact h _ w (hs.put hn) hh

/-- slots are forgotten -/
inductive AllLk (m : List (Nat × Value)) : List (Nat × Value) → Prop
  | nil : AllLk m []
  | cons {i : Nat} {v : Value} {l : List (Nat × Value)} (h : lk m i = some v) (t : AllLk m l) : AllLk m ((i, v) :: l)
theorem lk_of_all {m : List (Nat × Value)} {l : List (Nat × Value)} (ha : AllLk m l) {i : Nat} {v : Value} (h : lk l i = some v) : lk m i = some v := by
  induction ha with
  | nil => cases h
  | @cons j u l hj _ ih =>
    simp only [lk] at h
    cases hb : Nat.beq j i with
    | true => rw [hb] at h; cases h; rw [← Nat.eq_of_beq_eq_true hb]; exact hj
    | false => rw [hb] at h; exact ih h
theorem At.keep (m' : List (Nat × Value)) (hm : AllLk m m') (h : At c m' rs K) : At c m rs K :=
  fun a w hs hh => h a w ⟨hs.defers, hs.size, fun i v hv => hs.look i v (lk_of_all hm hv)⟩ hh
/-- resources are put in another order, or forgotten -/
theorem At.cut {k : List Res} (hc : Cut rs' rs k) (h : At c m rs' K) : At c m rs K := fun a w hs hh => h a w hs (hh.cut hc).left
theorem At.pull {k : List Res} {x : Res} (hc : Pull x rs k) (h : At c m (x :: k) K) : At c m rs K := fun a w hs hh => h a w hs (hh.pull hc)

/-! ### A loop -/
def Back (c : Cx) {σ : Type} (I : σ → Prop) (M : σ → List (Nat × Value)) (R : σ → List Res) (μ : σ → Nat) (k : Nat) : Act → World → Prop :=
  fun a w => ∃ x, I x ∧ μ x < k ∧ Slots c.n c.ds (M x) a ∧ Hp c.G c.w0 c.S (R x) w

theorem At.loop {body : Code} {σ : Type} (I : σ → Prop) (M : σ → List (Nat × Value)) (R : σ → List Res) (μ : σ → Nat) (x0 : σ) (h0 : I x0)
    (round : ∀ x, I x → At c (M x) (R x) (body.wpIn (Fr r) 0 c.P (Exit.then (Back c I M R μ (μ x)) Q))) : At c (M x0) (R x0) ((Code.loop body).wpIn (Fr r) 0 c.P Q) := by
  intro a w hs hh b k cs hro hb hr
  have key : ∀ (j : Nat) (x : σ), μ x = j → I x → ∀ a w, Slots c.n c.ds (M x) a → Hp c.G c.w0 c.S (R x) w →
      ∃ e a' w', Q e a' w' ∧ ArrivesIn (Machine.fenced c.P (Fr r)) c.P (lone (b.atR a (.code body :: .inLoop body :: k)) cs w) b k cs e a' w' := by
    intro j
    induction j using Nat.strongRecOn with
    | _ j ih =>
      intro x hj hx a w hs hh
      obtain ⟨e, a1, w1, hq, harr⟩ := round x hx a w hs hh b (.inLoop body :: k) cs hro hb hr
      cases e with
      | normal =>
        obtain ⟨y, hy, hlt, hs1, hh1⟩ := hq
        obtain ⟨e2, a2, w2, hq2, harr2⟩ := ih (μ y) (hj ▸ hlt) y rfl hy a1 w1 hs1 hh1
        exact ⟨e2, a2, w2, hq2, .of_steps (StepsIn.trans harr (.one (fenced_calm hb hr rfl) stepR_inLoop)) harr2⟩
      | exit id => exact ⟨_, a1, w1, hq, .pass (x := .inLoop body) rfl (fun _ _ => .inl (by simp)) harr⟩
      | goto l => exact ⟨_, a1, w1, hq, .pass (x := .inLoop body) rfl (fun _ _ => .inl (by simp)) harr⟩
      | ret => exact ⟨_, a1, w1, hq, .pass (x := .inLoop body) rfl (fun _ _ => .inl (by simp)) harr⟩
      | panic ch => exact ⟨_, a1, w1, hq, .pass (x := .inLoop body) rfl (fun _ _ => .inl (by simp)) harr⟩
      | outgrown => exact ⟨_, a1, w1, hq, .pass (x := .inLoop body) rfl (fun _ _ => .inl (by simp)) harr⟩
  obtain ⟨e, a', w', hq, harr⟩ := key _ x0 rfl h0 a w hs hh
  exact ⟨e, a', w', hq, .of_steps (.one (fenced_calm hb hr rfl) stepR_loop) harr⟩

theorem At.back {σ : Type} {I : σ → Prop} {M : σ → List (Nat × Value)} {R : σ → List Res} {μ : σ → Nat} {k : Nat} {kk : List Res} (x : σ) (hx : I x) (hμ : μ x < k) (hm : AllLk m (M x)) (hr : Cut (R x) rs kk) :
    At c m rs (Back c I M R μ k) :=
  fun _ _ hs hh => ⟨x, hx, hμ, ⟨hs.defers, hs.size, fun i v hv => hs.look i v (lk_of_all hm hv)⟩, (hh.cut hr).left⟩

end rules
end SL
