/- Walks of the program's functions. -/
import Derived.Test.YteckdahgkkmlaaaGreatDoorSLC3
import Derived.KernelRfl
set_option maxRecDepth 20000
set_option linter.unusedVariables false
set_option linter.unusedSimpArgs false
namespace Go.Proofs.YteckdahgkkmlaaaGreatDoor
open Go SL
variable {G : List (Nat × Obj)}
/-! segments are counted -/
theorem filt4 (p q r s : Nat → Bool) : ∀ (l : List Nat), (∀ i ∈ l, (p i).toNat + (q i).toNat + (r i).toNat + (s i).toNat = 1) → (l.filter p).length + (l.filter q).length + (l.filter r).length + (l.filter s).length = l.length
  | [], _ => rfl
  | x :: l, h => by
    have ih := filt4 p q r s l (fun i hi => h i (List.mem_cons_of_mem _ hi))
    have hx := h x (List.mem_cons_self ..)
    simp only [List.filter_cons, List.length_cons]
    cases hp : p x <;> cases hq : q x <;> cases hr : r x <;> cases hs : s x <;> simp_all <;> omega
theorem filt_op (op : Int) : ∀ n : Nat, ((List.range n).filter fun i : Nat => decide ((i : Int) = op)).length = if 0 ≤ op ∧ op < n then 1 else 0
  | 0 => by rw [if_neg (by omega)]; rfl
  | n + 1 => by
    rw [List.range_succ, List.filter_append, List.length_append, filt_op op n]
    by_cases e : (n : Int) = op
    · rw [if_neg (by omega), if_pos (by omega)]; simp [e]
    · by_cases h : 0 ≤ op ∧ op < n
      · rw [if_pos h, if_pos (by omega)]; simp [e]
      · rw [if_neg h, if_neg (by omega)]; simp [e]
theorem seg_count {g : Lg} {c : Chp} (ho : opOK g c) (hr : ∀ i : Nat, i < c.segs → 0 ≤ iget g.ret i) (hz : ∀ i : Nat, g.op = i → iget g.ret i = 0) :
    (freeL g c).length + ((List.range c.segs).filter fun i : Nat => decide ((i : Int) = g.op)).length + ((List.range c.segs).filter (isUsed g c)).length + ((List.range c.segs).filter (isRetired g)).length = c.segs := by
  have := filt4 (isFree g c) (fun i : Nat => decide ((i : Int) = g.op)) (isUsed g c) (isRetired g) (List.range c.segs) (fun i hi => by
    have h0 := hr i (List.mem_range.1 hi)
    have h1 := hz i
    unfold isFree isUsed isRetired
    by_cases e : (i : Int) = g.op
    · have e2 := h1 e.symm
      rw [e] at e2
      simp [e, e2]
    · by_cases e3 : iget g.ret i = 0
      · by_cases e4 : c.many i = 0
        · simp [e, e3, e4]
        · have : 0 < c.many i := Nat.pos_of_ne_zero e4
          simp [e, e3, e4, this]
      · have : 0 < iget g.ret i := by omega
        simp [e, e3, this])
  rw [List.length_range] at this
  exact this
theorem seg_count_no {g : Lg} {c : Chp} (ho : opOK g c) (hr : ∀ i : Nat, i < c.segs → 0 ≤ iget g.ret i) (hz : ∀ i : Nat, g.op = i → iget g.ret i = 0) (h : g.op < 0) :
    (freeL g c).length + ((List.range c.segs).filter (isUsed g c)).length + ((List.range c.segs).filter (isRetired g)).length = c.segs := by
  have := seg_count ho hr hz
  rw [filt_op, if_neg (by omega)] at this
  omega
theorem seg_count_op {g : Lg} {c : Chp} (ho : opOK g c) (hr : ∀ i : Nat, i < c.segs → 0 ≤ iget g.ret i) (hz : ∀ i : Nat, g.op = i → iget g.ret i = 0) (h : 0 ≤ g.op) :
    (freeL g c).length + 1 + ((List.range c.segs).filter (isUsed g c)).length + ((List.range c.segs).filter (isRetired g)).length = c.segs := by
  have := seg_count ho hr hz
  rw [filt_op, if_pos] at this
  · exact this
  · rcases ho with ho | ⟨i, ho, hi⟩ <;> omega
theorem iter_app_ret (r : Int) (a : Ab) : ∀ k, (iter (fun a => a.app r) k a).ret = a.ret
  | 0 => rfl
  | k + 1 => by
    rw [iter, ← iter_app_ret r a k]
    unfold Ab.app
    split <;> rfl
theorem app_none {g : Lg} {c : Chp} {r : Int} (h : (abs g c).appSeg r = none) : (abs g c).app r = abs g c := by
  unfold Ab.app
  rw [h]
theorem ret_retire {g : Lg} {i : Nat} (i' : Nat) (h0 : 0 ≤ iget g.ret i) (h1 : iget g.ret i < 1000000) : iget (retireL g i).ret i' = if i' = i then iget g.ret i + 1 else iget g.ret i' := by
  unfold retireL
  simp only [iget_iput]
  by_cases e : i' = i
  · subst e; simp [wrap_small h0 h1]
  · rw [if_neg (by omega), if_neg e]
/-- a cell is read that lies in what never turns -/
theorem op_loadK {c : Cx} {m : List (Nat × Value)} {rs : List Res} {K : Act → World → Prop} {d t : Nat} {pos : String} {af : Array Edge} {g : Option (Nat × Bool)} {T : TypeId} {x : Operand} {b off : Nat} {v : Value} (hx : ev m x = some (ptr b off)) (ha : ∀ w, (isAgg T).run c.P w = .ok false w)
    (hr : ∀ w : World, (∀ p ∈ c.G, w.heap[p.1]? = some p.2) → w.cell? ⟨b, off, none⟩ = some v) (hn : Nat.blt d c.n = true) (h : At c ((d, v) :: m) rs K) : At c m rs (fun a w => Op1 c.P ⟨some d, .load T x, t, pos, af, g⟩ a w K) :=
  fun a w hs hh => op1_run (v := v) (w' := w) (by intros; simp)
    (run_v (by simp [hs.eval hx, Instr.loadAt, Instr.sureAddr, loadVar, ha, Go.load, Sem.run, hr w hh.good.glob])) (h _ _ (hs.put hn) hh)
/-- a slice of the caller's, that never turns -/
def ArgS (G : List (Nat × Obj)) (ad : Option Addr) (xs : List Value) : Prop := ∀ (j : Nat) (v : Value), xs[j]? = some v → ∃ b off, ad = some ⟨b, off, none⟩ ∧ ∀ w : World, (∀ p ∈ G, w.heap[p.1]? = some p.2) → w.cell? ⟨b, off + j, none⟩ = some v
end Go.Proofs.YteckdahgkkmlaaaGreatDoor
