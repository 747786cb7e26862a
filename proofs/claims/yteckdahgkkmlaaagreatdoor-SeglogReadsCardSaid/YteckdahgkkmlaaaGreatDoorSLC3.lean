/- Walks of the program's functions. -/
import Derived.Test.YteckdahgkkmlaaaGreatDoorSLS7
import Derived.KernelRfl
set_option maxRecDepth 20000
set_option linter.unusedVariables false
set_option linter.unusedSimpArgs false
namespace Go.Proofs.YteckdahgkkmlaaaGreatDoor
open Go SL
variable {G : List (Nat × Obj)}
/-! steps of a log, seen from afar -/
def iter {α : Type} (f : α → α) : Nat → α → α
  | 0, a => a
  | n + 1, a => f (iter f n a)
theorem app_step {g : Lg} {c : Chp} (hc : c.wf) (ho : opOK g c) {r : Int} {i : Nat} (h : (abs g c).appSeg r = some i) (b : Nat) (t : List UInt8) (ht : t.length ≤ 256) (pa : Option Addr) (pc : Nat) :
    (c.prog i (c.next i).toNat b t pa pc).wf ∧ opOK ⟨g.lb, g.mb, i, g.seq + 1, g.ret, g.clock⟩ (c.prog i (c.next i).toNat b t pa pc) ∧ abs ⟨g.lb, g.mb, i, g.seq + 1, g.ret, g.clock⟩ (c.prog i (c.next i).toNat b t pa pc) = (abs g c).app r ∧ i < c.segs ∧ (c.next i).toNat < c.pages ∧ c.at i (c.next i).toNat = none := by
  obtain ⟨hi, j, h1, h2, h3, _⟩ := appSeg_spec hc ho h
  have e : (c.next i).toNat = j := by rw [h1]; rfl
  rw [e]
  refine ⟨hc.prog hi h2 b t ht pa pc, opOK_prog (g := g) hi j b t pa pc _ _ _ _ _, ?_, hi, h2, h3⟩
  rw [abs_prog]
  unfold Ab.app
  rw [h]
  simp only [abs_next, e]
theorem erase_ok {g : Lg} {c : Chp} {i : Nat} (h : (abs g c).canErase i = true) : c.badAt i = false ∧ c.wearAt i < c.rated := by
  unfold Ab.canErase at h
  rw [abs_bad, abs_wear] at h
  simp only [Bool.and_eq_true, Bool.not_eq_true', decide_eq_true_eq] at h
  exact h
theorem erase_no {g : Lg} {c : Chp} {i : Nat} (h : (abs g c).canErase i = false) : c.badAt i = true ∨ c.rated ≤ c.wearAt i := by
  unfold Ab.canErase at h
  rw [abs_bad, abs_wear] at h
  have hr : (abs g c).rated = c.rated := rfl
  rw [hr] at h
  cases hb : c.badAt i with
  | true => exact .inl rfl
  | false =>
    rw [hb] at h
    simp only [Bool.not_false, Bool.true_and, decide_eq_false_iff_not] at h
    exact .inr (by omega)
theorem erase_step {g : Lg} {c : Chp} (hc : c.wf) (ho : opOK g c) {i : Nat} (h : (abs g c).canErase i = true) :
    (c.erased i).wf ∧ opOK (eraseL g i) (c.erased i) ∧ abs (eraseL g i) (c.erased i) = (abs g c).erase i :=
  ⟨hc.erased i (erase_ok h).2, opOK_erase ho rfl i _ _, abs_erased g c i h⟩
theorem items_none {c : Chp} (h : ∀ i j, c.at i j = none) : c.items = [] := by
  cases hx : c.items with
  | nil => rfl
  | cons a l =>
    have := Chp.items_at (c := c) (a := a) (by rw [hx]; exact List.mem_cons_self ..)
    rw [h] at this; cases this
theorem seq_fresh {c : Chp} {segs pages rated : Nat} {bads : List Int} (h : c.fresh segs pages rated bads) : maxQ c.frames + 1 = 1 := by
  unfold Chp.frames
  rw [items_none (Chp.at_fresh h)]
  rfl
end Go.Proofs.YteckdahgkkmlaaaGreatDoor
