/- Maps from whole numbers to whole numbers. -/
import Derived.Test.YteckdahgkkmlaaaDoorSLSli
import Derived.MapKept
namespace SL
open Go Go.MapKept

abbrev IE := Int × Int × Nat
def mkE (e : IE) : MapEntry := ⟨i64 e.1, i64 e.2.1, e.2.2⟩
def iget : List IE → Int → Int
  | [], _ => 0
  | e :: l, k => if e.1 = k then e.2.1 else iget l k
theorem find_i (kd : IntKind) : ∀ (l : List IE) (k : Int) (i : Nat), ∃ r, Instr.findNow (.int kd) (i64 k) (l.map mkE) i = some r ∧ (match r with | none => (∀ e ∈ l, e.1 ≠ k) ∧ iget l k = 0 | some (j, v) => v = i64 (iget l k) ∧ ∃ q e, j = i + q ∧ l[q]? = some e ∧ e.1 = k)
  | [], k, i => ⟨none, rfl, by simp [iget]⟩
  | e :: l, k, i => by
    by_cases h : e.1 = k
    · refine ⟨some (i, i64 e.2.1), ?_, ?_⟩
      · simp [Instr.findNow, mkE, Instr.sameNow, h]
      · exact ⟨by simp [iget, h], 0, e, rfl, rfl, h⟩
    · obtain ⟨r, h1, h2⟩ := find_i kd l k (i + 1)
      have hne : ¬ k = e.1 := fun x => h x.symm
      refine ⟨r, ?_, ?_⟩
      · simp only [List.map_cons, Instr.findNow, mkE, Instr.sameNow, if_true]
        have : (k == e.1) = false := by simpa using hne
        rw [this]
        exact h1
      · cases r with
        | none => exact ⟨fun x hx => by rcases List.mem_cons.1 hx with rfl | hx; exact h; exact h2.1 x hx, by simp [iget, h, h2.2]⟩
        | some p =>
          obtain ⟨j, v⟩ := p
          obtain ⟨h3, q, e', h4, h5, h6⟩ := h2
          exact ⟨by simp [iget, h, h3], q + 1, e', by omega, by simpa using h5, h6⟩
def mapI (r : Nat) (l : List IE) (clock : Nat) : Res := blk r (.map (l.map mkE).toArray clock)

section
variable {c : Cx} {m : List (Nat × Value)} {rs k : List Res} {K : Act → World → Prop} {d t : Nat} {pos : String} {af : Array Edge} {g : Option (Nat × Bool)}
theorem op_lookupI {T KT ET : TypeId} {x y : Operand} {r : Nat} {key : Int} {l : List IE} {clock : Nat} (hx : ev m x = some (.map (some r))) (hy : ev m y = some (i64 key)) (hT : c.P.underlying T = some (.map KT ET)) (hK : c.P.underlying KT = some (.int .i64))
    (hz : ∀ w, (zeroValue ET).run c.P w = .ok (i64 0) w) (hp : Pull (mapI r l clock) rs k) (hn : Nat.blt d c.n = true) (h : At c ((d, i64 (iget l key)) :: m) rs K) : At c m rs (fun a w => Op1 c.P ⟨some d, .lookup T x y false, t, pos, af, g⟩ a w K) :=
  fun a w hs hh => op1_run (v := i64 (iget l key)) (w' := w) (by intros; simp) (run_v (by
    have hb : w.heap[r]? = some (.map (l.map mkE).toArray clock) := (hh.pull hp).good.holds _ (List.mem_cons_self ..)
    obtain ⟨res, h1, h2⟩ := find_i .i64 l key 0
    have hf := run_findKey (P := c.P) (w := w) hK h1
    have hck := run_checkKey (P := c.P) (w := w) (k := i64 key) hK (by simp [IsKey]) (l.map mkE).toArray.isEmpty 9999
    simp only [hs.eval hx, hs.eval hy, Instr.lookup, Sem.run_bind, run_underlying hT, Result.andThen_ok, run_getObj_map hb, Sem.run_pure, hck, hf]
    cases res with
    | none => simp [hz, h2.2]
    | some p => obtain ⟨j, v⟩ := p; simp [h2.1])) (h _ _ (hs.put hn) hh)
end
end SL
