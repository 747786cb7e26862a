/- Maps from whole numbers to whole numbers: an entry is put. -/
import Derived.Test.YteckdahgkkmlaaaDoorSLSep
namespace SL
open Go Go.MapKept
def iput : List IE → Int → Int → Nat → List IE
  | [], k, v, c => [(k, v, c)]
  | e :: l, k, v, c => if e.1 = k then (e.1, v, e.2.2) :: l else e :: iput l k v c
def ihas : List IE → Int → Bool
  | [], _ => false
  | e :: l, k => if e.1 = k then true else ihas l k
theorem iget_iput : ∀ (l : List IE) (k v : Int) (c : Nat) (k' : Int), iget (iput l k v c) k' = if k' = k then v else iget l k'
  | [], k, v, c, k' => by
    by_cases h : k = k'
    · subst h; simp [iput, iget]
    · simp [iput, iget, h, Ne.symm h]
  | e :: l, k, v, c, k' => by
    have ih := iget_iput l k v c k'
    by_cases h : e.1 = k
    · by_cases h2 : e.1 = k'
      · subst h; subst h2; simp [iput, iget]
      · subst h; simp [iput, iget, h2, Ne.symm h2]
    · by_cases h2 : e.1 = k'
      · subst h2; simp [iput, iget, h]
      · simp [iput, iget, h, h2, ih]
theorem find_put (kd : IntKind) (v : Int) (c : Nat) : ∀ (l : List IE) (k : Int) (i : Nat),
    (Instr.findNow (.int kd) (i64 k) (l.map mkE) i = some none ∧ ihas l k = false ∧ iput l k v c = l ++ [(k, v, c)]) ∨
    (∃ q u e, Instr.findNow (.int kd) (i64 k) (l.map mkE) i = some (some (i + q, u)) ∧ l[q]? = some e ∧ e.1 = k ∧ ihas l k = true ∧ (l.map mkE).modify q (fun x => { x with key := i64 k, val := i64 v }) = (iput l k v c).map mkE)
  | [], k, i => .inl ⟨rfl, rfl, rfl⟩
  | e :: l, k, i => by
    by_cases h : e.1 = k
    · right
      refine ⟨0, i64 e.2.1, e, ?_, rfl, h, by simp [ihas, h], ?_⟩
      · simp [Instr.findNow, mkE, Instr.sameNow, h]
      · subst h; simp [iput, mkE]
    · have hne : (k == e.1) = false := by simpa using fun x => h x.symm
      have hstep : Instr.findNow (.int kd) (i64 k) ((e :: l).map mkE) i = Instr.findNow (.int kd) (i64 k) (l.map mkE) (i + 1) := by
        simp only [List.map_cons, Instr.findNow, mkE, Instr.sameNow, if_true]
        rw [hne]
      rcases find_put kd v c l k (i + 1) with ⟨h1, h2, h3⟩ | ⟨q, u, e', h1, h2, h3, h4, h5⟩
      · left
        exact ⟨by rw [hstep, h1], by simp [ihas, h, h2], by simp [iput, h, h3]⟩
      · right
        refine ⟨q + 1, u, e', by rw [hstep, h1, show i + 1 + q = i + (q + 1) by omega], by simpa using h2, h3, by simp [ihas, h, h4], ?_⟩
        simp only [List.map_cons, List.modify_succ_cons, iput, if_neg h, h5]

section
variable {c : Cx} {m : List (Nat × Value)} {rs k : List Res} {K : Act → World → Prop} {d t : Nat} {pos : String} {af : Array Edge} {g : Option (Nat × Bool)}
theorem op_mapUpdateI {T KT ET : TypeId} {x y z : Operand} {r : Nat} {key v : Int} {l : List IE} {clock : Nat} (hx : ev m x = some (.map (some r))) (hy : ev m y = some (i64 key)) (hz : ev m z = some (i64 v)) (hT : c.P.underlying T = some (.map KT ET)) (hK : c.P.underlying KT = some (.int .i64))
    (hp : Pull (mapI r l clock) rs k) (h : At c m (mapI r (iput l key v clock) (if ihas l key then clock else clock + 1) :: k) K) : At c m rs (fun a w => Op1 c.P ⟨none, .mapUpdate T x y z, t, pos, af, g⟩ a w K) := by
  intro a w hs hh
  have hh1 := hh.pull hp
  have hb : w.heap[r]? = some (.map (l.map mkE).toArray clock) := hh1.good.holds _ (List.mem_cons_self ..)
  have hck := run_checkKey (P := c.P) (w := w) (k := i64 key) hK (by simp [IsKey]) false 9999
  have hlt := (Array.getElem?_eq_some_iff.1 hb).1
  have hfin : ∀ (es : Array MapEntry) (cl : Nat), es = ((iput l key v clock).map mkE).toArray → cl = (if ihas l key then clock else clock + 1) → Hp c.G c.w0 c.S (mapI r (iput l key v clock) (if ihas l key then clock else clock + 1) :: k) { w with heap := w.heap.setIfInBounds r (.map es cl) } := by
    intro es cl he hc
    subst he hc
    exact Hp.turn (o := .map (l.map mkE).toArray clock) hh1 rfl rfl rfl (by simp) (by simp [hlt]) (fun j hj => by simp [Ne.symm hj])
  rcases find_put .i64 v clock l key 0 with ⟨h1, h2, h3⟩ | ⟨q, u, e, h1, h2, h3, h4, h5⟩
  · have hf := run_findKey (P := c.P) (w := w) hK h1
    refine op1_skip (w' := _) (by intros; simp) ?_ (h _ _ hs (hfin ((l.map mkE).toArray.push ⟨i64 key, i64 v, clock⟩) (clock + 1) (by rw [h3]; simp [mkE]) (by simp [h2])))
    simp [execOp, hs.eval hx, hs.eval hy, hs.eval hz, Instr.mapUpdate, run_underlying hT, run_getObj_map hb, hck, hf, run_setObj_map _ hb]
  · have hf := run_findKey (P := c.P) (w := w) hK h1
    have hj : (l.map mkE).toArray[0 + q]? = some (mkE e) := by simp [h2]
    have hkk : (mkE e).key = i64 key := by simp [mkE, h3]
    refine op1_skip (w' := _) (by intros; simp) ?_ (h _ _ hs (hfin ((l.map mkE).toArray.modify (0 + q) fun x => { x with key := i64 key, val := i64 v }) clock (by rw [← h5, Nat.zero_add]; simp) (by simp [h4])))
    simp [execOp, hs.eval hx, hs.eval hy, hs.eval hz, Instr.mapUpdate, run_underlying hT, run_getObj_map hb, hck, hf, h2, hkk, run_keyThatStays (d := .int .i64) (k := i64 key) (by simp [IsKey]), run_setObj_map _ hb]
end
end SL
