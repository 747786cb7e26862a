/- Copies, package variables, closures in draws. -/
import Derived.Test.YteckdahgkkmlaaaDoorSLSli
import Derived.Laws.CopyRow
import Derived.Lib.BufferWrite
namespace SL
open Go

section
variable {c : Cx} {m : List (Nat × Value)} {rs k : List Res} {K : Act → World → Prop} {d t : Nat} {pos : String} {af : Array Edge} {g : Option (Nat × Bool)}

/-- a closure that answers v and leaves nothing -/
theorem op_callC1 {f : Operand} {fid : Nat} {fs cap all : List Value} {args : List Operand} {tys : Array TypeId} {vs : List Value} {v : Value}
    (hf : ev m f = some (.func (.func fid) fs.toArray cap.toArray)) (ha : evs m args = some vs) (hcall : ∀ a w, (callFunc fid a).run c.P w = .ok (.enter fid a) w)
    (hall : fs ++ vs ++ cap = all) (hfn : Does c.P c.G fid all [] (One v)) (hn : Nat.blt d c.n = true)
    (h : At c ((d, v) :: m) rs K) : At c m rs (fun a w => Op1 c.P ⟨some d, .call ⟨.value f, args.toArray, tys⟩, t, pos, af, g⟩ a w K) :=
  op_callC hf ha hcall hall hfn .nil hn (fun u us hu => by obtain ⟨h1, h2⟩ := hu; subst h1; subst h2; exact h)

/-- copy within one row -/
theorem op_copySame {x y : Operand} {S T E E' : TypeId} {b o dl dc o2 sl sc : Nat} {cs us : List Value} (hx : ev m x = some (slc b o dl dc)) (hy : ev m y = some (slc b o2 sl sc)) (hS : c.P.underlying S = some (.slice E)) (hE : (c.P.info? E).map (·.size) = some 1)
    (hp : Pull (row b cs E' (0, 0)) rs k) (hus : (cs.drop o2).take (Nat.min sl dl) = us) (hl : us.length = Nat.min sl dl) (hfit : o + us.length ≤ cs.length) (h1 : ∀ v ∈ us, v.oneCell' = true) (hn : Nat.blt d c.n = true)
    (h : At c ((d, i64 us.length) :: m) (row b (cs.take o ++ us ++ cs.drop (o + us.length)) E' (0, 0) :: k) K) : At c m rs (fun a w => Op1 c.P ⟨some d, .call ⟨.builtin .copy, #[x, y], #[S, T]⟩, t, pos, af, g⟩ a w K) := by
  intro a w hs hh
  have hh1 := hh.pull hp
  have hb : w.heap[b]? = some (.cells cs.toArray E' (0, 0)) := hh1.good.holds _ (List.mem_cons_self ..)
  have hr := run_copy_row (P := c.P) w S T t E b o dl dc ⟨b, o2, none⟩ sl sc cs.toArray E' us hS hE hb hl (fun j v hv => by
    rw [Addr.add_lit, hh1.cell]
    rw [← hus, List.getElem?_take] at hv
    split at hv
    · rw [List.getElem?_drop] at hv; exact hv
    · cases hv) (by simpa using hfit) h1
  refine op1_run (w' := w.setRow b (cs.take o ++ us ++ cs.drop (o + us.length)).toArray) (by intros; simp) (by simp [execOp, resolve, invoke, builtin, hs.eval hx, hs.eval hy, hr]; rfl) (h _ _ (hs.put hn) (hh1.turn rfl rfl rfl ?_ (setRow_heap w b cs.toArray _ E' (0, 0) hb) (fun j hj => setRow_other w b j _ hj)))
  simp [World.setRow]

/-- a package variable of several cells is read -/
theorem op_loadGlob {T : TypeId} {gl n : Nat} {us : List Value} (hcell : ∀ w : World, (∀ p ∈ c.G, w.heap[p.1]? = some p.2) → ∀ j v, us[j]? = some v → w.cell? ⟨gl, j, none⟩ = some v) (ha : ∀ w, (isAgg T).run c.P w = .ok true w) (hs' : ∀ w, (Go.sizeOf T).run c.P w = .ok n w)
    (hl : us.length = n) (hn : Nat.blt d c.n = true) (h : At c ((d, .agg us.toArray) :: m) rs K) :
    At c m rs (fun a w => Op1 c.P ⟨some d, .load T (.global gl), t, pos, af, g⟩ a w K) :=
  fun a w hs hh => op1_run (v := .agg us.toArray) (w' := w) (by intros; simp)
    (run_v (by
      have hr := run_loadCells_list (P := c.P) w ⟨gl, 0, none⟩ us (fun j v hv => by rw [Addr.add_lit, Nat.zero_add]; exact hcell w hh.good.glob j v hv)
      rw [hl] at hr
      simp [Act.eval, Instr.loadAt, Instr.sureAddr, loadVar, ha, hs', hr])) (h _ _ (hs.put hn) hh)

theorem un_neg {P : Program} {n : Int} (h1 : -9223372036854775808 ≤ -n) (h2 : -n ≤ 9223372036854775807) (w : World) : (Op.unary .neg (i64 n)).run P w = .ok (i64 (-n)) w := by
  simp [Op.unary, Op.intArith, wrap_i64 h1 h2]
theorem made_u8 (n : Nat) : (madeCells (Value.int .u8 0).cells (n * 1)).toList = (List.replicate n (0 : UInt8)).map u8 := by
  apply List.ext_getElem
  · simp [madeCells]
  · intro i h1 h2
    simp [madeCells, Value.cells, u8, Nat.mod_one]
theorem mget (l : List UInt32) (i j : Nat) (h : j = i) (hi : i < l.length) : (l.map u32)[j]? = some (u32 (l.getD i 0)) := by
  subst h
  rw [List.getElem?_map, List.getElem?_eq_getElem hi, List.getD_eq_getElem?_getD, List.getElem?_eq_getElem hi]
  rfl
theorem mgetA (l : List UInt32) (i j : Nat) (h : j = i) (hi : i < l.length) : (l.map u32).toArray[j]? = some (u32 (l.getD i 0)) := by
  rw [List.getElem?_toArray]; exact mget l i j h hi
theorem bget (l : List UInt8) (r : List Value) (i j : Nat) (h : j = i) (hi : i < l.length) : (l.map u8 ++ r)[j]? = some (u8 (l.getD i 0)) := by
  subst h
  rw [List.getElem?_append_left (by simpa using hi), List.getElem?_map, List.getElem?_eq_getElem hi, List.getD_eq_getElem?_getD, List.getElem?_eq_getElem hi]
  rfl
theorem mset (l : List UInt32) (i j : Nat) (x : UInt32) (h : j = i) (hi : i < l.length) : SetAt (l.map u32) j (u32 x) ((l.set i x).map u32) := by
  subst h
  exact SetAt.of (by simpa using hi) (by rw [List.map_set])
theorem bset (l : List UInt8) (i j : Nat) (x : UInt8) (h : j = i) (hi : i < l.length) : SetAt (l.map u8) j (u8 x) ((l.set i x).map u8) := by
  subst h
  exact SetAt.of (by simpa using hi) (by rw [List.map_set])
end
end SL
