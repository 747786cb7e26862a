/- Slices, builds, copies. -/
import Derived.Test.YteckdahgkkmlaaaDoorSLUns
import Derived.Laws.AppendOwn
import Derived.Laws.MakeOwn
import Derived.Laws.OwnMore
import Derived.Laws.BytesString
namespace SL
open Go

/-- what is asked of an element's type -/
structure ET (P : Program) (E : TypeId) (sz bytes : Nat) (z : Value) : Prop where
  ex : ∃ i : TypeInfo, P.info? E = some i ∧ i.zero = some z ∧ i.size = sz ∧ i.bytes = bytes
  zs : z.cells.size = sz
  pos : 0 < sz

/-- a slice's own array, whose first cells are xs -/
def ownS (ad : Option Addr) (cap : Nat) (xs : List Value) (E : TypeId) (sz : Nat) : Res where
  fp := fun k => ∃ a : Addr, ad = some a ∧ a.block = k
  holds := fun w => match ad with
    | none => xs = [] ∧ cap = 0
    | some a => a.off = 0 ∧ a.spot = none ∧ cap ≤ maxLen ∧ ∃ cur : Array Value, w.heap[a.block]? = some (.cells cur E (0, 0)) ∧ cur.size = cap * sz ∧ cur.toList.take xs.length = xs
  loc := fun w w' h hk => by
    cases ad with
    | none => exact h
    | some a =>
      obtain ⟨h1, h2, h3, cur, h4, h5, h6⟩ := h
      exact ⟨h1, h2, h3, cur, (hk a.block ⟨a, rfl, rfl⟩).trans h4, h5, h6⟩
  bnd := fun w k h hk => by
    obtain ⟨a, rfl, rfl⟩ := hk
    obtain ⟨h1, h2, h3, cur, h4, h5, h6⟩ := h
    exact (Array.getElem?_eq_some_iff.1 h4).1

theorem cells_u8 (x : UInt8) : (u8 x).cells = #[u8 x] := rfl
theorem cells_u16 (x : UInt16) : (u16 x).cells = #[u16 x] := rfl
theorem cells_u32 (x : UInt32) : (u32 x).cells = #[u32 x] := rfl
theorem cells_u64 (x : UInt64) : (u64 x).cells = #[u64 x] := rfl
theorem cells_str (l : List UInt8) : (str l).cells = #[str l] := rfl
theorem one_u8 (x : UInt8) : (u8 x).oneCell' = true := rfl
theorem one_u16 (x : UInt16) : (u16 x).oneCell' = true := rfl
theorem one_u32 (x : UInt32) : (u32 x).oneCell' = true := rfl
theorem one_u64 (x : UInt64) : (u64 x).oneCell' = true := rfl
theorem one_str (l : List UInt8) : (str l).oneCell' = true := rfl
theorem take_le {cur : List Value} {xs : List Value} (h : cur.take xs.length = xs) : xs.length ≤ cur.length := by
  have := congrArg List.length h
  simp at this
  omega

theorem Hp.swap1 {G : List (Nat × Obj)} {w0 w w' : World} {S : Nat → Prop} {k : List Res} {r r' : Res} (h : Hp G w0 S (r :: k) w)
    (hos : w'.os = w.os) (htape : w'.tape = w.tape) (hout : w'.output = w.output) (hsize : w.heap.size ≤ w'.heap.size)
    (hne : ∀ j, j < w.heap.size → ¬ r.fp j → w'.heap[j]? = w.heap[j]?) (hr : r'.holds w') (hfr : ∀ b, r'.fp b → r.fp b ∨ w.heap.size ≤ b) : Hp G w0 S (r' :: k) w' := by
  have hp : Hp G w0 S ([r] ++ k) w := h
  refine hp.call (rs' := [r']) (w' := w') ⟨⟨hos, htape, hout, hsize, fun j hj hS => hne j hj fun e => hS ⟨_, List.mem_singleton.2 rfl, e⟩⟩, ⟨fun p hp' => ?_, ?_, ?_, ?_⟩, ?_⟩
  · have hg := h.good.glob p hp'
    rw [hne p.1 (Array.getElem?_eq_some_iff.1 hg).1 (fun e => h.good.gfp _ (List.mem_cons_self ..) p.1 e p hp' rfl)]; exact hg
  · intro s hs b hb p hp'
    rcases List.mem_singleton.1 hs with rfl
    rcases hfr b hb with h1 | h1
    · exact h.good.gfp _ (List.mem_cons_self ..) b h1 p hp'
    · have := (Array.getElem?_eq_some_iff.1 (h.good.glob p hp')).1; omega
  · intro s hs
    rcases List.mem_singleton.1 hs with rfl
    exact hr
  · exact List.pairwise_singleton _ _
  · intro s hs b hb
    rcases List.mem_singleton.1 hs with rfl
    rcases hfr b hb with h1 | h1
    · exact .inl ⟨_, List.mem_singleton.2 rfl, h1⟩
    · exact .inr h1

/-- another word for the same memory -/
theorem Hp.same {G : List (Nat × Obj)} {w0 w : World} {S : Nat → Prop} {k : List Res} {r r' : Res} (h : Hp G w0 S (r :: k) w) (hr : r.holds w → r'.holds w) (hf : ∀ b, r'.fp b → r.fp b) : Hp G w0 S (r' :: k) w :=
  h.swap1 rfl rfl rfl (Nat.le_refl _) (fun _ _ _ => rfl) (hr (h.good.holds _ (List.mem_cons_self ..))) (fun b hb => .inl (hf b hb))

section
variable {c : Cx} {m : List (Nat × Value)} {rs k : List Res} {K : Act → World → Prop} {d t : Nat} {pos : String} {af : Array Edge} {g : Option (Nat × Bool)}

theorem At.same {r r' : Res} (hp : Pull r rs k) (hr : ∀ w, r.holds w → r'.holds w) (hf : ∀ b, r'.fp b → r.fp b) (h : At c m (r' :: k) K) : At c m rs K :=
  fun a w hs hh => h a w hs ((hh.pull hp).same (hr w) hf)
/-- the nil slice owns nothing -/
theorem At.own0 (E : TypeId) (sz : Nat) (h : At c m (ownS none 0 [] E sz :: rs) K) : At c m rs K := by
  intro a w hs hh
  refine h a w hs ⟨hh.upd, ⟨hh.good.glob, ?_, ?_, List.pairwise_cons.2 ⟨?_, hh.good.disj⟩⟩, ?_⟩
  · intro r hr b hb
    rcases List.mem_cons.1 hr with rfl | hr
    · obtain ⟨a, ha, _⟩ := hb; cases ha
    · exact hh.good.gfp r hr b hb
  · intro r hr
    rcases List.mem_cons.1 hr with rfl | hr
    · exact ⟨rfl, rfl⟩
    · exact hh.good.holds r hr
  · intro r _ b hb; obtain ⟨a, ha, _⟩ := hb; cases ha
  · intro r hr b hb
    rcases List.mem_cons.1 hr with rfl | hr
    · obtain ⟨a, ha, _⟩ := hb; cases ha
    · exact hh.fresh r hr b hb
/-- a row as a slice's array -/
theorem At.row_own {b n sz : Nat} {cs : List Value} {E : TypeId} (hp : Pull (row b cs E (0, 0)) rs k) (hl : cs.length = n * sz) (hn : n ≤ maxLen) (h : At c m (ownS (some ⟨b, 0, none⟩) n cs E sz :: k) K) : At c m rs K :=
  At.same (r' := ownS (some ⟨b, 0, none⟩) n cs E sz) hp (fun w hw => ⟨rfl, rfl, hn, cs.toArray, hw, by simpa using hl, by simp⟩) (fun x hx => by obtain ⟨a, ha, hb⟩ := hx; cases ha; exact hb.symm) h

theorem ownS_cell {w : World} {b cap sz : Nat} {xs : List Value} {E : TypeId} (h : (ownS (some ⟨b, 0, none⟩) cap xs E sz).holds w) {off : Nat} {v : Value} (hv : xs[off]? = some v) : w.cell? ⟨b, off, none⟩ = some v := by
  obtain ⟨_, _, _, cur, h4, h5, h6⟩ := h
  have hlt := (List.getElem?_eq_some_iff.1 hv).1
  rw [← h6, List.getElem?_take] at hv
  rw [if_pos hlt] at hv
  have h4' : w.heap[b]? = some (.cells cur E (0, 0)) := h4
  simp only [World.cell?, h4']
  simpa using hv

/-- an element is read -/
theorem op_loadO {T : TypeId} {x : Operand} {b off cap sz : Nat} {xs : List Value} {E : TypeId} {v : Value} (hx : ev m x = some (ptr b off)) (ha : ∀ w, (isAgg T).run c.P w = .ok false w) (hp : Pull (ownS (some ⟨b, 0, none⟩) cap xs E sz) rs k)
    (hv : xs[off]? = some v) (hn : Nat.blt d c.n = true) (h : At c ((d, v) :: m) rs K) : At c m rs (fun a w => Op1 c.P ⟨some d, .load T x, t, pos, af, g⟩ a w K) :=
  fun a w hs hh => op1_run (v := v) (w' := w) (by intros; simp)
    (run_v (by simp [hs.eval hx, Instr.loadAt, Instr.sureAddr, loadVar, ha, Go.load, Sem.run, ownS_cell ((hh.pull hp).good.holds _ (List.mem_cons_self ..)) hv])) (h _ _ (hs.put hn) hh)

/-- an element is stored -/
theorem op_storeO {T : TypeId} {x y : Operand} {b off cap sz : Nat} {xs xs' : List Value} {E : TypeId} {v : Value} (hx : ev m x = some (ptr b off)) (hy : ev m y = some v) (hs' : ∀ w, (Go.sizeOf T).run c.P w = .ok 1 w)
    (h1 : v.cells = #[v]) (h2 : v.oneCell' = true) (hp : Pull (ownS (some ⟨b, 0, none⟩) cap xs E sz) rs k) (hset : SetAt xs off v xs')
    (h : At c m (ownS (some ⟨b, 0, none⟩) cap xs' E sz :: k) K) : At c m rs (fun a w => Op1 c.P ⟨none, .store T x y, t, pos, af, g⟩ a w K) := by
  intro a w hs hh
  have hh1 := hh.pull hp
  obtain ⟨_, _, h3, cur, h4, h5, h6⟩ := hh1.good.holds _ (List.mem_cons_self ..)
  have h4' : w.heap[b]? = some (.cells cur E (0, 0)) := h4
  have hle := take_le h6
  have hlt : off < cur.size := by have := hset.spec.1; simp at hle; omega
  have hc : w.cell? ⟨b, off, none⟩ = some cur[off] := by simp [World.cell?, h4', hlt]
  have hf : w.frozen? ⟨b, off, none⟩ = false := by simp [World.frozen?, h4']
  have hst : ∀ k' : Sem Unit, (Sem.store .plain ⟨b, off, none⟩ v k').run c.P w = k'.run c.P (w.setCell ⟨b, off, none⟩ v) := fun k' => by
    cases v <;> first | (simp [Value.oneCell'] at h2; done) | simp [Sem.run, hc, hf]
  have hb' : (w.setCell ⟨b, off, none⟩ v).heap[b]? = some (.cells (cur.setIfInBounds off v) E (0, 0)) := by
    simp only [World.setCell, Array.getElem?_modify, h4']
    simp
  refine op1_skip (w' := w.setCell ⟨b, off, none⟩ v) (by intros; simp)
    (by simp [execOp, hs.eval hx, hs.eval hy, Instr.storeAt, Instr.sureAddr, storeVar, hs', h1, storeCells, Addr.add_lit, Go.store, hst])
    (h _ _ hs (hh1.swap1 rfl rfl rfl (by simp) (fun j _ hj => RowKit.Below.heap_setCell _ _ _ _ (fun e => hj ⟨_, rfl, e.symm⟩)) ⟨rfl, rfl, h3, _, hb', by simpa using h5, ?_⟩ (fun x hx => .inl hx)))
  rw [← hset.spec.2, List.length_set, Array.toList_setIfInBounds, List.take_set, h6]

/-- append of cells that lie in a block of their own -/
theorem op_append {T E : TypeId} {x y : Operand} {ad : Option Addr} {n cap sz bytes q cq b2 : Nat} {fr : Nat × Nat} {E' : TypeId} {xs ys : List Value} {z : Value} {k2 : List Res} (hx : ev m x = some (.slice ad n cap)) (hy : ev m y = some (slc b2 0 q cq))
    (hT : c.P.underlying T = some (.slice E)) (hE : ET c.P E sz bytes z) (hp : Pull (ownS ad cap xs E sz) rs k) (hp2 : Pull (row b2 ys E' fr) k k2)
    (hxl : xs.length = n * sz) (hyl : ys.length = q * sz) (hq : 0 < q) (h1 : ∀ v ∈ ys, v.oneCell' = true) (hbig : (n + q) * bytes ≤ 140737488355328) (hbig2 : n + q ≤ 9223372036854775807) (hn : Nat.blt d c.n = true)
    (h : ∀ ad' cap', n + q ≤ cap' → At c ((d, .slice ad' (n + q) cap') :: m) (ownS ad' cap' (xs ++ ys) E sz :: k) K) : At c m rs (fun a w => Op1 c.P ⟨some d, .call ⟨.builtin .append, #[x, y], #[T, T]⟩, t, pos, af, g⟩ a w K) := by
  intro a w hs hh
  obtain ⟨i, hi, hz, hisz, hib⟩ := hE.ex
  have hh1 := hh.pull hp
  have hh2 : Hp c.G c.w0 c.S (row b2 ys E' fr :: ownS ad cap xs E sz :: k2) w := hh1.perm ((List.Perm.cons _ hp2.perm).trans (List.Perm.swap ..))
  have hnews : ∀ j v, ys[j]? = some v → w.cell? ((⟨b2, 0, none⟩ : Addr).add j) = some v := fun j v hv => by
    rw [Addr.add_lit, Nat.zero_add, hh2.cell]; exact hv
  have run : ∀ v' w', (Builtin.append_ #[T, T] t #[.slice ad n cap, slc b2 0 q cq]).run c.P w = .ok v' w' → (execOp a.eval ⟨some d, .call ⟨.builtin .append, #[x, y], #[T, T]⟩, t, pos, af, g⟩).run c.P w = .ok (.value v') w' := fun v' w' hr => by
    simp [execOp, resolve, invoke, builtin, hs.eval hx, hs.eval hy, hr]
  have hml : n + q ≤ maxLen := by unfold maxLen; omega
  have hnew : ∀ (old : Nat) (cells : List Value), old < n + q → cells = xs ++ ys →
      (ownS (some ⟨w.heap.size, 0, none⟩) (grownCap w (n + q) old E) (xs ++ ys) E sz).holds (w.drew.alloc (.cells (cells.toArray ++ Builtin.zeroCells z.cells (grownCap w (n + q) old E - (n + q))) E)) := fun old cells _ hcs => by
    have hge := grownCap_ge w (n + q) old E
    refine ⟨rfl, rfl, grownCap_le_maxLen w (n + q) old E hml, (cells.toArray ++ Builtin.zeroCells z.cells (grownCap w (n + q) old E - (n + q))), ?_, ?_, ?_⟩
    · exact heap_alloc_new w.drew _
    · subst hcs
      simp only [Array.size_append, List.size_toArray, List.length_append, size_zeroCells, hE.zs, hxl, hyl, ← Nat.add_mul]
      congr 1; omega
    · subst hcs
      rw [Array.toList_append]
      exact List.take_left' rfl
  cases ad with
  | none =>
    obtain ⟨hx0, hc0⟩ := hh1.good.holds _ (List.mem_cons_self ..)
    have hn0 : n = 0 := by
      have h0 : n * sz = 0 := by rw [← hxl, hx0]; rfl
      rcases Nat.mul_eq_zero.1 h0 with h0 | h0
      · exact h0
      · have := hE.pos; omega
    subst hx0 hc0 hn0
    have hr := run_append_nil (P := c.P) w T t E i z hT hi hz ⟨b2, 0, none⟩ q cq ys (by rw [hisz]; exact hyl) hnews hq (by omega) (by rw [hib]; simp only [Nat.zero_add] at hbig; omega)
    have hnw := hnew 0 ([] ++ ys) (by omega) rfl
    simp only [Nat.zero_add] at hnw h ⊢
    simp only [List.nil_append] at hnw
    refine op1_run (by intros; simp) (run _ _ hr) (h _ _ (grownCap_ge w q 0 E) _ _ (hs.put hn) (hh1.swap1 rfl rfl rfl (by simp) (fun j hj _ => heap_alloc_old w.drew _ j hj) hnw (fun b hb => ?_)))
    obtain ⟨a, ha, hb⟩ := hb; cases ha; exact .inr (by rw [← hb]; exact Nat.le_refl _)
  | some ad =>
    obtain ⟨b, off, spot⟩ := ad
    obtain ⟨h3a, h3b, h3, cur, h4, h5, h6⟩ := hh1.good.holds _ (List.mem_cons_self ..)
    have h3a' : off = 0 := h3a
    have h3b' : spot = none := h3b
    subst h3a' h3b'
    have h4' : w.heap[b]? = some (.cells cur E (0, 0)) := h4
    by_cases hroom : n + q ≤ cap
    · have hfit : n * i.size + ys.length ≤ cur.size := by rw [hisz, hyl, h5, ← Nat.add_mul]; exact Nat.mul_le_mul_right _ hroom
      have hr := run_append_room (P := c.P) w T t E i hT hi b n cap cur h4' ⟨b2, 0, none⟩ q cq ys (by rw [hisz]; exact hyl) hnews h1 hroom hfit
      refine op1_run (by intros; simp) (run _ _ hr) (h _ _ hroom _ _ (hs.put hn) (hh1.swap1 rfl rfl rfl (by simp [World.setRow]) (fun j _ hj => setRow_other w b j _ (fun e => hj ⟨_, rfl, e.symm⟩)) ⟨rfl, rfl, h3, _, setRow_heap w b cur _ E _ h4', ?_, ?_⟩ (fun x hx => .inl hx)))
      · simp only [List.size_toArray, List.length_append, List.length_take, List.length_drop, Array.length_toList]
        omega
      · rw [hisz, ← hxl, h6]
        exact List.take_left' rfl
    · have holds : ∀ j u, xs[j]? = some u → w.cell? ((⟨b, 0, none⟩ : Addr).add j) = some u := fun j u hu => by
        rw [Addr.add_lit, Nat.zero_add]; exact ownS_cell (hh1.good.holds _ (List.mem_cons_self ..)) hu
      have hr := run_append_grow (P := c.P) w T t E i z hT hi hz ⟨b, 0, none⟩ n cap xs (by rw [hisz]; exact hxl) holds ⟨b2, 0, none⟩ q cq ys (by rw [hisz]; exact hyl) hnews (by omega) (by omega) (growslice_fits (by omega) (by rw [hib]; exact hbig))
      have hnw := hnew cap (xs ++ ys) (by omega) rfl
      have he : (xs ++ ys).toArray = xs.toArray ++ ys.toArray := by simp
      rw [he] at hnw
      refine op1_run (by intros; simp) (run _ _ hr) (h _ _ (grownCap_ge w (n + q) cap E) _ _ (hs.put hn) (hh1.swap1 rfl rfl rfl (by simp) (fun j hj _ => heap_alloc_old w.drew _ j hj) hnw (fun x hx => ?_)))
      obtain ⟨a, ha, hb⟩ := hx; cases ha; exact .inr (by rw [← hb]; exact Nat.le_refl _)

/-- a literal slice: its array is new -/
theorem op_buildSlice {T E : TypeId} {n : Nat} {parts : List (Nat × Operand)} {vs : List (Nat × Value)} {cs : List Value} (hv : evp m parts = some vs)
    (hb : ∀ w, (Instr.buildSlice T n vs.toArray).run c.P w = .ok (slc w.heap.size 0 n n) (w.alloc (.cells cs.toArray E))) (hn : Nat.blt d c.n = true)
    (h : ∀ b, At c ((d, slc b 0 n n) :: m) (row b cs E (0, 0) :: rs) K) : At c m rs (fun a w => Op1 c.P ⟨some d, .buildSlice T n parts.toArray, t, pos, af, g⟩ a w K) :=
  fun a w hs hh => op1_run (by intros; simp) (run_v (by
    have he : (parts.toArray.map fun (i, x) => (i, a.eval x)) = vs.toArray := by rw [List.map_toArray, hs.evalp hv]
    show (Instr.buildSlice T n (parts.toArray.map fun (i, x) => (i, a.eval x))).run c.P w = _
    rw [he]; exact hb w)) (h _ _ _ (hs.put hn) (hh.new _))

def enumF : Nat → List Value → List (Nat × Value)
  | _, [] => []
  | k, v :: vs => (k, v) :: enumF (k + 1) vs
theorem fill_enum : ∀ (vs : List Value) (k : Nat) (cs : Array Value), cs.size = k + vs.length → (∀ v ∈ vs, v.cells = #[v]) → Instr.fill (fun i => some (i * 1, 1)) cs (enumF k vs) = some (cs.toList.take k ++ vs).toArray
  | [], k, cs, h, _ => by
    simp only [enumF, Instr.fill, List.append_nil]
    rw [List.take_of_length_le (by simp at h ⊢; omega)]
  | v :: vs, k, cs, h, h1 => by
    have hv := h1 v (List.mem_cons_self ..)
    simp only [List.length_cons] at h
    have ih := fill_enum vs (k + 1) (cs.setIfInBounds k v) (by simp; omega) (fun u hu => h1 u (List.mem_cons_of_mem _ hu))
    have e : (v.cells.zipIdx.foldl (fun cs (c, j) => cs.setIfInBounds (k * 1 + j) c) cs) = cs.setIfInBounds k v := by
      rw [hv]; simp
    have c1 : (v.cells.size ≠ 1 || decide (k * 1 + v.cells.size > cs.size)) = false := by
      rw [hv]; simp; omega
    simp only [enumF, Instr.fill]
    rw [if_neg (by rw [c1]; decide), e, ih]
    congr 2
    have hk : k < cs.toList.length := by simp; omega
    rw [Array.toList_setIfInBounds, List.take_succ_eq_append_getElem (by simpa using hk), List.take_set, List.getElem_set_self, List.set_eq_of_length_le (by simp; omega)]
    simp
/-- a literal slice of one-cell elements -/
theorem op_buildSlice1 {T E : TypeId} {n bytes : Nat} {parts : List (Nat × Operand)} {ps : List (Nat × Value)} {z : Value} (cs : List Value) (hv : evp m parts = some ps) (hps : ps = enumF 0 cs) (hT : c.P.underlying T = some (.slice E)) (hE : ET c.P E 1 bytes z)
    (hl : cs.length = n) (hn24 : n ≤ 16777216) (h1 : ∀ v ∈ cs, v.cells = #[v]) (hn : Nat.blt d c.n = true)
    (h : ∀ b, At c ((d, slc b 0 n n) :: m) (row b cs E (0, 0) :: rs) K) : At c m rs (fun a w => Op1 c.P ⟨some d, .buildSlice T n parts.toArray, t, pos, af, g⟩ a w K) := by
  intro a w hs hh
  obtain ⟨i, hi, hz, hisz, hib⟩ := hE.ex
  have he : (parts.toArray.map fun (i, x) => (i, a.eval x)) = ps.toArray := by rw [List.map_toArray, hs.evalp hv]
  have hrun : (Instr.buildSlice T n ps.toArray).run c.P w = .ok (slc w.heap.size 0 n n) (w.alloc (.cells cs.toArray E)) := by
    have hf : ∀ cells : Array Value, cells.size = n → Instr.fill (fun i => some (i * 1, 1)) cells ps = some cs.toArray := fun cells hc => by
      rw [hps, fill_enum cs 0 cells (by rw [hc, hl]; simp) h1]; simp
    have h24 : ¬ (n * 1 > 2 ^ 24) := by omega
    simp only [Instr.buildSlice, Sem.run_bind, run_underlying hT, Result.andThen_ok, Go.sizeOf, typeInfo, Sem.run_pure]
    have hinfo : (Go.program).run c.P w = .ok c.P w := rfl
    simp only [hinfo, Result.andThen_ok, hi, Sem.run_pure, hisz, h24, if_false]
    by_cases hn0 : n = 0
    · subst hn0
      simp only [Nat.zero_mul, if_true, Sem.run_bind, Sem.run_pure, Result.andThen_ok]
      rw [hf _ (by simp)]
      simp [newRow, newObj, Sem.run]
    · have hn1 : ¬ (n * 1 = 0) := by omega
      simp only [hn1, if_false, Sem.run_bind, zeroValue, typeInfo, hinfo, Result.andThen_ok, hi, Sem.run_pure, hz]
      rw [hf _ (by simp)]
      simp [newRow, newObj, Sem.run]
  exact op1_run (by intros; simp) (run_v (by
    show (Instr.buildSlice T n (parts.toArray.map fun (i, x) => (i, a.eval x))).run c.P w = _
    rw [he]; exact hrun)) (h _ _ _ (hs.put hn) (hh.new _))

/-- a struct or an array put together -/
theorem op_build {T : TypeId} {parts : List (Nat × Operand)} {vs : List (Nat × Value)} {v : Value} (hv : evp m parts = some vs)
    (hb : ∀ w, (Instr.build T vs.toArray).run c.P w = .ok v w) (hn : Nat.blt d c.n = true)
    (h : At c ((d, v) :: m) rs K) : At c m rs (fun a w => Op1 c.P ⟨some d, .build T parts.toArray, t, pos, af, g⟩ a w K) :=
  fun a w hs hh => op1_run (by intros; simp) (run_v (by
    have he : (parts.toArray.map fun (i, x) => (i, a.eval x)) = vs.toArray := by rw [List.map_toArray, hs.evalp hv]
    show (Instr.build T (parts.toArray.map fun (i, x) => (i, a.eval x))).run c.P w = _
    rw [he]; exact hb w)) (h _ _ (hs.put hn) hh)

/-- make([]T, n) -/
theorem op_make {T E : TypeId} {x : Operand} {n sz bytes : Nat} {kd : IntKind} {z : Value} (hx : ev m x = some (.int kd n)) (hT : c.P.underlying T = some (.slice E)) (hE : ET c.P E sz bytes z) (hbig : bytes * n ≤ 281474976710656) (hbig2 : n ≤ 9223372036854775807) (hbig3 : n * sz ≤ 16777216)
    (hn : Nat.blt d c.n = true) (h : ∀ b, At c ((d, slc b 0 n n) :: m) (ownS (some ⟨b, 0, none⟩) n (madeCells z.cells (n * sz)).toList E sz :: rs) K) : At c m rs (fun a w => Op1 c.P ⟨some d, .makeSlice T x x, t, pos, af, g⟩ a w K) := by
  intro a w hs hh
  obtain ⟨i, hi, hz, hisz, hib⟩ := hE.ex
  have hr := run_makeSlice (P := c.P) w T E i z hT hi hz kd kd n n (by omega) (by omega) (by rw [hisz, Int.toNat_natCast]; exact hbig3) (by rw [hib, ← Int.natCast_mul]; omega) (by omega)
  rw [hisz] at hr
  simp only [Int.toNat_natCast] at hr
  refine op1_run (by intros; simp) (run_v (by rw [hs.eval hx]; exact hr)) (h w.heap.size _ _ (hs.put hn) ((hh.new _).same (fun hw => ⟨rfl, rfl, by unfold maxLen; omega, _, hw, by simp [madeCells], ?_⟩) (fun b hb => ?_)))
  · exact List.take_of_length_le (by simp)
  · obtain ⟨a, ha, hb⟩ := hb; cases ha; exact hb.symm

/-- string(b) -/
theorem foldl_push (l : List UInt8) : ∀ s : ByteArray, (l.map fun b => (b.toNat : Int)).foldl (fun r n => r.push (UInt8.ofNat n.toNat)) s = ⟨(s.data.toList ++ l).toArray⟩ := by
  induction l with
  | nil => intro s; apply ByteArray.ext; simp
  | cons x l ih =>
    intro s
    rw [List.map_cons, List.foldl_cons, ih]
    apply ByteArray.ext
    simp [ByteArray.push]
theorem run_b2s {P : Program} {w : World} {a : Addr} {l : List UInt8} {n : Nat} (hl : (loadCells a n).run P w = .ok (l.map u8).toArray w) (cap : Nat) : (Conv.bytesToString (.slice (some a) n cap)).run P w = .ok (str l) w := by
  have h := run_bytesToString (P := P) w a n cap (l.map fun b => (b.toNat : Int)) (by
    rw [hl, List.map_map]; rfl)
  rw [foldl_push] at h
  simpa [str] using h
theorem conv_b2s {P : Program} {S T E : TypeId} {w : World} {ad : Option Addr} {n cap : Nat} {v : Value} (hS : P.underlying S = some (.slice E)) (hT : P.underlying T = some .string) (hE : P.underlying E = some (.int .u8))
    (h : (Conv.bytesToString (.slice ad n cap)).run P w = .ok v w) : (convert S T (.slice ad n cap)).run P w = .ok v w := by
  cases ad <;> simp [convert, run_underlying hS, run_underlying hT, run_underlying hE, h]

/-- string(b), b a slice's own array -/
theorem op_b2sO {S T E : TypeId} {x : Operand} {ad : Option Addr} {n cap : Nat} {l : List UInt8} (hx : ev m x = some (.slice ad n cap)) (hS : c.P.underlying S = some (.slice E)) (hT : c.P.underlying T = some .string) (hE : c.P.underlying E = some (.int .u8))
    (hp : Pull (ownS ad cap (l.map u8) E 1) rs k) (hl : l.length = n) (hn : Nat.blt d c.n = true) (h : At c ((d, str l) :: m) rs K) : At c m rs (fun a w => Op1 c.P ⟨some d, .convert S T x, t, pos, af, g⟩ a w K) := by
  intro a w hs hh
  suffices hr : (Conv.bytesToString (.slice ad n cap)).run c.P w = .ok (str l) w from
    op1_run (by intros; simp) (run_v (by rw [hs.eval hx]; exact conv_b2s hS hT hE hr)) (h _ _ (hs.put hn) hh)
  have hown := (hh.pull hp).good.holds _ (List.mem_cons_self ..)
  cases ad with
  | none =>
    have h0 : l.map u8 = [] := hown.1
    have h1 : l = [] := by simpa using h0
    subst h1
    rfl
  | some ad =>
    obtain ⟨b, off, spot⟩ := ad
    have h3a : off = 0 := hown.1
    have h3b : spot = none := hown.2.1
    subst h3a h3b
    refine run_b2s ?_ _
    rw [← hl, ← List.length_map (f := u8)]
    exact run_loadCells_list (P := c.P) w ⟨b, 0, none⟩ (l.map u8) (fun j v hv => by rw [Addr.add_lit, Nat.zero_add]; exact ownS_cell hown hv)
/-- string(b), b a part of a row -/
theorem op_b2sR {S T E E' : TypeId} {x : Operand} {b off n cap : Nat} {cs : List Value} {fr : Nat × Nat} {l : List UInt8} (hx : ev m x = some (slc b off n cap)) (hS : c.P.underlying S = some (.slice E)) (hT : c.P.underlying T = some .string) (hE : c.P.underlying E = some (.int .u8))
    (hp : Pull (row b cs E' fr) rs k) (hl : (cs.drop off).take n = l.map u8) (hl2 : l.length = n) (hn : Nat.blt d c.n = true) (h : At c ((d, str l) :: m) rs K) : At c m rs (fun a w => Op1 c.P ⟨some d, .convert S T x, t, pos, af, g⟩ a w K) := by
  intro a w hs hh
  exact op1_run (by intros; simp) (run_v (by rw [hs.eval hx]; exact conv_b2s hS hT hE (run_b2s (run_loadCells_row (P := c.P) (hh.pull hp) off n _ hl (by simpa using hl2)) _))) (h _ _ (hs.put hn) hh)

/-! #### slices of slices and of arrays -/
theorem op_sl_arr {T E : TypeId} {x z : Operand} {kd : IntKind} {b off len sz : Nat} {j : Int} (hx : ev m x = some (ptr b off)) (hz : ev m z = some (.int kd j)) (hu : c.P.underlying T = some (.array len E)) (hs' : ∀ w, (Go.sizeOf E).run c.P w = .ok sz w) (h0 : 0 ≤ j) (h1 : j ≤ (len : Int))
    (hn : Nat.blt d c.n = true) (h : At c ((d, slc b off j.toNat len) :: m) rs K) : At c m rs (fun a w => Op1 c.P ⟨some d, .slice T x none (some z) none, t, pos, af, g⟩ a w K) :=
  op_pure (by intros; simp) (fun a w hs => run_v (by
    simp [hs.eval hx, hs.eval hz, Instr.sliceAt, Instr.sureAddr, Instr.sliceBounds, run_underlying hu, hs', run_bound (P := c.P) (kd := kd) (y := len) h0 h1, Addr.add_lit])) hn h
theorem op_sl_arr_lo {T E : TypeId} {x y : Operand} {kd : IntKind} {b off len sz : Nat} {i : Int} (hx : ev m x = some (ptr b off)) (hy : ev m y = some (.int kd i)) (hu : c.P.underlying T = some (.array len E)) (hs' : ∀ w, (Go.sizeOf E).run c.P w = .ok sz w) (h0 : 0 ≤ i) (h1 : i < (len : Int))
    (hn : Nat.blt d c.n = true) (h : At c ((d, slc b (off + i.toNat * sz) (len - i.toNat) (len - i.toNat)) :: m) rs K) : At c m rs (fun a w => Op1 c.P ⟨some d, .slice T x (some y) none none, t, pos, af, g⟩ a w K) :=
  op_pure (by intros; simp) (fun a w hs => run_v (by
    have hne : ¬ (len = i.toNat) := by omega
    simp [hs.eval hx, hs.eval hy, Instr.sliceAt, Instr.sureAddr, Instr.sliceBounds, run_underlying hu, hs', run_bound (P := c.P) (kd := kd) (y := len) h0 (by omega), hne, Addr.add_lit])) hn h
theorem op_sl_arr_all {T E : TypeId} {x : Operand} {b off len sz : Nat} (hx : ev m x = some (ptr b off)) (hu : c.P.underlying T = some (.array len E)) (hs' : ∀ w, (Go.sizeOf E).run c.P w = .ok sz w)
    (hn : Nat.blt d c.n = true) (h : At c ((d, slc b off len len) :: m) rs K) : At c m rs (fun a w => Op1 c.P ⟨some d, .slice T x none none none, t, pos, af, g⟩ a w K) :=
  op_pure (by intros; simp) (fun a w hs => run_v (by
    simp [hs.eval hx, Instr.sliceAt, Instr.sureAddr, Instr.sliceBounds, run_underlying hu, hs', Addr.add_lit])) hn h

/-- min of two whole numbers -/
theorem op_min {x y : Operand} {tys : Array TypeId} {kd : IntKind} {p q : Int} (hx : ev m x = some (.int kd p)) (hy : ev m y = some (.int kd q)) (hn : Nat.blt d c.n = true) (h : At c ((d, .int kd (if q < p then q else p)) :: m) rs K) :
    At c m rs (fun a w => Op1 c.P ⟨some d, .call ⟨.builtin .min, #[x, y], tys⟩, t, pos, af, g⟩ a w K) :=
  op_pure (by intros; simp) (fun a w hs => by simp [execOp, resolve, invoke, builtin, hs.eval hx, hs.eval hy, Builtin.min_, Builtin.min2]) hn h
theorem op_max {x y : Operand} {tys : Array TypeId} {kd : IntKind} {p q : Int} (hx : ev m x = some (.int kd p)) (hy : ev m y = some (.int kd q)) (hn : Nat.blt d c.n = true) (h : At c ((d, .int kd (if p < q then q else p)) :: m) rs K) :
    At c m rs (fun a w => Op1 c.P ⟨some d, .call ⟨.builtin .max, #[x, y], tys⟩, t, pos, af, g⟩ a w K) :=
  op_pure (by intros; simp) (fun a w hs => by simp [execOp, resolve, invoke, builtin, hs.eval hx, hs.eval hy, Builtin.max_, Builtin.max2]) hn h
theorem op_makeFunc {f : FuncId} {xs ys : List Operand} {us vs : List Value} (hx : evs m xs = some us) (hy : evs m ys = some vs) (hn : Nat.blt d c.n = true) (h : At c ((d, .func (.func f) us.toArray vs.toArray) :: m) rs K) :
    At c m rs (fun a w => Op1 c.P ⟨some d, .makeFunc (.func f) xs.toArray ys.toArray, t, pos, af, g⟩ a w K) :=
  op_pure (by intros; simp) (fun a w hs => by simp [execOp, hs.evals hx, hs.evals hy, Instr.makeFunc]) hn h
end
end SL
