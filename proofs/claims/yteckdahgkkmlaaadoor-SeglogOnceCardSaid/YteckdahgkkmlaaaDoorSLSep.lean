/- Composite resources; quiet calls; loads and stores by what a resource says; clear, make(map). -/
import Derived.Test.YteckdahgkkmlaaaDoorSLEqs
import Derived.Test.YteckdahgkkmlaaaDoorSLMap
import Derived.Test.YteckdahgkkmlaaaDoorSLDrawX
import Derived.Laws.LoneSync
import Derived.Lib.SliceRun
namespace SL
open Go

/-! ### many as one -/
def sep (l : List Res) : Res where
  fp := fpAll l
  holds := fun w => (∀ r ∈ l, r.holds w) ∧ l.Pairwise Res.apart
  loc := fun w w' h hk => ⟨fun r hr => r.loc w w' (h.1 r hr) fun b hb => hk b ⟨r, hr, hb⟩, h.2⟩
  bnd := fun w b h hb => by obtain ⟨r, hr, hb⟩ := hb; exact r.bnd w b (h.1 r hr) hb

theorem Hp.open {G : List (Nat × Obj)} {w0 w : World} {S : Nat → Prop} {l k : List Res} (h : Hp G w0 S (sep l :: k) w) : Hp G w0 S (l ++ k) w := by
  obtain ⟨hl, hp⟩ := h.good.holds _ (List.mem_cons_self ..)
  have hd := List.pairwise_cons.1 h.good.disj
  refine ⟨h.upd, ⟨h.good.glob, fun r hr b hb => ?_, fun r hr => ?_, List.pairwise_append.2 ⟨hp, hd.2, fun r hr s hs b h1 h2 => hd.1 s hs b ⟨r, hr, h1⟩ h2⟩⟩, fun r hr b hb => ?_⟩
  · rcases List.mem_append.1 hr with hr | hr
    · exact h.good.gfp _ (List.mem_cons_self ..) b ⟨r, hr, hb⟩
    · exact h.good.gfp r (List.mem_cons_of_mem _ hr) b hb
  · rcases List.mem_append.1 hr with hr | hr
    · exact hl r hr
    · exact h.good.holds r (List.mem_cons_of_mem _ hr)
  · rcases List.mem_append.1 hr with hr | hr
    · exact h.fresh _ (List.mem_cons_self ..) b ⟨r, hr, hb⟩
    · exact h.fresh r (List.mem_cons_of_mem _ hr) b hb
theorem Hp.close {G : List (Nat × Obj)} {w0 w : World} {S : Nat → Prop} {l k : List Res} (h : Hp G w0 S (l ++ k) w) : Hp G w0 S (sep l :: k) w := by
  obtain ⟨h1, h2, h3⟩ := List.pairwise_append.1 h.good.disj
  refine ⟨h.upd, ⟨h.good.glob, fun r hr b hb => ?_, fun r hr => ?_, List.pairwise_cons.2 ⟨fun s hs b hb h4 => ?_, h2⟩⟩, fun r hr b hb => ?_⟩
  · rcases List.mem_cons.1 hr with rfl | hr
    · obtain ⟨r, hr, hb⟩ := hb; exact h.good.gfp r (List.mem_append_left _ hr) b hb
    · exact h.good.gfp r (List.mem_append_right _ hr) b hb
  · rcases List.mem_cons.1 hr with rfl | hr
    · exact ⟨fun s hs => h.good.holds s (List.mem_append_left _ hs), h1⟩
    · exact h.good.holds r (List.mem_append_right _ hr)
  · obtain ⟨r, hr, hb⟩ := hb; exact h3 r hr s hs b hb h4
  · rcases List.mem_cons.1 hr with rfl | hr
    · obtain ⟨r, hr, hb⟩ := hb; exact h.fresh r (List.mem_append_left _ hr) b hb
    · exact h.fresh r (List.mem_append_right _ hr) b hb
/-- two as one, in other words -/
theorem Hp.merge {G : List (Nat × Obj)} {w0 w : World} {S : Nat → Prop} {r1 r2 r : Res} {k : List Res} (h : Hp G w0 S (r1 :: r2 :: k) w) (hr : ∀ w, r1.holds w → r2.holds w → Res.apart r1 r2 → r.holds w) (hf : ∀ b, r.fp b → r1.fp b ∨ r2.fp b) : Hp G w0 S (r :: k) w := by
  have hc : Hp G w0 S (sep [r1, r2] :: k) w := Hp.close (l := [r1, r2]) h
  refine hc.same (fun hs => ?_) (fun b hb => ?_)
  · have h1 := hs.1
    have h2 := List.pairwise_cons.1 hs.2
    exact hr w (h1 _ (by simp)) (h1 _ (by simp)) (h2.1 _ (by simp))
  · rcases hf b hb with h1 | h1
    · exact ⟨r1, by simp, h1⟩
    · exact ⟨r2, by simp, h1⟩

section
variable {c : Cx} {m : List (Nat × Value)} {rs k : List Res} {K : Act → World → Prop} {d t : Nat} {pos : String} {af : Array Edge} {g : Option (Nat × Bool)}
theorem At.open {l : List Res} (hp : Pull (sep l) rs k) (h : At c m (l ++ k) K) : At c m rs K := fun a w hs hh => h a w hs (hh.pull hp).open
theorem At.close (l : List Res) {k : List Res} (hp : Cut l rs k) (h : At c m (sep l :: k) K) : At c m rs K := fun a w hs hh => h a w hs (hh.cut hp).close
theorem At.merge {r1 r2 r : Res} {k2 : List Res} (hp1 : Pull r1 rs k) (hp2 : Pull r2 k k2) (hr : ∀ w, r1.holds w → r2.holds w → Res.apart r1 r2 → r.holds w) (hf : ∀ b, r.fp b → r1.fp b ∨ r2.fp b) (h : At c m (r :: k2) K) : At c m rs K :=
  fun a w hs hh => h a w hs (((hh.pull hp1).perm (List.Perm.cons _ hp2.perm)).merge hr hf)
/-- what a resource says is known -/
theorem At.knows {r : Res} {p : Prop} (hp : Pull r rs k) (hr : ∀ w, r.holds w → p) (h : p → At c m rs K) : At c m rs K :=
  fun a w hs hh => h (hr w ((hh.pull hp).good.holds _ (List.mem_cons_self ..))) a w hs hh

/-- a call that leaves all as it was -/
theorem op_callQ {fid : Nat} {args : List Operand} {tys : Array TypeId} {vs : List Value} {pre : List Res} {v : Value}
    (ha : evs m args = some vs) (hcall : ∀ a w, (callFunc fid a).run c.P w = .ok (.enter fid a) w) (hfn : Does c.P c.G fid vs pre (OneR v pre)) (hc : Cut pre rs k) (hn : Nat.blt d c.n = true)
    (h : At c ((d, v) :: m) rs K) : At c m rs (fun a w => Op1 c.P ⟨some d, .call ⟨.value (.func fid), args.toArray, tys⟩, t, pos, af, g⟩ a w K) :=
  op_callR ha hcall hfn hc hn (fun a w hs hh => h a w hs (hh.perm hc.perm.symm))
theorem op_callQC {f : Operand} {fid : Nat} {fs cap all : List Value} {args : List Operand} {tys : Array TypeId} {vs : List Value} {pre : List Res} {v : Value}
    (hf : ev m f = some (.func (.func fid) fs.toArray cap.toArray)) (ha : evs m args = some vs) (hcall : ∀ a w, (callFunc fid a).run c.P w = .ok (.enter fid a) w)
    (hall : fs ++ vs ++ cap = all) (hfn : Does c.P c.G fid all pre (OneR v pre)) (hc : Cut pre rs k) (hn : Nat.blt d c.n = true)
    (h : At c ((d, v) :: m) rs K) : At c m rs (fun a w => Op1 c.P ⟨some d, .call ⟨.value f, args.toArray, tys⟩, t, pos, af, g⟩ a w K) :=
  op_callC (post := OneR v pre) hf ha hcall hall hfn hc hn (fun u us hu => by obtain ⟨h1, h2⟩ := hu; subst h1; subst h2; exact fun a w hs hh => h a w hs (hh.perm hc.perm.symm))
/-- .. of the library's, without a body, that reads -/
theorem op_extR {fid : Nat} {args : List Operand} {tys : Array TypeId} {vs : List Value} {v : Value} {r : Res} (ha : evs m args = some vs) (hp : Pull r rs k)
    (hrun : ∀ w, r.holds w → (callFunc fid vs.toArray).run c.P w = .ok (.value v) w) (hn : Nat.blt d c.n = true)
    (h : At c ((d, v) :: m) rs K) : At c m rs (fun a w => Op1 c.P ⟨some d, .call ⟨.value (.func fid), args.toArray, tys⟩, t, pos, af, g⟩ a w K) :=
  fun a w hs hh => op1_run (by intros; simp) (by simp [execOp, resolve, Act.eval, hs.evals ha, Deferred.ofValue, invoke, hrun w ((hh.pull hp).good.holds _ (List.mem_cons_self ..))]) (h _ _ (hs.put hn) hh)

/-- a cell is read of which a resource tells -/
theorem op_loadG {T : TypeId} {x : Operand} {b off : Nat} {v : Value} (r : Res) (hx : ev m x = some (ptr b off)) (ha : ∀ w, (isAgg T).run c.P w = .ok false w) (hp : Pull r rs k) (hr : ∀ w, r.holds w → w.cell? ⟨b, off, none⟩ = some v)
    (hn : Nat.blt d c.n = true) (h : At c ((d, v) :: m) rs K) : At c m rs (fun a w => Op1 c.P ⟨some d, .load T x, t, pos, af, g⟩ a w K) :=
  fun a w hs hh => op1_run (v := v) (w' := w) (by intros; simp)
    (run_v (by simp [hs.eval hx, Instr.loadAt, Instr.sureAddr, loadVar, ha, Go.load, Sem.run, hr w ((hh.pull hp).good.holds _ (List.mem_cons_self ..))])) (h _ _ (hs.put hn) hh)
/-- a part of a row that is a struct or an array -/
theorem op_loadP {T : TypeId} {x : Operand} {b off n : Nat} {cs us : List Value} {E : TypeId} {fr : Nat × Nat} (hx : ev m x = some (ptr b off)) (ha : ∀ w, (isAgg T).run c.P w = .ok true w) (hs' : ∀ w, (Go.sizeOf T).run c.P w = .ok n w)
    (hp : Pull (row b cs E fr) rs k) (hv : (cs.drop off).take n = us) (hl : us.length = n) (hn : Nat.blt d c.n = true) (h : At c ((d, .agg us.toArray) :: m) rs K) :
    At c m rs (fun a w => Op1 c.P ⟨some d, .load T x, t, pos, af, g⟩ a w K) := op_loadA hx ha hs' hp hv hl hn h
/-- a cell is stored of which a resource tells -/
theorem op_storeG {T : TypeId} {x y : Operand} {b off : Nat} {v : Value} (r r' : Res) (hx : ev m x = some (ptr b off)) (hy : ev m y = some v) (hs' : ∀ w, (Go.sizeOf T).run c.P w = .ok 1 w)
    (h1 : v.cells = #[v]) (h2 : v.oneCell' = true) (hp : Pull r rs k) (hr : ∀ w, r.holds w → (∃ u, w.cell? ⟨b, off, none⟩ = some u) ∧ w.frozen? ⟨b, off, none⟩ = false ∧ r'.holds (w.setCell ⟨b, off, none⟩ v)) (hb : r.fp b) (hf : ∀ b', r'.fp b' → r.fp b')
    (h : At c m (r' :: k) K) : At c m rs (fun a w => Op1 c.P ⟨none, .store T x y, t, pos, af, g⟩ a w K) :=
  fun a w hs hh => by
    obtain ⟨⟨u, hc⟩, hfz, hr'⟩ := hr w ((hh.pull hp).good.holds _ (List.mem_cons_self ..))
    have hst : ∀ k' : Sem Unit, (Sem.store .plain ⟨b, off, none⟩ v k').run c.P w = k'.run c.P (w.setCell ⟨b, off, none⟩ v) := fun k' => by
      cases v <;> first | (simp [Value.oneCell'] at h2; done) | simp [Sem.run, hc, hfz]
    exact op1_skip (w' := w.setCell ⟨b, off, none⟩ v) (by intros; simp)
      (by simp [execOp, hs.eval hx, hs.eval hy, Instr.storeAt, Instr.sureAddr, storeVar, hs', h1, storeCells, Addr.add_lit, Go.store, hst])
      (h _ _ hs ((hh.pull hp).swap1 rfl rfl rfl (by simp) (fun j _ hj => RowKit.Below.heap_setCell _ _ _ _ (fun e => hj (by subst e; exact hb))) hr' (fun b' hb' => .inl (hf b' hb'))))
/-- clear(s), all of a row -/
theorem op_clearG {T E : TypeId} {x : Operand} {b n cp : Nat} {z : Value} {cs : List Value} {TE : TypeId} (r r' : Res) (hx : ev m x = some (slc b 0 n cp)) (hu : c.P.underlying T = some (.slice E)) (hv : ∀ w, (zeroValue E).run c.P w = .ok z w) (hz : z.cells = #[z]) (h1 : z.oneCell' = true) (hn : 0 < n) (hcn : cs.length = n)
    (hp : Pull r rs k) (hr : ∀ w, r.holds w → w.heap[b]? = some (.cells cs.toArray TE (0, 0)) ∧ ∀ w', w'.heap[b]? = some (.cells (List.replicate n z).toArray TE (0, 0)) → (∀ j, j ≠ b → w'.heap[j]? = w.heap[j]?) → r'.holds w') (hb : r.fp b) (hf : ∀ b', r'.fp b' → r.fp b')
    (h : At c m (r' :: k) K) : At c m rs (fun a w => Op1 c.P ⟨none, .call ⟨.builtin .clear, #[x], #[T]⟩, t, pos, af, g⟩ a w K) :=
  fun a w hs hh => by
    obtain ⟨hb0, hr'⟩ := hr w ((hh.pull hp).good.holds _ (List.mem_cons_self ..))
    have hst := run_storeCells_from (P := c.P) b TE (List.replicate n z) 0 cs.toArray w hb0 (by simp; omega) (fun v hv' => by rw [List.eq_of_mem_replicate hv']; exact h1)
    simp only [List.take_zero, List.nil_append] at hst
    have hzc : (Builtin.zeroCells z.cells n).toList = List.replicate n z := by
      rw [hz]
      simp [Builtin.zeroCells]
      apply List.ext_getElem
      · simp
      · intro i h1 h2
        simp [Nat.mod_one]
    have hlt := (Array.getElem?_eq_some_iff.1 hb0).1
    obtain ⟨q, rfl⟩ : ∃ q, n = q + 1 := ⟨n - 1, by omega⟩
    refine op1_run (v := .tuple #[]) (w' := w.setRow b (List.replicate (q + 1) z).toArray) (by intros; simp) ?_ (h a _ hs ((hh.pull hp).swap1 rfl rfl rfl (by simp [World.setRow]) (fun j _ hj => setRow_other w b j _ (fun e => hj (by subst e; exact hb))) (hr' _ (setRow_heap w b cs.toArray _ TE (0, 0) hb0) (fun j hj => setRow_other w b j _ hj)) (fun b' hb' => .inl (hf b' hb'))))
    simp [execOp, resolve, invoke, builtin, hs.eval hx, Builtin.clear_, run_underlying hu, hv, hzc, hst]

/-- make(map) -/
theorem op_makeMapI {T : TypeId} (hn : Nat.blt d c.n = true) (h : ∀ r, At c ((d, .map (some r)) :: m) (mapI r [] 0 :: rs) K) : At c m rs (fun a w => Op1 c.P ⟨some d, .makeMap T none, t, pos, af, g⟩ a w K) :=
  fun a w hs hh => op1_run (v := .map (some w.heap.size)) (w' := w.alloc (.map #[] 0)) (by intros; simp) (run_v rfl) (h _ _ _ (hs.put hn) (hh.new _))
end
theorem At.app6 {c : Cx} {m : List (Nat × Value)} {rs : List Res} {K : Act → World → Prop} {r1 r2 r3 r4 r5 r6 : Res} (h : At c m (r1 :: r2 :: r3 :: r4 :: r5 :: r6 :: rs) K) : At c m ([r1, r2, r3, r4, r5, r6] ++ rs) K := h
theorem op_sl_slc {c : Cx} {m : List (Nat × Value)} {rs : List Res} {K : Act → World → Prop} {d t : Nat} {pos : String} {af : Array Edge} {g : Option (Nat × Bool)} {T E : TypeId} {x z : Operand} {kd : IntKind} {b off len cp sz : Nat} {j : Int} (hx : ev m x = some (slc b off len cp)) (hz : ev m z = some (.int kd j)) (hu : c.P.underlying T = some (.slice E)) (hs' : ∀ w, (Go.sizeOf E).run c.P w = .ok sz w) (h0 : 0 ≤ j) (h1 : j ≤ (cp : Int))
    (hn : Nat.blt d c.n = true) (h : At c ((d, slc b off j.toNat cp) :: m) rs K) : At c m rs (fun a w => Op1 c.P ⟨some d, .slice T x none (some z) none, t, pos, af, g⟩ a w K) :=
  op_pure (by intros; simp) (fun a w hs => run_v (by
    simp [hs.eval hx, hs.eval hz, Instr.sliceAt, Instr.slice, Instr.sliceBounds, run_underlying hu, hs', run_bound (P := c.P) (kd := kd) (y := cp) h0 h1, Addr.add_lit])) hn h
theorem cut_all : ∀ (RS : List Res), Cut RS RS []
  | [] => .nil
  | _ :: RS => .cons .here (cut_all RS)
theorem At.app_nil {c : Cx} {m : List (Nat × Value)} {RS : List Res} {K : Act → World → Prop} (h : At c m RS K) : At c m (RS ++ []) K := by rw [List.append_nil]; exact h
section
variable {P : Program} {T : TypeId} {x y : Operand}
/-- max, min of u64 -/
theorem op_maxU {c : Cx} {m : List (Nat × Value)} {rs : List Res} {K : Act → World → Prop} {d t : Nat} {pos : String} {af : Array Edge} {g : Option (Nat × Bool)} {tys : Array TypeId} {p q : UInt64} (hx : ev m x = some (u64 p)) (hy : ev m y = some (u64 q)) (hn : Nat.blt d c.n = true) (h : At c ((d, u64 (if p < q then q else p)) :: m) rs K) :
    At c m rs (fun a w => Op1 c.P ⟨some d, .call ⟨.builtin .max, #[x, y], tys⟩, t, pos, af, g⟩ a w K) := by
  have e : u64 (if p < q then q else p) = .int .u64 (if (p.toNat : Int) < q.toNat then q.toNat else p.toNat) := by
    by_cases hpq : p < q
    · rw [if_pos hpq, if_pos (by have := UInt64.lt_iff_toNat_lt.1 hpq; omega)]; rfl
    · rw [if_neg hpq, if_neg (by intro hlt; exact hpq (UInt64.lt_iff_toNat_lt.2 (by omega)))]; rfl
  exact op_max hx hy hn (by rw [e] at h; exact h)
end
/-- an aggregate is read of which a resource tells -/
theorem op_loadGA {c : Cx} {m : List (Nat × Value)} {rs k : List Res} {K : Act → World → Prop} {d t : Nat} {pos : String} {af : Array Edge} {g : Option (Nat × Bool)} {T : TypeId} {x : Operand} {b off n : Nat} {us : List Value} (r : Res) (hx : ev m x = some (ptr b off)) (ha : ∀ w, (isAgg T).run c.P w = .ok true w) (hs' : ∀ w, (Go.sizeOf T).run c.P w = .ok n w)
    (hp : Pull r rs k) (hr : ∀ w, r.holds w → ∀ j v, us[j]? = some v → w.cell? ⟨b, off + j, none⟩ = some v) (hl : us.length = n) (hn : Nat.blt d c.n = true) (h : At c ((d, .agg us.toArray) :: m) rs K) :
    At c m rs (fun a w => Op1 c.P ⟨some d, .load T x, t, pos, af, g⟩ a w K) :=
  fun a w hs hh => op1_run (v := .agg us.toArray) (w' := w) (by intros; simp)
    (run_v (by
      have := run_loadCells_list (P := c.P) w ⟨b, off, none⟩ us (fun j v hv => by rw [Addr.add_lit]; exact hr w ((hh.pull hp).good.holds _ (List.mem_cons_self ..)) j v hv)
      rw [hl] at this
      simp [hs.eval hx, Instr.loadAt, Instr.sureAddr, loadVar, ha, hs', this])) (h _ _ (hs.put hn) hh)
end SL
