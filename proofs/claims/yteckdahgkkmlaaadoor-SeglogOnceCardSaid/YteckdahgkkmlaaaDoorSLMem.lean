/- Functions, calls, memory. -/
import Derived.Test.YteckdahgkkmlaaaDoorSLOps
import Derived.Laws.Tables
namespace SL
open Go

/-! ### Functions -/
def RetR (G : List (Nat × Obj)) (w0 : World) (S : Nat → Prop) (post : Value → List Res → Prop) : Ending → World → Prop :=
  fun e w' => ∃ v rs', e = .returned v ∧ post v rs' ∧ Hp G w0 S rs' w'

/-- called with vs where pre holds, the function returns v and leaves rs', as post has it; all else lies as it lay -/
def Does (P : Program) (G : List (Nat × Obj)) (f : FuncId) (vs : List Value) (pre : List Res) (post : Value → List Res → Prop) : Prop :=
  ∀ w, Good G pre w → CallsIn Fence.wide 0 P f vs.toArray w (RetR G w (fpAll pre) post)

def num : Nat → List Value → List (Nat × Value)
  | _, [] => []
  | i, v :: vs => (i, v) :: num (i + 1) vs

theorem lk_num : ∀ (vs : List Value) (k i : Nat) (v : Value), lk (num k vs) i = some v → k ≤ i ∧ vs[i - k]? = some v
  | [], _, _, _, h => by cases h
  | u :: vs, k, i, v, h => by
    simp only [num, lk] at h
    cases hb : Nat.beq k i with
    | true =>
      rw [hb] at h
      have := Nat.eq_of_beq_eq_true hb
      subst this
      cases h
      simp
    | false =>
      rw [hb] at h
      obtain ⟨h1, h2⟩ := lk_num vs (k + 1) i v h
      refine ⟨by omega, ?_⟩
      have : i - k = (i - (k + 1)) + 1 := by omega
      rw [this]; simpa using h2

theorem Does.of {P : Program} {G : List (Nat × Obj)} {f : FuncId} {fn : Func} {code : Code} {vs : List Value} {pre : List Res} {post : Value → List Res → Prop} {n : Nat}
    (hf : P.funcs[f]? = some fn) (hb : fn.body = some code) (hn : fn.ntmps = n) (hl : Nat.ble vs.length n = true)
    (h : ∀ w0, At ⟨P, G, n, [], w0, fpAll pre⟩ (num 0 vs) pre (code.wpIn (Fr none) 0 P (bodyPost P fn (RetR G w0 (fpAll pre) post)))) : Does P G f vs pre post := by
  intro w hw
  have hl' : vs.length ≤ n := Nat.le_of_ble_eq_true hl
  refine callsIn_of_wp hf hb trivial (h w _ w ⟨rfl, ?_, ?_⟩ (Hp.start hw))
  · simp [hn]; omega
  · intro i v hv
    obtain ⟨_, h2⟩ := lk_num vs 0 i v hv
    have hi : i < vs.length := by
      rcases Nat.lt_or_ge i vs.length with h3 | h3
      · exact h3
      · simp [List.getElem?_eq_none (l := vs) (i := i) (by omega)] at h2
    simp only [Nat.sub_zero] at h2
    show (vs.toArray ++ _)[i]? = _
    rw [Array.getElem?_append_left (by simpa using hi)]
    simpa using h2

theorem Does.calls {P : Program} {f : FuncId} {vs : List Value} {G : List (Nat × Obj)} {post : Value → List Res → Prop} (h : Does P G f vs [] post) (w : World) (hg : ∀ p ∈ G, w.heap[p.1]? = some p.2) :
    Calls P f vs.toArray w (fun e w' => ∃ v rs', e = .returned v ∧ post v rs' ∧ RowKit.Below w.heap.size w w') := by
  refine (callsIn_wide.1 (h w ⟨hg, by simp, by simp, List.Pairwise.nil⟩)).mono ?_
  rintro e w' ⟨v, rs', he, hp, hh⟩
  exact ⟨v, rs', he, hp, ⟨hh.upd.os, hh.upd.tape, hh.upd.output, hh.upd.size, fun k hk => hh.upd.frame k hk (by rintro ⟨r, hr, _⟩; simp at hr)⟩⟩

theorem Does.mono {P : Program} {G : List (Nat × Obj)} {f : FuncId} {vs : List Value} {pre : List Res} {post post' : Value → List Res → Prop} (h : Does P G f vs pre post) (hp : ∀ v rs, post v rs → post' v rs) : Does P G f vs pre post' :=
  fun w hw => (h w hw).mono fun _ _ ⟨v, rs', he, hpo, hh⟩ => ⟨v, rs', he, hp _ _ hpo, hh⟩

/-- a function that answers v and leaves nothing behind -/
def One (v : Value) : Value → List Res → Prop := fun u rs => u = v ∧ rs = []
/-- .. and leaves rs -/
def OneR (v : Value) (rs : List Res) : Value → List Res → Prop := fun u us => u = v ∧ us = rs

section
variable {c : Cx} {m : List (Nat × Value)} {rs k : List Res} {K : Act → World → Prop} {d t : Nat} {pos : String} {af : Array Edge} {g : Option (Nat × Bool)}

/-- a call whose function value is known -/
theorem op_call {f : Operand} {fid : Nat} {fs cap : Array Value} {args : List Operand} {tys : Array TypeId} {vs : List Value} {pre : List Res} {post : Value → List Res → Prop}
    (hf : ev m f = some (.func (.func fid) fs cap)) (ha : evs m args = some vs) (hcall : ∀ a w, (callFunc fid a).run c.P w = .ok (.enter fid a) w)
    (hfn : Does c.P c.G fid (fs.toList ++ vs ++ cap.toList) pre post) (hc : Cut pre rs k) (hn : Nat.blt d c.n = true)
    (h : ∀ v rs', post v rs' → At c ((d, v) :: m) (rs' ++ k) K) : At c m rs (fun a w => Op1 c.P ⟨some d, .call ⟨.value f, args.toArray, tys⟩, t, pos, af, g⟩ a w K) := by
  intro a w hs hh
  refine ⟨by intros; simp, ?_⟩
  have hrun : (execOp a.eval ⟨some d, .call ⟨.value f, args.toArray, tys⟩, t, pos, af, g⟩).run c.P w = .ok (.enter fid (fs ++ vs.toArray ++ cap)) w := by
    simp [execOp, resolve, hs.eval hf, hs.evals ha, Deferred.ofValue, invoke, hcall]
  rw [hrun]
  have hh' := hh.cut hc
  have hcl := hfn w hh'.good.left
  have harr : (fs.toList ++ vs ++ cap.toList).toArray = fs ++ vs.toArray ++ cap := by simp
  rw [harr] at hcl
  refine ⟨fun hx => by simp [Fence.wide] at hx, hcl.mono ?_⟩
  rintro e w' ⟨v, rs', rfl, hp, hp'⟩
  exact h v rs' hp _ w' (hs.put hn) (hh'.call hp')

/-- a call of a closure -/
theorem op_callC {f : Operand} {fid : Nat} {fs cap all : List Value} {args : List Operand} {tys : Array TypeId} {vs : List Value} {pre : List Res} {post : Value → List Res → Prop}
    (hf : ev m f = some (.func (.func fid) fs.toArray cap.toArray)) (ha : evs m args = some vs) (hcall : ∀ a w, (callFunc fid a).run c.P w = .ok (.enter fid a) w)
    (hall : fs ++ vs ++ cap = all) (hfn : Does c.P c.G fid all pre post) (hc : Cut pre rs k) (hn : Nat.blt d c.n = true)
    (h : ∀ v rs', post v rs' → At c ((d, v) :: m) (rs' ++ k) K) : At c m rs (fun a w => Op1 c.P ⟨some d, .call ⟨.value f, args.toArray, tys⟩, t, pos, af, g⟩ a w K) :=
  op_call hf ha hcall (by rw [← hall] at hfn; simpa using hfn) hc hn h

/-- a call of a function by its name, that answers v and turns nothing -/
theorem op_call1 {fid : Nat} {args : List Operand} {tys : Array TypeId} {vs : List Value} {v : Value}
    (ha : evs m args = some vs) (hcall : ∀ a w, (callFunc fid a).run c.P w = .ok (.enter fid a) w) (hfn : Does c.P c.G fid vs [] (One v)) (hn : Nat.blt d c.n = true)
    (h : At c ((d, v) :: m) rs K) : At c m rs (fun a w => Op1 c.P ⟨some d, .call ⟨.value (.func fid), args.toArray, tys⟩, t, pos, af, g⟩ a w K) :=
  op_call (fs := #[]) (cap := #[]) (post := One v) rfl ha hcall (by simpa using hfn) .nil hn (fun u us hu => by obtain ⟨h1, h2⟩ := hu; subst h1; subst h2; exact h)
/-- .. by its name -/
theorem op_callF {fid : Nat} {args : List Operand} {tys : Array TypeId} {vs : List Value} {pre : List Res} {post : Value → List Res → Prop}
    (ha : evs m args = some vs) (hcall : ∀ a w, (callFunc fid a).run c.P w = .ok (.enter fid a) w) (hfn : Does c.P c.G fid vs pre post) (hc : Cut pre rs k) (hn : Nat.blt d c.n = true)
    (h : ∀ v rs', post v rs' → At c ((d, v) :: m) (rs' ++ k) K) : At c m rs (fun a w => Op1 c.P ⟨some d, .call ⟨.value (.func fid), args.toArray, tys⟩, t, pos, af, g⟩ a w K) :=
  op_call (fs := #[]) (cap := #[]) rfl ha hcall (by simpa using hfn) hc hn h
/-- .. that turns rs0 into rs1 -/
theorem op_callR {fid : Nat} {args : List Operand} {tys : Array TypeId} {vs : List Value} {pre rs1 : List Res} {v : Value}
    (ha : evs m args = some vs) (hcall : ∀ a w, (callFunc fid a).run c.P w = .ok (.enter fid a) w) (hfn : Does c.P c.G fid vs pre (OneR v rs1)) (hc : Cut pre rs k) (hn : Nat.blt d c.n = true)
    (h : At c ((d, v) :: m) (rs1 ++ k) K) : At c m rs (fun a w => Op1 c.P ⟨some d, .call ⟨.value (.func fid), args.toArray, tys⟩, t, pos, af, g⟩ a w K) :=
  op_callF (post := OneR v rs1) ha hcall hfn hc hn (fun u us hu => by obtain ⟨h1, h2⟩ := hu; subst h1; subst h2; exact h)

/-- a call of the library's without a body -/
theorem op_ext {fid : Nat} {args : List Operand} {tys : Array TypeId} {vs : List Value} {v : Value} (ha : evs m args = some vs)
    (hrun : ∀ w, (callFunc fid vs.toArray).run c.P w = .ok (.value v) w) (hn : Nat.blt d c.n = true)
    (h : At c ((d, v) :: m) rs K) : At c m rs (fun a w => Op1 c.P ⟨some d, .call ⟨.value (.func fid), args.toArray, tys⟩, t, pos, af, g⟩ a w K) :=
  op_pure (by intros; simp) (fun a w hs => by simp [execOp, resolve, Act.eval, hs.evals ha, Deferred.ofValue, invoke, hrun]) hn h

/-! ### The end of a function -/
inductive ResEv (c : Cx) (m : List (Nat × Value)) (rs : List Res) : List ResultVar → List Value → Prop
  | nil : ResEv c m rs [] []
  | tmp {t : Nat} {v : Value} {l : List ResultVar} {vs : List Value} (h : lk m t = some v) (hl : ResEv c m rs l vs) : ResEv c m rs (.tmp t :: l) (v :: vs)
  | cell {t T b : Nat} {cs : List Value} {E : TypeId} {fr : Nat × Nat} {v : Value} {k : List Res} {l : List ResultVar} {vs : List Value} (h : lk m t = some (ptr b 0)) (hp : Pull (row b cs E fr) rs k)
      (ha : ∀ w, (isAgg T).run c.P w = .ok false w) (hv : cs[0]? = some v) (hl : ResEv c m rs l vs) : ResEv c m rs (.cell t T :: l) (v :: vs)
  | agg {t T b : Nat} {cs : List Value} {E : TypeId} {fr : Nat × Nat} {k : List Res} {l : List ResultVar} {vs : List Value} {n : Nat} (h : lk m t = some (ptr b 0)) (hp : Pull (row b cs E fr) rs k)
      (ha : ∀ w, (isAgg T).run c.P w = .ok true w) (hn : ∀ w, (Go.sizeOf T).run c.P w = .ok n w) (hl' : cs.length = n) (hl : ResEv c m rs l vs) : ResEv c m rs (.cell t T :: l) (.agg cs.toArray :: vs)

theorem run_loadCells_row {P : Program} {G : List (Nat × Obj)} {w0 w : World} {S : Nat → Prop} {b : Nat} {cs : List Value} {E : TypeId} {fr : Nat × Nat} {k : List Res} (h : Hp G w0 S (row b cs E fr :: k) w)
    (off n : Nat) (us : List Value) (hu : (cs.drop off).take n = us) (hl : us.length = n) : (loadCells ⟨b, off, none⟩ n).run P w = .ok us.toArray w := by
  have := run_loadCells_list (P := P) w ⟨b, off, none⟩ us (fun j v hv => by
    rw [Addr.add_lit, h.cell]
    rw [← hu, List.getElem?_take] at hv
    split at hv
    · rw [List.getElem?_drop] at hv; exact hv
    · cases hv)
  rw [hl] at this
  exact this

def resV (a : Act) : ResultVar → Sem Value
  | .tmp t => pure (a.tmps.getD t undef)
  | .cell x t => do loadVar t (← asAddr (a.tmps.getD x undef))

theorem ResEv.run {l : List ResultVar} {vs : List Value} (h : ResEv c m rs l vs) {a : Act} {w : World} (hs : Slots c.n c.ds m a) (hh : Hp c.G c.w0 c.S rs w) :
    (l.mapM (resV a)).run c.P w = .ok vs w := by
  induction h with
  | nil => simp
  | tmp h hl ih => simp [resV, hs.look _ _ h, ih]
  | cell h hp ha hv hl ih =>
    have hc := (hh.pull hp).cell 0
    simp [resV, hs.look _ _ h, asAddr, loadVar, ha, Go.load, Sem.run, hc, hv, ih]
  | @agg t T b cs E fr k l vs n h hp ha hn hl' hl ih =>
    have hr := run_loadCells_row (P := c.P) (hh.pull hp) 0 n cs (by rw [List.drop_zero, List.take_of_length_le (by omega)]) hl'
    simp [resV, hs.look _ _ h, asAddr, loadVar, ha, hn, hr, ih]

theorem At.fin {fn : Func} {post : Value → List Res → Prop} {l : List ResultVar} {vs : List Value} {v : Value} {rs' : List Res} (e : Exit) (he : e = .ret ∨ e = .normal)
    (hr : fn.results = l.toArray) (hd : c.ds = []) (hl : ResEv c m rs l vs) (hv : (if h : vs.toArray.size = 1 then vs.toArray[0] else .tuple vs.toArray) = v)
    (hp : post v rs') (hc : Cut rs' rs k) : At c m rs (bodyPost c.P fn (RetR c.G c.w0 c.S post) e) := by
  intro a w hs hh
  have hrun : (results fn a.tmps).run c.P w = .ok v w := by
    have := hl.run hs hh
    have he : results fn a.tmps = (do
      let vs ← fn.results.mapM (resV a)
      pure (if h : vs.size = 1 then vs[0] else .tuple vs)) := rfl
    rw [he, hr]
    simp only [List.mapM_toArray, Sem.run_bind, Sem.run_map, this, Result.andThen_ok, Sem.run_pure]
    rw [hv]
  have hb : a.defers = [] ∧ ∃ v, (results fn a.tmps).run c.P w = .ok v w ∧ RetR c.G c.w0 c.S post (.returned v) w :=
    ⟨hs.defers.trans hd, v, hrun, v, rs', rfl, hp, (hh.cut hc).left⟩
  rcases he with rfl | rfl <;> exact hb

theorem At.fin1 {fn : Func} {post : Value → List Res → Prop} {i : Nat} {v : Value} {rs' : List Res} (hr : fn.results = #[.tmp i]) (hd : c.ds = []) (hv : lk m i = some v) (hp : post v rs') (hc : Cut rs' rs k) :
    At c m rs (bodyPost c.P fn (RetR c.G c.w0 c.S post) .ret) := At.fin _ (.inl rfl) (l := [.tmp i]) hr hd (.tmp hv .nil) rfl hp hc
theorem At.fin2 {fn : Func} {post : Value → List Res → Prop} {i j : Nat} {v u : Value} {rs' : List Res} (hr : fn.results = #[.tmp i, .tmp j]) (hd : c.ds = []) (hv : lk m i = some v) (hu : lk m j = some u) (hp : post (.tuple #[v, u]) rs')
    (hc : Cut rs' rs k) : At c m rs (bodyPost c.P fn (RetR c.G c.w0 c.S post) .ret) := At.fin _ (.inl rfl) (l := [.tmp i, .tmp j]) hr hd (.tmp hv (.tmp hu .nil)) rfl hp hc
theorem At.fin3 {fn : Func} {post : Value → List Res → Prop} {i j l : Nat} {v u x : Value} {rs' : List Res} (hr : fn.results = #[.tmp i, .tmp j, .tmp l]) (hd : c.ds = []) (hv : lk m i = some v) (hu : lk m j = some u) (hx : lk m l = some x)
    (hp : post (.tuple #[v, u, x]) rs') (hc : Cut rs' rs k) : At c m rs (bodyPost c.P fn (RetR c.G c.w0 c.S post) .ret) := At.fin _ (.inl rfl) (l := [.tmp i, .tmp j, .tmp l]) hr hd (.tmp hv (.tmp hu (.tmp hx .nil))) rfl hp hc
theorem At.fin0 {fn : Func} {post : Value → List Res → Prop} {rs' : List Res} (e : Exit) (he : e = .ret ∨ e = .normal) (hr : fn.results = #[]) (hd : c.ds = []) (hp : post (.tuple #[]) rs') (hc : Cut rs' rs k) :
    At c m rs (bodyPost c.P fn (RetR c.G c.w0 c.S post) e) := At.fin e he (l := []) hr hd .nil rfl hp hc
/-- one result that lies in memory -/
theorem At.finA {fn : Func} {post : Value → List Res → Prop} {i T b n : Nat} {cs : List Value} {E : TypeId} {fr : Nat × Nat} {k' : List Res} {rs' : List Res} (hr : fn.results = #[.cell i T]) (hd : c.ds = []) (hv : lk m i = some (ptr b 0))
    (hpl : Pull (row b cs E fr) rs k') (ha : ∀ w, (isAgg T).run c.P w = .ok true w) (hn : ∀ w, (Go.sizeOf T).run c.P w = .ok n w) (hl : cs.length = n) (hp : post (.agg cs.toArray) rs') (hc : Cut rs' rs k) :
    At c m rs (bodyPost c.P fn (RetR c.G c.w0 c.S post) .ret) := At.fin _ (.inl rfl) (l := [.cell i T]) hr hd (.agg hv hpl ha hn hl .nil) rfl hp hc

/-! ### Memory -/
theorem op_alloc {T : TypeId} {z : Value} {cs : List Value} (hz : ∀ w, (zeroValue T).run c.P w = .ok z w) (hc : z.cells = cs.toArray) (hn : Nat.blt d c.n = true) (h : ∀ b, At c ((d, ptr b 0) :: m) (row b cs T (0, 0) :: rs) K) :
    At c m rs (fun a w => Op1 c.P ⟨some d, .alloc T, t, pos, af, g⟩ a w K) :=
  fun a w hs hh => op1_run (v := ptr w.heap.size 0) (w' := w.alloc (.cells cs.toArray T)) (by intros; simp)
    (run_v (by simp [Instr.alloc, hz, newVar, newRow, newObj, Sem.run, hc])) (h _ _ _ (hs.put hn) (hh.new _))
theorem op_box {T : TypeId} {x : Operand} {v : Value} {cs : List Value} (hx : ev m x = some v) (hc : v.cells = cs.toArray) (hn : Nat.blt d c.n = true) (h : ∀ b, At c ((d, ptr b 0) :: m) (row b cs T (0, 0) :: rs) K) :
    At c m rs (fun a w => Op1 c.P ⟨some d, .box T x, t, pos, af, g⟩ a w K) :=
  fun a w hs hh => op1_run (v := ptr w.heap.size 0) (w' := w.alloc (.cells cs.toArray T)) (by intros; simp)
    (run_v (by simp [hs.eval hx, Instr.box, newVar, newRow, newObj, Sem.run, hc])) (h _ _ _ (hs.put hn) (hh.new _))

theorem op_load {T : TypeId} {x : Operand} {b off : Nat} {cs : List Value} {E : TypeId} {fr : Nat × Nat} {v : Value} (hx : ev m x = some (ptr b off)) (ha : ∀ w, (isAgg T).run c.P w = .ok false w) (hp : Pull (row b cs E fr) rs k)
    (hv : cs[off]? = some v) (hn : Nat.blt d c.n = true) (h : At c ((d, v) :: m) rs K) : At c m rs (fun a w => Op1 c.P ⟨some d, .load T x, t, pos, af, g⟩ a w K) :=
  fun a w hs hh => op1_run (v := v) (w' := w) (by intros; simp)
    (run_v (by simp [hs.eval hx, Instr.loadAt, Instr.sureAddr, loadVar, ha, Go.load, Sem.run, (hh.pull hp).cell off, hv])) (h _ _ (hs.put hn) hh)
theorem op_loadA {T : TypeId} {x : Operand} {b off n : Nat} {cs us : List Value} {E : TypeId} {fr : Nat × Nat} (hx : ev m x = some (ptr b off)) (ha : ∀ w, (isAgg T).run c.P w = .ok true w) (hs' : ∀ w, (Go.sizeOf T).run c.P w = .ok n w)
    (hp : Pull (row b cs E fr) rs k) (hv : (cs.drop off).take n = us) (hl : us.length = n) (hn : Nat.blt d c.n = true) (h : At c ((d, .agg us.toArray) :: m) rs K) :
    At c m rs (fun a w => Op1 c.P ⟨some d, .load T x, t, pos, af, g⟩ a w K) :=
  fun a w hs hh => op1_run (v := .agg us.toArray) (w' := w) (by intros; simp)
    (run_v (by simp [hs.eval hx, Instr.loadAt, Instr.sureAddr, loadVar, ha, hs', run_loadCells_row (P := c.P) (hh.pull hp) off n us hv hl])) (h _ _ (hs.put hn) hh)
/-- a whole variable -/
theorem op_loadW {T : TypeId} {x : Operand} {b n : Nat} {cs : List Value} {E : TypeId} {fr : Nat × Nat} (hx : ev m x = some (ptr b 0)) (ha : ∀ w, (isAgg T).run c.P w = .ok true w) (hs' : ∀ w, (Go.sizeOf T).run c.P w = .ok n w)
    (hp : Pull (row b cs E fr) rs k) (hl : cs.length = n) (hn : Nat.blt d c.n = true) (h : At c ((d, .agg cs.toArray) :: m) rs K) :
    At c m rs (fun a w => Op1 c.P ⟨some d, .load T x, t, pos, af, g⟩ a w K) :=
  op_loadA hx ha hs' hp (by rw [List.drop_zero, List.take_of_length_le (by omega)]) hl hn h

/-- one cell of a list is set -/
inductive SetAt : List Value → Nat → Value → List Value → Prop
  | zero {x v : Value} {l : List Value} : SetAt (x :: l) 0 v (v :: l)
  | succ {x v : Value} {l l' : List Value} {n : Nat} (h : SetAt l n v l') : SetAt (x :: l) (n + 1) v (x :: l')
theorem SetAt.spec {l l' : List Value} {n : Nat} {v : Value} (h : SetAt l n v l') : n < l.length ∧ l.set n v = l' := by
  induction h with
  | zero => simp
  | succ h ih => exact ⟨by simp; exact ih.1, by rw [List.set_cons_succ, ih.2]⟩
theorem SetAt.of : ∀ {l l' : List Value} {n : Nat} {v : Value}, n < l.length → l.set n v = l' → SetAt l n v l'
  | [], _, _, _, h, _ => by simp at h
  | x :: l, l', 0, v, _, e => by subst e; exact .zero
  | x :: l, l', n + 1, v, h, e => by
    subst e
    rw [List.set_cons_succ]
    exact .succ (SetAt.of (by simpa using h) rfl)

theorem op_store {T : TypeId} {x y : Operand} {b off : Nat} {cs cs' : List Value} {E : TypeId} {fr : Nat × Nat} {v : Value} (hx : ev m x = some (ptr b off)) (hy : ev m y = some v) (hs' : ∀ w, (Go.sizeOf T).run c.P w = .ok 1 w)
    (h1 : v.cells = #[v]) (h2 : v.oneCell' = true) (hp : Pull (row b cs E fr) rs k) (hset : SetAt cs off v cs') (hfr : (decide (fr.1 ≤ off) && decide (off < fr.2)) = false)
    (h : At c m (row b cs' E fr :: k) K) : At c m rs (fun a w => Op1 c.P ⟨none, .store T x y, t, pos, af, g⟩ a w K) :=
  fun a w hs hh => op1_skip (w' := w.setCell ⟨b, off, none⟩ v) (by intros; simp)
    (by
      have hc := (hh.pull hp).cell off
      have hf := (hh.pull hp).frozen off
      rw [List.getElem?_eq_getElem hset.spec.1] at hc
      rw [hfr] at hf
      have hst : ∀ k' : Sem Unit, (Sem.store .plain ⟨b, off, none⟩ v k').run c.P w = k'.run c.P (w.setCell ⟨b, off, none⟩ v) := fun k' => by
        cases v <;> first | (simp [Value.oneCell'] at h2; done) | simp [Sem.run, hc, hf]
      simp [execOp, hs.eval hx, hs.eval hy, Instr.storeAt, Instr.sureAddr, storeVar, hs', h1, storeCells, Addr.add_lit, Go.store, hst])
    (h _ _ hs (by have := (hh.pull hp).setCell off v; rw [hset.spec.2] at this; exact this))

/-- the whole of a struct or an array is stored -/
theorem op_storeW {T : TypeId} {x y : Operand} {b n : Nat} {cs us : List Value} {E : TypeId} (hx : ev m x = some (ptr b 0)) (hy : ev m y = some (.agg us.toArray)) (hs' : ∀ w, (Go.sizeOf T).run c.P w = .ok n w)
    (h2 : ∀ v ∈ us, v.oneCell' = true) (hp : Pull (row b cs E (0, 0)) rs k) (hl : us.length = n) (hl' : cs.length = n)
    (h : At c m (row b us E (0, 0) :: k) K) : At c m rs (fun a w => Op1 c.P ⟨none, .store T x y, t, pos, af, g⟩ a w K) := by
  intro a w hs hh
  have hh1 := hh.pull hp
  have hb : w.heap[b]? = some (.cells cs.toArray E (0, 0)) := hh1.good.holds _ (List.mem_cons_self ..)
  have hst := run_storeCells_from (P := c.P) b E us 0 cs.toArray w hb (by simp; omega) h2
  simp only [List.take_zero, List.nil_append] at hst
  have hlt := (Array.getElem?_eq_some_iff.1 hb).1
  refine op1_skip (w' := w.setRow b us.toArray) (by intros; simp) ?_ (h _ _ hs (hh1.turn rfl rfl rfl ?_ (setRow_heap w b cs.toArray us.toArray E (0, 0) hb) (fun j hj => setRow_other w b j us.toArray hj)))
  · simp [execOp, hs.eval hx, hs.eval hy, Instr.storeAt, Instr.sureAddr, storeVar, hs', Value.cells, hl, hst]
  · simp [World.setRow]

/-- lists of resources put together -/
theorem At.app0 (h : At c m rs K) : At c m ([] ++ rs) K := h
theorem At.app1 {r1 : Res} (h : At c m (r1 :: rs) K) : At c m ([r1] ++ rs) K := h
theorem At.app2 {r1 r2 : Res} (h : At c m (r1 :: r2 :: rs) K) : At c m ([r1, r2] ++ rs) K := h
theorem At.app3 {r1 r2 r3 : Res} (h : At c m (r1 :: r2 :: r3 :: rs) K) : At c m ([r1, r2, r3] ++ rs) K := h

theorem At.app4 {r1 r2 r3 r4 : Res} (h : At c m (r1 :: r2 :: r3 :: r4 :: rs) K) : At c m ([r1, r2, r3, r4] ++ rs) K := h
theorem At.app5 {r1 r2 r3 r4 r5 : Res} (h : At c m (r1 :: r2 :: r3 :: r4 :: r5 :: rs) K) : At c m ([r1, r2, r3, r4, r5] ++ rs) K := h

/-- a test is decided -/
theorem At.dsplit {i : Nat} {p : Prop} [Decidable p] (hb : lk m i = some (.bool (decide p))) (ht : p → At c ((i, .bool true) :: m) rs K) (hf : ¬ p → At c ((i, .bool false) :: m) rs K) : At c m rs K := by
  by_cases h : p
  · intro a w hs hh
    refine ht h a w ⟨hs.defers, hs.size, fun j v hv => ?_⟩ hh
    simp only [lk] at hv
    cases hj : Nat.beq i j with
    | true => rw [hj] at hv; cases hv; rw [← Nat.eq_of_beq_eq_true hj]; exact hs.look i _ (by rw [hb]; simp [h])
    | false => rw [hj] at hv; exact hs.look j v hv
  · intro a w hs hh
    refine hf h a w ⟨hs.defers, hs.size, fun j v hv => ?_⟩ hh
    simp only [lk] at hv
    cases hj : Nat.beq i j with
    | true => rw [hj] at hv; cases hv; rw [← Nat.eq_of_beq_eq_true hj]; exact hs.look i _ (by rw [hb]; simp [h])
    | false => rw [hj] at hv; exact hs.look j v hv
theorem At.bsplit {i : Nat} {b : Bool} (hb : lk m i = some (.bool b)) (ht : b = true → At c ((i, .bool true) :: m) rs K) (hf : b = false → At c ((i, .bool false) :: m) rs K) : At c m rs K :=
  At.dsplit (p := b = true) (by rw [hb]; simp) ht (fun h => hf (by simpa using h))
theorem At.nsplit {i : Nat} {p : Prop} [Decidable p] (hb : lk m i = some (.bool (!decide p))) (ht : ¬ p → At c ((i, .bool true) :: m) rs K) (hf : p → At c ((i, .bool false) :: m) rs K) : At c m rs K :=
  At.dsplit (p := ¬ p) (by rw [hb]; simp) ht (fun h => hf (Decidable.of_not_not h))

/-- where ways meet again -/
def Meet (c : Cx) {σ : Type} (I : σ → Prop) (M : σ → List (Nat × Value)) (R : σ → List Res) : Act → World → Prop :=
  fun a w => ∃ x, I x ∧ Slots c.n c.ds (M x) a ∧ Hp c.G c.w0 c.S (R x) w
theorem At.seq_meet {r : Option Nat} {Q : Exit → Act → World → Prop} {x y : Code} {σ : Type} (I : σ → Prop) (M : σ → List (Nat × Value)) (R : σ → List Res) (h : At c m rs (x.wpIn (Fr r) 0 c.P (Exit.then (Meet c I M R) Q)))
    (h2 : ∀ x, I x → At c (M x) (R x) (y.wpIn (Fr r) 0 c.P Q)) : At c m rs ((Code.seq x y).wpIn (Fr r) 0 c.P Q) :=
  At.seq fun a w hs hh => wpIn_mono (h a w hs hh) fun e a w hq => by
    cases e with
    | normal => obtain ⟨x, hx, hs', hh'⟩ := hq; exact h2 x hx a w hs' hh'
    | _ => exact hq
theorem At.meet {σ : Type} {I : σ → Prop} {M : σ → List (Nat × Value)} {R : σ → List Res} {kk : List Res} (x : σ) (hx : I x) (hm : AllLk m (M x)) (hr : Cut (R x) rs kk) : At c m rs (Meet c I M R) :=
  fun _ _ hs hh => ⟨x, hx, ⟨hs.defers, hs.size, fun i v hv => hs.look i v (lk_of_all hm hv)⟩, (hh.cut hr).left⟩
end
end SL
