/- strings.Builder: its buffer read as a string; library contracts carried into this calculus. -/
import Derived.Test.YteckdahgkkmlaaaDoorSLSli
import Derived.Lib.UnsafeStr
import Derived.Lib.Builder
import Derived.Laws.Externs
namespace SL
open Go

/-- bytes that can be read, written or not -/
def rdS (g cap : Nat) (l : List UInt8) (E : TypeId) : Res where
  fp := fun k => k = g
  holds := fun w => ∃ (cur : Array Value) (fr : Nat × Nat), w.heap[g]? = some (.cells cur E fr) ∧ cur.size = cap ∧ cap ≤ maxLen ∧ cur.toList.take l.length = l.map u8
  loc := fun w w' h hk => by
    obtain ⟨cur, fr, h1, h2⟩ := h
    exact ⟨cur, fr, (hk g rfl).trans h1, h2⟩
  bnd := fun w k h hk => by
    obtain ⟨cur, fr, h1, h2⟩ := h
    rw [show k = g from hk]
    exact (Array.getElem?_eq_some_iff.1 h1).1

section
variable {c : Cx} {m : List (Nat × Value)} {rs k : List Res} {K : Act → World → Prop} {d t : Nat} {pos : String} {af : Array Edge} {g : Option (Nat × Bool)}

theorem ownS_some {w : World} {ad : Option Addr} {cap sz : Nat} {xs : List Value} {E : TypeId} (h : (ownS ad cap xs E sz).holds w) (hx : xs ≠ []) : ∃ b, ad = some ⟨b, 0, none⟩ := by
  cases ad with
  | none => exact absurd h.1 hx
  | some a =>
    obtain ⟨b, off, spot⟩ := a
    have h1 : off = 0 := h.1
    have h2 : spot = none := h.2.1
    subst h1 h2
    exact ⟨b, rfl⟩

/-- where a slice owns something it is not nil -/
theorem At.own_some {ad : Option Addr} {cap sz : Nat} {xs : List Value} {E : TypeId} (hp : Pull (ownS ad cap xs E sz) rs k) (hx : xs ≠ []) (h : ∀ b, ad = some ⟨b, 0, none⟩ → At c m (ownS (some ⟨b, 0, none⟩) cap xs E sz :: k) K) : At c m rs K := by
  intro a w hs hh
  obtain ⟨b, rfl⟩ := ownS_some ((hh.pull hp).good.holds _ (List.mem_cons_self ..)) hx
  exact h b rfl a w hs (hh.pull hp)
theorem At.own_cap {b cap sz : Nat} {xs : List Value} {E : TypeId} (hp : Pull (ownS (some ⟨b, 0, none⟩) cap xs E sz) rs k) (hx : xs ≠ []) (h : cap ≠ 0 → At c m rs K) : At c m rs K := by
  intro a w hs hh
  obtain ⟨_, _, h3, cur, h4, h5, h6⟩ := (hh.pull hp).good.holds _ (List.mem_cons_self ..)
  refine h (fun e => hx ?_) a w hs hh
  subst e
  have := take_le h6
  simp at h5
  simp [h5] at this
  exact this
theorem At.own_rd {b cap : Nat} {l : List UInt8} {E : TypeId} (hp : Pull (ownS (some ⟨b, 0, none⟩) cap (l.map u8) E 1) rs k) (h : At c m (rdS b cap l E :: k) K) : At c m rs K :=
  At.same (r' := rdS b cap l E) hp (fun w hw => by
    obtain ⟨_, _, h3, cur, h4, h5, h6⟩ := hw
    exact ⟨cur, (0, 0), h4, by omega, h3, by simpa using h6⟩) (fun x hx => ⟨_, rfl, hx.symm⟩) h

theorem op_sliceData {T : TypeId} {x : Operand} {b n cp : Nat} (hx : ev m x = some (slc b 0 n cp)) (hc : cp ≠ 0) (hn : Nat.blt d c.n = true) (h : At c ((d, ptr b 0) :: m) rs K) :
    At c m rs (fun a w => Op1 c.P ⟨some d, .call ⟨.builtin .unsafeSliceData, #[x], #[T]⟩, t, pos, af, g⟩ a w K) :=
  op_pure (by intros; simp) (fun a w hs => by
    have := Lib.run_unsafeSliceData_row (P := c.P) (w := w) #[T] t ⟨b, 0, none⟩ n cp hc
    simp [execOp, resolve, invoke, builtin, hs.eval hx, this]) hn h

theorem op_unsafeString {T U E : TypeId} {x y : Operand} {b cap : Nat} {l : List UInt8} (hx : ev m x = some (ptr b 0)) (hy : ev m y = some (i64 l.length)) (hT : c.P.underlying T = some (.pointer E)) (hE : c.P.cellsOf E = 1)
    (hp : Pull (rdS b cap l E) rs k) (h0 : l ≠ []) (hn : Nat.blt d c.n = true) (h : At c ((d, str l) :: m) rs K) :
    At c m rs (fun a w => Op1 c.P ⟨some d, .call ⟨.builtin .unsafeString, #[x, y], #[T, U]⟩, t, pos, af, g⟩ a w K) := by
  intro a w hs hh
  have hh1 := hh.pull hp
  obtain ⟨cur, fr, h1, h2, h3, h4⟩ := hh1.good.holds _ (List.mem_cons_self ..)
  have hle : l.length ≤ cur.size := by
    have := congrArg List.length h4
    simp at this; omega
  have hr := Lib.run_unsafeString_row (P := c.P) w T U t E hT hE b cur.size (by simp [World.shape?, h1]) l h0 hle (by unfold maxLen at h3; omega) (fun j x hx => by
    have hlt := (List.getElem?_eq_some_iff.1 hx).1
    have h5 : (cur.toList.take l.length)[j]? = some (u8 x) := by rw [h4]; simp [hx]
    rw [List.getElem?_take, if_pos hlt] at h5
    rw [Addr.add_lit]
    simp only [World.cell?, h1, Nat.zero_add]
    simpa [u8] using h5)
  refine op1_run (w' := w.freeze ⟨b, 0, none⟩ l.length) (by intros; simp) (by simp [execOp, resolve, invoke, builtin, hs.eval hx, hs.eval hy, hr]; rfl) (h _ _ (hs.put hn) ?_)
  have hl0 : l.length ≠ 0 := by simpa using h0
  refine Hp.perm (rs := rdS b cap l E :: k) (hh1.swap1 ?_ ?_ ?_ ?_ ?_ ?_ (fun b hb => .inl hb)) hp.perm.symm
  all_goals simp only [World.freeze, hl0, if_false]
  · simp
  · intro j _ hj
    simp only [Array.getElem?_modify]
    rw [if_neg (fun e => hj (by rw [← e]; rfl))]
  · refine ⟨cur, (if fr.1 == fr.2 then (0, 0 + l.length) else (min fr.1 0, max fr.2 (0 + l.length))), ?_, h2, h3, h4⟩
    simp only [Array.getElem?_modify, if_true, h1]
    rfl
end

/-- a contract of the kit's, that answers v and lays what lay below as it lay -/
theorem Does.of_below {P : Program} {G : List (Nat × Obj)} {f : FuncId} {vs : List Value} {v : Value} {pre : List Res} (h : ∀ w, Good G pre w → Calls P f vs.toArray w (fun e w' => e = .returned v ∧ RowKit.Below w.heap.size w w')) : Does P G f vs pre (OneR v pre) := by
  intro w hw
  refine callsIn_wide.2 ((h w hw).mono ?_)
  rintro e w' ⟨he, hb⟩
  refine ⟨v, pre, he, ⟨rfl, rfl⟩, ⟨⟨hb.os, hb.tape, hb.output, hb.size, fun b hb' _ => hb.block b hb'⟩, ⟨fun p hp => ?_, hw.gfp, fun r hr => ?_, hw.disj⟩, fun r hr b hb' => .inl ⟨r, hr, hb'⟩⟩⟩
  · rw [hb.block p.1 (Array.getElem?_eq_some_iff.1 (hw.glob p hp)).1]; exact hw.glob p hp
  · exact r.loc w w' (hw.holds r hr) fun b hb' => hb.block b (r.bnd w b (hw.holds r hr) hb')
theorem Does.one {P : Program} {G : List (Nat × Obj)} {f : FuncId} {vs : List Value} {v : Value} (h : Does P G f vs [] (OneR v [])) : Does P G f vs [] (One v) := h.mono fun _ _ h => h

theorem below_of_drew {w w' : World} (h : w' = w ∨ w' = w.drew) : RowKit.Below w.heap.size w w' := by
  rcases h with rfl | rfl
  · exact RowKit.Below.refl _ _
  · exact (RowKit.Below.refl _ _).drew

section
variable {P : Program} {T : TypeId} {x y : Operand}
theorem run_eqnil {E : TypeId} {p : Option Addr} (hT : P.underlying T = some (.pointer E)) (w : World) (d : Nat) : (Op.equalIn (d + 1) T (.pointer p) (.pointer none)).run P w = .ok p.isNone w := by
  cases p <;> simp [Op.equalIn, run_underlying hT]
theorem b_pnil {E : TypeId} {p : Option Addr} (hT : P.underlying T = some (.pointer E)) : Bin P .eql T x y (.pointer p) (.pointer none) (.bool p.isNone) := fun w => by
  have hg : (eqGuard .eql T x y (.pointer p) (.pointer none)).run P w = .ok () w := rfl
  have hb : binOp .eql T (.pointer p) (.pointer none) = (do pure (.bool (← Op.equal T (.pointer p) (.pointer none)))) := by cases p <;> rfl
  simp only [Sem.run_bind, hg, Result.andThen_ok, hb, Op.equal, Op.maxDepth, run_eqnil hT w 9999, Sem.run_pure]
theorem b_pnnil {E : TypeId} {p : Option Addr} (hT : P.underlying T = some (.pointer E)) : Bin P .neq T x y (.pointer p) (.pointer none) (.bool (!p.isNone)) := fun w => by
  have hg : (eqGuard .neq T x y (.pointer p) (.pointer none)).run P w = .ok () w := rfl
  have hb : binOp .neq T (.pointer p) (.pointer none) = (do pure (.bool (!(← Op.equal T (.pointer p) (.pointer none))))) := by cases p <;> rfl
  simp only [Sem.run_bind, hg, Result.andThen_ok, hb, Op.equal, Op.maxDepth, run_eqnil hT w 9999, Sem.run_pure]
theorem b_pneq_same {E : TypeId} {a : Addr} {j : TypeInfo} (hT : P.underlying T = some (.pointer E)) (hj : P.info? E = some j) : Bin P .neq T x y (.pointer (some a)) (.pointer (some a)) (.bool false) := fun w => by
  have h := Lib.run_neq_ptr_same (P := P) w a hT hj
  have hg : (eqGuard .neq T x y (.pointer (some a)) (.pointer (some a))).run P w = .ok () w := rfl
  simp only [Sem.run_bind, hg, Result.andThen_ok, h]
end
section
variable {c : Cx} {m : List (Nat × Value)} {rs k : List Res} {K : Act → World → Prop} {d t : Nat} {pos : String} {af : Array Edge} {g : Option (Nat × Bool)}
theorem op_toUnsafe {S T U E : TypeId} {x : Operand} {b off : Nat} {cs : List Value} {fr : Nat × Nat} {j : TypeInfo} (hx : ev m x = some (ptr b off)) (hS : c.P.underlying S = some (.pointer U)) (hT : c.P.underlying T = some .unsafePointer) (hj : c.P.info? U = some j) (hj0 : j.size ≠ 0)
    (hp : Pull (row b cs E fr) rs k) (ho : off < cs.length) (hn : Nat.blt d c.n = true) (h : At c ((d, ptr b off) :: m) rs K) : At c m rs (fun a w => Op1 c.P ⟨some d, .convert S T x, t, pos, af, g⟩ a w K) :=
  fun a w hs hh => op1_run (w' := w) (by intros; simp) (run_v (by
    have hb : w.heap[b]? = some (.cells cs.toArray E fr) := (hh.pull hp).good.holds _ (List.mem_cons_self ..)
    rw [hs.eval hx]; exact Lib.run_to_unsafe w ⟨b, off, none⟩ hS hT hj hj0 (cells := cs.length) (e := E) (by simp [World.shape?, hb]) ho)) (h _ _ (hs.put hn) hh)
theorem op_fromUnsafe {S T U E : TypeId} {x : Operand} {b off : Nat} {cs : List Value} {fr : Nat × Nat} {j : TypeInfo} (hx : ev m x = some (ptr b off)) (hS : c.P.underlying S = some .unsafePointer) (hT : c.P.underlying T = some (.pointer U)) (hj : c.P.info? U = some j)
    (hp : Pull (row b cs E fr) rs k) (hl : liesAt c.P c.P.depth E (cs.length / c.P.cellsOf E) off U 1 = true) (hn : Nat.blt d c.n = true) (h : At c ((d, ptr b off) :: m) rs K) : At c m rs (fun a w => Op1 c.P ⟨some d, .convert S T x, t, pos, af, g⟩ a w K) :=
  fun a w hs hh => op1_run (w' := w) (by intros; simp) (run_v (by
    have hb : w.heap[b]? = some (.cells cs.toArray E fr) := (hh.pull hp).good.holds _ (List.mem_cons_self ..)
    rw [hs.eval hx]; exact Lib.run_from_unsafe w ⟨b, off, none⟩ hS hT hj (cells := cs.length) (e := E) (by simp [World.shape?, hb]) hl)) (h _ _ (hs.put hn) hh)
end
end SL
