/- Maps from pairs of whole numbers to whole numbers, each 1: a set that is counted. -/
import Derived.Test.YteckdahgkkmlaaaDoorSLMapU
namespace SL
open Go Go.MapKept

@[reducible] def pkv (k : Nat × Nat) : Value := .agg [i64 k.1, i64 k.2].toArray
structure PKey (P : Program) (KT : TypeId) : Prop where
  und : ∃ fs, P.underlying KT = some (.struct fs)
  chk : ∀ e k w, (Instr.checkKey e 10000 KT (pkv k)).run P w = .ok () w
  eq : ∀ k k' w, (Op.equal KT (pkv k) (pkv k')).run P w = .ok (decide (k = k')) w
def entP (v : Int) (i : Nat) (k : Nat × Nat) : MapEntry := ⟨pkv k, i64 v, i⟩
def entsP : Nat → List (Nat × Nat) → List MapEntry
  | _, [] => []
  | i, k :: l => entP 1 i k :: entsP (i + 1) l
theorem entsP_append : ∀ (l : List (Nat × Nat)) (i : Nat) (k : Nat × Nat), entsP i (l ++ [k]) = entsP i l ++ [entP 1 (i + l.length) k]
  | [], i, k => rfl
  | x :: l, i, k => by
    simp only [List.cons_append, entsP, entsP_append l (i + 1) k, List.length_cons]
    rw [show i + 1 + l.length = i + (l.length + 1) by omega]
theorem entsP_length : ∀ (l : List (Nat × Nat)) (i : Nat), (entsP i l).length = l.length
  | [], _ => rfl
  | _ :: l, i => by simp [entsP, entsP_length l]
/-- the map -/
def mapP (r : Nat) (ks : List (Nat × Nat)) : Res := blk r (.map (entsP 0 ks).toArray ks.length)
/-- .. with one more key, at 0 for now -/
def mapQ (r : Nat) (ks : List (Nat × Nat)) (k : Nat × Nat) : Res := blk r (.map (entsP 0 ks ++ [entP 0 ks.length k]).toArray (ks.length + 1))

theorem modify_last {α : Type} (f : α → α) (x : α) : ∀ l : List α, (l ++ [x]).modify l.length f = l ++ [f x]
  | [] => by simp
  | y :: l => by simp [modify_last f x l]
section
variable {P : Program} {KT : TypeId}
theorem asking_no (h : PKey P KT) {k : Nat × Nat} : ∀ (l : List (Nat × Nat)) (i j : Nat) (w : World), k ∉ l → (Instr.findAsking KT (pkv k) (entsP i l) j).run P w = .ok none w
  | [], _, _, w, _ => rfl
  | x :: l, i, j, w, hk => by
    have hne : k ≠ x := fun e => hk (by rw [e]; exact List.mem_cons_self ..)
    have ih := asking_no h l (i + 1) (j + 1) w (fun hm => hk (List.mem_cons_of_mem _ hm))
    simp only [entsP, Instr.findAsking, entP, Sem.run_bind, h.eq, Result.andThen_ok, decide_eq_false hne, Bool.false_eq_true, if_false]
    exact ih
theorem asking_app (h : PKey P KT) {k : Nat × Nat} (v : Int) (b : Nat) : ∀ (l : List (Nat × Nat)) (i j : Nat) (w : World), k ∉ l → (Instr.findAsking KT (pkv k) (entsP i l ++ [entP v b k]) j).run P w = .ok (some (j + l.length, i64 v)) w
  | [], _, j, w, _ => by
    simp only [entsP, List.nil_append, Instr.findAsking, entP, Sem.run_bind, h.eq, Result.andThen_ok, decide_true, if_true, Sem.run_pure]
    rfl
  | x :: l, i, j, w, hk => by
    have hne : k ≠ x := fun e => hk (by rw [e]; exact List.mem_cons_self ..)
    have ih := asking_app h v b l (i + 1) (j + 1) w (fun hm => hk (List.mem_cons_of_mem _ hm))
    simp only [entsP, List.cons_append, Instr.findAsking, entP, Sem.run_bind, h.eq, Result.andThen_ok, decide_eq_false hne, Bool.false_eq_true, if_false]
    rw [show j + (x :: l).length = j + 1 + l.length by simp; omega]
    exact ih
theorem findNow_struct (h : PKey P KT) : ∀ {d : TypeDesc} (_ : P.underlying KT = some d) (k : Nat × Nat) (x : MapEntry) (l : List MapEntry) (i : Nat), Instr.findNow d (pkv k) (x :: l) i = none := by
  intro d hd k x l i
  obtain ⟨fs, hfs⟩ := h.und
  rw [hd] at hfs
  cases hfs
  simp [Instr.findNow, Instr.sameNow]
theorem run_findP (h : PKey P KT) {k : Nat × Nat} {l : List MapEntry} {res : Option (Nat × Value)} (w : World) (h1 : (Instr.findAsking KT (pkv k) l 0).run P w = .ok res w) : (Instr.findKey KT (pkv k) l).run P w = .ok res w := by
  obtain ⟨fs, hfs⟩ := h.und
  unfold Instr.findKey
  simp only [Sem.run_bind, run_underlying hfs, Result.andThen_ok]
  cases l with
  | nil =>
    simp only [Instr.findAsking, Sem.run_pure] at h1
    cases h1
    rfl
  | cons x l =>
    rw [findNow_struct h hfs k x l 0]
    exact h1
end
section
variable {c : Cx} {m : List (Nat × Value)} {rs k' : List Res} {K : Act → World → Prop} {d t : Nat} {pos : String} {af : Array Edge} {g : Option (Nat × Bool)}
theorem op_lookupP {T KT ET : TypeId} {x y : Operand} {r : Nat} {k : Nat × Nat} {l : List MapEntry} {clock : Nat} {res : Option (Nat × Value)} {v : Value} (rr : Res) (hx : ev m x = some (.map (some r))) (hy : ev m y = some (pkv k)) (hT : c.P.underlying T = some (.map KT ET)) (hK : PKey c.P KT)
    (hz : ∀ w, (zeroValue ET).run c.P w = .ok (i64 0) w) (hp : Pull rr rs k') (hrr : rr = blk r (.map l.toArray clock)) (hf : ∀ w, (Instr.findAsking KT (pkv k) l 0).run c.P w = .ok res w) (hv : v = (res.map (·.2)).getD (i64 0)) (hn : Nat.blt d c.n = true) (h : At c ((d, v) :: m) rs K) :
    At c m rs (fun a w => Op1 c.P ⟨some d, .lookup T x y false, t, pos, af, g⟩ a w K) :=
  fun a w hs hh => op1_run (v := v) (w' := w) (by intros; simp) (run_v (by
    subst hrr
    have hb : w.heap[r]? = some (.map l.toArray clock) := (hh.pull hp).good.holds _ (List.mem_cons_self ..)
    have hfd := run_findP hK w (hf w)
    simp only [hs.eval hx, hs.eval hy, Instr.lookup, Sem.run_bind, run_underlying hT, Result.andThen_ok, run_getObj_map hb, Sem.run_pure, hK.chk, hfd]
    subst hv
    cases res with
    | none => simp [hz]
    | some p => obtain ⟨j, u⟩ := p; simp)) (h _ _ (hs.put hn) hh)
/-- not there -/
theorem op_lookup0 {T KT ET : TypeId} {x y : Operand} {r : Nat} {k : Nat × Nat} {ks : List (Nat × Nat)} (hx : ev m x = some (.map (some r))) (hy : ev m y = some (pkv k)) (hT : c.P.underlying T = some (.map KT ET)) (hK : PKey c.P KT)
    (hz : ∀ w, (zeroValue ET).run c.P w = .ok (i64 0) w) (hk : k ∉ ks) (hp : Pull (mapP r ks) rs k') (hn : Nat.blt d c.n = true) (h : At c ((d, i64 0) :: m) rs K) :
    At c m rs (fun a w => Op1 c.P ⟨some d, .lookup T x y false, t, pos, af, g⟩ a w K) :=
  op_lookupP _ hx hy hT hK hz hp rfl (fun w => asking_no hK ks 0 0 w hk) rfl hn h
/-- there, at 0 for now -/
theorem op_lookupQ {T KT ET : TypeId} {x y : Operand} {r : Nat} {k : Nat × Nat} {ks : List (Nat × Nat)} (hx : ev m x = some (.map (some r))) (hy : ev m y = some (pkv k)) (hT : c.P.underlying T = some (.map KT ET)) (hK : PKey c.P KT)
    (hz : ∀ w, (zeroValue ET).run c.P w = .ok (i64 0) w) (hk : k ∉ ks) (hp : Pull (mapQ r ks k) rs k') (hn : Nat.blt d c.n = true) (h : At c ((d, i64 0) :: m) rs K) :
    At c m rs (fun a w => Op1 c.P ⟨some d, .lookup T x y false, t, pos, af, g⟩ a w K) :=
  op_lookupP _ hx hy hT hK hz hp rfl (fun w => asking_app hK 0 ks.length ks 0 0 w hk) rfl hn h
/-- there, at 1 -/
theorem op_lookup1 {T KT ET : TypeId} {x y : Operand} {r : Nat} {k : Nat × Nat} {ks : List (Nat × Nat)} (hx : ev m x = some (.map (some r))) (hy : ev m y = some (pkv k)) (hT : c.P.underlying T = some (.map KT ET)) (hK : PKey c.P KT)
    (hz : ∀ w, (zeroValue ET).run c.P w = .ok (i64 0) w) (hk : k ∉ ks) (hp : Pull (mapP r (ks ++ [k])) rs k') (hn : Nat.blt d c.n = true) (h : At c ((d, i64 1) :: m) rs K) :
    At c m rs (fun a w => Op1 c.P ⟨some d, .lookup T x y false, t, pos, af, g⟩ a w K) :=
  op_lookupP (res := some (0 + ks.length, i64 1)) (v := i64 1) (l := entsP 0 (ks ++ [k])) (clock := (ks ++ [k]).length) _ hx hy hT hK hz hp rfl (fun w => by rw [entsP_append]; exact asking_app hK 1 _ ks 0 0 w hk) rfl hn h
theorem Hp.setMap {G : List (Nat × Obj)} {w0 w : World} {S : Nat → Prop} {k : List Res} {r : Nat} {l : List MapEntry} {cl : Nat} (l' : List MapEntry) (cl' : Nat) (h : Hp G w0 S (blk r (.map l.toArray cl) :: k) w) : Hp G w0 S (blk r (.map l'.toArray cl') :: k) { w with heap := w.heap.setIfInBounds r (.map l'.toArray cl') } := by
  have hb : w.heap[r]? = some (.map l.toArray cl) := h.good.holds _ (List.mem_cons_self ..)
  have hlt := (Array.getElem?_eq_some_iff.1 hb).1
  exact h.turn rfl rfl rfl (by simp) (by simp [hlt]) (fun j hj => by simp [Ne.symm hj])
/-- a new entry -/
theorem op_mapEntry {T KT ET : TypeId} {x y : Operand} {r : Nat} {k : Nat × Nat} {ks : List (Nat × Nat)} (hx : ev m x = some (.map (some r))) (hy : ev m y = some (pkv k)) (hT : c.P.underlying T = some (.map KT ET)) (hK : PKey c.P KT)
    (hz : ∀ w, (zeroValue ET).run c.P w = .ok (i64 0) w) (hk : k ∉ ks) (hp : Pull (mapP r ks) rs k') (hn : Nat.blt d c.n = true) (h : At c ((d, .tuple #[i64 0, i64 (ks.length : Nat)]) :: m) (mapQ r ks k :: k') K) :
    At c m rs (fun a w => Op1 c.P ⟨some d, .mapEntry T x y, t, pos, af, g⟩ a w K) :=
  fun a w hs hh => by
    have hh1 := hh.pull hp
    have hb : w.heap[r]? = some (.map (entsP 0 ks).toArray ks.length) := hh1.good.holds _ (List.mem_cons_self ..)
    have hfd := run_findP hK w (asking_no hK ks 0 0 w hk)
    refine op1_run (v := .tuple #[i64 0, i64 (ks.length : Nat)]) (w' := _) (by intros; simp) (run_v ?_) (h _ _ (hs.put hn) (hh1.setMap (entsP 0 ks ++ [entP 0 ks.length k]) (ks.length + 1)))
    simp [hs.eval hx, hs.eval hy, Instr.mapEntry, run_underlying hT, run_getObj_map hb, hK.chk, hfd, hz, run_setObj_map _ hb, goInt, entP]
/-- its value is stored -/
theorem op_entryStore {T : TypeId} {x y z : Operand} {r : Nat} {k : Nat × Nat} {ks : List (Nat × Nat)} (hx : ev m x = some (.map (some r))) (hy : ev m y = some (i64 (ks.length : Nat))) (hz : ev m z = some (i64 1)) (hp : Pull (mapQ r ks k) rs k')
    (h : At c m (mapP r (ks ++ [k]) :: k') K) : At c m rs (fun a w => Op1 c.P ⟨none, .entryStore T x y z, t, pos, af, g⟩ a w K) :=
  fun a w hs hh => by
    have hh1 := hh.pull hp
    have hb : w.heap[r]? = some (.map (entsP 0 ks ++ [entP 0 ks.length k]).toArray (ks.length + 1)) := hh1.good.holds _ (List.mem_cons_self ..)
    have hidx : (entsP 0 ks ++ [entP 0 ks.length k]).toArray.findIdx? (fun e => (e.born : Int) == ((ks.length : Nat) : Int)) = some ks.length := by
      have key : ∀ (l : List (Nat × Nat)) (i n : Nat), i + l.length = n → (entsP i l ++ [entP 0 n k]).findIdx? (fun e => (e.born : Int) == (n : Int)) = some l.length := by
        intro l
        induction l with
        | nil => intro i n h; simp [entsP, entP]
        | cons x l ih =>
          intro i n h
          simp only [List.length_cons] at h
          have hne : (((entP 1 i x).born : Int) == (n : Int)) = false := by simp [entP]; omega
          simp only [entsP, List.cons_append, List.findIdx?_cons, hne]
          rw [ih (i + 1) n (by omega)]; simp
      simpa using key ks 0 ks.length (by omega)
    have hmod : (entsP 0 ks ++ [entP 0 ks.length k]).toArray.modify ks.length (fun e => { e with val := i64 1 }) = (entsP 0 (ks ++ [k])).toArray := by
      rw [entsP_append]
      apply Array.ext'
      simp only [Array.toList_modify, Nat.zero_add]
      rw [← entsP_length ks 0, modify_last]; simp [entP, entsP_length]
    refine op1_skip (w' := _) (by intros; simp) ?_ (h _ _ hs (by
      have := hh1.setMap (entsP 0 (ks ++ [k])) (ks.length + 1)
      unfold mapP
      rw [List.length_append]
      exact this))
    simp [execOp, hs.eval hx, hs.eval hy, hs.eval hz, Instr.entryStore, run_getObj_map hb, asInt, asIntOf, hidx, hmod, run_setObj_map _ hb]
theorem op_len_map {T KT ET : TypeId} {x : Operand} {r : Nat} {ks : List (Nat × Nat)} (hx : ev m x = some (.map (some r))) (hT : c.P.underlying T = some (.map KT ET)) (hp : Pull (mapP r ks) rs k') (hn : Nat.blt d c.n = true) (h : At c ((d, i64 (ks.length : Nat)) :: m) rs K) :
    At c m rs (fun a w => Op1 c.P ⟨some d, .call ⟨.builtin .len, #[x], #[T]⟩, t, pos, af, g⟩ a w K) :=
  fun a w hs hh => by
    have hb : w.heap[r]? = some (.map (entsP 0 ks).toArray ks.length) := (hh.pull hp).good.holds _ (List.mem_cons_self ..)
    refine op1_run (v := i64 (ks.length : Nat)) (w' := w) (by intros; simp) ?_ (h _ _ (hs.put hn) hh)
    simp [execOp, resolve, invoke, builtin, hs.eval hx, Builtin.len_, run_underlying hT, run_getObj_map hb, goInt, entsP_length]
theorem op_makeMapP {T : TypeId} (hn : Nat.blt d c.n = true) (h : ∀ r, At c ((d, .map (some r)) :: m) (mapP r [] :: rs) K) : At c m rs (fun a w => Op1 c.P ⟨some d, .makeMap T none, t, pos, af, g⟩ a w K) :=
  fun a w hs hh => op1_run (v := .map (some w.heap.size)) (w' := w.alloc (.map #[] 0)) (by intros; simp) (run_v rfl) (h _ _ _ (hs.put hn) (hh.new _))
end
end SL
