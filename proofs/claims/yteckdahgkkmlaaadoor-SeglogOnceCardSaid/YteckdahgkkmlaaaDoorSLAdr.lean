/- Addresses, aggregates, strings, slices. -/
import Derived.Test.YteckdahgkkmlaaaDoorSLMem
import Derived.Laws.IdiomCopy
namespace SL
open Go

section
variable {c : Cx} {m : List (Nat × Value)} {rs k : List Res} {K : Act → World → Prop} {d t : Nat} {pos : String} {af : Array Edge} {g : Option (Nat × Bool)}

theorem op_nilCheck {x : Operand} {b off : Nat} (hx : ev m x = some (ptr b off)) (hn : Nat.blt d c.n = true) (h : At c ((d, ptr b off) :: m) rs K) :
    At c m rs (fun a w => Op1 c.P ⟨some d, .nilCheck x, t, pos, af, g⟩ a w K) :=
  op_pure (by intros; simp) (fun a w hs => by simp [execOp, hs.eval hx]) hn h
theorem op_nilCheckF {x : Operand} {f : FuncId} {fs cap : Array Value} (hx : ev m x = some (.func (.func f) fs cap)) (hn : Nat.blt d c.n = true) (h : At c ((d, .func (.func f) fs cap) :: m) rs K) :
    At c m rs (fun a w => Op1 c.P ⟨some d, .nilCheck x, t, pos, af, g⟩ a w K) :=
  op_pure (by intros; simp) (fun a w hs => by simp [execOp, hs.eval hx]) hn h

theorem op_fieldAddr {T : TypeId} {x : Operand} {i b off n o' : Nat} {fs : Array Field} {f : Field} (hx : ev m x = some (ptr b off)) (hu : c.P.underlying T = some (.struct fs)) (hf : fs[i]? = some f)
    (hs' : ∀ w, (Go.sizeOf f.type).run c.P w = .ok (n + 1) w) (ho : off + f.offset = o') (hn : Nat.blt d c.n = true) (h : At c ((d, ptr b o') :: m) rs K) :
    At c m rs (fun a w => Op1 c.P ⟨some d, .fieldAddr T x i, t, pos, af, g⟩ a w K) :=
  op_pure (by intros; simp) (fun a w hs => run_v (by simp [hs.eval hx, Instr.fieldAt, Instr.sureAddr, fieldPlace, run_underlying hu, hf, hs', Addr.add_lit, ho])) hn h

theorem op_field {T : TypeId} {x : Operand} {i : Nat} {fs : Array Field} {f : Field} {cs : Array Value} {v : Value} (hx : ev m x = some (.agg cs)) (hu : c.P.underlying T = some (.struct fs)) (hf : fs[i]? = some f)
    (ha : ∀ w, (isAgg f.type).run c.P w = .ok false w) (hv : cs[f.offset]? = some v) (hn : Nat.blt d c.n = true) (h : At c ((d, v) :: m) rs K) :
    At c m rs (fun a w => Op1 c.P ⟨some d, .field T x i, t, pos, af, g⟩ a w K) :=
  op_pure (by intros; simp) (fun a w hs => run_v (by simp [hs.eval hx, Instr.field, asAgg, part, run_underlying hu, hf, ha, hv])) hn h

/-- an element's address, of an array in memory -/
theorem op_indexA {T E : TypeId} {x y : Operand} {b off n : Nat} {kd : IntKind} {i : Int} {len : Nat} (hx : ev m x = some (ptr b off)) (hy : ev m y = some (.int kd i)) (hu : c.P.underlying T = some (.array len E))
    (hs' : ∀ w, (Go.sizeOf E).run c.P w = .ok n w) (h0 : 0 ≤ i) (h1 : i < (len : Int)) (hn : Nat.blt d c.n = true) (h : At c ((d, ptr b (off + i.toNat * n)) :: m) rs K) :
    At c m rs (fun a w => Op1 c.P ⟨some d, .indexAddr T x y, t, pos, af, g⟩ a w K) :=
  op_pure (by intros; simp) (fun a w hs => run_v (by simp [hs.eval hx, hs.eval hy, Instr.indexAt, asIntOf, Instr.sureAddr, run_underlying hu, hs', h0, h1, Addr.add_lit])) hn h
/-- .. of a slice -/
theorem op_indexS {T E : TypeId} {x y : Operand} {b off n : Nat} {kd : IntKind} {i : Int} {len cp : Nat} (hx : ev m x = some (slc b off len cp)) (hy : ev m y = some (.int kd i)) (hu : c.P.underlying T = some (.slice E))
    (hs' : ∀ w, (Go.sizeOf E).run c.P w = .ok n w) (h0 : 0 ≤ i) (h1 : i < (len : Int)) (hn : Nat.blt d c.n = true) (h : At c ((d, ptr b (off + i.toNat * n)) :: m) rs K) :
    At c m rs (fun a w => Op1 c.P ⟨some d, .indexAddr T x y, t, pos, af, g⟩ a w K) :=
  op_pure (by intros; simp) (fun a w hs => run_v (by simp [hs.eval hx, hs.eval hy, Instr.indexAt, asIntOf, run_underlying hu, hs', h0, h1, Addr.add_lit])) hn h
/-- an element of an array that is a value -/
theorem op_indexV {T E : TypeId} {x y : Operand} {kd : IntKind} {i : Int} {len : Nat} {cs : Array Value} {v : Value} (hx : ev m x = some (.agg cs)) (hy : ev m y = some (.int kd i)) (hu : c.P.underlying T = some (.array len E))
    (hs' : ∀ w, (Go.sizeOf E).run c.P w = .ok 1 w) (ha : ∀ w, (isAgg E).run c.P w = .ok false w) (h0 : 0 ≤ i) (h1 : i < (len : Int)) (hv : cs[i.toNat]? = some v) (hn : Nat.blt d c.n = true) (h : At c ((d, v) :: m) rs K) :
    At c m rs (fun a w => Op1 c.P ⟨some d, .index T x y, t, pos, af, g⟩ a w K) :=
  op_pure (by intros; simp) (fun a w hs => run_v (by simp [hs.eval hx, hs.eval hy, Instr.index, asIntOf, part, run_underlying hu, hs', ha, h0, h1, hv])) hn h
/-- a byte of a string -/
theorem op_indexStr {T : TypeId} {x y : Operand} {kd : IntKind} {i : Int} {l : List UInt8} {v : UInt8} (hx : ev m x = some (str l)) (hy : ev m y = some (.int kd i)) (hu : c.P.underlying T = some .string) (h0 : 0 ≤ i) (hv : l[i.toNat]? = some v)
    (hn : Nat.blt d c.n = true) (h : At c ((d, u8 v) :: m) rs K) : At c m rs (fun a w => Op1 c.P ⟨some d, .index T x y, t, pos, af, g⟩ a w K) :=
  op_pure (by intros; simp) (fun a w hs => run_v (by
    have hb : (⟨l.toArray⟩ : ByteArray)[i.toNat]? = some v := by
      obtain ⟨h1, h2⟩ := List.getElem?_eq_some_iff.1 hv
      rw [getElem?_pos _ _ (by simpa [ByteArray.size] using h1)]
      simp [ByteArray.getElem_eq_getElem_data, h2]
    simp [hs.eval hx, str, hs.eval hy, Instr.index, asIntOf, run_underlying hu, h0, hb, u8])) hn h

theorem size_str (l : List UInt8) : (⟨l.toArray⟩ : ByteArray).size = l.length := by simp [ByteArray.size]
theorem op_len_str {T : TypeId} {x : Operand} {l : List UInt8} (hx : ev m x = some (str l)) (hu : c.P.underlying T = some .string) (hn : Nat.blt d c.n = true) (h : At c ((d, i64 l.length) :: m) rs K) :
    At c m rs (fun a w => Op1 c.P ⟨some d, .call ⟨.builtin .len, #[x], #[T]⟩, t, pos, af, g⟩ a w K) :=
  op_pure (by intros; simp) (fun a w hs => by simp [execOp, resolve, invoke, builtin, hs.eval hx, str, Builtin.len_, run_underlying hu, goInt, size_str]) hn h
theorem op_len_slc {T E : TypeId} {x : Operand} {ad : Option Addr} {n cp : Nat} (hx : ev m x = some (.slice ad n cp)) (hu : c.P.underlying T = some (.slice E)) (hn : Nat.blt d c.n = true) (h : At c ((d, i64 n) :: m) rs K) :
    At c m rs (fun a w => Op1 c.P ⟨some d, .call ⟨.builtin .len, #[x], #[T]⟩, t, pos, af, g⟩ a w K) :=
  op_pure (by intros; simp) (fun a w hs => by simp [execOp, resolve, invoke, builtin, hs.eval hx, Builtin.len_, run_underlying hu, goInt]) hn h
theorem op_cap_slc {T E : TypeId} {x : Operand} {ad : Option Addr} {n cp : Nat} (hx : ev m x = some (.slice ad n cp)) (hu : c.P.underlying T = some (.slice E)) (hn : Nat.blt d c.n = true) (h : At c ((d, i64 cp) :: m) rs K) :
    At c m rs (fun a w => Op1 c.P ⟨some d, .call ⟨.builtin .cap, #[x], #[T]⟩, t, pos, af, g⟩ a w K) :=
  op_pure (by intros; simp) (fun a w hs => by simp [execOp, resolve, invoke, builtin, hs.eval hx, Builtin.cap_, run_underlying hu, goInt]) hn h

/-- s[lo:hi] of a string -/
theorem run_bound {P : Program} {w : World} {kd : IntKind} {i : Int} {y : Nat} {code : BoundsCode} (h0 : 0 ≤ i) (h1 : i ≤ (y : Int)) : (Instr.sliceBound (.int kd i) y code).run P w = .ok i.toNat w := by
  simp [Instr.sliceBound, asIntOf, h0, h1]
theorem extract_str (l : List UInt8) (a b : Nat) : (⟨l.toArray⟩ : ByteArray).extract a b = ⟨((l.take b).drop a).toArray⟩ := by
  apply ByteArray.ext
  simp [List.take_drop]
  by_cases h : a ≤ b
  · rw [Nat.add_sub_cancel' h]
  · rw [List.drop_eq_nil_of_le (by simp; omega), List.drop_eq_nil_of_le (by simp; omega)]
theorem op_sl_str {T : TypeId} {x y z : Operand} {kd kd' : IntKind} {i j : Int} {l : List UInt8} (hx : ev m x = some (str l)) (hy : ev m y = some (.int kd i)) (hz : ev m z = some (.int kd' j)) (hu : c.P.underlying T = some .string) (h0 : 0 ≤ i) (h1 : i ≤ j) (h2 : j ≤ (l.length : Int))
    (hn : Nat.blt d c.n = true) (h : At c ((d, str ((l.take j.toNat).drop i.toNat)) :: m) rs K) : At c m rs (fun a w => Op1 c.P ⟨some d, .slice T x (some y) (some z) none, t, pos, af, g⟩ a w K) :=
  op_pure (by intros; simp) (fun a w hs => run_v (by
    simp [hs.eval hx, str, hs.eval hy, hs.eval hz, Instr.sliceAt, Instr.slice, Instr.sliceBounds, run_underlying hu, run_bound (P := c.P) (show 0 ≤ j by omega) (show j ≤ ((⟨l.toArray⟩ : ByteArray).size : Int) by simpa [ByteArray.size] using h2),
      run_bound (P := c.P) (kd := kd) (y := j.toNat) h0 (by omega), extract_str])) hn h
theorem op_sl_str_lo {T : TypeId} {x y : Operand} {kd : IntKind} {i : Int} {l : List UInt8} (hx : ev m x = some (str l)) (hy : ev m y = some (.int kd i)) (hu : c.P.underlying T = some .string) (h0 : 0 ≤ i) (h1 : i ≤ (l.length : Int))
    (hn : Nat.blt d c.n = true) (h : At c ((d, str (l.drop i.toNat)) :: m) rs K) : At c m rs (fun a w => Op1 c.P ⟨some d, .slice T x (some y) none none, t, pos, af, g⟩ a w K) :=
  op_pure (by intros; simp) (fun a w hs => run_v (by
    simp [hs.eval hx, str, hs.eval hy, Instr.sliceAt, Instr.slice, Instr.sliceBounds, run_underlying hu, run_bound (P := c.P) (kd := kd) (y := l.length) h0 h1, extract_str, size_str])) hn h
theorem op_sl_str_hi {T : TypeId} {x z : Operand} {kd : IntKind} {j : Int} {l : List UInt8} (hx : ev m x = some (str l)) (hz : ev m z = some (.int kd j)) (hu : c.P.underlying T = some .string) (h0 : 0 ≤ j) (h1 : j ≤ (l.length : Int))
    (hn : Nat.blt d c.n = true) (h : At c ((d, str (l.take j.toNat)) :: m) rs K) : At c m rs (fun a w => Op1 c.P ⟨some d, .slice T x none (some z) none, t, pos, af, g⟩ a w K) :=
  op_pure (by intros; simp) (fun a w hs => run_v (by
    have hsz : (⟨l.toArray⟩ : ByteArray).size = l.length := by simp [ByteArray.size]
    simp [hs.eval hx, str, hs.eval hz, Instr.sliceAt, Instr.slice, Instr.sliceBounds, run_underlying hu, run_bound (P := c.P) (kd := kd) (y := (⟨l.toArray⟩ : ByteArray).size) h0 (by rw [hsz]; exact h1), extract_str])) hn h

/-! #### conversions -/
theorem op_conv {S T : TypeId} {x : Operand} {vx v : Value} (hx : ev m x = some vx) (hr : ∀ w, (convert S T vx).run c.P w = .ok v w) (hn : Nat.blt d c.n = true) (h : At c ((d, v) :: m) rs K) :
    At c m rs (fun a w => Op1 c.P ⟨some d, .convert S T x, t, pos, af, g⟩ a w K) :=
  op_pure (by intros; simp) (fun a w hs => run_v (by rw [hs.eval hx]; exact hr w)) hn h
theorem cv_int {P : Program} {S T : TypeId} {sd : TypeDesc} {kd kd' : IntKind} {n p : Int} (hS : P.underlying S = some sd) (hT : P.underlying T = some (.int kd')) (hp : kd'.wrap n = p) (w : World) :
    (convert S T (.int kd n)).run P w = .ok (.int kd' p) w := by
  simp [convert, run_underlying hS, run_underlying hT, Conv.intToInt, hp]

/-- []byte(s): the capacity is drawn -/
theorem op_bytes {S T E : TypeId} {x : Operand} {l : List UInt8} (hx : ev m x = some (str l)) (hS : c.P.underlying S = some .string) (hT : c.P.underlying T = some (.slice E)) (hE : c.P.underlying E = some (.int .u8)) (hn : Nat.blt d c.n = true)
    (h : ∀ b cp, l.length ≤ cp → At c ((d, slc b 0 l.length cp) :: m) (row b (l.map u8 ++ List.replicate (cp - l.length) (u8 0)) E (cp, cp + 1) :: rs) K) :
    At c m rs (fun a w => Op1 c.P ⟨some d, .convert S T x, t, pos, af, g⟩ a w K) := by
  intro a w hs hh
  obtain ⟨cp, hcp⟩ : ∃ cp, cp = (Question.appendCap l.length 0 E).cut (w.tape w.drawn (.appendCap l.length 0 E)) := ⟨_, rfl⟩
  have hle : l.length ≤ cp := by rw [hcp]; simp [Question.cut]
  have hsz : (⟨l.toArray⟩ : ByteArray).size = l.length := by simp [ByteArray.size]
  have hcells : (Array.map (fun b : UInt8 => Value.int .u8 b.toNat) l.toArray ++ Array.replicate (cp - l.length) (.int .u8 0)) = (l.map u8 ++ List.replicate (cp - l.length) (u8 0)).toArray := by
    simp [u8]
  have hh1 : Hp c.G c.w0 c.S (row w.heap.size (l.map u8 ++ List.replicate (cp - l.length) (u8 0)) E (0, 0) :: rs) (({ w with drawn := w.drawn + 1 } : World).alloc (.cells (l.map u8 ++ List.replicate (cp - l.length) (u8 0)).toArray E)) :=
    (hh.drew (w.drawn + 1)).new _
  have hb := hh1.good.holds _ (List.mem_cons_self ..)
  have hlen : (l.map u8 ++ List.replicate (cp - l.length) (u8 0)).length = cp := by simp; omega
  have hsh : (({ w with drawn := w.drawn + 1 } : World).alloc (.cells (l.map u8 ++ List.replicate (cp - l.length) (u8 0)).toArray E)).shape? w.heap.size = some (E, cp) := by
    have hb' : (({ w with drawn := w.drawn + 1 } : World).alloc (.cells (l.map u8 ++ List.replicate (cp - l.length) (u8 0)).toArray E)).heap[w.heap.size]? = some (.cells (l.map u8 ++ List.replicate (cp - l.length) (u8 0)).toArray E) := hb
    simp only [World.shape?, hb']
    simp only [List.size_toArray, hlen]
  have r1 : (choose (.appendCap l.length 0 E)).run c.P w = .ok cp { w with drawn := w.drawn + 1 } := by
    rw [hcp]; rfl
  have r2 : (newRow E (l.map u8 ++ List.replicate (cp - l.length) (u8 0)).toArray).run c.P { w with drawn := w.drawn + 1 } = .ok ⟨w.heap.size, 0, none⟩ (({ w with drawn := w.drawn + 1 } : World).alloc (.cells (l.map u8 ++ List.replicate (cp - l.length) (u8 0)).toArray E)) := rfl
  have r3 : (markStringish ⟨w.heap.size, 0, none⟩).run c.P (({ w with drawn := w.drawn + 1 } : World).alloc (.cells (l.map u8 ++ List.replicate (cp - l.length) (u8 0)).toArray E)) =
      .ok () ((({ w with drawn := w.drawn + 1 } : World).alloc (.cells (l.map u8 ++ List.replicate (cp - l.length) (u8 0)).toArray E)).freeze ⟨w.heap.size, cp, none⟩ 1) := by
    have hs1 : ∀ W : World, (shape w.heap.size).run c.P W = .ok (W.shape? w.heap.size) W := fun _ => rfl
    unfold markStringish
    simp only [Sem.run_bind, hs1, hsh, Result.andThen_ok]
    rfl
  have r : (Conv.stringToBytes E ⟨l.toArray⟩).run c.P w = .ok (slc w.heap.size 0 l.length cp) ((({ w with drawn := w.drawn + 1 } : World).alloc (.cells (l.map u8 ++ List.replicate (cp - l.length) (u8 0)).toArray E)).freeze ⟨w.heap.size, cp, none⟩ 1) := by
    unfold Conv.stringToBytes
    rw [hsz]
    simp only [Sem.run_bind, r1, Result.andThen_ok]
    rw [show ((⟨l.toArray⟩ : ByteArray).data.map fun b : UInt8 => Value.int .u8 b.toNat) ++ Array.replicate (cp - l.length) (.int .u8 0) = (l.map u8 ++ List.replicate (cp - l.length) (u8 0)).toArray from hcells]
    simp only [r2, r3, Result.andThen_ok, Sem.run_pure]
  refine op1_run (v := slc w.heap.size 0 l.length cp) (w' := (({ w with drawn := w.drawn + 1 } : World).alloc (.cells (l.map u8 ++ List.replicate (cp - l.length) (u8 0)).toArray E)).freeze ⟨w.heap.size, cp, none⟩ 1) (by intros; simp) (run_v ?_) (h _ cp hle _ _ (hs.put hn) ?_)
  · simp only [hs.eval hx, str, convert, run_underlying hS, run_underlying hT, run_underlying hE, Sem.run_bind, Result.andThen_ok, r]
  · refine hh1.turn ?_ ?_ ?_ ?_ ?_ ?_
    all_goals simp only [World.freeze, Nat.one_ne_zero, if_false]
    · simp
    · have hb' : (({ w with drawn := w.drawn + 1 } : World).alloc (.cells (l.map u8 ++ List.replicate (cp - l.length) (u8 0)).toArray E)).heap[w.heap.size]? = some (.cells (l.map u8 ++ List.replicate (cp - l.length) (u8 0)).toArray E) := hb
      simp only [Array.getElem?_modify, hb']
      simp
    · intro j hj
      simp only [Array.getElem?_modify]
      rw [if_neg (by omega)]
end
end SL
