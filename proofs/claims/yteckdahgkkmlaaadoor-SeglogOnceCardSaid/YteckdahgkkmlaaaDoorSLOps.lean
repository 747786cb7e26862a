/- Rules for single operations. -/
import Derived.Test.YteckdahgkkmlaaaDoorSLCore
import Derived.Laws.Entries
import Derived.Laws.Strings
import Derived.Laws.Rows
namespace SL
open Go

/-- encoders -/
@[reducible] def i64 (n : Int) : Value := .int .i64 n
def u8 (x : UInt8) : Value := .int .u8 x.toNat
def u16 (x : UInt16) : Value := .int .u16 x.toNat
def u32 (x : UInt32) : Value := .int .u32 x.toNat
def u64 (x : UInt64) : Value := .int .u64 x.toNat
def str (l : List UInt8) : Value := .string ⟨l.toArray⟩
@[reducible] def ptr (b off : Nat) : Value := .pointer (some ⟨b, off, none⟩)
@[reducible] def slc (b off len cap : Nat) : Value := .slice (some ⟨b, off, none⟩) len cap
@[reducible] def nilS : Value := .slice none 0 0

section
variable {c : Cx} {m : List (Nat × Value)} {rs : List Res} {K : Act → World → Prop} {d t : Nat} {pos : String} {af : Array Edge} {g : Option (Nat × Bool)}

theorem op1_run {P : Program} {o : Oper} {a : Act} {w w' : World} {K : Act → World → Prop} {v : Value} (hd : ∀ cl, o.op ≠ .defer cl) (h : (execOp a.eval o).run P w = .ok (.value v) w') (hk : K (a.put o.dst v) w') : Op1 P o a w K := by
  refine ⟨hd, ?_⟩
  rw [h]; exact hk

theorem op1_skip {P : Program} {o : Oper} {a : Act} {w w' : World} {K : Act → World → Prop} (hd : ∀ cl, o.op ≠ .defer cl) (h : (execOp a.eval o).run P w = .ok .skip w') (hk : K (a.put o.dst undef) w') : Op1 P o a w K := by
  refine ⟨hd, ?_⟩
  rw [h]; exact hk

theorem run_v {P : Program} {w w' : World} {s : Sem Value} {v : Value} (h : s.run P w = .ok v w') : (do pure (.value (← s)) : Sem Next).run P w = .ok (.value v) w' := by
  simp [h]

/-- an operation that only reckons -/
theorem op_pure {op : Op} {v : Value} (hdf : ∀ cl, op ≠ .defer cl) (hrun : ∀ a w, Slots c.n c.ds m a → (execOp a.eval ⟨some d, op, t, pos, af, g⟩).run c.P w = .ok (.value v) w) (hn : Nat.blt d c.n = true)
    (h : At c ((d, v) :: m) rs K) : At c m rs (fun a w => Op1 c.P ⟨some d, op, t, pos, af, g⟩ a w K) :=
  fun a w hs hh => op1_run hdf (hrun a w hs) (h _ w (hs.put hn) hh)

theorem op_move {x : Operand} {v : Value} (hx : ev m x = some v) (hn : Nat.blt d c.n = true) (h : At c ((d, v) :: m) rs K) : At c m rs (fun a w => Op1 c.P ⟨some d, .move x, t, pos, af, g⟩ a w K) :=
  op_pure (by intros; simp) (fun a w hs => by simp [execOp, hs.eval hx]) hn h
theorem op_assign {x : Operand} {v : Value} (hx : ev m x = some v) (hn : Nat.blt d c.n = true) (h : At c ((d, v) :: m) rs K) : At c m rs (fun a w => Op1 c.P ⟨some d, .assign x, t, pos, af, g⟩ a w K) :=
  op_pure (by intros; simp) (fun a w hs => by simp [execOp, hs.eval hx]) hn h
/-- an assignment to nothing -/
theorem op_assign_ {x : Operand} (h : At c m rs K) : At c m rs (fun a w => Op1 c.P ⟨none, .assign x, t, pos, af, g⟩ a w K) :=
  fun a w hs hh => op1_run (v := a.eval x) (by intros; simp) (by simp [execOp]) (h _ w hs hh)
theorem op_move_ {x : Operand} (h : At c m rs K) : At c m rs (fun a w => Op1 c.P ⟨none, .move x, t, pos, af, g⟩ a w K) :=
  fun a w hs hh => op1_run (v := a.eval x) (by intros; simp) (by simp [execOp]) (h _ w hs hh)
theorem op_pick {x y z : Operand} {b : Bool} {vy vz : Value} (hx : ev m x = some (.bool b)) (hy : ev m y = some vy) (hz : ev m z = some vz) (hn : Nat.blt d c.n = true) (h : At c ((d, if b then vy else vz) :: m) rs K) :
    At c m rs (fun a w => Op1 c.P ⟨some d, .pick x y z, t, pos, af, g⟩ a w K) :=
  op_pure (by intros; simp) (fun a w hs => by simp [execOp, hs.eval hx, hs.eval hy, hs.eval hz, asBool]) hn h
/-- 'a && b' with both known -/
theorem op_pick_and {x y : Operand} {b b' : Bool} (hx : ev m x = some (.bool b)) (hy : ev m y = some (.bool b')) (hn : Nat.blt d c.n = true) (h : At c ((d, .bool (b && b')) :: m) rs K) :
    At c m rs (fun a w => Op1 c.P ⟨some d, .pick x y (.const (.bool false)), t, pos, af, g⟩ a w K) :=
  op_pick (vz := .bool false) hx hy rfl hn (by cases b <;> exact h)
theorem op_pick_t {x y z : Operand} {vy : Value} (hx : ev m x = some (.bool true)) (hy : ev m y = some vy) (hn : Nat.blt d c.n = true) (h : At c ((d, vy) :: m) rs K) :
    At c m rs (fun a w => Op1 c.P ⟨some d, .pick x y z, t, pos, af, g⟩ a w K) :=
  op_pure (by intros; simp) (fun a w hs => by simp [execOp, hs.eval hx, hs.eval hy, asBool]) hn h
theorem op_pick_f {x y z : Operand} {vz : Value} (hx : ev m x = some (.bool false)) (hz : ev m z = some vz) (hn : Nat.blt d c.n = true) (h : At c ((d, vz) :: m) rs K) :
    At c m rs (fun a w => Op1 c.P ⟨some d, .pick x y z, t, pos, af, g⟩ a w K) :=
  op_pure (by intros; simp) (fun a w hs => by simp [execOp, hs.eval hx, hs.eval hz, asBool]) hn h

theorem op_extract {x : Operand} {vs : Array Value} {i : Nat} {v : Value} (hx : ev m x = some (.tuple vs)) (hi : vs[i]? = some v) (hn : Nat.blt d c.n = true) (h : At c ((d, v) :: m) rs K) :
    At c m rs (fun a w => Op1 c.P ⟨some d, .extract x i, t, pos, af, g⟩ a w K) :=
  op_pure (by intros; simp) (fun a w hs => by simp [execOp, hs.eval hx, Instr.extract, hi]) hn h
/-- the i-th of a list -/
inductive Nth : List Value → Nat → Value → Prop
  | zero {v : Value} {l : List Value} : Nth (v :: l) 0 v
  | succ {u v : Value} {l : List Value} {i : Nat} (h : Nth l i v) : Nth (u :: l) (i + 1) v
theorem Nth.spec {l : List Value} {i : Nat} {v : Value} (h : Nth l i v) : l[i]? = some v := by
  induction h with
  | zero => rfl
  | succ _ ih => simpa using ih
theorem op_extractL {x : Operand} {l : List Value} {i : Nat} {v : Value} (hx : ev m x = some (.tuple l.toArray)) (hi : Nth l i v) (hn : Nat.blt d c.n = true) (h : At c ((d, v) :: m) rs K) :
    At c m rs (fun a w => Op1 c.P ⟨some d, .extract x i, t, pos, af, g⟩ a w K) :=
  op_extract hx (by simpa using hi.spec) hn h
theorem op_extract_ {x : Operand} {vs : Array Value} {i : Nat} {v : Value} (hx : ev m x = some (.tuple vs)) (hi : vs[i]? = some v) (h : At c m rs K) :
    At c m rs (fun a w => Op1 c.P ⟨none, .extract x i, t, pos, af, g⟩ a w K) :=
  fun a w hs hh => op1_run (v := v) (by intros; simp) (by simp [execOp, hs.eval hx, Instr.extract, hi]) (h _ w hs hh)

/-! #### operators -/
def Bin (P : Program) (op : BinOp) (T : TypeId) (x y : Operand) (vx vy v : Value) : Prop :=
  ∀ w, (do eqGuard op T x y vx vy; binOp op T vx vy : Sem Value).run P w = .ok v w

theorem op_bin {op : BinOp} {T T' : TypeId} {x y : Operand} {vx vy v : Value} (hx : ev m x = some vx) (hy : ev m y = some vy) (hb : Bin c.P op T x y vx vy v) (hn : Nat.blt d c.n = true) (h : At c ((d, v) :: m) rs K) :
    At c m rs (fun a w => Op1 c.P ⟨some d, .binOp op T x y T', t, pos, af, g⟩ a w K) :=
  op_pure (by intros; simp) (fun a w hs => run_v (by rw [hs.eval hx, hs.eval hy]; exact hb w)) hn h

theorem op_not {T : TypeId} {x : Operand} {b : Bool} (hx : ev m x = some (.bool b)) (hn : Nat.blt d c.n = true) (h : At c ((d, .bool (!b)) :: m) rs K) :
    At c m rs (fun a w => Op1 c.P ⟨some d, .unOp .not T x, t, pos, af, g⟩ a w K) :=
  op_pure (by intros; simp) (fun a w hs => run_v (by rw [hs.eval hx]; rfl)) hn h
theorem op_un {u : UnOp} {T : TypeId} {x : Operand} {vx v : Value} (hx : ev m x = some vx) (hu : ∀ w, (Op.unary u vx).run c.P w = .ok v w) (hn : Nat.blt d c.n = true) (h : At c ((d, v) :: m) rs K) :
    At c m rs (fun a w => Op1 c.P ⟨some d, .unOp u T x, t, pos, af, g⟩ a w K) :=
  op_pure (by intros; simp) (fun a w hs => run_v (by rw [hs.eval hx]; exact hu w)) hn h

end

section bin
variable {P : Program} {T : TypeId} {x y : Operand}

theorem wrap_i64 {n : Int} (h1 : -9223372036854775808 ≤ n) (h2 : n ≤ 9223372036854775807) : IntKind.i64.wrap n = n := by
  simp only [IntKind.wrap, IntKind.bits, IntKind.signed]
  simp
  omega

/-- the guard on '==' asks nothing at whole numbers, bools, strings, pointers -/
theorem run_eqGuard_int {op : BinOp} {k k' : IntKind} {p q : Int} (w : World) : (eqGuard op T x y (.int k p) (.int k' q)).run P w = .ok () w := by
  unfold eqGuard; cases op <;> rfl
theorem run_eqGuard_str {op : BinOp} {p q : ByteArray} (w : World) : (eqGuard op T x y (.string p) (.string q)).run P w = .ok () w := by
  unfold eqGuard; cases op <;> rfl
theorem run_eqGuard_bool {op : BinOp} {p q : Bool} (w : World) : (eqGuard op T x y (.bool p) (.bool q)).run P w = .ok () w := by
  unfold eqGuard; cases op <;> rfl

theorem b_add {p q : Int} (h1 : -9223372036854775808 ≤ p + q) (h2 : p + q ≤ 9223372036854775807) : Bin P .add T x y (i64 p) (i64 q) (i64 (p + q)) := fun w => by
  simp [run_eqGuard_int, binOp, Op.intArith, wrap_i64 h1 h2]
theorem b_sub {p q : Int} (h1 : -9223372036854775808 ≤ p - q) (h2 : p - q ≤ 9223372036854775807) : Bin P .sub T x y (i64 p) (i64 q) (i64 (p - q)) := fun w => by
  simp [run_eqGuard_int, binOp, Op.intArith, wrap_i64 h1 h2]
theorem b_mul {p q : Int} (h1 : -9223372036854775808 ≤ p * q) (h2 : p * q ≤ 9223372036854775807) : Bin P .mul T x y (i64 p) (i64 q) (i64 (p * q)) := fun w => by
  simp [run_eqGuard_int, binOp, Op.intArith, wrap_i64 h1 h2]
theorem b_quo {p q : Int} (h0 : 0 ≤ p) (h1 : p ≤ 9223372036854775807) (hq : 0 < q) : Bin P .quo T x y (i64 p) (i64 q) (i64 (p / q)) := fun w => by
  have hd : p.tdiv q = p / q := Int.tdiv_eq_ediv_of_nonneg h0
  have h2 : 0 ≤ p / q := Int.ediv_nonneg h0 (by omega)
  have h3 : p / q ≤ p := Int.ediv_le_self q h0
  have hw := wrap_i64 (n := p / q) (by omega) (by omega)
  have hne : q ≠ 0 := by omega
  simp [run_eqGuard_int, binOp, Op.intDiv, hne, hd, hw]
theorem b_rem {p q : Int} (h0 : 0 ≤ p) (hq : 0 < q) : Bin P .rem T x y (i64 p) (i64 q) (i64 (p % q)) := fun w => by
  have hd : p.tmod q = p % q := Int.tmod_eq_emod_of_nonneg h0
  have hne : q ≠ 0 := by omega
  simp [run_eqGuard_int, binOp, Op.intDiv, hne, hd]

theorem b_eq {k : IntKind} {p q : Int} : Bin P .eql T x y (.int k p) (.int k q) (.bool (decide (p = q))) := fun w => by
  simp [run_eqGuard_int, binOp, Op.intCmp]
  by_cases h : p = q <;> simp [h]
theorem b_ne {k : IntKind} {p q : Int} : Bin P .neq T x y (.int k p) (.int k q) (.bool (!decide (p = q))) := fun w => by
  simp [run_eqGuard_int, binOp, Op.intCmp, bne]
  by_cases h : p = q <;> simp [h]
theorem b_lt {k : IntKind} {p q : Int} : Bin P .lss T x y (.int k p) (.int k q) (.bool (decide (p < q))) := fun w => by
  simp [run_eqGuard_int, binOp, Op.intCmp]
theorem b_le {k : IntKind} {p q : Int} : Bin P .leq T x y (.int k p) (.int k q) (.bool (decide (p ≤ q))) := fun w => by
  simp [run_eqGuard_int, binOp, Op.intCmp]
theorem b_gt {k : IntKind} {p q : Int} : Bin P .gtr T x y (.int k p) (.int k q) (.bool (decide (q < p))) := fun w => by
  simp [run_eqGuard_int, binOp, Op.intCmp]
theorem b_ge {k : IntKind} {p q : Int} : Bin P .geq T x y (.int k p) (.int k q) (.bool (decide (q ≤ p))) := fun w => by
  simp [run_eqGuard_int, binOp, Op.intCmp]

theorem beq_dec (a b : List UInt8) : (a == b) = decide (a = b) := by
  by_cases e : a = b <;> simp [e]
theorem b_cat {a b : List UInt8} (h : a.length + b.length ≤ 9223372036854775807) : Bin P .add T x y (str a) (str b) (str (a ++ b)) := fun w => by
  have hh : ¬ (IntKind.i64.max < ((a.length + b.length : Nat) : Int)) := by simp [IntKind.max, IntKind.bits, IntKind.signed]; omega
  have he : (⟨a.toArray⟩ : ByteArray) ++ ⟨b.toArray⟩ = ⟨(a ++ b).toArray⟩ := by
    apply ByteArray.ext; simp
  have hs : ∀ l : List UInt8, (⟨l.toArray⟩ : ByteArray).size = l.length := fun l => by simp [ByteArray.size]
  simp [run_eqGuard_str, str, binOp, Op.stringOp, he, hs]
  omega
theorem b_seq {a b : List UInt8} : Bin P .eql T x y (str a) (str b) (.bool (decide (a = b))) := fun w => by
  simp [run_eqGuard_str, str, binOp, Op.stringOp, beq_dec]
theorem b_sne {a b : List UInt8} : Bin P .neq T x y (str a) (str b) (.bool (!decide (a = b))) := fun w => by
  simp [run_eqGuard_str, str, binOp, Op.stringOp, beq_dec]
end bin
end SL
