/- Unsigned numbers: operators and conversions. -/
import Derived.Test.YteckdahgkkmlaaaDoorSLAdr
namespace SL
open Go

section
variable {P : Program} {T : TypeId} {x y : Operand}

theorem Bin.cast {op : BinOp} {vx vy v v' : Value} (h : Bin P op T x y vx vy v) (e : v = v') : Bin P op T x y vx vy v' := e ▸ h
theorem bk_add {k : IntKind} {p q : Int} : Bin P .add T x y (.int k p) (.int k q) (.int k (k.wrap (p + q))) := fun w => by
  simp [run_eqGuard_int, binOp, Op.intArith]
theorem bk_sub {k : IntKind} {p q : Int} : Bin P .sub T x y (.int k p) (.int k q) (.int k (k.wrap (p - q))) := fun w => by
  simp [run_eqGuard_int, binOp, Op.intArith]
theorem bk_mul {k : IntKind} {p q : Int} : Bin P .mul T x y (.int k p) (.int k q) (.int k (k.wrap (p * q))) := fun w => by
  simp [run_eqGuard_int, binOp, Op.intArith]
theorem bk_quo {k : IntKind} {p q : Int} (h : q ≠ 0) : Bin P .quo T x y (.int k p) (.int k q) (.int k (k.wrap (p.tdiv q))) := fun w => by
  simp [run_eqGuard_int, binOp, Op.intDiv, h]
theorem bk_rem {k : IntKind} {p q : Int} (h : q ≠ 0) : Bin P .rem T x y (.int k p) (.int k q) (.int k (p.tmod q)) := fun w => by
  simp [run_eqGuard_int, binOp, Op.intDiv, h]
theorem bk_and {k : IntKind} {p q : Int} : Bin P .and T x y (.int k p) (.int k q) (.int k (k.wrap (BitVec.ofInt k.bits p &&& BitVec.ofInt k.bits q).toNat)) := fun w => by
  simp only [Sem.run_bind, run_eqGuard_int, Result.andThen_ok, binOp, Op.intBits, ne_eq, not_true_eq_false, if_false, Sem.run_pure]
theorem bk_or {k : IntKind} {p q : Int} : Bin P .or T x y (.int k p) (.int k q) (.int k (k.wrap (BitVec.ofInt k.bits p ||| BitVec.ofInt k.bits q).toNat)) := fun w => by
  simp only [Sem.run_bind, run_eqGuard_int, Result.andThen_ok, binOp, Op.intBits, ne_eq, not_true_eq_false, if_false, Sem.run_pure]
theorem bk_xor {k : IntKind} {p q : Int} : Bin P .xor T x y (.int k p) (.int k q) (.int k (k.wrap (BitVec.ofInt k.bits p ^^^ BitVec.ofInt k.bits q).toNat)) := fun w => by
  simp only [Sem.run_bind, run_eqGuard_int, Result.andThen_ok, binOp, Op.intBits, ne_eq, not_true_eq_false, if_false, Sem.run_pure]
theorem bk_shl {k kd : IntKind} {p : Int} {n : Nat} (h : n ≤ k.bits) : Bin P .shl T x y (.int k p) (.int kd n) (.int k (k.wrap (p * 2 ^ n))) := fun w => by
  have hneg : ¬ ((n : Int) < 0) := by omega
  have hmin : min ((n : Int).toNat) k.bits = n := by rw [Int.toNat_natCast]; exact Nat.min_eq_left h
  simp only [Sem.run_bind, run_eqGuard_int, Result.andThen_ok, binOp, Op.shift, hneg, if_false, hmin, Sem.run_pure]
theorem bk_shr {k kd : IntKind} {p : Int} {n : Nat} (h : n ≤ k.bits) : Bin P .shr T x y (.int k p) (.int kd n) (.int k (p.fdiv (2 ^ n))) := fun w => by
  have hneg : ¬ ((n : Int) < 0) := by omega
  have hmin : min ((n : Int).toNat) k.bits = n := by rw [Int.toNat_natCast]; exact Nat.min_eq_left h
  simp only [Sem.run_bind, run_eqGuard_int, Result.andThen_ok, binOp, Op.shift, hneg, if_false, hmin, Sem.run_pure]

theorem wrap_u8 (n : Int) : IntKind.u8.wrap n = n % 256 := by
  simp [IntKind.wrap, IntKind.bits, IntKind.signed]
theorem u8_inj {p q : UInt8} : ((p.toNat : Int) = q.toNat) ↔ p = q := by
  rw [Int.ofNat_inj]; exact UInt8.toNat_inj
theorem wrap_toNat_u8 (p : UInt8) : IntKind.u8.wrap (p.toNat : Int) = p.toNat := by
  rw [wrap_u8]
  have := p.toNat_lt
  omega
theorem ofInt_u8 (p : UInt8) : BitVec.ofInt IntKind.u8.bits (p.toNat : Int) = p.toBitVec := by
  apply BitVec.eq_of_toNat_eq
  show (BitVec.ofInt 8 (p.toNat : Int)).toNat = p.toNat
  rw [BitVec.ofInt_natCast, BitVec.toNat_ofNat]
  exact Nat.mod_eq_of_lt p.toNat_lt
theorem b8_add (p q : UInt8) : Bin P .add T x y (u8 p) (u8 q) (u8 (p + q)) :=
  Bin.cast bk_add (congrArg (Value.int .u8) (by rw [wrap_u8, UInt8.toNat_add]; omega))
theorem b8_sub (p q : UInt8) : Bin P .sub T x y (u8 p) (u8 q) (u8 (p - q)) :=
  Bin.cast bk_sub (congrArg (Value.int .u8) (by
    rw [wrap_u8, UInt8.toNat_sub]
    have hp := p.toNat_lt
    have hq := q.toNat_lt
    omega))
theorem b8_mul (p q : UInt8) : Bin P .mul T x y (u8 p) (u8 q) (u8 (p * q)) :=
  Bin.cast bk_mul (congrArg (Value.int .u8) (by rw [wrap_u8, UInt8.toNat_mul, Int.natCast_emod, Int.natCast_mul]; rfl))
theorem b8_and (p q : UInt8) : Bin P .and T x y (u8 p) (u8 q) (u8 (p &&& q)) :=
  Bin.cast bk_and (congrArg (Value.int .u8) (by rw [ofInt_u8, ofInt_u8]; exact wrap_toNat_u8 (p &&& q)))
theorem b8_or (p q : UInt8) : Bin P .or T x y (u8 p) (u8 q) (u8 (p ||| q)) :=
  Bin.cast bk_or (congrArg (Value.int .u8) (by rw [ofInt_u8, ofInt_u8]; exact wrap_toNat_u8 (p ||| q)))
theorem b8_xor (p q : UInt8) : Bin P .xor T x y (u8 p) (u8 q) (u8 (p ^^^ q)) :=
  Bin.cast bk_xor (congrArg (Value.int .u8) (by rw [ofInt_u8, ofInt_u8]; exact wrap_toNat_u8 (p ^^^ q)))
theorem un8_not (p : UInt8) (w : World) : (Op.unary .xor (u8 p)).run P w = .ok (u8 (~~~p)) w := by
  have e1 : IntKind.u8.wrap (BitVec.ofInt IntKind.u8.bits IntKind.u8.max ^^^ BitVec.ofInt IntKind.u8.bits (p.toNat : Int)).toNat = (~~~p).toNat := by
    have h1 : BitVec.ofInt 8 IntKind.u8.max = BitVec.allOnes 8 := by decide
    have h2 : BitVec.ofInt 8 (p.toNat : Int) = p.toBitVec := ofInt_u8 p
    show IntKind.u8.wrap (BitVec.ofInt 8 IntKind.u8.max ^^^ BitVec.ofInt 8 (p.toNat : Int)).toNat = _
    rw [h1, h2, BitVec.allOnes_xor]
    exact wrap_toNat_u8 (~~~p)
  have hs : IntKind.u8.signed = false := rfl
  simp only [u8, Op.unary, hs, Bool.false_eq_true, if_false, Op.intBits, Sem.run_pure, e1]
theorem b8_quo (p q : UInt8) (hq : q ≠ 0) : Bin P .quo T x y (u8 p) (u8 q) (u8 (p / q)) :=
  Bin.cast (bk_quo (fun h => hq (UInt8.toNat_inj.1 (by simpa using h)))) (congrArg (Value.int .u8) (by
    rw [← wrap_toNat_u8 (p / q), UInt8.toNat_div]; rfl))
theorem b8_rem (p q : UInt8) (hq : q ≠ 0) : Bin P .rem T x y (u8 p) (u8 q) (u8 (p % q)) :=
  Bin.cast (bk_rem (fun h => hq (UInt8.toNat_inj.1 (by simpa using h)))) (congrArg (Value.int .u8) (by rw [UInt8.toNat_mod]; rfl))
theorem b8_eq (p q : UInt8) : Bin P .eql T x y (u8 p) (u8 q) (.bool (decide (p = q))) :=
  Bin.cast b_eq (congrArg Value.bool (by rw [decide_eq_decide]; exact u8_inj))
theorem b8_ne (p q : UInt8) : Bin P .neq T x y (u8 p) (u8 q) (.bool (!decide (p = q))) :=
  Bin.cast b_ne (congrArg (fun b => Value.bool (!b)) (by rw [decide_eq_decide]; exact u8_inj))
theorem b8_shl (p : UInt8) (kd : IntKind) (n : Nat) (h : n < 8) : Bin P .shl T x y (u8 p) (.int kd n) (u8 (p <<< UInt8.ofNat n)) :=
  Bin.cast (bk_shl (show n ≤ 8 by omega)) (congrArg (Value.int .u8) (by
    rw [wrap_u8, UInt8.toNat_shiftLeft, UInt8.toNat_ofNat', Nat.mod_eq_of_lt (a := n) (by omega), Nat.mod_eq_of_lt h, Nat.shiftLeft_eq, Int.natCast_emod, Int.natCast_mul, Int.natCast_pow]
    rfl))
theorem b8_shr (p : UInt8) (kd : IntKind) (n : Nat) (h : n < 8) : Bin P .shr T x y (u8 p) (.int kd n) (u8 (p >>> UInt8.ofNat n)) :=
  Bin.cast (bk_shr (show n ≤ 8 by omega)) (congrArg (Value.int .u8) (by
    rw [UInt8.toNat_shiftRight, UInt8.toNat_ofNat', Nat.mod_eq_of_lt (a := n) (by omega), Nat.mod_eq_of_lt h, Nat.shiftRight_eq_div_pow, Int.fdiv_eq_ediv_of_nonneg _ (by exact Int.pow_nonneg (by omega)), Int.natCast_ediv, Int.natCast_pow]
    rfl))

theorem b8_lt (p q : UInt8) : Bin P .lss T x y (u8 p) (u8 q) (.bool (decide (p < q))) :=
  Bin.cast b_lt (congrArg Value.bool (by rw [decide_eq_decide, UInt8.lt_iff_toNat_lt]; omega))

theorem b8_le (p q : UInt8) : Bin P .leq T x y (u8 p) (u8 q) (.bool (decide (p ≤ q))) :=
  Bin.cast b_le (congrArg Value.bool (by rw [decide_eq_decide, UInt8.le_iff_toNat_le]; omega))

theorem b8_gt (p q : UInt8) : Bin P .gtr T x y (u8 p) (u8 q) (.bool (decide (q < p))) :=
  Bin.cast b_gt (congrArg Value.bool (by rw [decide_eq_decide, UInt8.lt_iff_toNat_lt]; omega))

theorem b8_ge (p q : UInt8) : Bin P .geq T x y (u8 p) (u8 q) (.bool (decide (q ≤ p))) :=
  Bin.cast b_ge (congrArg Value.bool (by rw [decide_eq_decide, UInt8.le_iff_toNat_le]; omega))

theorem wrap_u16 (n : Int) : IntKind.u16.wrap n = n % 65536 := by
  simp [IntKind.wrap, IntKind.bits, IntKind.signed]
theorem u16_inj {p q : UInt16} : ((p.toNat : Int) = q.toNat) ↔ p = q := by
  rw [Int.ofNat_inj]; exact UInt16.toNat_inj
theorem wrap_toNat_u16 (p : UInt16) : IntKind.u16.wrap (p.toNat : Int) = p.toNat := by
  rw [wrap_u16]
  have := p.toNat_lt
  omega
theorem ofInt_u16 (p : UInt16) : BitVec.ofInt IntKind.u16.bits (p.toNat : Int) = p.toBitVec := by
  apply BitVec.eq_of_toNat_eq
  show (BitVec.ofInt 16 (p.toNat : Int)).toNat = p.toNat
  rw [BitVec.ofInt_natCast, BitVec.toNat_ofNat]
  exact Nat.mod_eq_of_lt p.toNat_lt
theorem b16_add (p q : UInt16) : Bin P .add T x y (u16 p) (u16 q) (u16 (p + q)) :=
  Bin.cast bk_add (congrArg (Value.int .u16) (by rw [wrap_u16, UInt16.toNat_add]; omega))
theorem b16_sub (p q : UInt16) : Bin P .sub T x y (u16 p) (u16 q) (u16 (p - q)) :=
  Bin.cast bk_sub (congrArg (Value.int .u16) (by
    rw [wrap_u16, UInt16.toNat_sub]
    have hp := p.toNat_lt
    have hq := q.toNat_lt
    omega))
theorem b16_mul (p q : UInt16) : Bin P .mul T x y (u16 p) (u16 q) (u16 (p * q)) :=
  Bin.cast bk_mul (congrArg (Value.int .u16) (by rw [wrap_u16, UInt16.toNat_mul, Int.natCast_emod, Int.natCast_mul]; rfl))
theorem b16_and (p q : UInt16) : Bin P .and T x y (u16 p) (u16 q) (u16 (p &&& q)) :=
  Bin.cast bk_and (congrArg (Value.int .u16) (by rw [ofInt_u16, ofInt_u16]; exact wrap_toNat_u16 (p &&& q)))
theorem b16_or (p q : UInt16) : Bin P .or T x y (u16 p) (u16 q) (u16 (p ||| q)) :=
  Bin.cast bk_or (congrArg (Value.int .u16) (by rw [ofInt_u16, ofInt_u16]; exact wrap_toNat_u16 (p ||| q)))
theorem b16_xor (p q : UInt16) : Bin P .xor T x y (u16 p) (u16 q) (u16 (p ^^^ q)) :=
  Bin.cast bk_xor (congrArg (Value.int .u16) (by rw [ofInt_u16, ofInt_u16]; exact wrap_toNat_u16 (p ^^^ q)))
theorem un16_not (p : UInt16) (w : World) : (Op.unary .xor (u16 p)).run P w = .ok (u16 (~~~p)) w := by
  have e1 : IntKind.u16.wrap (BitVec.ofInt IntKind.u16.bits IntKind.u16.max ^^^ BitVec.ofInt IntKind.u16.bits (p.toNat : Int)).toNat = (~~~p).toNat := by
    have h1 : BitVec.ofInt 16 IntKind.u16.max = BitVec.allOnes 16 := by decide
    have h2 : BitVec.ofInt 16 (p.toNat : Int) = p.toBitVec := ofInt_u16 p
    show IntKind.u16.wrap (BitVec.ofInt 16 IntKind.u16.max ^^^ BitVec.ofInt 16 (p.toNat : Int)).toNat = _
    rw [h1, h2, BitVec.allOnes_xor]
    exact wrap_toNat_u16 (~~~p)
  have hs : IntKind.u16.signed = false := rfl
  simp only [u16, Op.unary, hs, Bool.false_eq_true, if_false, Op.intBits, Sem.run_pure, e1]
theorem b16_quo (p q : UInt16) (hq : q ≠ 0) : Bin P .quo T x y (u16 p) (u16 q) (u16 (p / q)) :=
  Bin.cast (bk_quo (fun h => hq (UInt16.toNat_inj.1 (by simpa using h)))) (congrArg (Value.int .u16) (by
    rw [← wrap_toNat_u16 (p / q), UInt16.toNat_div]; rfl))
theorem b16_rem (p q : UInt16) (hq : q ≠ 0) : Bin P .rem T x y (u16 p) (u16 q) (u16 (p % q)) :=
  Bin.cast (bk_rem (fun h => hq (UInt16.toNat_inj.1 (by simpa using h)))) (congrArg (Value.int .u16) (by rw [UInt16.toNat_mod]; rfl))
theorem b16_eq (p q : UInt16) : Bin P .eql T x y (u16 p) (u16 q) (.bool (decide (p = q))) :=
  Bin.cast b_eq (congrArg Value.bool (by rw [decide_eq_decide]; exact u16_inj))
theorem b16_ne (p q : UInt16) : Bin P .neq T x y (u16 p) (u16 q) (.bool (!decide (p = q))) :=
  Bin.cast b_ne (congrArg (fun b => Value.bool (!b)) (by rw [decide_eq_decide]; exact u16_inj))
theorem b16_shl (p : UInt16) (kd : IntKind) (n : Nat) (h : n < 16) : Bin P .shl T x y (u16 p) (.int kd n) (u16 (p <<< UInt16.ofNat n)) :=
  Bin.cast (bk_shl (show n ≤ 16 by omega)) (congrArg (Value.int .u16) (by
    rw [wrap_u16, UInt16.toNat_shiftLeft, UInt16.toNat_ofNat', Nat.mod_eq_of_lt (a := n) (by omega), Nat.mod_eq_of_lt h, Nat.shiftLeft_eq, Int.natCast_emod, Int.natCast_mul, Int.natCast_pow]
    rfl))
theorem b16_shr (p : UInt16) (kd : IntKind) (n : Nat) (h : n < 16) : Bin P .shr T x y (u16 p) (.int kd n) (u16 (p >>> UInt16.ofNat n)) :=
  Bin.cast (bk_shr (show n ≤ 16 by omega)) (congrArg (Value.int .u16) (by
    rw [UInt16.toNat_shiftRight, UInt16.toNat_ofNat', Nat.mod_eq_of_lt (a := n) (by omega), Nat.mod_eq_of_lt h, Nat.shiftRight_eq_div_pow, Int.fdiv_eq_ediv_of_nonneg _ (by exact Int.pow_nonneg (by omega)), Int.natCast_ediv, Int.natCast_pow]
    rfl))

theorem b16_lt (p q : UInt16) : Bin P .lss T x y (u16 p) (u16 q) (.bool (decide (p < q))) :=
  Bin.cast b_lt (congrArg Value.bool (by rw [decide_eq_decide, UInt16.lt_iff_toNat_lt]; omega))

theorem b16_le (p q : UInt16) : Bin P .leq T x y (u16 p) (u16 q) (.bool (decide (p ≤ q))) :=
  Bin.cast b_le (congrArg Value.bool (by rw [decide_eq_decide, UInt16.le_iff_toNat_le]; omega))

theorem b16_gt (p q : UInt16) : Bin P .gtr T x y (u16 p) (u16 q) (.bool (decide (q < p))) :=
  Bin.cast b_gt (congrArg Value.bool (by rw [decide_eq_decide, UInt16.lt_iff_toNat_lt]; omega))

theorem b16_ge (p q : UInt16) : Bin P .geq T x y (u16 p) (u16 q) (.bool (decide (q ≤ p))) :=
  Bin.cast b_ge (congrArg Value.bool (by rw [decide_eq_decide, UInt16.le_iff_toNat_le]; omega))

theorem wrap_u32 (n : Int) : IntKind.u32.wrap n = n % 4294967296 := by
  simp [IntKind.wrap, IntKind.bits, IntKind.signed]
theorem u32_inj {p q : UInt32} : ((p.toNat : Int) = q.toNat) ↔ p = q := by
  rw [Int.ofNat_inj]; exact UInt32.toNat_inj
theorem wrap_toNat_u32 (p : UInt32) : IntKind.u32.wrap (p.toNat : Int) = p.toNat := by
  rw [wrap_u32]
  have := p.toNat_lt
  omega
theorem ofInt_u32 (p : UInt32) : BitVec.ofInt IntKind.u32.bits (p.toNat : Int) = p.toBitVec := by
  apply BitVec.eq_of_toNat_eq
  show (BitVec.ofInt 32 (p.toNat : Int)).toNat = p.toNat
  rw [BitVec.ofInt_natCast, BitVec.toNat_ofNat]
  exact Nat.mod_eq_of_lt p.toNat_lt
theorem b32_add (p q : UInt32) : Bin P .add T x y (u32 p) (u32 q) (u32 (p + q)) :=
  Bin.cast bk_add (congrArg (Value.int .u32) (by rw [wrap_u32, UInt32.toNat_add]; omega))
theorem b32_sub (p q : UInt32) : Bin P .sub T x y (u32 p) (u32 q) (u32 (p - q)) :=
  Bin.cast bk_sub (congrArg (Value.int .u32) (by
    rw [wrap_u32, UInt32.toNat_sub]
    have hp := p.toNat_lt
    have hq := q.toNat_lt
    omega))
theorem b32_mul (p q : UInt32) : Bin P .mul T x y (u32 p) (u32 q) (u32 (p * q)) :=
  Bin.cast bk_mul (congrArg (Value.int .u32) (by rw [wrap_u32, UInt32.toNat_mul, Int.natCast_emod, Int.natCast_mul]; rfl))
theorem b32_and (p q : UInt32) : Bin P .and T x y (u32 p) (u32 q) (u32 (p &&& q)) :=
  Bin.cast bk_and (congrArg (Value.int .u32) (by rw [ofInt_u32, ofInt_u32]; exact wrap_toNat_u32 (p &&& q)))
theorem b32_or (p q : UInt32) : Bin P .or T x y (u32 p) (u32 q) (u32 (p ||| q)) :=
  Bin.cast bk_or (congrArg (Value.int .u32) (by rw [ofInt_u32, ofInt_u32]; exact wrap_toNat_u32 (p ||| q)))
theorem b32_xor (p q : UInt32) : Bin P .xor T x y (u32 p) (u32 q) (u32 (p ^^^ q)) :=
  Bin.cast bk_xor (congrArg (Value.int .u32) (by rw [ofInt_u32, ofInt_u32]; exact wrap_toNat_u32 (p ^^^ q)))
theorem un32_not (p : UInt32) (w : World) : (Op.unary .xor (u32 p)).run P w = .ok (u32 (~~~p)) w := by
  have e1 : IntKind.u32.wrap (BitVec.ofInt IntKind.u32.bits IntKind.u32.max ^^^ BitVec.ofInt IntKind.u32.bits (p.toNat : Int)).toNat = (~~~p).toNat := by
    have h1 : BitVec.ofInt 32 IntKind.u32.max = BitVec.allOnes 32 := by decide
    have h2 : BitVec.ofInt 32 (p.toNat : Int) = p.toBitVec := ofInt_u32 p
    show IntKind.u32.wrap (BitVec.ofInt 32 IntKind.u32.max ^^^ BitVec.ofInt 32 (p.toNat : Int)).toNat = _
    rw [h1, h2, BitVec.allOnes_xor]
    exact wrap_toNat_u32 (~~~p)
  have hs : IntKind.u32.signed = false := rfl
  simp only [u32, Op.unary, hs, Bool.false_eq_true, if_false, Op.intBits, Sem.run_pure, e1]
theorem b32_quo (p q : UInt32) (hq : q ≠ 0) : Bin P .quo T x y (u32 p) (u32 q) (u32 (p / q)) :=
  Bin.cast (bk_quo (fun h => hq (UInt32.toNat_inj.1 (by simpa using h)))) (congrArg (Value.int .u32) (by
    rw [← wrap_toNat_u32 (p / q), UInt32.toNat_div]; rfl))
theorem b32_rem (p q : UInt32) (hq : q ≠ 0) : Bin P .rem T x y (u32 p) (u32 q) (u32 (p % q)) :=
  Bin.cast (bk_rem (fun h => hq (UInt32.toNat_inj.1 (by simpa using h)))) (congrArg (Value.int .u32) (by rw [UInt32.toNat_mod]; rfl))
theorem b32_eq (p q : UInt32) : Bin P .eql T x y (u32 p) (u32 q) (.bool (decide (p = q))) :=
  Bin.cast b_eq (congrArg Value.bool (by rw [decide_eq_decide]; exact u32_inj))
theorem b32_ne (p q : UInt32) : Bin P .neq T x y (u32 p) (u32 q) (.bool (!decide (p = q))) :=
  Bin.cast b_ne (congrArg (fun b => Value.bool (!b)) (by rw [decide_eq_decide]; exact u32_inj))
theorem b32_shl (p : UInt32) (kd : IntKind) (n : Nat) (h : n < 32) : Bin P .shl T x y (u32 p) (.int kd n) (u32 (p <<< UInt32.ofNat n)) :=
  Bin.cast (bk_shl (show n ≤ 32 by omega)) (congrArg (Value.int .u32) (by
    rw [wrap_u32, UInt32.toNat_shiftLeft, UInt32.toNat_ofNat', Nat.mod_eq_of_lt (a := n) (by omega), Nat.mod_eq_of_lt h, Nat.shiftLeft_eq, Int.natCast_emod, Int.natCast_mul, Int.natCast_pow]
    rfl))
theorem b32_shr (p : UInt32) (kd : IntKind) (n : Nat) (h : n < 32) : Bin P .shr T x y (u32 p) (.int kd n) (u32 (p >>> UInt32.ofNat n)) :=
  Bin.cast (bk_shr (show n ≤ 32 by omega)) (congrArg (Value.int .u32) (by
    rw [UInt32.toNat_shiftRight, UInt32.toNat_ofNat', Nat.mod_eq_of_lt (a := n) (by omega), Nat.mod_eq_of_lt h, Nat.shiftRight_eq_div_pow, Int.fdiv_eq_ediv_of_nonneg _ (by exact Int.pow_nonneg (by omega)), Int.natCast_ediv, Int.natCast_pow]
    rfl))

theorem b32_lt (p q : UInt32) : Bin P .lss T x y (u32 p) (u32 q) (.bool (decide (p < q))) :=
  Bin.cast b_lt (congrArg Value.bool (by rw [decide_eq_decide, UInt32.lt_iff_toNat_lt]; omega))

theorem b32_le (p q : UInt32) : Bin P .leq T x y (u32 p) (u32 q) (.bool (decide (p ≤ q))) :=
  Bin.cast b_le (congrArg Value.bool (by rw [decide_eq_decide, UInt32.le_iff_toNat_le]; omega))

theorem b32_gt (p q : UInt32) : Bin P .gtr T x y (u32 p) (u32 q) (.bool (decide (q < p))) :=
  Bin.cast b_gt (congrArg Value.bool (by rw [decide_eq_decide, UInt32.lt_iff_toNat_lt]; omega))

theorem b32_ge (p q : UInt32) : Bin P .geq T x y (u32 p) (u32 q) (.bool (decide (q ≤ p))) :=
  Bin.cast b_ge (congrArg Value.bool (by rw [decide_eq_decide, UInt32.le_iff_toNat_le]; omega))

theorem wrap_u64 (n : Int) : IntKind.u64.wrap n = n % 18446744073709551616 := by
  simp [IntKind.wrap, IntKind.bits, IntKind.signed]
theorem u64_inj {p q : UInt64} : ((p.toNat : Int) = q.toNat) ↔ p = q := by
  rw [Int.ofNat_inj]; exact UInt64.toNat_inj
theorem wrap_toNat_u64 (p : UInt64) : IntKind.u64.wrap (p.toNat : Int) = p.toNat := by
  rw [wrap_u64]
  have := p.toNat_lt
  omega
theorem ofInt_u64 (p : UInt64) : BitVec.ofInt IntKind.u64.bits (p.toNat : Int) = p.toBitVec := by
  apply BitVec.eq_of_toNat_eq
  show (BitVec.ofInt 64 (p.toNat : Int)).toNat = p.toNat
  rw [BitVec.ofInt_natCast, BitVec.toNat_ofNat]
  exact Nat.mod_eq_of_lt p.toNat_lt
theorem b64_add (p q : UInt64) : Bin P .add T x y (u64 p) (u64 q) (u64 (p + q)) :=
  Bin.cast bk_add (congrArg (Value.int .u64) (by rw [wrap_u64, UInt64.toNat_add]; omega))
theorem b64_sub (p q : UInt64) : Bin P .sub T x y (u64 p) (u64 q) (u64 (p - q)) :=
  Bin.cast bk_sub (congrArg (Value.int .u64) (by
    rw [wrap_u64, UInt64.toNat_sub]
    have hp := p.toNat_lt
    have hq := q.toNat_lt
    omega))
theorem b64_mul (p q : UInt64) : Bin P .mul T x y (u64 p) (u64 q) (u64 (p * q)) :=
  Bin.cast bk_mul (congrArg (Value.int .u64) (by rw [wrap_u64, UInt64.toNat_mul, Int.natCast_emod, Int.natCast_mul]; rfl))
theorem b64_and (p q : UInt64) : Bin P .and T x y (u64 p) (u64 q) (u64 (p &&& q)) :=
  Bin.cast bk_and (congrArg (Value.int .u64) (by rw [ofInt_u64, ofInt_u64]; exact wrap_toNat_u64 (p &&& q)))
theorem b64_or (p q : UInt64) : Bin P .or T x y (u64 p) (u64 q) (u64 (p ||| q)) :=
  Bin.cast bk_or (congrArg (Value.int .u64) (by rw [ofInt_u64, ofInt_u64]; exact wrap_toNat_u64 (p ||| q)))
theorem b64_xor (p q : UInt64) : Bin P .xor T x y (u64 p) (u64 q) (u64 (p ^^^ q)) :=
  Bin.cast bk_xor (congrArg (Value.int .u64) (by rw [ofInt_u64, ofInt_u64]; exact wrap_toNat_u64 (p ^^^ q)))
theorem un64_not (p : UInt64) (w : World) : (Op.unary .xor (u64 p)).run P w = .ok (u64 (~~~p)) w := by
  have e1 : IntKind.u64.wrap (BitVec.ofInt IntKind.u64.bits IntKind.u64.max ^^^ BitVec.ofInt IntKind.u64.bits (p.toNat : Int)).toNat = (~~~p).toNat := by
    have h1 : BitVec.ofInt 64 IntKind.u64.max = BitVec.allOnes 64 := by decide
    have h2 : BitVec.ofInt 64 (p.toNat : Int) = p.toBitVec := ofInt_u64 p
    show IntKind.u64.wrap (BitVec.ofInt 64 IntKind.u64.max ^^^ BitVec.ofInt 64 (p.toNat : Int)).toNat = _
    rw [h1, h2, BitVec.allOnes_xor]
    exact wrap_toNat_u64 (~~~p)
  have hs : IntKind.u64.signed = false := rfl
  simp only [u64, Op.unary, hs, Bool.false_eq_true, if_false, Op.intBits, Sem.run_pure, e1]
theorem b64_quo (p q : UInt64) (hq : q ≠ 0) : Bin P .quo T x y (u64 p) (u64 q) (u64 (p / q)) :=
  Bin.cast (bk_quo (fun h => hq (UInt64.toNat_inj.1 (by simpa using h)))) (congrArg (Value.int .u64) (by
    rw [← wrap_toNat_u64 (p / q), UInt64.toNat_div]; rfl))
theorem b64_rem (p q : UInt64) (hq : q ≠ 0) : Bin P .rem T x y (u64 p) (u64 q) (u64 (p % q)) :=
  Bin.cast (bk_rem (fun h => hq (UInt64.toNat_inj.1 (by simpa using h)))) (congrArg (Value.int .u64) (by rw [UInt64.toNat_mod]; rfl))
theorem b64_eq (p q : UInt64) : Bin P .eql T x y (u64 p) (u64 q) (.bool (decide (p = q))) :=
  Bin.cast b_eq (congrArg Value.bool (by rw [decide_eq_decide]; exact u64_inj))
theorem b64_ne (p q : UInt64) : Bin P .neq T x y (u64 p) (u64 q) (.bool (!decide (p = q))) :=
  Bin.cast b_ne (congrArg (fun b => Value.bool (!b)) (by rw [decide_eq_decide]; exact u64_inj))
theorem b64_shl (p : UInt64) (kd : IntKind) (n : Nat) (h : n < 64) : Bin P .shl T x y (u64 p) (.int kd n) (u64 (p <<< UInt64.ofNat n)) :=
  Bin.cast (bk_shl (show n ≤ 64 by omega)) (congrArg (Value.int .u64) (by
    rw [wrap_u64, UInt64.toNat_shiftLeft, UInt64.toNat_ofNat', Nat.mod_eq_of_lt (a := n) (by omega), Nat.mod_eq_of_lt h, Nat.shiftLeft_eq, Int.natCast_emod, Int.natCast_mul, Int.natCast_pow]
    rfl))
theorem b64_shr (p : UInt64) (kd : IntKind) (n : Nat) (h : n < 64) : Bin P .shr T x y (u64 p) (.int kd n) (u64 (p >>> UInt64.ofNat n)) :=
  Bin.cast (bk_shr (show n ≤ 64 by omega)) (congrArg (Value.int .u64) (by
    rw [UInt64.toNat_shiftRight, UInt64.toNat_ofNat', Nat.mod_eq_of_lt (a := n) (by omega), Nat.mod_eq_of_lt h, Nat.shiftRight_eq_div_pow, Int.fdiv_eq_ediv_of_nonneg _ (by exact Int.pow_nonneg (by omega)), Int.natCast_ediv, Int.natCast_pow]
    rfl))

theorem b64_lt (p q : UInt64) : Bin P .lss T x y (u64 p) (u64 q) (.bool (decide (p < q))) :=
  Bin.cast b_lt (congrArg Value.bool (by rw [decide_eq_decide, UInt64.lt_iff_toNat_lt]; omega))

theorem b64_le (p q : UInt64) : Bin P .leq T x y (u64 p) (u64 q) (.bool (decide (p ≤ q))) :=
  Bin.cast b_le (congrArg Value.bool (by rw [decide_eq_decide, UInt64.le_iff_toNat_le]; omega))

theorem b64_gt (p q : UInt64) : Bin P .gtr T x y (u64 p) (u64 q) (.bool (decide (q < p))) :=
  Bin.cast b_gt (congrArg Value.bool (by rw [decide_eq_decide, UInt64.lt_iff_toNat_lt]; omega))

theorem b64_ge (p q : UInt64) : Bin P .geq T x y (u64 p) (u64 q) (.bool (decide (q ≤ p))) :=
  Bin.cast b_ge (congrArg Value.bool (by rw [decide_eq_decide, UInt64.le_iff_toNat_le]; omega))


/-! #### conversions -/
section
variable {S : TypeId} {sd : TypeDesc}

theorem cv_u8_u16 (hS : P.underlying S = some sd) (hT : P.underlying T = some (.int .u16)) (p : UInt8) (w : World) : (convert S T (u8 p)).run P w = .ok (u16 p.toUInt16) w :=
  cv_int hS hT (by rw [wrap_u16, UInt8.toNat_toUInt16]; have := p.toNat_lt; omega) w

theorem cv_u8_u32 (hS : P.underlying S = some sd) (hT : P.underlying T = some (.int .u32)) (p : UInt8) (w : World) : (convert S T (u8 p)).run P w = .ok (u32 p.toUInt32) w :=
  cv_int hS hT (by rw [wrap_u32, UInt8.toNat_toUInt32]; have := p.toNat_lt; omega) w

theorem cv_u8_u64 (hS : P.underlying S = some sd) (hT : P.underlying T = some (.int .u64)) (p : UInt8) (w : World) : (convert S T (u8 p)).run P w = .ok (u64 p.toUInt64) w :=
  cv_int hS hT (by rw [wrap_u64, UInt8.toNat_toUInt64]; have := p.toNat_lt; omega) w

theorem cv_u8_i64 (hS : P.underlying S = some sd) (hT : P.underlying T = some (.int .i64)) (p : UInt8) (w : World) : (convert S T (u8 p)).run P w = .ok (i64 p.toNat) w :=
  cv_int hS hT (by have := p.toNat_lt; exact wrap_i64 (by omega) (by omega)) w
theorem cv_i64_u8 (hS : P.underlying S = some sd) (hT : P.underlying T = some (.int .u8)) (n : Nat) (w : World) : (convert S T (i64 n)).run P w = .ok (u8 (UInt8.ofNat n)) w :=
  cv_int hS hT (by rw [wrap_u8, UInt8.toNat_ofNat']; omega) w
theorem cv_i64_u8' (hS : P.underlying S = some sd) (hT : P.underlying T = some (.int .u8)) {i : Int} (h : 0 ≤ i) (w : World) : (convert S T (i64 i)).run P w = .ok (u8 (UInt8.ofNat i.toNat)) w := by
  obtain ⟨n, rfl⟩ := Int.eq_ofNat_of_zero_le h
  exact cv_i64_u8 hS hT n w

theorem cv_u16_u8 (hS : P.underlying S = some sd) (hT : P.underlying T = some (.int .u8)) (p : UInt16) (w : World) : (convert S T (u16 p)).run P w = .ok (u8 p.toUInt8) w :=
  cv_int hS hT (by rw [wrap_u8, UInt16.toNat_toUInt8]; omega) w

theorem cv_u16_u32 (hS : P.underlying S = some sd) (hT : P.underlying T = some (.int .u32)) (p : UInt16) (w : World) : (convert S T (u16 p)).run P w = .ok (u32 p.toUInt32) w :=
  cv_int hS hT (by rw [wrap_u32, UInt16.toNat_toUInt32]; have := p.toNat_lt; omega) w

theorem cv_u16_u64 (hS : P.underlying S = some sd) (hT : P.underlying T = some (.int .u64)) (p : UInt16) (w : World) : (convert S T (u16 p)).run P w = .ok (u64 p.toUInt64) w :=
  cv_int hS hT (by rw [wrap_u64, UInt16.toNat_toUInt64]; have := p.toNat_lt; omega) w

theorem cv_u16_i64 (hS : P.underlying S = some sd) (hT : P.underlying T = some (.int .i64)) (p : UInt16) (w : World) : (convert S T (u16 p)).run P w = .ok (i64 p.toNat) w :=
  cv_int hS hT (by have := p.toNat_lt; exact wrap_i64 (by omega) (by omega)) w
theorem cv_i64_u16 (hS : P.underlying S = some sd) (hT : P.underlying T = some (.int .u16)) (n : Nat) (w : World) : (convert S T (i64 n)).run P w = .ok (u16 (UInt16.ofNat n)) w :=
  cv_int hS hT (by rw [wrap_u16, UInt16.toNat_ofNat']; omega) w
theorem cv_i64_u16' (hS : P.underlying S = some sd) (hT : P.underlying T = some (.int .u16)) {i : Int} (h : 0 ≤ i) (w : World) : (convert S T (i64 i)).run P w = .ok (u16 (UInt16.ofNat i.toNat)) w := by
  obtain ⟨n, rfl⟩ := Int.eq_ofNat_of_zero_le h
  exact cv_i64_u16 hS hT n w

theorem cv_u32_u8 (hS : P.underlying S = some sd) (hT : P.underlying T = some (.int .u8)) (p : UInt32) (w : World) : (convert S T (u32 p)).run P w = .ok (u8 p.toUInt8) w :=
  cv_int hS hT (by rw [wrap_u8, UInt32.toNat_toUInt8]; omega) w

theorem cv_u32_u16 (hS : P.underlying S = some sd) (hT : P.underlying T = some (.int .u16)) (p : UInt32) (w : World) : (convert S T (u32 p)).run P w = .ok (u16 p.toUInt16) w :=
  cv_int hS hT (by rw [wrap_u16, UInt32.toNat_toUInt16]; omega) w

theorem cv_u32_u64 (hS : P.underlying S = some sd) (hT : P.underlying T = some (.int .u64)) (p : UInt32) (w : World) : (convert S T (u32 p)).run P w = .ok (u64 p.toUInt64) w :=
  cv_int hS hT (by rw [wrap_u64, UInt32.toNat_toUInt64]; have := p.toNat_lt; omega) w

theorem cv_u32_i64 (hS : P.underlying S = some sd) (hT : P.underlying T = some (.int .i64)) (p : UInt32) (w : World) : (convert S T (u32 p)).run P w = .ok (i64 p.toNat) w :=
  cv_int hS hT (by have := p.toNat_lt; exact wrap_i64 (by omega) (by omega)) w
theorem cv_i64_u32 (hS : P.underlying S = some sd) (hT : P.underlying T = some (.int .u32)) (n : Nat) (w : World) : (convert S T (i64 n)).run P w = .ok (u32 (UInt32.ofNat n)) w :=
  cv_int hS hT (by rw [wrap_u32, UInt32.toNat_ofNat']; omega) w
theorem cv_i64_u32' (hS : P.underlying S = some sd) (hT : P.underlying T = some (.int .u32)) {i : Int} (h : 0 ≤ i) (w : World) : (convert S T (i64 i)).run P w = .ok (u32 (UInt32.ofNat i.toNat)) w := by
  obtain ⟨n, rfl⟩ := Int.eq_ofNat_of_zero_le h
  exact cv_i64_u32 hS hT n w

theorem cv_u64_u8 (hS : P.underlying S = some sd) (hT : P.underlying T = some (.int .u8)) (p : UInt64) (w : World) : (convert S T (u64 p)).run P w = .ok (u8 p.toUInt8) w :=
  cv_int hS hT (by rw [wrap_u8, UInt64.toNat_toUInt8]; omega) w

theorem cv_u64_u16 (hS : P.underlying S = some sd) (hT : P.underlying T = some (.int .u16)) (p : UInt64) (w : World) : (convert S T (u64 p)).run P w = .ok (u16 p.toUInt16) w :=
  cv_int hS hT (by rw [wrap_u16, UInt64.toNat_toUInt16]; omega) w

theorem cv_u64_u32 (hS : P.underlying S = some sd) (hT : P.underlying T = some (.int .u32)) (p : UInt64) (w : World) : (convert S T (u64 p)).run P w = .ok (u32 p.toUInt32) w :=
  cv_int hS hT (by rw [wrap_u32, UInt64.toNat_toUInt32]; omega) w

theorem cv_u64_i64 (hS : P.underlying S = some sd) (hT : P.underlying T = some (.int .i64)) (p : UInt64) (h : p.toNat < 9223372036854775808) (w : World) : (convert S T (u64 p)).run P w = .ok (i64 p.toNat) w :=
  cv_int hS hT (by have := p.toNat_lt; exact wrap_i64 (by omega) (by omega)) w
theorem cv_i64_u64 (hS : P.underlying S = some sd) (hT : P.underlying T = some (.int .u64)) (n : Nat) (w : World) : (convert S T (i64 n)).run P w = .ok (u64 (UInt64.ofNat n)) w :=
  cv_int hS hT (by rw [wrap_u64, UInt64.toNat_ofNat']; omega) w
theorem cv_i64_u64' (hS : P.underlying S = some sd) (hT : P.underlying T = some (.int .u64)) {i : Int} (h : 0 ≤ i) (w : World) : (convert S T (i64 i)).run P w = .ok (u64 (UInt64.ofNat i.toNat)) w := by
  obtain ⟨n, rfl⟩ := Int.eq_ofNat_of_zero_le h
  exact cv_i64_u64 hS hT n w

end
end
end SL
