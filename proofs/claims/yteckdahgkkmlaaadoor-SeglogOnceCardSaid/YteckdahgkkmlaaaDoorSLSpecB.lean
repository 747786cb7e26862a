/- Plain functions: little-endian numbers. -/
import Derived.Test.YteckdahgkkmlaaaDoorSLBld
import Derived.Lib.BitFns
namespace SL
open Go

def leB : Nat → Nat → List UInt8
  | _, 0 => []
  | n, w + 1 => UInt8.ofNat n :: leB (n / 256) w
def leN : List UInt8 → Nat
  | [] => 0
  | c :: l => c.toNat + 256 * leN l

theorem leB_length : ∀ (n w : Nat), (leB n w).length = w
  | _, 0 => rfl
  | n, w + 1 => by simp [leB, leB_length (n / 256) w]
theorem leB_snoc : ∀ (n k : Nat), leB n (k + 1) = leB n k ++ [UInt8.ofNat (n / 256 ^ k)]
  | n, 0 => by simp [leB]
  | n, k + 1 => by
    have h := leB_snoc (n / 256) k
    rw [leB, h, leB, Nat.div_div_eq_div_mul, ← Nat.pow_succ']
    rfl
theorem leN_snoc : ∀ (l : List UInt8) (c : UInt8), leN (l ++ [c]) = leN l + c.toNat * 256 ^ l.length
  | [], c => by simp [leN]
  | x :: l, c => by
    simp only [List.cons_append, leN, leN_snoc l c, List.length_cons, Nat.pow_succ]
    rw [Nat.mul_add, ← Nat.add_assoc, ← Nat.mul_assoc, Nat.mul_comm 256 c.toNat, Nat.mul_assoc, Nat.mul_comm 256 (256 ^ _)]
theorem leN_lt : ∀ (l : List UInt8), leN l < 256 ^ l.length
  | [] => by simp [leN]
  | x :: l => by
    have := leN_lt l
    have h := x.toNat_lt
    simp only [leN, List.length_cons, Nat.pow_succ]
    omega
theorem leN_leB : ∀ (n w : Nat), n < 256 ^ w → leN (leB n w) = n
  | n, 0, h => by simp [leB, leN] at h ⊢; omega
  | n, w + 1, h => by
    have := leN_leB (n / 256) w (by rw [Nat.pow_succ] at h; omega)
    simp only [leB, leN, this, UInt8.toNat_ofNat']
    omega
theorem leB_leN : ∀ (l : List UInt8), leB (leN l) l.length = l
  | [] => rfl
  | c :: l => by
    have h := c.toNat_lt
    have e1 : (c.toNat + 256 * leN l) / 256 = leN l := by omega
    have e2 : UInt8.ofNat (c.toNat + 256 * leN l) = c := by
      apply UInt8.toNat_inj.1
      rw [UInt8.toNat_ofNat']; omega
    simp only [leN, List.length_cons, leB, e1, e2, leB_leN l]

theorem pow256 (k : Nat) : (256 : Nat) ^ k = 2 ^ (8 * k) := by rw [Nat.pow_mul]
theorem shr_byte (n : UInt64) (k : Nat) (hk : k < 8) : (n >>> UInt64.ofNat (8 * k)).toUInt8 = UInt8.ofNat (n.toNat / 256 ^ k) := by
  apply UInt8.toNat_inj.1
  rw [UInt64.toNat_toUInt8, UInt64.toNat_shiftRight, UInt64.toNat_ofNat', UInt8.toNat_ofNat', Nat.mod_eq_of_lt (a := 8 * k) (b := 2 ^ 64) (by omega), Nat.mod_eq_of_lt (a := 8 * k) (b := 64) (by omega),
    Nat.shiftRight_eq_div_pow, pow256]
theorem or_byte (l : List UInt8) (c : UInt8) (hk : l.length < 8) : UInt64.ofNat (leN l) ||| (c.toUInt64 <<< UInt64.ofNat (8 * l.length)) = UInt64.ofNat (leN (l ++ [c])) := by
  have h1 := leN_lt l
  have hc := c.toNat_lt
  rw [pow256] at h1
  have h2 : c.toNat * 2 ^ (8 * l.length) + 2 ^ (8 * l.length) ≤ 2 ^ 64 := by
    have e1 : c.toNat * 2 ^ (8 * l.length) + 2 ^ (8 * l.length) = (c.toNat + 1) * 2 ^ (8 * l.length) := by rw [Nat.add_mul, Nat.one_mul]
    have e2 : (c.toNat + 1) * 2 ^ (8 * l.length) ≤ 2 ^ 8 * 2 ^ (8 * l.length) := Nat.mul_le_mul_right _ (by omega)
    have e3 : 2 ^ 8 * 2 ^ (8 * l.length) = 2 ^ (8 + 8 * l.length) := by rw [Nat.pow_add]
    have e4 : 2 ^ (8 + 8 * l.length) ≤ 2 ^ 64 := Nat.pow_le_pow_right (by omega) (by omega)
    omega
  apply UInt64.toNat_inj.1
  have h3 := leN_snoc l c
  rw [pow256] at h3
  rw [UInt64.toNat_or, UInt64.toNat_shiftLeft, UInt64.toNat_ofNat', UInt64.toNat_ofNat', UInt64.toNat_ofNat', UInt8.toNat_toUInt64, Nat.mod_eq_of_lt (a := 8 * l.length) (b := 2 ^ 64) (by omega), Nat.mod_eq_of_lt (a := 8 * l.length) (b := 64) (by omega),
    Nat.mod_eq_of_lt (a := leN l) (by omega), h3, Nat.shiftLeft_eq, Nat.mod_eq_of_lt (b := 2 ^ 64) (by omega), Nat.mod_eq_of_lt (b := 2 ^ 64) (by omega)]
  have := Nat.shiftLeft_add_eq_or_of_lt h1 c.toNat
  rw [Nat.shiftLeft_eq] at this
  rw [Nat.or_comm, ← this, Nat.add_comm]

theorem map_get {l : List UInt8} {k : Nat} {x : UInt8} (r : List Value) (h : l[k]? = some x) : (l.map u8 ++ r)[0 + ((k : Int)).toNat * 1]? = some (u8 x) := by
  have h1 := (List.getElem?_eq_some_iff.1 h).1
  rw [Int.toNat_natCast, Nat.mul_one, Nat.zero_add, List.getElem?_append_left (by simpa using h1), List.getElem?_map, h]
  rfl
theorem bitLenAux_le : ∀ (f n k : Nat), n < 2 ^ k → Lib.bitLenAux f n ≤ k
  | 0, _, _, _ => by simp [Lib.bitLenAux]
  | f + 1, n, 0, h => by simp [Lib.bitLenAux] at h ⊢; omega
  | f + 1, n, k + 1, h => by
    have := bitLenAux_le f (n / 2) k (by rw [Nat.pow_succ] at h; omega)
    simp only [Lib.bitLenAux]
    split <;> omega
theorem bitLen_le {n k : Nat} (h : n < 2 ^ k) : Lib.bitLen n ≤ k := bitLenAux_le _ _ _ h
end SL
