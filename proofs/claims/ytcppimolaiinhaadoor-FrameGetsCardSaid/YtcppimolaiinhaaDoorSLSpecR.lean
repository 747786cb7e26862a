/- Plain functions: the document's own sum, in words of 64 bits, against the program's. -/
import Derived.Test.YtcppimolaiinhaaDoorSLSpecS
import Derived.Test.YtcppimolaiinhaaDoorSLSpecA
namespace SL
open Go

theorem rotr_toNat (x : UInt32) (n : Nat) (hn : n < 32) : (rotr x n).toNat = x.toNat / 2 ^ n + x.toNat % 2 ^ n * 2 ^ (32 - n) := by
  have hx := x.toNat_lt
  unfold rotr
  rw [UInt32.toNat_or, UInt32.toNat_shiftLeft, UInt32.toNat_shiftRight, UInt32.toNat_ofNat', UInt32.toNat_ofNat', Nat.mod_eq_of_lt (a := n) (b := 2 ^ 32) (by omega), Nat.mod_eq_of_lt hn, Nat.mod_eq_of_lt (a := 32 - n) (b := 2 ^ 32) (by omega), Nat.shiftRight_eq_div_pow]
  rcases Nat.eq_zero_or_pos n with rfl | h0
  · simp [Nat.shiftLeft_eq, Nat.mod_one]
  · rw [Nat.mod_eq_of_lt (a := 32 - n) (b := 32) (by omega), Nat.shiftLeft_eq]
    have e1 : (2 : Nat) ^ 32 = 2 ^ n * 2 ^ (32 - n) := by rw [← Nat.pow_add]; congr 1; omega
    have e2 : x.toNat * 2 ^ (32 - n) % 2 ^ 32 = x.toNat % 2 ^ n * 2 ^ (32 - n) := by rw [e1, Nat.mul_mod_mul_right]
    have e3 : x.toNat / 2 ^ n < 2 ^ (32 - n) := by
      rw [Nat.div_lt_iff_lt_mul (Nat.two_pow_pos n), Nat.mul_comm, ← e1]; exact hx
    rw [e2, Nat.add_comm, ← Nat.shiftLeft_eq, Nat.shiftLeft_add_eq_or_of_lt e3]
theorem rotr_zero (x : UInt32) : rotr x 0 = x := by
  apply UInt32.toNat_inj.1
  rw [rotr_toNat x 0 (by decide)]; simp [Nat.mod_one]
theorem turn_step (x : UInt32) (n : Nat) (hn : n < 31) : (rotr x n).toUInt64 / 2 + (rotr x n).toUInt64 % 2 * 2147483648 = (rotr x (n + 1)).toUInt64 := by
  apply UInt64.toNat_inj.1
  have h1 := (rotr x n).toNat_lt
  rw [UInt64.toNat_add, UInt64.toNat_mul, UInt64.toNat_div, UInt64.toNat_mod, UInt32.toNat_toUInt64, UInt32.toNat_toUInt64]
  have e2 : (2 : UInt64).toNat = 2 := rfl
  have e3 : (2147483648 : UInt64).toNat = 2147483648 := rfl
  rw [e2, e3, Nat.mod_eq_of_lt (a := (rotr x n).toNat % 2 * 2147483648) (by omega), Nat.mod_eq_of_lt (by omega), rotr_toNat x n (by omega), rotr_toNat x (n + 1) (by omega)]
  have p1 : (2 : Nat) ^ (32 - n) = 2 * 2 ^ (31 - n) := by rw [← Nat.pow_succ']; congr 1; omega
  have p2 : (2147483648 : Nat) = 2 ^ n * 2 ^ (31 - n) := by rw [← Nat.pow_add, show n + (31 - n) = 31 by omega]
  have p3 : 32 - (n + 1) = 31 - n := by omega
  have q1 : x.toNat % 2 ^ (n + 1) = x.toNat % 2 ^ n + x.toNat / 2 ^ n % 2 * 2 ^ n := by
    rw [Nat.pow_succ, Nat.mod_mul, Nat.mul_comm (2 ^ n)]
  have q2 : x.toNat / 2 ^ (n + 1) = x.toNat / 2 ^ n / 2 := by rw [Nat.div_div_eq_div_mul, Nat.pow_succ]
  rw [p1, p3, q1, q2, Nat.add_mul]
  generalize x.toNat / 2 ^ n = y
  generalize x.toNat % 2 ^ n = z
  have r1 : z * (2 * 2 ^ (31 - n)) = 2 * (z * 2 ^ (31 - n)) := by rw [← Nat.mul_assoc, Nat.mul_comm z 2, Nat.mul_assoc]
  have r2 : y % 2 * 2 ^ n * 2 ^ (31 - n) = y % 2 * 2147483648 := by rw [Nat.mul_assoc, ← p2]
  rw [r1, r2]
  omega
theorem right_step (x : UInt64) (n : Nat) (hn : n < 63) : (x >>> UInt64.ofNat n) / 2 = x >>> UInt64.ofNat (n + 1) := by
  apply UInt64.toNat_inj.1
  rw [UInt64.toNat_div, UInt64.toNat_shiftRight, UInt64.toNat_shiftRight, UInt64.toNat_ofNat', UInt64.toNat_ofNat', Nat.mod_eq_of_lt (a := n) (b := 2 ^ 64) (by omega), Nat.mod_eq_of_lt (a := n + 1) (b := 2 ^ 64) (by omega),
    Nat.mod_eq_of_lt (a := n) (b := 64) (by omega), Nat.mod_eq_of_lt (a := n + 1) (b := 64) (by omega), Nat.shiftRight_eq_div_pow, Nat.shiftRight_eq_div_pow, Nat.pow_succ, ← Nat.div_div_eq_div_mul]
  rfl
theorem right_zero (x : UInt64) : x >>> UInt64.ofNat 0 = x := by
  apply UInt64.toNat_inj.1; simp
theorem right32 (x : UInt32) (n : Nat) (hn : n < 32) : x.toUInt64 >>> UInt64.ofNat n = (x >>> UInt32.ofNat n).toUInt64 := by
  apply UInt64.toNat_inj.1
  rw [UInt64.toNat_shiftRight, UInt32.toNat_toUInt64, UInt32.toNat_toUInt64, UInt32.toNat_shiftRight, UInt64.toNat_ofNat', UInt32.toNat_ofNat', Nat.mod_eq_of_lt (a := n) (b := 2 ^ 64) (by omega), Nat.mod_eq_of_lt (a := n) (b := 2 ^ 32) (by omega), Nat.mod_eq_of_lt (b := 64) (by omega), Nat.mod_eq_of_lt hn]

theorem add2w (a b : UInt32) : (a.toUInt64 + b.toUInt64) % 4294967296 = (a + b).toUInt64 := by
  apply UInt64.toNat_inj.1
  have h1 := a.toNat_lt; have h2 := b.toNat_lt
  simp only [UInt64.toNat_mod, UInt64.toNat_add, UInt32.toNat_toUInt64, UInt32.toNat_add, show (4294967296 : UInt64).toNat = 4294967296 from rfl]
  omega
theorem add4w (a b c d : UInt32) : (a.toUInt64 + b.toUInt64 + c.toUInt64 + d.toUInt64) % 4294967296 = (a + b + c + d).toUInt64 := by
  apply UInt64.toNat_inj.1
  have h1 := a.toNat_lt; have h2 := b.toNat_lt; have h3 := c.toNat_lt; have h4 := d.toNat_lt
  simp only [UInt64.toNat_mod, UInt64.toNat_add, UInt32.toNat_toUInt64, UInt32.toNat_add, show (4294967296 : UInt64).toNat = 4294967296 from rfl]
  omega
theorem add5w (a b c d e : UInt32) : (a.toUInt64 + b.toUInt64 + c.toUInt64 + d.toUInt64 + e.toUInt64) % 4294967296 = (a + b + c + d + e).toUInt64 := by
  apply UInt64.toNat_inj.1
  have h1 := a.toNat_lt; have h2 := b.toNat_lt; have h3 := c.toNat_lt; have h4 := d.toNat_lt; have h5 := e.toNat_lt
  simp only [UInt64.toNat_mod, UInt64.toNat_add, UInt32.toNat_toUInt64, UInt32.toNat_add, show (4294967296 : UInt64).toNat = 4294967296 from rfl]
  omega
theorem not_w (e : UInt32) : 4294967295 - e.toUInt64 = (~~~e).toUInt64 := by
  apply UInt64.toNat_inj.1
  have h1 := e.toNat_lt
  simp only [UInt64.toNat_sub, UInt32.toNat_toUInt64, UInt32.toNat_not, show (4294967295 : UInt64).toNat = 4294967295 from rfl]
  simp
  omega
theorem ch_eq (e f g : UInt32) : (e &&& f) ^^^ (~~~e &&& g) = (e &&& f ||| ~~~e &&& g) := by
  apply UInt32.toBitVec_inj.1
  apply BitVec.eq_of_getLsbD_eq
  intro i hi
  simp only [UInt32.toBitVec_xor, UInt32.toBitVec_or, UInt32.toBitVec_and, UInt32.toBitVec_not, BitVec.getLsbD_xor, BitVec.getLsbD_or, BitVec.getLsbD_and, BitVec.getLsbD_not, hi, decide_true, Bool.true_and]
  generalize e.toBitVec.getLsbD i = x
  generalize f.toBitVec.getLsbD i = y
  generalize g.toBitVec.getLsbD i = z
  revert x y z
  decide
theorem maj_eq (a b c : UInt32) : (a &&& b) ^^^ (a &&& c) ^^^ (b &&& c) = (a &&& (b ||| c) ||| b &&& c) := by
  apply UInt32.toBitVec_inj.1
  apply BitVec.eq_of_getLsbD_eq
  intro i hi
  simp only [UInt32.toBitVec_xor, UInt32.toBitVec_or, UInt32.toBitVec_and, BitVec.getLsbD_xor, BitVec.getLsbD_or, BitVec.getLsbD_and]
  generalize a.toBitVec.getLsbD i = x
  generalize b.toBitVec.getLsbD i = y
  generalize c.toBitVec.getLsbD i = z
  revert x y z
  decide

/-- the words of a block, while its bytes come in -/
theorem wAcc_lt (s : List UInt8) : ∀ (k : Nat) (j : Nat), ((wAcc s k).getD j 0).toNat < 256 ^ (min 4 (k - 4 * j))
  | 0, j => by
    unfold wAcc
    rw [List.getD_eq_getElem?_getD, List.getElem?_replicate]
    split <;> simp
  | k + 1, j => by
    rw [wAcc_succ]
    have ih := wAcc_lt s k j
    by_cases hj : k / 4 = j
    · subst hj
      by_cases hlt : k / 4 < (wAcc s k).length
      · rw [List.getD_eq_getElem?_getD, List.getElem?_set_self hlt]
        have h3 : k - 4 * (k / 4) = k % 4 := by omega
        have h4 : k + 1 - 4 * (k / 4) = k % 4 + 1 := by omega
        rw [h3, Nat.min_eq_right (by omega)] at ih
        rw [h4, Nat.min_eq_right (by omega)]
        have hc := (s.getD k 0).toNat_lt
        have hp : 256 ^ (k % 4) ≤ 256 ^ 3 := Nat.pow_le_pow_right (by decide) (by omega)
        simp only [Option.getD_some, UInt32.toNat_or, UInt32.toNat_shiftLeft, UInt8.toNat_toUInt32, UInt32.toNat_ofNat', show 8 % 2 ^ 32 % 32 = 8 from rfl, Nat.shiftLeft_eq]
        have h5 : ((wAcc s k).getD (k / 4) 0).toNat * 2 ^ 8 % 2 ^ 32 = ((wAcc s k).getD (k / 4) 0).toNat * 2 ^ 8 := Nat.mod_eq_of_lt (by omega)
        rw [h5, ← Nat.shiftLeft_eq, ← Nat.shiftLeft_add_eq_or_of_lt (by omega), Nat.shiftLeft_eq, Nat.pow_succ]
        omega
      · rw [List.set_eq_of_length_le (by omega)]
        refine Nat.lt_of_lt_of_le ih (Nat.pow_le_pow_right (by decide) (by omega))
    · rw [List.getD_eq_getElem?_getD, List.getElem?_set_ne hj, ← List.getD_eq_getElem?_getD]
      exact Nat.lt_of_lt_of_le ih (Nat.pow_le_pow_right (by decide) (by omega))
theorem wAcc_wide (s : List UInt8) (k : Nat) : ((wAcc s k).getD (k / 4) 0).toUInt64 * 256 + (s.getD k 0).toUInt64 = (((wAcc s k).getD (k / 4) 0 <<< UInt32.ofNat 8) ||| (s.getD k 0).toUInt32).toUInt64 := by
  have ih := wAcc_lt s k (k / 4)
  rw [show k - 4 * (k / 4) = k % 4 by omega, Nat.min_eq_right (by omega)] at ih
  have hc := (s.getD k 0).toNat_lt
  have hp : 256 ^ (k % 4) ≤ 256 ^ 3 := Nat.pow_le_pow_right (by decide) (by omega)
  apply UInt64.toNat_inj.1
  rw [UInt64.toNat_add, UInt64.toNat_mul, UInt32.toNat_toUInt64, UInt32.toNat_toUInt64, UInt8.toNat_toUInt64, UInt32.toNat_or, UInt32.toNat_shiftLeft, UInt8.toNat_toUInt32, UInt32.toNat_ofNat', show 8 % 2 ^ 32 % 32 = 8 from rfl, Nat.shiftLeft_eq, show (256 : UInt64).toNat = 256 from rfl]
  have h5 : ((wAcc s k).getD (k / 4) 0).toNat * 2 ^ 8 % 2 ^ 32 = ((wAcc s k).getD (k / 4) 0).toNat * 2 ^ 8 := Nat.mod_eq_of_lt (by omega)
  rw [h5, ← Nat.shiftLeft_eq, ← Nat.shiftLeft_add_eq_or_of_lt (by omega), Nat.shiftLeft_eq]
  omega
/-- the whole row of words -/
def nxtW (l : List UInt32) : UInt32 :=
  l.getD (l.length - 16) 0 + ((rotr (l.getD (l.length - 15) 0) 7 ^^^ rotr (l.getD (l.length - 15) 0) 18 ^^^ (l.getD (l.length - 15) 0 >>> UInt32.ofNat 3)) + l.getD (l.length - 7) 0 +
    (rotr (l.getD (l.length - 2) 0) 17 ^^^ rotr (l.getD (l.length - 2) 0) 19 ^^^ (l.getD (l.length - 2) 0 >>> UInt32.ofNat 10)))
def wL (w0 : List UInt32) : Nat → List UInt32
  | 0 => w0
  | k + 1 => wL w0 k ++ [nxtW (wL w0 k)]
theorem wL_length (w0 : List UInt32) (h : w0.length = 16) : ∀ k, (wL w0 k).length = 16 + k
  | 0 => h
  | k + 1 => by rw [wL, List.length_append, wL_length w0 h k]; rfl
theorem getD_app {l r : List UInt32} {i : Nat} (h : i < l.length) : (l ++ r).getD i 0 = l.getD i 0 := by
  rw [List.getD_eq_getElem?_getD, List.getElem?_append_left h, ← List.getD_eq_getElem?_getD]
theorem wL_get (w0 : List UInt32) (h : w0.length = 16) (i : Nat) : ∀ (j d : Nat), i < 16 + j → (wL w0 (j + d)).getD i 0 = (wL w0 j).getD i 0
  | j, 0, _ => rfl
  | j, d + 1, hi => by
    rw [← Nat.add_assoc, wL, getD_app (by rw [wL_length w0 h]; omega), wL_get w0 h i j d hi]
theorem wL_last (w0 : List UInt32) (h : w0.length = 16) (j : Nat) : (wL w0 (j + 1)).getD (16 + j) 0 = nxtW (wL w0 j) := by
  have hl := wL_length w0 h j
  rw [wL, List.getD_eq_getElem?_getD, List.getElem?_append_right (by omega), hl]
  simp
/-- what turns round holds the last sixteen -/
theorem it_w (h : V8) (w0 : List UInt32) (hw : w0.length = 16) : ∀ (k : Nat), k ≤ 64 → ∀ i, i < max k 16 → k ≤ i + 16 → (it h w0 k).2.getD (i % 16) 0 = (wL w0 48).getD i 0
  | 0, _, i, hi, _ => by
    have e : (wL w0 48).getD i 0 = w0.getD i 0 := wL_get w0 hw i 0 48 (by omega)
    rw [e, it, Nat.mod_eq_of_lt (by omega)]
  | k + 1, hk, i, hi, hik => by
    have hlen := it_length h w0 hw k
    have ih := it_w h w0 hw k (by omega)
    rw [it]
    simp only
    unfold sched
    by_cases h16 : 16 ≤ k
    · rw [if_pos h16]
      by_cases e : i = k
      · subst e
        rw [List.getD_eq_getElem?_getD, List.getElem?_set_self (by omega)]
        obtain ⟨j, rfl⟩ : ∃ j, i = 16 + j := ⟨i - 16, by omega⟩
        have hl := wL_length w0 hw j
        have e2 : (wL w0 48).getD (16 + j) 0 = nxtW (wL w0 j) := by
          rw [show (48 : Nat) = (j + 1) + (47 - j) by omega, wL_get w0 hw (16 + j) (j + 1) (47 - j) (by omega), wL_last w0 hw j]
        have g : ∀ d, 0 < d → d ≤ 16 → (it h w0 (16 + j)).2.getD ((16 + j + (16 - d)) % 16) 0 = (wL w0 j).getD (16 + j - d) 0 := fun d h0 h1 => by
          have := ih (16 + j - d) (by omega) (by omega)
          rw [show (16 + j - d) % 16 = (16 + j + (16 - d)) % 16 by omega] at this
          rw [this, show (48 : Nat) = j + (48 - j) by omega, wL_get w0 hw (16 + j - d) j (48 - j) (by omega)]
        rw [e2, Option.getD_some]
        unfold schedX nxtW
        rw [hl]
        have g16 := g 16 (by decide) (by decide)
        have g15 := g 15 (by decide) (by decide)
        have g7 := g 7 (by decide) (by decide)
        have g2 := g 2 (by decide) (by decide)
        simp only [show 16 - 16 = 0 from rfl, Nat.add_zero, show 16 - 15 = 1 from rfl, show 16 - 7 = 9 from rfl, show 16 - 2 = 14 from rfl] at g16 g15 g7 g2
        rw [g16, g15, g7, g2]
      · have hne : k % 16 ≠ i % 16 := by omega
        rw [List.getD_eq_getElem?_getD, List.getElem?_set_ne hne, ← List.getD_eq_getElem?_getD]
        exact ih i (by omega) (by omega)
    · rw [if_neg h16]
      exact ih i (by omega) (by omega)
theorem it_wk (h : V8) (w0 : List UInt32) (hw : w0.length = 16) (k : Nat) (hk : k < 64) : (sched k (it h w0 k).2).getD (k % 16) 0 = (wL w0 48).getD k 0 := by
  have := it_w h w0 hw (k + 1) (by omega) k (by omega) (by omega)
  rw [it] at this
  exact this
def w64 (x : UInt32) : Value := u64 x.toUInt64
def V8.val64 (v : V8) : Value := .agg [w64 v.a, w64 v.b, w64 v.c, w64 v.d, w64 v.e, w64 v.f, w64 v.g, w64 v.h].toArray
theorem mget64 (l r : List UInt32) (i j : Nat) (h : j = i) (hi : i < l.length) : ((l ++ r).map w64)[j]? = some (w64 (l.getD i 0)) := by
  subst h
  rw [List.getElem?_map, List.getElem?_append_left hi, List.getElem?_eq_getElem hi, List.getD_eq_getElem?_getD, List.getElem?_eq_getElem hi]
  rfl
theorem mget64' (l : List UInt32) (i j : Nat) (h : j = i) (hi : i < l.length) : (l.map w64)[j]? = some (w64 (l.getD i 0)) := by
  have := mget64 l [] i j h hi
  rwa [List.append_nil] at this
theorem one64 (l : List UInt32) : ∀ v ∈ l.map w64, v.oneCell' = true := fun v hv => by
  obtain ⟨x, _, rfl⟩ := List.mem_map.1 hv; rfl
theorem V8.one64 (v : V8) : ∀ x ∈ [w64 v.a, w64 v.b, w64 v.c, w64 v.d, w64 v.e, w64 v.f, w64 v.g, w64 v.h], x.oneCell' = true := SL.one64 v.list
theorem acc_set (s : List UInt8) (k : Nat) (hk : k < 64) (j : Nat) (hj : j = k / 4) (r : List UInt32) :
    SetAt ((wAcc s k ++ r).map w64) j (w64 (((wAcc s k).getD (k / 4) 0 <<< UInt32.ofNat 8) ||| (s.getD k 0).toUInt32)) ((wAcc s (k + 1) ++ r).map w64) := by
  subst hj
  have hl := wAcc_length s k
  refine SetAt.of (by simp [hl]; omega) ?_
  rw [wAcc_succ, ← List.map_set, List.set_append_left _ _ (by omega)]
theorem wL_set (w0 : List UInt32) (hw : w0.length = 16) (m : Nat) (hm : m < 48) (j : Nat) (hj : j = 16 + m) :
    SetAt ((wL w0 m ++ List.replicate (48 - m) 0).map w64) j (w64 (nxtW (wL w0 m))) ((wL w0 (m + 1) ++ List.replicate (48 - (m + 1)) 0).map w64) := by
  subst hj
  have hl := wL_length w0 hw m
  refine SetAt.of (by simp [hl]; omega) ?_
  rw [← List.map_set, List.set_append_right _ _ (by omega), hl, Nat.sub_self, show 48 - m = (48 - (m + 1)) + 1 by omega, List.replicate_succ, wL]
  simp
theorem nxt_wide (l : List UInt32) (m : Nat) (hl : l.length = 16 + m) :
    ((l.getD m 0).toUInt64 + ((rotr (l.getD (m + 1) 0) 7).toUInt64 ^^^ (rotr (l.getD (m + 1) 0) 18).toUInt64 ^^^ ((l.getD (m + 1) 0).toUInt64 >>> UInt64.ofNat 3)) + (l.getD (m + 9) 0).toUInt64 +
      ((rotr (l.getD (m + 14) 0) 17).toUInt64 ^^^ (rotr (l.getD (m + 14) 0) 19).toUInt64 ^^^ ((l.getD (m + 14) 0).toUInt64 >>> UInt64.ofNat 10))) % 4294967296 = (nxtW l).toUInt64 := by
  unfold nxtW
  rw [hl, show 16 + m - 16 = m by omega, show 16 + m - 15 = m + 1 by omega, show 16 + m - 7 = m + 9 by omega, show 16 + m - 2 = m + 14 by omega,
    right32 _ 3 (by decide), right32 _ 10 (by decide), ← UInt32.toUInt64_xor, ← UInt32.toUInt64_xor, ← UInt32.toUInt64_xor, ← UInt32.toUInt64_xor, add4w, UInt32.add_assoc, UInt32.add_assoc, ← UInt32.add_assoc (_ ^^^ _)]
theorem rndT_wide (k : Nat) (w : List UInt32) (v : V8) (W : UInt32) (hW : w.getD (k % 16) 0 = W) :
    (v.h.toUInt64 + ((rotr v.e 6).toUInt64 ^^^ (rotr v.e 11).toUInt64 ^^^ (rotr v.e 25).toUInt64) + ((v.e.toUInt64 &&& v.f.toUInt64) ^^^ ((4294967295 - v.e.toUInt64) &&& v.g.toUInt64)) + (shaK.getD k 0).toUInt64 + W.toUInt64) % 4294967296 = (rndT k w v).toUInt64 := by
  unfold rndT
  rw [hW, not_w, ← UInt32.toUInt64_xor, ← UInt32.toUInt64_xor, ← UInt32.toUInt64_and, ← UInt32.toUInt64_and, ← UInt32.toUInt64_xor, ch_eq, add5w]
theorem rndU_wide (v : V8) :
    (((rotr v.a 2).toUInt64 ^^^ (rotr v.a 13).toUInt64 ^^^ (rotr v.a 22).toUInt64) + ((v.a.toUInt64 &&& v.b.toUInt64) ^^^ (v.a.toUInt64 &&& v.c.toUInt64) ^^^ (v.b.toUInt64 &&& v.c.toUInt64))) % 4294967296 = (rndU v).toUInt64 := by
  unfold rndU
  rw [← UInt32.toUInt64_xor, ← UInt32.toUInt64_xor, ← UInt32.toUInt64_and, ← UInt32.toUInt64_and, ← UInt32.toUInt64_and, ← UInt32.toUInt64_xor, ← UInt32.toUInt64_xor, maj_eq, add2w]
theorem out_wide (v : V8) (i j : Nat) (_hi : i < 8) (hj : j < 4) : ((v.list.getD i 0).toUInt64 >>> UInt64.ofNat (24 - 8 * j) % 256).toUInt8 = outB v (4 * i + j) := by
  unfold outB
  rw [show (4 * i + j) / 4 = i by omega, show (4 * i + j) % 4 = j by omega, right32 _ _ (by omega)]
  apply UInt8.toNat_inj.1
  rw [UInt64.toNat_toUInt8, UInt64.toNat_mod, UInt32.toNat_toUInt64, UInt32.toNat_toUInt8, show (256 : UInt64).toNat = 256 from rfl]
  omega
theorem byte_mod (x : UInt64) : (x % 256).toUInt8 = x.toUInt8 := by
  apply UInt8.toNat_inj.1
  rw [UInt64.toNat_toUInt8, UInt64.toNat_mod, UInt64.toNat_toUInt8, show (256 : UInt64).toNat = 256 from rfl]
  omega
theorem leB_get : ∀ (n w i : Nat), i < w → (leB n w)[i]? = some (UInt8.ofNat (n / 256 ^ i))
  | _, 0, _, h => by omega
  | n, w + 1, 0, _ => by simp [leB]
  | n, w + 1, i + 1, h => by
    rw [leB, List.getElem?_cons_succ, leB_get (n / 256) w i (by omega), Nat.div_div_eq_div_mul, ← Nat.pow_succ']
theorem rev_take (m j : Nat) (hj : j < 8) : (leB m 8).reverse.take (j + 1) = (leB m 8).reverse.take j ++ [UInt8.ofNat (m / 256 ^ (7 - j))] := by
  have hl : (leB m 8).length = 8 := leB_length m 8
  rw [take_snoc _ j (UInt8.ofNat (m / 256 ^ (7 - j))) ?_]
  rw [List.getElem?_reverse (by omega), hl, show 8 - 1 - j = 7 - j by omega, leB_get m 8 (7 - j) (by omega)]
theorem fill_byte (n j : Nat) (hn : n < 1000000000) (hj : j < 8) : ((UInt64.ofNat n * 8) >>> UInt64.ofNat (8 * (7 - j)) % 256).toUInt8 = UInt8.ofNat (8 * n / 256 ^ (7 - j)) := by
  rw [byte_mod, shr_byte _ (7 - j) (by omega)]
  congr 2
  rw [UInt64.toNat_mul, UInt64.toNat_ofNat', show (8 : UInt64).toNat = 8 from rfl]
  omega
theorem num_div (n k : Nat) (hn : n < 2 ^ 64) : UInt64.ofNat (n / 256 ^ k) / 256 = UInt64.ofNat (n / 256 ^ (k + 1)) := by
  apply UInt64.toNat_inj.1
  have h1 : n / 256 ^ k < 2 ^ 64 := Nat.lt_of_le_of_lt (Nat.div_le_self _ _) hn
  have h2 : n / 256 ^ (k + 1) < 2 ^ 64 := Nat.lt_of_le_of_lt (Nat.div_le_self _ _) hn
  rw [UInt64.toNat_div, UInt64.toNat_ofNat', UInt64.toNat_ofNat', Nat.mod_eq_of_lt h1, Nat.mod_eq_of_lt h2, Nat.pow_succ, ← Nat.div_div_eq_div_mul]
  rfl
theorem num_byte (m : Nat) : (UInt64.ofNat m % 256).toUInt8 = UInt8.ofNat m := by
  rw [byte_mod]
  apply UInt8.toNat_inj.1
  rw [UInt64.toNat_toUInt8, UInt64.toNat_ofNat', UInt8.toNat_ofNat']
  omega
theorem take_num (c : UInt8) (m : Nat) : UInt64.ofNat m * 256 + c.toUInt64 = UInt64.ofNat (c.toNat + 256 * m) := by
  apply UInt64.toNat_inj.1
  rw [UInt64.toNat_add, UInt64.toNat_mul, UInt64.toNat_ofNat', UInt64.toNat_ofNat', UInt8.toNat_toUInt64, show (256 : UInt64).toNat = 256 from rfl]
  omega
end SL
