/- Plain functions: the sum. -/
import Derived.Test.YteckdahgkkmlaaaDoorSLSpecB
import Derived.Lib.Join
import Derived.Lib.Repeat
import Derived.Lib.TrimByte
namespace SL
open Go

def rotr (x : UInt32) (n : Nat) : UInt32 := (x <<< UInt32.ofNat (32 - n)) ||| (x >>> UInt32.ofNat n)
structure V8 where
  a : UInt32
  b : UInt32
  c : UInt32
  d : UInt32
  e : UInt32
  f : UInt32
  g : UInt32
  h : UInt32
def V8.list (v : V8) : List UInt32 := [v.a, v.b, v.c, v.d, v.e, v.f, v.g, v.h]
def V8.val (v : V8) : Value := .agg [u32 v.a, u32 v.b, u32 v.c, u32 v.d, u32 v.e, u32 v.f, u32 v.g, u32 v.h].toArray
theorem V8.one (v : V8) : ∀ x ∈ [u32 v.a, u32 v.b, u32 v.c, u32 v.d, u32 v.e, u32 v.f, u32 v.g, u32 v.h], x.oneCell' = true := by
  intro x hx
  simp only [List.mem_cons, List.not_mem_nil, or_false] at hx
  rcases hx with rfl | rfl | rfl | rfl | rfl | rfl | rfl | rfl <;> rfl
def shaK : List UInt32 := [
  1116352408, 1899447441, 3049323471, 3921009573, 961987163, 1508970993, 2453635748, 2870763221,
  3624381080, 310598401, 607225278, 1426881987, 1925078388, 2162078206, 2614888103, 3248222580,
  3835390401, 4022224774, 264347078, 604807628, 770255983, 1249150122, 1555081692, 1996064986,
  2554220882, 2821834349, 2952996808, 3210313671, 3336571891, 3584528711, 113926993, 338241895,
  666307205, 773529912, 1294757372, 1396182291, 1695183700, 1986661051, 2177026350, 2456956037,
  2730485921, 2820302411, 3259730800, 3345764771, 3516065817, 3600352804, 4094571909, 275423344,
  430227734, 506948616, 659060556, 883997877, 958139571, 1322822218, 1537002063, 1747873779,
  1955562222, 2024104815, 2227730452, 2361852424, 2428436474, 2756734187, 3204031479, 3329325298]
theorem shaK_length : shaK.length = 64 := rfl
def wAcc (s : List UInt8) : Nat → List UInt32
  | 0 => List.replicate 16 0
  | k + 1 => (wAcc s k).set (k / 4) (((wAcc s k).getD (k / 4) 0 <<< UInt32.ofNat 8) ||| (s.getD k 0).toUInt32)
theorem wAcc_length (s : List UInt8) : ∀ k, (wAcc s k).length = 16
  | 0 => by simp [wAcc]
  | k + 1 => by rw [wAcc, List.length_set, wAcc_length s k]
theorem wAcc_zero (s : List UInt8) : (wAcc s 0).map u32 = List.replicate 16 (Value.int .u32 0) := rfl
theorem wAcc_succ (s : List UInt8) (k : Nat) : wAcc s (k + 1) = (wAcc s k).set (k / 4) (((wAcc s k).getD (k / 4) 0 <<< UInt32.ofNat 8) ||| (s.getD k 0).toUInt32) := rfl
attribute [irreducible] wAcc
def schedX (k : Nat) (w : List UInt32) : UInt32 :=
  w.getD (k % 16) 0 + ((rotr (w.getD ((k + 1) % 16) 0) 7 ^^^ rotr (w.getD ((k + 1) % 16) 0) 18 ^^^ (w.getD ((k + 1) % 16) 0 >>> UInt32.ofNat 3)) + w.getD ((k + 9) % 16) 0 +
    (rotr (w.getD ((k + 14) % 16) 0) 17 ^^^ rotr (w.getD ((k + 14) % 16) 0) 19 ^^^ (w.getD ((k + 14) % 16) 0 >>> UInt32.ofNat 10)))
def sched (k : Nat) (w : List UInt32) : List UInt32 := if 16 ≤ k then w.set (k % 16) (schedX k w) else w
theorem sched_length (k : Nat) (w : List UInt32) : (sched k w).length = w.length := by
  unfold sched; split <;> simp
def rndT (k : Nat) (w : List UInt32) (v : V8) : UInt32 :=
  v.h + (rotr v.e 6 ^^^ rotr v.e 11 ^^^ rotr v.e 25) + (v.e &&& v.f ||| ~~~v.e &&& v.g) + shaK.getD k 0 + w.getD (k % 16) 0
def rndU (v : V8) : UInt32 := (rotr v.a 2 ^^^ rotr v.a 13 ^^^ rotr v.a 22) + (v.a &&& (v.b ||| v.c) ||| v.b &&& v.c)
def rnd (k : Nat) (w : List UInt32) (v : V8) : V8 := ⟨rndT k w v + rndU v, v.a, v.b, v.c, v.d + rndT k w v, v.e, v.f, v.g⟩
def it (h : V8) (w0 : List UInt32) : Nat → V8 × List UInt32
  | 0 => (h, w0)
  | k + 1 => (rnd k (sched k (it h w0 k).2) (it h w0 k).1, sched k (it h w0 k).2)
theorem it_length (h : V8) (w0 : List UInt32) (hw : w0.length = 16) : ∀ k, (it h w0 k).2.length = 16
  | 0 => hw
  | k + 1 => by rw [it, sched_length, it_length h w0 hw k]
def addV (v h : V8) : V8 := ⟨v.a + h.a, v.b + h.b, v.c + h.c, v.d + h.d, v.e + h.e, v.f + h.f, v.g + h.g, v.h + h.h⟩
def stepS (h : V8) (s : List UInt8) : V8 := addV (it h (wAcc s 64) 64).1 h
def fillS (n : Nat) : List UInt8 := 128 :: List.replicate (63 - (n + 8) % 64) 0 ++ (leB (8 * n) 8).reverse
theorem fillS_length (n : Nat) : (n + (fillS n).length) % 64 = 0 := by
  simp [fillS, leB_length]; omega
theorem fillS_le (n : Nat) : (fillS n).length ≤ 72 := by
  simp [fillS, leB_length]
def foldS : Nat → V8 → List UInt8 → V8
  | 0, h, _ => h
  | n + 1, h, s => foldS n (stepS h (s.take 64)) (s.drop 64)
def iv : V8 := ⟨1779033703, 3144134277, 1013904242, 2773480762, 1359893119, 2600822924, 528734635, 1541459225⟩
def shaV (m : List UInt8) : V8 := foldS ((m.length + (fillS m.length).length) / 64) iv (m ++ fillS m.length)
def outB (v : V8) (i : Nat) : UInt8 := (v.list.getD (i / 4) 0 >>> UInt32.ofNat (24 - 8 * (i % 4))).toUInt8
def shaB (m : List UInt8) : List UInt8 := (List.range 32).map (outB (shaV m))
theorem shaB_length (m : List UInt8) : (shaB m).length = 32 := by simp [shaB]

/-- the filling as it is written: k bytes of the length stand -/
def fillK (n k : Nat) : List UInt8 := 128 :: List.replicate (63 - (n + 8) % 64 + (8 - k)) 0 ++ (leB (8 * n) k).reverse
theorem fillK_length (n k : Nat) (hk : k ≤ 8) : (fillK n k).length = 1 + (63 - (n + 8) % 64) + 8 := by
  simp [fillK, leB_length]; omega
theorem fillK_step (n k : Nat) (hk : k < 8) (x : UInt8) (hx : x = UInt8.ofNat (8 * n / 256 ^ k)) : (fillK n k).set (1 + (63 - (n + 8) % 64) + 8 - 1 - k) x = fillK n (k + 1) := by
  subst hx
  have e : 1 + (63 - (n + 8) % 64) + 8 - 1 - k = (63 - (n + 8) % 64 + (8 - (k + 1))) + 1 := by omega
  have e2 : 63 - (n + 8) % 64 + (8 - k) = (63 - (n + 8) % 64 + (8 - (k + 1))) + 1 := by omega
  unfold fillK
  rw [e, e2, leB_snoc, List.reverse_append, List.cons_append, List.set_cons_succ, List.set_append_left _ _ (by simp), List.replicate_succ', List.set_append_right _ _ (by simp)]
  simp
theorem join_sep0 : ∀ xs : List (List UInt8), Lib.join xs [] = xs.flatten
  | [] => rfl
  | [x] => by simp [Lib.join, List.intercalate]
  | x :: y :: l => by
    have := join_sep0 (y :: l)
    simp only [Lib.join, List.intercalate, List.intersperse_cons_cons, List.flatten_cons, List.nil_append] at this ⊢
    rw [this]
theorem repeat_zero (n : Nat) : Lib.repeatL [0] n = List.replicate n 0 := by
  induction n with
  | zero => rfl
  | succ n ih => rw [Lib.repeatL, ih]; rfl
def outL (v : V8) (k : Nat) : List UInt8 := (List.range k).map (outB v) ++ List.replicate (32 - k) 0
theorem outL_length (v : V8) (k : Nat) (hk : k ≤ 32) : (outL v k).length = 32 := by simp [outL]; omega
theorem outL_step (v : V8) (k : Nat) (hk : k < 32) : (outL v k).set k (outB v k) = outL v (k + 1) := by
  unfold outL
  rw [List.set_append_right _ _ (by simp), show 32 - k = (32 - (k + 1)) + 1 by omega, List.replicate_succ]
  simp [List.range_succ]
theorem outL_end (m : List UInt8) : outL (shaV m) 32 = shaB m := by simp [outL, shaB]
attribute [irreducible] shaB stepS shaV
end SL
