/- Plain functions: what the small layers reckon. -/
import Derived.Lib.Strings
namespace SL

/-- how two texts differ -/
def dif : List UInt8 → List UInt8 → UInt8 → UInt8
  | x :: a, y :: b, d => dif a b (d ||| (x ^^^ y))
  | _, _, d => d

theorem dif_snoc : ∀ (a b : List UInt8) (x y d : UInt8), a.length = b.length → dif (a ++ [x]) (b ++ [y]) d = dif a b d ||| (x ^^^ y)
  | [], [], _, _, _, _ => rfl
  | [], _ :: _, _, _, _, h => by simp at h
  | _ :: _, [], _, _, _, h => by simp at h
  | x' :: a, y' :: b, x, y, d, h => dif_snoc a b x y _ (by simpa using h)

theorem or_zero (d e : UInt8) : d ||| e = 0 ↔ d = 0 ∧ e = 0 := by
  constructor
  · intro h
    have h1 : (d.toBitVec ||| e.toBitVec) = 0#8 := congrArg UInt8.toBitVec h
    have h2 := BitVec.or_eq_zero_iff.1 h1
    exact ⟨UInt8.toBitVec_inj.1 h2.1, UInt8.toBitVec_inj.1 h2.2⟩
  · rintro ⟨rfl, rfl⟩; rfl

theorem xor_zero (d e : UInt8) : d ^^^ e = 0 ↔ d = e := by
  constructor
  · intro h
    have h1 : (d.toBitVec ^^^ e.toBitVec) = 0#8 := congrArg UInt8.toBitVec h
    have h2 := congrArg (· ^^^ e.toBitVec) h1
    simp only [BitVec.xor_assoc, BitVec.xor_self, BitVec.xor_zero, BitVec.zero_xor] at h2
    exact UInt8.toBitVec_inj.1 h2
  · rintro rfl; exact UInt8.toBitVec_inj.1 (BitVec.xor_self)

theorem dif_zero : ∀ (a b : List UInt8) (d : UInt8), a.length = b.length → (dif a b d = 0 ↔ d = 0 ∧ a = b)
  | [], [], d, _ => by simp [dif]
  | [], _ :: _, _, h => by simp at h
  | _ :: _, [], _, h => by simp at h
  | x :: a, y :: b, d, h => by
    simp only [dif]
    rw [dif_zero a b _ (by simpa using h), or_zero, xor_zero, List.cons.injEq]
    constructor
    · rintro ⟨⟨h1, h2⟩, h3⟩; exact ⟨h1, h2, h3⟩
    · rintro ⟨h1, h2, h3⟩; exact ⟨⟨h1, h2⟩, h3⟩

theorem take_snoc {α : Type} (l : List α) (k : Nat) (x : α) (h : l[k]? = some x) : l.take (k + 1) = l.take k ++ [x] := by
  obtain ⟨h1, h2⟩ := List.getElem?_eq_some_iff.1 h
  rw [List.take_succ_eq_append_getElem h1, h2]

end SL
