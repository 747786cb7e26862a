/- Walks of the program's functions. -/
import Derived.Test.YteckdahgkkmlaaaGreatDoorSLBase
import Derived.Test.YteckdahgkkmlaaaGreatDoorSLSpecB
import Derived.Test.YteckdahgkkmlaaaGreatDoorSLShelf
import Derived.KernelRfl
set_option maxRecDepth 20000
set_option linter.unusedVariables false
set_option linter.unusedSimpArgs false
namespace Go.Proofs.YteckdahgkkmlaaaGreatDoor
open Go SL
variable {G : List (Nat × Obj)}
theorem bits_Len64 (n : UInt64) : Does Tryz.prog G 61 [u64 n] [] (One (i64 (Lib.bitLen n.toNat))) :=
  Does.one (Does.of_below fun w hw => by
    have h := n.toNat_lt
    refine (Tryz.bits_Len64 n.toNat w (by omega) (by omega)).mono ?_
    rintro e w' ⟨he, rfl⟩
    exact ⟨he, RowKit.Below.refl _ _⟩)
theorem strings_Repeat (l : List UInt8) (n : Nat) (h : n ≤ 9223372036854775807) (h2 : l.length * n ≤ 140737488355328) : Does Tryz.prog G 42 [str l, i64 n] [] (One (str (Lib.repeatL l n))) :=
  Does.one (Does.of_below fun w hw => by
    have := Tryz.strings_Repeat ⟨l.toArray⟩ n w h (by rw [size_str]; exact h2)
    simpa [str] using this)
theorem strings_Trim (l : List UInt8) (x : UInt8) (hx : x.toNat < 128) (h : l.length ≤ 9223372036854775807) : Does Tryz.prog G 59 [str l, str [x]] [] (One (str (Lib.trimB l x))) :=
  Does.one (Does.of_below fun w hw => by
    have := Tryz.strings_Trim_one ⟨l.toArray⟩ x hx w (by rw [size_str]; exact h)
    refine this.mono ?_
    rintro e w' ⟨he, hb⟩
    exact ⟨by simpa [str] using he, below_of_drew hb⟩)
theorem strings_Join (b c : Nat) (E : TypeId) (fr : Nat × Nat) (xs : List (List UInt8)) (sep : List UInt8) (hN : xs.length ≤ 140737488355328) (hcap : xs.length ≤ c) (hlen : (Lib.join xs sep).length ≤ 140737488355328) :
    Does Tryz.prog G 85 [slc b 0 xs.length c, str sep] [row b (xs.map str) E fr] (OneR (str (Lib.join xs sep)) [row b (xs.map str) E fr]) :=
  Does.of_below fun w hw => by
    have hb : w.heap[b]? = some (.cells (xs.map str).toArray E fr) := hw.holds _ (List.mem_cons_self ..)
    have e1 : ((xs.map fun x : List UInt8 => (⟨x.toArray⟩ : ByteArray)).map (·.data.toList)) = xs := by
      rw [List.map_map]
      exact List.map_id'' (fun x => rfl) xs
    have := Tryz.strings_Join b 0 c (xs.map fun x => ⟨x.toArray⟩) ⟨sep.toArray⟩ w (fun j x hx => by
      rw [Nat.zero_add]
      simp only [World.cell?, hb]
      rw [List.getElem?_map] at hx
      simp only [List.getElem?_toArray, List.getElem?_map]
      cases hj : xs[j]? with
      | none => rw [hj] at hx; cases hx
      | some y => rw [hj] at hx; cases hx; rfl) (Array.getElem?_eq_some_iff.1 hb).1 (by simpa using hN) (by simpa using hcap) (by rw [e1]; exact hlen)
    rw [e1] at this
    simpa [str] using this
end Go.Proofs.YteckdahgkkmlaaaGreatDoor
