/- The proof's own walks of the program's functions, part 1. -/
import Derived.Test.YteckdahgkkmlaaaDoorSLBase
import Derived.Test.YteckdahgkkmlaaaDoorSLSpecB
import Derived.Test.YteckdahgkkmlaaaDoorSLShelf
import Derived.KernelRfl
import Derived.Test.YteckdahgkkmlaaaDoorSLBld
import Derived.Test.YteckdahgkkmlaaaDoorSLSpecA
import Derived.Test.YteckdahgkkmlaaaDoorSLSpecS
import Derived.Test.YteckdahgkkmlaaaDoorSLCpy
import Derived.Test.YteckdahgkkmlaaaDoorSLEqs
section
set_option maxRecDepth 20000
set_option linter.unusedVariables false
set_option linter.unusedSimpArgs false
namespace Go.Proofs.YteckdahgkkmlaaaDoor
open Go SL
variable {G : List (Nat × Obj)}
theorem bits_Len64 (n : UInt64) : Does Tryd.prog G 52 [u64 n] [] (One (i64 (Lib.bitLen n.toNat))) :=
  Does.one (Does.of_below fun w hw => by
    have h := n.toNat_lt
    refine (Tryd.bits_Len64 n.toNat w (by omega) (by omega)).mono ?_
    rintro e w' ⟨he, rfl⟩
    exact ⟨he, RowKit.Below.refl _ _⟩)
theorem strings_Repeat (l : List UInt8) (n : Nat) (h : n ≤ 9223372036854775807) (h2 : l.length * n ≤ 140737488355328) : Does Tryd.prog G 33 [str l, i64 n] [] (One (str (Lib.repeatL l n))) :=
  Does.one (Does.of_below fun w hw => by
    have := Tryd.strings_Repeat ⟨l.toArray⟩ n w h (by rw [size_str]; exact h2)
    simpa [str] using this)
theorem strings_Trim (l : List UInt8) (x : UInt8) (hx : x.toNat < 128) (h : l.length ≤ 9223372036854775807) : Does Tryd.prog G 51 [str l, str [x]] [] (One (str (Lib.trimB l x))) :=
  Does.one (Does.of_below fun w hw => by
    have := Tryd.strings_Trim_one ⟨l.toArray⟩ x hx w (by rw [size_str]; exact h)
    refine this.mono ?_
    rintro e w' ⟨he, hb⟩
    exact ⟨by simpa [str] using he, below_of_drew hb⟩)
theorem strings_Join (b c : Nat) (E : TypeId) (fr : Nat × Nat) (xs : List (List UInt8)) (sep : List UInt8) (hN : xs.length ≤ 140737488355328) (hcap : xs.length ≤ c) (hlen : (Lib.join xs sep).length ≤ 140737488355328) :
    Does Tryd.prog G 76 [slc b 0 xs.length c, str sep] [row b (xs.map str) E fr] (OneR (str (Lib.join xs sep)) [row b (xs.map str) E fr]) :=
  Does.of_below fun w hw => by
    have hb : w.heap[b]? = some (.cells (xs.map str).toArray E fr) := hw.holds _ (List.mem_cons_self ..)
    have e1 : ((xs.map fun x : List UInt8 => (⟨x.toArray⟩ : ByteArray)).map (·.data.toList)) = xs := by
      rw [List.map_map]
      exact List.map_id'' (fun x => rfl) xs
    have := Tryd.strings_Join b 0 c (xs.map fun x => ⟨x.toArray⟩) ⟨sep.toArray⟩ w (fun j x hx => by
      rw [Nat.zero_add]
      simp only [World.cell?, hb]
      rw [List.getElem?_map] at hx
      simp only [List.getElem?_toArray, List.getElem?_map]
      cases hj : xs[j]? with
      | none => rw [hj] at hx; cases hx
      | some y => rw [hj] at hx; cases hx; rfl) (Array.getElem?_eq_some_iff.1 hb).1 (by simpa using hN) (by simpa using hcap) (by rw [e1]; exact hlen)
    rw [e1] at this
    simpa [str] using this
end Go.Proofs.YteckdahgkkmlaaaDoor
end

section
set_option maxRecDepth 20000
set_option linter.unusedVariables false
set_option linter.unusedSimpArgs false
namespace Go.Proofs.YteckdahgkkmlaaaDoor
open Go SL
variable {G : List (Nat × Obj)}
theorem copyCheck_new (b : Nat) (s : Value) : Does Tryd.prog G 71 [ptr b 0] [row b [.pointer none, s] 108 (0, 0)] (OneR (.tuple #[]) [row b [ptr b 0, s] 108 (0, 0)]) := by
  refine Does.of Tryd.func71 rfl Tryd.ntmps71 rfl (fun w0 => ?_)
  refine At.keep [(0, _)] (.cons rfl .nil) ?_
  refine At.seq ?_
  refine At.region ?_
  refine At.op rfl (op_move rfl rfl ?_)
  refine At.op rfl (op_nilCheck rfl rfl ?_)
  refine At.op rfl (op_fieldAddr (o' := 0) rfl Tryd.underlying108 rfl Tryd.sizeOf106 rfl rfl ?_)
  refine At.op rfl (op_load rfl Tryd.isAgg106 (by first | with_reducible exact Pull.p0 | with_reducible exact Pull.p1 | with_reducible exact Pull.p2 | with_reducible exact Pull.p3 | with_reducible exact Pull.p4 | with_reducible exact Pull.p5 | with_reducible exact Pull.p6 | with_reducible exact Pull.p7 | with_reducible exact Pull.p8 | with_reducible exact Pull.p9) rfl rfl ?_)
  refine At.op rfl (op_bin rfl rfl (b_pnil Tryd.underlying106) rfl ?_)
  refine At.nil ?_
  refine At.then_n ?_
  refine At.cond_t rfl ?_
  refine At.region ?_
  refine At.op rfl (op_move rfl rfl ?_)
  refine At.op rfl (op_move rfl rfl ?_)
  refine At.op rfl (op_toUnsafe rfl Tryd.underlying106 Tryd.underlying150 (j := Tryd.t108) (by kernel_rfl) (by decide) (by first | with_reducible exact Pull.p0 | with_reducible exact Pull.p1 | with_reducible exact Pull.p2 | with_reducible exact Pull.p3 | with_reducible exact Pull.p4 | with_reducible exact Pull.p5 | with_reducible exact Pull.p6 | with_reducible exact Pull.p7 | with_reducible exact Pull.p8 | with_reducible exact Pull.p9) (by simp) rfl ?_)
  refine At.op rfl (op_ext rfl (fun w => by rw [run_callFunc_extern Tryd.func85 (by kernel_rfl) (by kernel_rfl) (by kernel_rfl) (e := Extern.AbiNoEscape.same) (by kernel_rfl)]; rfl) rfl ?_)
  refine At.op rfl (op_fromUnsafe rfl Tryd.underlying150 Tryd.underlying106 (j := Tryd.t108) (by kernel_rfl) (by first | with_reducible exact Pull.p0 | with_reducible exact Pull.p1 | with_reducible exact Pull.p2 | with_reducible exact Pull.p3 | with_reducible exact Pull.p4 | with_reducible exact Pull.p5 | with_reducible exact Pull.p6 | with_reducible exact Pull.p7 | with_reducible exact Pull.p8 | with_reducible exact Pull.p9) (by kernel_rfl) rfl ?_)
  refine At.op rfl (op_nilCheck rfl rfl ?_)
  refine At.op rfl (op_fieldAddr (o' := 0) rfl Tryd.underlying108 rfl Tryd.sizeOf106 rfl rfl ?_)
  refine At.op rfl (op_store rfl rfl Tryd.sizeOf106 rfl rfl (by first | with_reducible exact Pull.p0 | with_reducible exact Pull.p1 | with_reducible exact Pull.p2 | with_reducible exact Pull.p3 | with_reducible exact Pull.p4 | with_reducible exact Pull.p5 | with_reducible exact Pull.p6 | with_reducible exact Pull.p7 | with_reducible exact Pull.p8 | with_reducible exact Pull.p9) .zero rfl ?_)
  refine At.nil ?_
  exact At.fin0 _ (.inr rfl) rfl rfl ⟨rfl, rfl⟩ (.cons (by first | with_reducible exact Pull.p0 | with_reducible exact Pull.p1 | with_reducible exact Pull.p2 | with_reducible exact Pull.p3 | with_reducible exact Pull.p4 | with_reducible exact Pull.p5 | with_reducible exact Pull.p6 | with_reducible exact Pull.p7 | with_reducible exact Pull.p8 | with_reducible exact Pull.p9) .nil)
theorem copyCheck_old (b : Nat) (s : Value) : Does Tryd.prog G 71 [ptr b 0] [row b [ptr b 0, s] 108 (0, 0)] (OneR (.tuple #[]) [row b [ptr b 0, s] 108 (0, 0)]) := by
  refine Does.of Tryd.func71 rfl Tryd.ntmps71 rfl (fun w0 => ?_)
  refine At.keep [(0, _)] (.cons rfl .nil) ?_
  refine At.seq ?_
  refine At.region ?_
  refine At.op rfl (op_move rfl rfl ?_)
  refine At.op rfl (op_nilCheck rfl rfl ?_)
  refine At.op rfl (op_fieldAddr (o' := 0) rfl Tryd.underlying108 rfl Tryd.sizeOf106 rfl rfl ?_)
  refine At.op rfl (op_load rfl Tryd.isAgg106 (by first | with_reducible exact Pull.p0 | with_reducible exact Pull.p1 | with_reducible exact Pull.p2 | with_reducible exact Pull.p3 | with_reducible exact Pull.p4 | with_reducible exact Pull.p5 | with_reducible exact Pull.p6 | with_reducible exact Pull.p7 | with_reducible exact Pull.p8 | with_reducible exact Pull.p9) rfl rfl ?_)
  refine At.op rfl (op_bin rfl rfl (b_pnil Tryd.underlying106) rfl ?_)
  refine At.nil ?_
  refine At.then_n ?_
  refine At.cond_f rfl ?_
  refine At.seq ?_
  refine At.region ?_
  refine At.op rfl (op_move rfl rfl ?_)
  refine At.op rfl (op_nilCheck rfl rfl ?_)
  refine At.op rfl (op_fieldAddr (o' := 0) rfl Tryd.underlying108 rfl Tryd.sizeOf106 rfl rfl ?_)
  refine At.op rfl (op_load rfl Tryd.isAgg106 (by first | with_reducible exact Pull.p0 | with_reducible exact Pull.p1 | with_reducible exact Pull.p2 | with_reducible exact Pull.p3 | with_reducible exact Pull.p4 | with_reducible exact Pull.p5 | with_reducible exact Pull.p6 | with_reducible exact Pull.p7 | with_reducible exact Pull.p8 | with_reducible exact Pull.p9) rfl rfl ?_)
  refine At.op rfl (op_move rfl rfl ?_)
  refine At.op rfl (op_bin rfl rfl (b_pneq_same (j := Tryd.t108) Tryd.underlying106 (by kernel_rfl)) rfl ?_)
  refine At.nil ?_
  refine At.then_n ?_
  refine At.cond_f rfl ?_
  refine At.skip ?_
  exact At.fin0 _ (.inr rfl) rfl rfl ⟨rfl, rfl⟩ (.cons (by first | with_reducible exact Pull.p0 | with_reducible exact Pull.p1 | with_reducible exact Pull.p2 | with_reducible exact Pull.p3 | with_reducible exact Pull.p4 | with_reducible exact Pull.p5 | with_reducible exact Pull.p6 | with_reducible exact Pull.p7 | with_reducible exact Pull.p8 | with_reducible exact Pull.p9) .nil)
theorem copyCheck_any (b : Nat) (p s : Value) (hp : p = .pointer none ∨ p = ptr b 0) : Does Tryd.prog G 71 [ptr b 0] [row b [p, s] 108 (0, 0)] (OneR (.tuple #[]) [row b [ptr b 0, s] 108 (0, 0)]) := by
  rcases hp with rfl | rfl
  · exact copyCheck_new b s
  · exact copyCheck_old b s
theorem WriteByte_any (b n cap : Nat) (ad : Option Addr) (p : Value) (xs : List Value) (x : UInt8) (hp : p = .pointer none ∨ p = ptr b 0) (hl : xs.length = n) (hn : n < 100000000) : Does Tryd.prog G 53 [ptr b 0, u8 x] [row b [p, .slice ad n cap] 108 (0, 0), ownS ad cap xs 5 1] (fun v rs' => ∃ ad' cap', v = .nilIface ∧ rs' = [row b [ptr b 0, .slice ad' (n + 1) cap'] 108 (0, 0), ownS ad' cap' (xs ++ [u8 x]) 5 1]) := by
  refine Does.of Tryd.func53 rfl Tryd.ntmps53 rfl (fun w0 => ?_)
  refine At.keep [(0, _), (1, _)] (.cons rfl (.cons rfl .nil)) ?_
  refine At.seq ?_
  refine At.region ?_
  refine At.op rfl (op_assign rfl rfl ?_)
  refine At.nil ?_
  refine At.then_n ?_
  refine At.seq ?_
  refine At.region ?_
  refine At.op rfl (op_move rfl rfl ?_)
  refine At.op rfl (op_callR rfl Tryd.call71 (copyCheck_any b p _ hp) (.cons (by first | with_reducible exact Pull.p0 | with_reducible exact Pull.p1 | with_reducible exact Pull.p2 | with_reducible exact Pull.p3 | with_reducible exact Pull.p4 | with_reducible exact Pull.p5 | with_reducible exact Pull.p6 | with_reducible exact Pull.p7 | with_reducible exact Pull.p8 | with_reducible exact Pull.p9) .nil) rfl ?_)
  refine At.app1 ?_
  refine At.nil ?_
  refine At.then_n ?_
  refine At.seq ?_
  refine At.region ?_
  refine At.op rfl (op_move rfl rfl ?_)
  refine At.op rfl (op_move rfl rfl ?_)
  refine At.op rfl (op_nilCheck rfl rfl ?_)
  refine At.op rfl (op_fieldAddr (o' := 1) rfl Tryd.underlying108 rfl Tryd.sizeOf88 rfl rfl ?_)
  refine At.op rfl (op_load rfl Tryd.isAgg88 (by first | with_reducible exact Pull.p0 | with_reducible exact Pull.p1 | with_reducible exact Pull.p2 | with_reducible exact Pull.p3 | with_reducible exact Pull.p4 | with_reducible exact Pull.p5 | with_reducible exact Pull.p6 | with_reducible exact Pull.p7 | with_reducible exact Pull.p8 | with_reducible exact Pull.p9) rfl rfl ?_)
  refine At.op rfl (op_move rfl rfl ?_)
  refine At.op rfl (op_buildSlice1 [_] rfl rfl Tryd.underlying88 et5 rfl (by decide) (List.forall_mem_cons.2 ⟨rfl, (fun _ h => by cases h)⟩) rfl ?_)
  intro b1
  refine At.op rfl (op_append rfl rfl Tryd.underlying88 et5 (by first | with_reducible exact Pull.p0 | with_reducible exact Pull.p1 | with_reducible exact Pull.p2 | with_reducible exact Pull.p3 | with_reducible exact Pull.p4 | with_reducible exact Pull.p5 | with_reducible exact Pull.p6 | with_reducible exact Pull.p7 | with_reducible exact Pull.p8 | with_reducible exact Pull.p9) (by first | with_reducible exact Pull.p0 | with_reducible exact Pull.p1 | with_reducible exact Pull.p2 | with_reducible exact Pull.p3 | with_reducible exact Pull.p4 | with_reducible exact Pull.p5 | with_reducible exact Pull.p6 | with_reducible exact Pull.p7 | with_reducible exact Pull.p8 | with_reducible exact Pull.p9) (by simp [hl]) rfl (by decide) (List.forall_mem_cons.2 ⟨rfl, (fun _ h => by cases h)⟩) (by omega) (by omega) rfl ?_)
  intro ad cad had
  refine At.op rfl (op_nilCheck rfl rfl ?_)
  refine At.op rfl (op_fieldAddr (o' := 1) rfl Tryd.underlying108 rfl Tryd.sizeOf88 rfl rfl ?_)
  refine At.op rfl (op_store rfl rfl Tryd.sizeOf88 rfl rfl (by first | with_reducible exact Pull.p0 | with_reducible exact Pull.p1 | with_reducible exact Pull.p2 | with_reducible exact Pull.p3 | with_reducible exact Pull.p4 | with_reducible exact Pull.p5 | with_reducible exact Pull.p6 | with_reducible exact Pull.p7 | with_reducible exact Pull.p8 | with_reducible exact Pull.p9) (.succ .zero) rfl ?_)
  refine At.nil ?_
  refine At.then_n ?_
  refine At.seq ?_
  refine At.keep [(4, _)] (.cons rfl .nil) ?_
  refine At.region ?_
  refine At.op rfl (op_assign rfl rfl ?_)
  refine At.nil ?_
  refine At.then_n ?_
  refine At.ret ?_
  exact At.fin1 rfl rfl rfl ⟨_, _, rfl, rfl⟩ (.cons (by first | with_reducible exact Pull.p0 | with_reducible exact Pull.p1 | with_reducible exact Pull.p2 | with_reducible exact Pull.p3 | with_reducible exact Pull.p4 | with_reducible exact Pull.p5 | with_reducible exact Pull.p6 | with_reducible exact Pull.p7 | with_reducible exact Pull.p8 | with_reducible exact Pull.p9) (.cons (by first | with_reducible exact Pull.p0 | with_reducible exact Pull.p1 | with_reducible exact Pull.p2 | with_reducible exact Pull.p3 | with_reducible exact Pull.p4 | with_reducible exact Pull.p5 | with_reducible exact Pull.p6 | with_reducible exact Pull.p7 | with_reducible exact Pull.p8 | with_reducible exact Pull.p9) .nil))
theorem String_any (b cap : Nat) (ad : Option Addr) (p : Value) (l : List UInt8) (h0 : l ≠ []) : Does Tryd.prog G 54 [ptr b 0] [row b [p, .slice ad l.length cap] 108 (0, 0), ownS ad cap (l.map u8) 5 1] (One (str l)) := by
  refine Does.of Tryd.func54 rfl Tryd.ntmps54 rfl (fun w0 => ?_)
  refine At.keep [(0, _)] (.cons rfl .nil) ?_
  refine At.own_some (by first | with_reducible exact Pull.p0 | with_reducible exact Pull.p1 | with_reducible exact Pull.p2 | with_reducible exact Pull.p3 | with_reducible exact Pull.p4 | with_reducible exact Pull.p5 | with_reducible exact Pull.p6 | with_reducible exact Pull.p7 | with_reducible exact Pull.p8 | with_reducible exact Pull.p9) (by simpa using h0) (fun g hg => ?_)
  subst hg
  refine At.own_cap (by first | with_reducible exact Pull.p0 | with_reducible exact Pull.p1 | with_reducible exact Pull.p2 | with_reducible exact Pull.p3 | with_reducible exact Pull.p4 | with_reducible exact Pull.p5 | with_reducible exact Pull.p6 | with_reducible exact Pull.p7 | with_reducible exact Pull.p8 | with_reducible exact Pull.p9) (by simpa using h0) (fun hcap => ?_)
  refine At.own_rd (by first | with_reducible exact Pull.p0 | with_reducible exact Pull.p1 | with_reducible exact Pull.p2 | with_reducible exact Pull.p3 | with_reducible exact Pull.p4 | with_reducible exact Pull.p5 | with_reducible exact Pull.p6 | with_reducible exact Pull.p7 | with_reducible exact Pull.p8 | with_reducible exact Pull.p9) ?_
  refine At.seq ?_
  refine At.region ?_
  refine At.op rfl (op_assign rfl rfl ?_)
  refine At.nil ?_
  refine At.then_n ?_
  refine At.seq ?_
  refine At.drawC [_, _, _, _, _, _, _, _, _, _, _, _] (by kernel_rfl) (by decide) (by kernel_rfl) 
    (Steps'.cons (Step.op rfl (fun D h1 h2 h3 K hK => op_move (mD_base rfl rfl) rfl hK))
    (Steps'.cons (Step.op rfl (fun D h1 h2 h3 K hK => op_nilCheck (mD_done 0 (by decide) (pre_at h2 0 rfl rfl) rfl rfl rfl) rfl hK))
    (Steps'.cons (Step.op rfl (fun D h1 h2 h3 K hK => op_fieldAddr (o' := 1) (mD_done 1 (by decide) (pre_at h2 0 rfl rfl) rfl rfl rfl) Tryd.underlying108 rfl Tryd.sizeOf88 rfl rfl hK))
    (Steps'.cons (Step.op rfl (fun D h1 h2 h3 K hK => op_load (mD_done 2 (by decide) (pre_at h2 0 rfl rfl) rfl rfl rfl) Tryd.isAgg88 (by first | with_reducible exact Pull.p0 | with_reducible exact Pull.p1 | with_reducible exact Pull.p2 | with_reducible exact Pull.p3 | with_reducible exact Pull.p4 | with_reducible exact Pull.p5 | with_reducible exact Pull.p6 | with_reducible exact Pull.p7 | with_reducible exact Pull.p8 | with_reducible exact Pull.p9) rfl rfl hK))
    (Steps'.cons (Step.op rfl (fun D h1 h2 h3 K hK => op_sliceData (mD_done 3 (by decide) (pre_at h2 0 rfl rfl) rfl rfl rfl) hcap rfl hK))
    (Steps'.cons (Step.op rfl (fun D h1 h2 h3 K hK => op_move (mD_base rfl rfl) rfl hK))
    (Steps'.cons (Step.op rfl (fun D h1 h2 h3 K hK => op_nilCheck (mD_done 5 (by decide) (pre_at h2 0 rfl rfl) rfl rfl rfl) rfl hK))
    (Steps'.cons (Step.op rfl (fun D h1 h2 h3 K hK => op_fieldAddr (o' := 1) (mD_done 6 (by decide) (pre_at h2 0 rfl rfl) rfl rfl rfl) Tryd.underlying108 rfl Tryd.sizeOf88 rfl rfl hK))
    (Steps'.cons (Step.op rfl (fun D h1 h2 h3 K hK => op_load (mD_done 7 (by decide) (pre_at h2 0 rfl rfl) rfl rfl rfl) Tryd.isAgg88 (by first | with_reducible exact Pull.p0 | with_reducible exact Pull.p1 | with_reducible exact Pull.p2 | with_reducible exact Pull.p3 | with_reducible exact Pull.p4 | with_reducible exact Pull.p5 | with_reducible exact Pull.p6 | with_reducible exact Pull.p7 | with_reducible exact Pull.p8 | with_reducible exact Pull.p9) rfl rfl hK))
    (Steps'.cons (Step.op rfl (fun D h1 h2 h3 K hK => op_len_slc (mD_done 8 (by decide) (pre_at h2 0 rfl rfl) rfl rfl rfl) Tryd.underlying88 rfl hK))
    (Steps'.cons (Step.op rfl (fun D h1 h2 h3 K hK => op_unsafeString (mD_done 4 (by decide) (pre_at h2 0 rfl rfl) rfl rfl rfl) (mD_done 9 (by decide) (pre_at h2 1 rfl rfl) rfl rfl rfl) Tryd.underlying134 (by kernel_rfl) (by first | with_reducible exact Pull.p0 | with_reducible exact Pull.p1 | with_reducible exact Pull.p2 | with_reducible exact Pull.p3 | with_reducible exact Pull.p4 | with_reducible exact Pull.p5 | with_reducible exact Pull.p6 | with_reducible exact Pull.p7 | with_reducible exact Pull.p8 | with_reducible exact Pull.p9) h0 rfl hK))
    (Steps'.cons (Step.op rfl (fun D h1 h2 h3 K hK => op_assign (mD_done 10 (by decide) (pre_at h2 0 rfl rfl) rfl rfl rfl) rfl hK))
    Steps'.nil)))))))))))) ?_
  refine At.keep [(2, _)] (.cons rfl .nil) ?_
  refine At.then_n ?_
  refine At.ret ?_
  exact At.fin1 rfl rfl rfl ⟨rfl, rfl⟩ .nil
end Go.Proofs.YteckdahgkkmlaaaDoor
end

section
set_option maxRecDepth 20000
set_option linter.unusedVariables false
set_option linter.unusedSimpArgs false
namespace Go.Proofs.YteckdahgkkmlaaaDoor
open Go SL
variable {G : List (Nat × Obj)}
theorem field_Number (n : UInt64) (w : Nat) (h1 : 1 ≤ w) (h8 : w ≤ 8) (hn : n.toNat < 2 ^ (8 * w)) : Does Tryd.prog G 31 [u64 n, i64 w] [] (One (.tuple #[str (leB n.toNat w), i64 0])) := by
  refine Does.of Tryd.func31 rfl Tryd.ntmps31 rfl (fun w0 => ?_)
  refine At.keep [(0, _), (1, _)] (.cons rfl (.cons rfl .nil)) ?_
  refine At.seq ?_
  refine At.region ?_
  refine At.op rfl (op_assign rfl rfl ?_)
  refine At.op rfl (op_assign rfl rfl ?_)
  refine At.nil ?_
  refine At.then_n ?_
  refine At.seq ?_
  refine At.seq ?_
  refine At.region ?_
  refine At.op rfl (op_move rfl rfl ?_)
  refine At.op rfl (op_bin rfl rfl b_lt rfl ?_)
  refine At.op rfl (op_move rfl rfl ?_)
  refine At.dsplit (i := 10) rfl (fun hg1 => ?_) (fun hg1 => ?_)
  ·
    exfalso; omega
  ·
    refine At.opg rfl rfl rfl (op_move rfl rfl ?_)
    refine At.opg rfl rfl rfl (op_bin rfl rfl b_gt rfl ?_)
    refine At.op rfl (op_pick_f rfl rfl rfl ?_)
    refine At.op rfl (op_move rfl rfl ?_)
    refine At.dsplit (i := 14) rfl (fun hg1 => ?_) (fun hg1 => ?_)
    ·
      exfalso; omega
    ·
      refine At.opg rfl rfl rfl (op_move rfl rfl ?_)
      refine At.opg rfl rfl rfl (op_call1 rfl Tryd.call52 (bits_Len64 n) rfl ?_)
      refine At.opg rfl rfl rfl (op_move rfl rfl ?_)
      refine At.opg rfl rfl rfl (op_bin rfl rfl (b_mul (by omega) (by omega)) rfl ?_)
      refine At.opg rfl rfl rfl (op_bin rfl rfl b_gt rfl ?_)
      refine At.op rfl (op_pick_f rfl rfl rfl ?_)
      refine At.nil ?_
      refine At.then_n ?_
      refine At.cond_p rfl (fun hc0 => ?_) (fun hc0 => ?_)
      ·
        have := bitLen_le (k := 8 * w) hn; exfalso; omega
      ·
        refine At.skip ?_
        refine At.then_n ?_
        refine At.seq ?_
        refine At.keep [(0, _), (1, _), (4, _), (5, _)] (.cons rfl (.cons rfl (.cons rfl (.cons rfl .nil)))) ?_
        refine At.region ?_
        refine At.op rfl (op_alloc Tryd.zeroValue108 rfl rfl ?_)
        intro b
        refine At.own0 5 1 ?_
        refine At.nil ?_
        refine At.then_n ?_
        refine At.seq ?_
        refine At.seq ?_
        refine At.region ?_
        refine At.op rfl (op_move rfl rfl ?_)
        refine At.op rfl (op_move rfl rfl ?_)
        refine At.nil ?_
        refine At.then_n ?_
        refine At.block ?_
        refine At.cut (rs' := (fun s => [row b [s.2.2.2, .slice s.2.1 (leB n.toNat s.1).length s.2.2.1] 108 (0, 0), ownS s.2.1 s.2.2.1 ((leB n.toNat s.1).map u8) 5 1]) ((0, none, 0, .pointer none) : Nat × Option Addr × Nat × Value)) (.cons (by first | exact Pull.p0 | exact Pull.p1 | exact Pull.p2 | exact Pull.p3 | exact Pull.p4 | exact Pull.p5 | exact Pull.p6 | exact Pull.p7 | exact Pull.p8 | exact Pull.p9) (.cons (by first | exact Pull.p0 | exact Pull.p1 | exact Pull.p2 | exact Pull.p3 | exact Pull.p4 | exact Pull.p5 | exact Pull.p6 | exact Pull.p7 | exact Pull.p8 | exact Pull.p9) .nil)) ?_
        refine At.keep ((fun s => [(0, u64 n), (1, i64 w), (6, ptr b 0), (21, i64 w), (22, i64 s.1)]) ((0, none, 0, .pointer none) : Nat × Option Addr × Nat × Value)) (.cons rfl (.cons rfl (.cons rfl (.cons rfl (.cons rfl .nil))))) ?_
        refine At.loop (σ := Nat × Option Addr × Nat × Value) (fun s => s.1 ≤ w ∧ (s.2.2.2 = .pointer none ∨ s.2.2.2 = ptr b 0)) (fun s => [(0, u64 n), (1, i64 w), (6, ptr b 0), (21, i64 w), (22, i64 s.1)]) (fun s => [row b [s.2.2.2, .slice s.2.1 (leB n.toNat s.1).length s.2.2.1] 108 (0, 0), ownS s.2.1 s.2.2.1 ((leB n.toNat s.1).map u8) 5 1]) (fun s => w - s.1) ((0, none, 0, .pointer none) : Nat × Option Addr × Nat × Value) ⟨Nat.zero_le _, .inl rfl⟩ ?_
        rintro ⟨k, ad, cap, p⟩ ⟨hk, hp⟩
        dsimp only at hk hp ⊢
        refine At.seq ?_
        refine At.region ?_
        refine At.op rfl (op_bin rfl rfl b_lt rfl ?_)
        refine At.nil ?_
        refine At.then_n ?_
        refine At.seq ?_
        refine At.cond_p rfl (fun hc1 => ?_) (fun hc1 => ?_)
        ·
          refine At.skip ?_
          refine At.then_n ?_
          refine At.seq ?_
          refine At.block ?_
          refine At.seq ?_
          refine At.region ?_
          refine At.op rfl (op_move rfl rfl ?_)
          refine At.op rfl (op_assign rfl rfl ?_)
          refine At.nil ?_
          refine At.then_n ?_
          refine At.region ?_
          refine At.op rfl (op_move rfl rfl ?_)
          refine At.op rfl (op_move rfl rfl ?_)
          refine At.op rfl (op_bin rfl rfl (Bin.cast (v' := i64 ((8 * k : Nat) : Int)) (b_mul (by omega) (by omega)) (by simp [i64])) rfl ?_)
          refine At.op rfl (op_bin rfl rfl (b64_shr n _ (8 * k) (by omega)) rfl ?_)
          refine At.op rfl (op_conv rfl (cv_u64_u8 Tryd.underlying61 Tryd.underlying5 _) rfl ?_)
          refine At.op rfl (op_callF rfl Tryd.call53 (WriteByte_any b (leB n.toNat k).length cap ad p ((leB n.toNat k).map u8) _ hp (by simp) (by rw [leB_length]; omega)) (.cons (by first | with_reducible exact Pull.p0 | with_reducible exact Pull.p1 | with_reducible exact Pull.p2 | with_reducible exact Pull.p3 | with_reducible exact Pull.p4 | with_reducible exact Pull.p5 | with_reducible exact Pull.p6 | with_reducible exact Pull.p7 | with_reducible exact Pull.p8 | with_reducible exact Pull.p9) (.cons (by first | with_reducible exact Pull.p0 | with_reducible exact Pull.p1 | with_reducible exact Pull.p2 | with_reducible exact Pull.p3 | with_reducible exact Pull.p4 | with_reducible exact Pull.p5 | with_reducible exact Pull.p6 | with_reducible exact Pull.p7 | with_reducible exact Pull.p8 | with_reducible exact Pull.p9) .nil)) rfl ?_)
          rintro v _ ⟨ad2, cap2, rfl, rfl⟩
          refine At.app2 ?_
          refine At.nil ?_
          refine At.blk_n ?_
          refine At.then_n ?_
          refine At.region ?_
          refine At.op rfl (op_bin rfl rfl (b_add (by omega) (by omega)) rfl ?_)
          refine At.op rfl (op_move rfl rfl ?_)
          refine At.nil ?_
          refine At.then_n ?_
          rw [show (leB n.toNat k).map u8 ++ [u8 (n >>> UInt64.ofNat (8 * k)).toUInt8] = (leB n.toNat (k + 1)).map u8 by rw [leB_snoc, shr_byte n k (by omega), List.map_append]; rfl, show (leB n.toNat k).length + 1 = (leB n.toNat (k + 1)).length by simp [leB_length]]
          exact At.back (k + 1, ad2, cap2, ptr b 0) ⟨by dsimp only; omega, .inr rfl⟩ (by dsimp only; omega) (.cons rfl (.cons rfl (.cons rfl (.cons rfl (.cons rfl .nil))))) (.cons (by first | with_reducible exact Pull.p0 | with_reducible exact Pull.p1 | with_reducible exact Pull.p2 | with_reducible exact Pull.p3 | with_reducible exact Pull.p4 | with_reducible exact Pull.p5 | with_reducible exact Pull.p6 | with_reducible exact Pull.p7 | with_reducible exact Pull.p8 | with_reducible exact Pull.p9) (.cons (by first | with_reducible exact Pull.p0 | with_reducible exact Pull.p1 | with_reducible exact Pull.p2 | with_reducible exact Pull.p3 | with_reducible exact Pull.p4 | with_reducible exact Pull.p5 | with_reducible exact Pull.p6 | with_reducible exact Pull.p7 | with_reducible exact Pull.p8 | with_reducible exact Pull.p9) .nil))
        ·
          refine At.exit ?_
          refine At.then_e ?_
          refine At.then_e ?_
          refine At.blk_e ?_
          refine At.then_n ?_
          refine At.seq ?_
          refine At.region ?_
          refine At.op rfl (op_callF rfl Tryd.call54 (String_any b cap ad p (leB n.toNat k) (by intro e; have := congrArg List.length e; rw [leB_length] at this; simp at this; omega)) (.cons (by first | with_reducible exact Pull.p0 | with_reducible exact Pull.p1 | with_reducible exact Pull.p2 | with_reducible exact Pull.p3 | with_reducible exact Pull.p4 | with_reducible exact Pull.p5 | with_reducible exact Pull.p6 | with_reducible exact Pull.p7 | with_reducible exact Pull.p8 | with_reducible exact Pull.p9) (.cons (by first | with_reducible exact Pull.p0 | with_reducible exact Pull.p1 | with_reducible exact Pull.p2 | with_reducible exact Pull.p3 | with_reducible exact Pull.p4 | with_reducible exact Pull.p5 | with_reducible exact Pull.p6 | with_reducible exact Pull.p7 | with_reducible exact Pull.p8 | with_reducible exact Pull.p9) .nil)) rfl ?_)
          rintro v _ ⟨rfl, rfl⟩
          refine At.app0 ?_
          obtain rfl : k = w := by omega
          refine At.op rfl (op_assign rfl rfl ?_)
          refine At.op rfl (op_assign rfl rfl ?_)
          refine At.nil ?_
          refine At.then_n ?_
          refine At.ret ?_
          exact At.fin2 rfl rfl rfl rfl ⟨rfl, rfl⟩ .nil
theorem field_Text (s : List UInt8) (hs : s.length ≤ 1000) : Does Tryd.prog G 32 [str s] [] (One (.tuple #[str (leB s.length 2 ++ s), i64 0])) := by
  refine Does.of Tryd.func32 rfl Tryd.ntmps32 rfl (fun w0 => ?_)
  refine At.keep [(0, _)] (.cons rfl .nil) ?_
  refine At.seq ?_
  refine At.region ?_
  refine At.op rfl (op_assign rfl rfl ?_)
  refine At.op rfl (op_assign rfl rfl ?_)
  refine At.nil ?_
  refine At.then_n ?_
  refine At.seq ?_
  refine At.seq ?_
  refine At.region ?_
  refine At.op rfl (op_move rfl rfl ?_)
  refine At.op rfl (op_len_str rfl Tryd.underlying9 rfl ?_)
  refine At.op rfl (op_bin rfl rfl b_gt rfl ?_)
  refine At.nil ?_
  refine At.then_n ?_
  refine At.cond_p rfl (fun hc0 => ?_) (fun hc0 => ?_)
  ·
    exfalso; omega
  ·
    refine At.skip ?_
    refine At.then_n ?_
    refine At.seq ?_
    refine At.region ?_
    refine At.op rfl (op_move rfl rfl ?_)
    refine At.op rfl (op_len_str rfl Tryd.underlying9 rfl ?_)
    refine At.op rfl (op_conv rfl (cv_i64_u64 Tryd.underlying3 Tryd.underlying61 s.length) rfl ?_)
    refine At.op rfl (op_call1 rfl Tryd.call31 (field_Number (UInt64.ofNat s.length) 2 (by decide) (by decide) (by rw [UInt64.toNat_ofNat']; omega)) rfl ?_)
    refine At.op rfl (op_move rfl rfl ?_)
    refine At.op rfl (op_extractL rfl .zero rfl ?_)
    refine At.op rfl (op_extractL rfl (.succ .zero) rfl ?_)
    refine At.op rfl (op_assign rfl rfl ?_)
    refine At.op rfl (op_assign rfl rfl ?_)
    refine At.nil ?_
    refine At.then_n ?_
    refine At.seq ?_
    refine At.region ?_
    refine At.op rfl (op_move rfl rfl ?_)
    refine At.op rfl (op_move rfl rfl ?_)
    refine At.op rfl (op_bin rfl rfl (b_cat (by rw [leB_length]; omega)) rfl ?_)
    refine At.op rfl (op_assign rfl rfl ?_)
    refine At.op rfl (op_assign rfl rfl ?_)
    refine At.nil ?_
    refine At.then_n ?_
    refine At.ret ?_
    refine At.fin2 rfl rfl rfl rfl ⟨?_, rfl⟩ .nil
    rw [UInt64.toNat_ofNat', Nat.mod_eq_of_lt (by omega)]
theorem field_TakeNumber (s : List UInt8) (w : Nat) (h1 : 1 ≤ w) (h8 : w ≤ 8) (hs : s.length < 100000000) : Does Tryd.prog G 48 [str s, i64 w] [] (One (if s.length < w then .tuple #[u64 0, str [], i64 10] else .tuple #[u64 (UInt64.ofNat (leN (s.take w))), str (s.drop w), i64 0])) := by
  refine Does.of Tryd.func48 rfl Tryd.ntmps48 rfl (fun w0 => ?_)
  refine At.keep [(0, _), (1, _)] (.cons rfl (.cons rfl .nil)) ?_
  refine At.seq ?_
  refine At.region ?_
  refine At.op rfl (op_assign rfl rfl ?_)
  refine At.op rfl (op_assign rfl rfl ?_)
  refine At.op rfl (op_assign rfl rfl ?_)
  refine At.nil ?_
  refine At.then_n ?_
  refine At.seq ?_
  refine At.block ?_
  refine At.seq ?_
  refine At.region ?_
  refine At.op rfl (op_move rfl rfl ?_)
  refine At.op rfl (op_bin rfl rfl b_lt rfl ?_)
  refine At.op rfl (op_move rfl rfl ?_)
  refine At.dsplit (i := 13) rfl (fun hg1 => ?_) (fun hg1 => ?_)
  ·
    exfalso; omega
  ·
    refine At.opg rfl rfl rfl (op_move rfl rfl ?_)
    refine At.opg rfl rfl rfl (op_bin rfl rfl b_gt rfl ?_)
    refine At.op rfl (op_pick_f rfl rfl rfl ?_)
    refine At.op rfl (op_assign rfl rfl ?_)
    refine At.nil ?_
    refine At.then_n ?_
    refine At.cond_p rfl (fun hc0 => ?_) (fun hc0 => ?_)
    ·
      exfalso; omega
    ·
      refine At.seq ?_
      refine At.region ?_
      refine At.op rfl (op_move rfl rfl ?_)
      refine At.op rfl (op_len_str rfl Tryd.underlying9 rfl ?_)
      refine At.op rfl (op_move rfl rfl ?_)
      refine At.op rfl (op_bin rfl rfl b_lt rfl ?_)
      refine At.op rfl (op_assign rfl rfl ?_)
      refine At.nil ?_
      refine At.then_n ?_
      refine At.cond_p rfl (fun hc1 => ?_) (fun hc1 => ?_)
      ·
        refine At.seq ?_
        refine At.keep [(0, _), (1, _), (4, _), (5, _), (6, _)] (.cons rfl (.cons rfl (.cons rfl (.cons rfl (.cons rfl .nil))))) ?_
        refine At.region ?_
        refine At.op rfl (op_assign rfl rfl ?_)
        refine At.op rfl (op_assign rfl rfl ?_)
        refine At.op rfl (op_assign rfl rfl ?_)
        refine At.nil ?_
        refine At.then_n ?_
        refine At.ret ?_
        refine At.blk_r ?_
        refine At.then_r ?_
        refine At.fin3 rfl rfl rfl rfl rfl ⟨?_, rfl⟩ .nil
        rw [if_pos (by omega)]; rfl
      ·
        refine At.skip ?_
        refine At.blk_n ?_
        refine At.then_n ?_
        refine At.seq ?_
        refine At.keep [(0, _), (1, _), (4, _), (5, _), (6, _)] (.cons rfl (.cons rfl (.cons rfl (.cons rfl (.cons rfl .nil))))) ?_
        refine At.region ?_
        refine At.op rfl (op_assign rfl rfl ?_)
        refine At.nil ?_
        refine At.then_n ?_
        refine At.seq ?_
        refine At.seq ?_
        refine At.region ?_
        refine At.op rfl (op_move rfl rfl ?_)
        refine At.op rfl (op_move rfl rfl ?_)
        refine At.op rfl (op_sl_str_hi rfl rfl Tryd.underlying9 (by omega) (by omega) rfl ?_)
        rw [Int.toNat_natCast]
        have hl : (s.take w).length = w := by rw [List.length_take]; omega
        refine At.op rfl (op_bytes rfl Tryd.underlying9 Tryd.underlying88 Tryd.underlying5 rfl ?_)
        intro b cb hcb
        refine At.op rfl (op_len_slc rfl Tryd.underlying88 rfl ?_)
        refine At.op rfl (op_move rfl rfl ?_)
        refine At.nil ?_
        refine At.then_n ?_
        refine At.block ?_
        refine At.cut (rs' := (fun _ => [row b ((s.take w).map u8 ++ List.replicate (cb - (s.take w).length) (u8 0)) 5 (cb, cb + 1)]) (0 : Nat)) (.cons (by first | exact Pull.p0 | exact Pull.p1 | exact Pull.p2 | exact Pull.p3 | exact Pull.p4 | exact Pull.p5 | exact Pull.p6 | exact Pull.p7 | exact Pull.p8 | exact Pull.p9) .nil) ?_
        refine At.keep ((fun k => [(0, str s), (1, i64 w), (7, u64 (UInt64.ofNat (leN ((s.take w).take k)))), (25, slc b 0 (s.take w).length cb), (26, i64 (s.take w).length), (27, i64 k)]) (0 : Nat)) (.cons rfl (.cons rfl (.cons rfl (.cons rfl (.cons rfl (.cons rfl .nil)))))) ?_
        refine At.loop (σ := Nat) (fun k => k ≤ w) (fun k => [(0, str s), (1, i64 w), (7, u64 (UInt64.ofNat (leN ((s.take w).take k)))), (25, slc b 0 (s.take w).length cb), (26, i64 (s.take w).length), (27, i64 k)]) (fun _ => [row b ((s.take w).map u8 ++ List.replicate (cb - (s.take w).length) (u8 0)) 5 (cb, cb + 1)]) (fun k => w - k) (0 : Nat) (Nat.zero_le _) ?_
        rintro k hk
        refine At.seq ?_
        refine At.region ?_
        refine At.op rfl (op_bin rfl rfl b_lt rfl ?_)
        refine At.nil ?_
        refine At.then_n ?_
        refine At.seq ?_
        refine At.cond_p rfl (fun hlt => ?_) (fun hlt => ?_)
        ·
          obtain ⟨x, hx⟩ : ∃ x, (s.take w)[k]? = some x := ⟨_, List.getElem?_eq_getElem (by omega)⟩
          refine At.skip ?_
          refine At.then_n ?_
          refine At.seq ?_
          refine At.block ?_
          refine At.seq ?_
          refine At.region ?_
          refine At.op rfl (op_move rfl rfl ?_)
          refine At.op rfl (op_indexS rfl rfl Tryd.underlying88 Tryd.sizeOf5 (by omega) (by omega) rfl ?_)
          refine At.op rfl (op_load rfl Tryd.isAgg5 (by first | with_reducible exact Pull.p0 | with_reducible exact Pull.p1 | with_reducible exact Pull.p2 | with_reducible exact Pull.p3 | with_reducible exact Pull.p4 | with_reducible exact Pull.p5 | with_reducible exact Pull.p6 | with_reducible exact Pull.p7 | with_reducible exact Pull.p8 | with_reducible exact Pull.p9) (map_get _ hx) rfl ?_)
          refine At.op rfl (op_assign rfl rfl ?_)
          refine At.op rfl (op_assign rfl rfl ?_)
          refine At.nil ?_
          refine At.then_n ?_
          refine At.region ?_
          refine At.op rfl (op_move rfl rfl ?_)
          refine At.op rfl (op_move rfl rfl ?_)
          refine At.op rfl (op_conv rfl (cv_u8_u64 Tryd.underlying5 Tryd.underlying61 _) rfl ?_)
          refine At.op rfl (op_move rfl rfl ?_)
          refine At.op rfl (op_bin rfl rfl (Bin.cast (v' := i64 ((8 * k : Nat) : Int)) (b_mul (by omega) (by omega)) (by simp [i64])) rfl ?_)
          refine At.op rfl (op_bin rfl rfl (b64_shl x.toUInt64 _ (8 * k) (by omega)) rfl ?_)
          refine At.op rfl (op_bin rfl rfl (b64_or _ _) rfl ?_)
          refine At.op rfl (op_assign rfl rfl ?_)
          refine At.nil ?_
          refine At.blk_n ?_
          refine At.then_n ?_
          refine At.keep [(0, _), (1, _), (25, _), (26, _), (27, _), (7, _)] (.cons rfl (.cons rfl (.cons rfl (.cons rfl (.cons rfl (.cons rfl .nil)))))) ?_
          refine At.region ?_
          refine At.op rfl (op_bin rfl rfl (b_add (by omega) (by omega)) rfl ?_)
          refine At.op rfl (op_move rfl rfl ?_)
          refine At.nil ?_
          refine At.then_n ?_
          have e2 : ((s.take w).take k).length = k := by rw [List.length_take]; omega
          have e3 := or_byte ((s.take w).take k) x (by omega)
          rw [e2, ← take_snoc _ k x hx] at e3
          rw [e3]
          exact At.back (k + 1) (by omega) (by omega) (.cons rfl (.cons rfl (.cons rfl (.cons rfl (.cons rfl (.cons rfl .nil)))))) (.cons (by first | with_reducible exact Pull.p0 | with_reducible exact Pull.p1 | with_reducible exact Pull.p2 | with_reducible exact Pull.p3 | with_reducible exact Pull.p4 | with_reducible exact Pull.p5 | with_reducible exact Pull.p6 | with_reducible exact Pull.p7 | with_reducible exact Pull.p8 | with_reducible exact Pull.p9) .nil)
        ·
          have hk2 : (s.take w).take k = s.take w := List.take_of_length_le (by omega)
          refine At.exit ?_
          refine At.then_e ?_
          refine At.then_e ?_
          refine At.blk_e ?_
          refine At.then_n ?_
          refine At.seq ?_
          refine At.drawC [_, _, _, _, _, _, _] (by kernel_rfl) (by decide) (by kernel_rfl) 
            (Steps'.cons (Step.op rfl (fun D h1 h2 h3 K hK => op_move (mD_base rfl rfl) rfl hK))
            (Steps'.cons (Step.op rfl (fun D h1 h2 h3 K hK => op_move (mD_base rfl rfl) rfl hK))
            (Steps'.cons (Step.op rfl (fun D h1 h2 h3 K hK => op_move (mD_base rfl rfl) rfl hK))
            (Steps'.cons (Step.op rfl (fun D h1 h2 h3 K hK => op_sl_str_lo (mD_done 1 (by decide) (pre_at h2 0 rfl rfl) rfl rfl rfl) (mD_done 2 (by decide) (pre_at h2 1 rfl rfl) rfl rfl rfl) Tryd.underlying9 (by omega) (by omega) rfl hK))
            (Steps'.cons (Step.op rfl (fun D h1 h2 h3 K hK => op_assign (mD_done 0 (by decide) (pre_at h2 0 rfl rfl) rfl rfl rfl) rfl hK))
            (Steps'.cons (Step.op rfl (fun D h1 h2 h3 K hK => op_assign (mD_done 3 (by decide) (pre_at h2 0 rfl rfl) rfl rfl rfl) rfl hK))
            (Steps'.cons (Step.op rfl (fun D h1 h2 h3 K hK => op_assign rfl rfl hK))
            Steps'.nil))))))) ?_
          refine At.keep [(4, _), (5, _), (6, _)] (.cons rfl (.cons rfl (.cons rfl .nil))) ?_
          refine At.then_n ?_
          refine At.ret ?_
          refine At.fin3 rfl rfl rfl rfl rfl ⟨?_, rfl⟩ .nil
          rw [if_neg (by omega), hk2]; rfl
theorem field_TakeText_1 (n : Nat) (s : List UInt8) : Does Tryd.prog G 63 [i64 n, str s] [] (One (if 1000 < n then .tuple #[str [], str [], i64 11] else if s.length < n then .tuple #[str [], str [], i64 10] else .tuple #[str (s.take n), str (s.drop n), i64 0])) := by
  refine Does.of Tryd.func63 rfl Tryd.ntmps63 rfl (fun w0 => ?_)
  refine At.keep [(0, _), (1, _)] (.cons rfl (.cons rfl .nil)) ?_
  refine At.seq ?_
  refine At.region ?_
  refine At.op rfl (op_assign rfl rfl ?_)
  refine At.op rfl (op_assign rfl rfl ?_)
  refine At.op rfl (op_assign rfl rfl ?_)
  refine At.nil ?_
  refine At.then_n ?_
  refine At.seq ?_
  refine At.block ?_
  refine At.seq ?_
  refine At.region ?_
  refine At.op rfl (op_move rfl rfl ?_)
  refine At.op rfl (op_bin rfl rfl b_gt rfl ?_)
  refine At.op rfl (op_assign rfl rfl ?_)
  refine At.nil ?_
  refine At.then_n ?_
  refine At.cond_p rfl (fun hc0 => ?_) (fun hc0 => ?_)
  ·
    refine At.seq ?_
    refine At.region ?_
    refine At.op rfl (op_assign rfl rfl ?_)
    refine At.op rfl (op_assign rfl rfl ?_)
    refine At.op rfl (op_assign rfl rfl ?_)
    refine At.nil ?_
    refine At.then_n ?_
    refine At.ret ?_
    refine At.blk_r ?_
    refine At.then_r ?_
    refine At.fin3 rfl rfl rfl rfl rfl ⟨?_, rfl⟩ .nil
    rw [if_pos (by omega)]; rfl
  ·
    refine At.seq ?_
    refine At.region ?_
    refine At.op rfl (op_move rfl rfl ?_)
    refine At.op rfl (op_move rfl rfl ?_)
    refine At.op rfl (op_len_str rfl Tryd.underlying9 rfl ?_)
    refine At.op rfl (op_bin rfl rfl b_gt rfl ?_)
    refine At.op rfl (op_assign rfl rfl ?_)
    refine At.nil ?_
    refine At.then_n ?_
    refine At.cond_p rfl (fun hc1 => ?_) (fun hc1 => ?_)
    ·
      refine At.seq ?_
      refine At.region ?_
      refine At.op rfl (op_assign rfl rfl ?_)
      refine At.op rfl (op_assign rfl rfl ?_)
      refine At.op rfl (op_assign rfl rfl ?_)
      refine At.nil ?_
      refine At.then_n ?_
      refine At.ret ?_
      refine At.blk_r ?_
      refine At.then_r ?_
      refine At.fin3 rfl rfl rfl rfl rfl ⟨?_, rfl⟩ .nil
      rw [if_neg (by omega), if_pos (by omega)]; rfl
    ·
      refine At.skip ?_
      refine At.blk_n ?_
      refine At.then_n ?_
      refine At.seq ?_
      refine At.drawC [_, _, _, _, _, _, _, _, _] (by kernel_rfl) (by decide) (by kernel_rfl) 
        (Steps'.cons (Step.op rfl (fun D h1 h2 h3 K hK => op_move (mD_base rfl rfl) rfl hK))
        (Steps'.cons (Step.op rfl (fun D h1 h2 h3 K hK => op_move (mD_base rfl rfl) rfl hK))
        (Steps'.cons (Step.op rfl (fun D h1 h2 h3 K hK => op_sl_str_hi (mD_done 0 (by decide) (pre_at h2 0 rfl rfl) rfl rfl rfl) (mD_done 1 (by decide) (pre_at h2 1 rfl rfl) rfl rfl rfl) Tryd.underlying9 (by omega) (by omega) rfl hK))
        (Steps'.cons (Step.op rfl (fun D h1 h2 h3 K hK => op_move (mD_base rfl rfl) rfl hK))
        (Steps'.cons (Step.op rfl (fun D h1 h2 h3 K hK => op_move (mD_base rfl rfl) rfl hK))
        (Steps'.cons (Step.op rfl (fun D h1 h2 h3 K hK => op_sl_str_lo (mD_done 3 (by decide) (pre_at h2 0 rfl rfl) rfl rfl rfl) (mD_done 4 (by decide) (pre_at h2 1 rfl rfl) rfl rfl rfl) Tryd.underlying9 (by omega) (by omega) rfl hK))
        (Steps'.cons (Step.op rfl (fun D h1 h2 h3 K hK => op_assign (mD_done 2 (by decide) (pre_at h2 0 rfl rfl) rfl rfl rfl) rfl hK))
        (Steps'.cons (Step.op rfl (fun D h1 h2 h3 K hK => op_assign (mD_done 5 (by decide) (pre_at h2 0 rfl rfl) rfl rfl rfl) rfl hK))
        (Steps'.cons (Step.op rfl (fun D h1 h2 h3 K hK => op_assign rfl rfl hK))
        Steps'.nil))))))))) ?_
      refine At.keep [(4, _), (5, _), (6, _)] (.cons rfl (.cons rfl (.cons rfl .nil))) ?_
      refine At.then_n ?_
      refine At.ret ?_
      refine At.fin3 rfl rfl rfl rfl rfl ⟨?_, rfl⟩ .nil
      rw [if_neg (by omega), if_neg (by omega)]; rfl
def ttE (s : List UInt8) : Nat :=
  if s.length < 2 then 10 else if 1000 < leN (s.take 2) then 11 else if s.length - 2 < leN (s.take 2) then 10 else 0
def ttT (s : List UInt8) : List UInt8 := if ttE s = 0 then (s.drop 2).take (leN (s.take 2)) else []
def ttR (s : List UInt8) : List UInt8 := if ttE s = 0 then (s.drop 2).drop (leN (s.take 2)) else []
def ttV (s : List UInt8) : Value := .tuple #[str (ttT s), str (ttR s), i64 (ttE s)]
theorem ttV_short (s : List UInt8) (h : s.length < 2) : ttV s = .tuple #[str [], str [], i64 10] := by
  have e : ttE s = 10 := by simp [ttE, h]
  simp [ttV, ttT, ttR, e]
theorem ttV_long (s : List UInt8) (h : ¬ s.length < 2) : (if 1000 < leN (s.take 2) then Value.tuple #[str [], str [], i64 11] else if (s.drop 2).length < leN (s.take 2) then .tuple #[str [], str [], i64 10] else .tuple #[str ((s.drop 2).take (leN (s.take 2))), str ((s.drop 2).drop (leN (s.take 2))), i64 0]) = ttV s := by
  rw [List.length_drop]
  split
  · rename_i h3
    have e : ttE s = 11 := by simp [ttE, h, h3]
    simp [ttV, ttT, ttR, e]
  · rename_i h3
    split
    · rename_i h4
      have e : ttE s = 10 := by simp [ttE, h, h3, h4]
      simp [ttV, ttT, ttR, e]
    · rename_i h4
      have e : ttE s = 0 := by simp [ttE, h, h3, h4]
      simp [ttV, ttT, ttR, e]
theorem field_taken (s : List UInt8) (hs : s.length < 100000000) : Does Tryd.prog G 62 [str s, i64 2, .func (.func 63) #[] #[]] [] (One (ttV s)) := by
  refine Does.of Tryd.func62 rfl Tryd.ntmps62 rfl (fun w0 => ?_)
  refine At.keep [(0, _), (1, _), (2, _)] (.cons rfl (.cons rfl (.cons rfl .nil))) ?_
  refine At.seq ?_
  refine At.region ?_
  refine At.op rfl (op_assign rfl rfl ?_)
  refine At.op rfl (op_assign rfl rfl ?_)
  refine At.op rfl (op_assign rfl rfl ?_)
  refine At.nil ?_
  refine At.then_n ?_
  refine At.seq ?_
  refine At.region ?_
  refine At.op rfl (op_move rfl rfl ?_)
  refine At.op rfl (op_move rfl rfl ?_)
  refine At.op rfl (op_callF rfl Tryd.call48 (field_TakeNumber s 2 (by decide) (by decide) hs) .nil rfl ?_)
  rintro v _ ⟨hv, rfl⟩
  refine At.app0 ?_
  rcases Decidable.em (s.length < 2) with hlt | hlt
  ·
    rw [if_pos hlt] at hv
    subst hv
    refine At.op rfl (op_move rfl rfl ?_)
    refine At.op rfl (op_extractL rfl .zero rfl ?_)
    refine At.op rfl (op_extractL rfl (.succ .zero) rfl ?_)
    refine At.op rfl (op_extractL rfl (.succ (.succ .zero)) rfl ?_)
    refine At.op rfl (op_assign rfl rfl ?_)
    refine At.op rfl (op_assign rfl rfl ?_)
    refine At.op rfl (op_assign rfl rfl ?_)
    refine At.nil ?_
    refine At.then_n ?_
    refine At.seq ?_
    refine At.seq ?_
    refine At.region ?_
    refine At.op rfl (op_move rfl rfl ?_)
    refine At.op rfl (op_bin rfl rfl b_ne rfl ?_)
    refine At.nil ?_
    refine At.then_n ?_
    refine At.cond_np rfl (fun hc0 => ?_) (fun hc0 => ?_)
    ·
      refine At.seq ?_
      refine At.region ?_
      refine At.op rfl (op_move rfl rfl ?_)
      refine At.op rfl (op_move rfl rfl ?_)
      refine At.op rfl (op_assign rfl rfl ?_)
      refine At.op rfl (op_assign rfl rfl ?_)
      refine At.op rfl (op_assign rfl rfl ?_)
      refine At.nil ?_
      refine At.then_n ?_
      refine At.ret ?_
      refine At.then_r ?_
      refine At.fin3 rfl rfl rfl rfl rfl ⟨?_, rfl⟩ .nil
      rw [ttV_short s hlt]; rfl
    ·
      omega
  ·
    rw [if_neg hlt] at hv
    subst hv
    have hb : leN (s.take 2) < 65536 := by
      have := leN_lt (s.take 2)
      rw [show (s.take 2).length = 2 by rw [List.length_take]; omega] at this
      exact this
    have hb2 : (UInt64.ofNat (leN (s.take 2))).toNat = leN (s.take 2) := by rw [UInt64.toNat_ofNat']; omega
    refine At.op rfl (op_move rfl rfl ?_)
    refine At.op rfl (op_extractL rfl .zero rfl ?_)
    refine At.op rfl (op_extractL rfl (.succ .zero) rfl ?_)
    refine At.op rfl (op_extractL rfl (.succ (.succ .zero)) rfl ?_)
    refine At.op rfl (op_assign rfl rfl ?_)
    refine At.op rfl (op_assign rfl rfl ?_)
    refine At.op rfl (op_assign rfl rfl ?_)
    refine At.nil ?_
    refine At.then_n ?_
    refine At.seq ?_
    refine At.seq ?_
    refine At.region ?_
    refine At.op rfl (op_move rfl rfl ?_)
    refine At.op rfl (op_bin rfl rfl b_ne rfl ?_)
    refine At.nil ?_
    refine At.then_n ?_
    refine At.cond_np rfl (fun hc0 => ?_) (fun hc0 => ?_)
    ·
      omega
    ·
      refine At.skip ?_
      refine At.then_n ?_
      refine At.seq ?_
      refine At.region ?_
      refine At.op rfl (op_move rfl rfl ?_)
      refine At.op rfl (op_move rfl rfl ?_)
      refine At.op rfl (op_conv rfl (show ∀ w, (convert 61 3 (u64 (UInt64.ofNat (leN (s.take 2))))).run Tryd.prog w = .ok (i64 (leN (s.take 2))) w from fun w => by rw [cv_u64_i64 Tryd.underlying61 Tryd.underlying3 (UInt64.ofNat (leN (s.take 2))) (by rw [hb2]; omega) w, hb2]) rfl ?_)
      refine At.op rfl (op_move rfl rfl ?_)
      refine At.op rfl (op_callC (fs := []) (cap := []) rfl rfl Tryd.call63 rfl (field_TakeText_1 (leN (s.take 2)) (s.drop 2)) .nil rfl ?_)
      rintro v _ ⟨hv, rfl⟩
      refine At.app0 ?_
      rw [ttV_long s hlt] at hv
      subst hv
      refine At.op rfl (op_extractL rfl .zero rfl ?_)
      refine At.op rfl (op_extractL rfl (.succ .zero) rfl ?_)
      refine At.op rfl (op_extractL rfl (.succ (.succ .zero)) rfl ?_)
      refine At.op rfl (op_assign rfl rfl ?_)
      refine At.op rfl (op_assign rfl rfl ?_)
      refine At.op rfl (op_assign rfl rfl ?_)
      refine At.nil ?_
      refine At.then_n ?_
      refine At.ret ?_
      refine At.fin3 rfl rfl rfl rfl rfl ⟨?_, rfl⟩ .nil
      rfl
theorem field_TakeText (s : List UInt8) (hs : s.length < 100000000) : Does Tryd.prog G 49 [str s] [] (One (ttV s)) := by
  refine Does.of Tryd.func49 rfl Tryd.ntmps49 rfl (fun w0 => ?_)
  refine At.keep [(0, _)] (.cons rfl .nil) ?_
  refine At.seq ?_
  refine At.region ?_
  refine At.op rfl (op_assign rfl rfl ?_)
  refine At.op rfl (op_assign rfl rfl ?_)
  refine At.op rfl (op_assign rfl rfl ?_)
  refine At.nil ?_
  refine At.then_n ?_
  refine At.seq ?_
  refine At.region ?_
  refine At.op rfl (op_move rfl rfl ?_)
  refine At.op rfl (op_call1 rfl Tryd.call62 (field_taken s hs) rfl ?_)
  refine At.op rfl (op_extractL rfl .zero rfl ?_)
  refine At.op rfl (op_extractL rfl (.succ .zero) rfl ?_)
  refine At.op rfl (op_extractL rfl (.succ (.succ .zero)) rfl ?_)
  refine At.op rfl (op_assign rfl rfl ?_)
  refine At.op rfl (op_assign rfl rfl ?_)
  refine At.op rfl (op_assign rfl rfl ?_)
  refine At.nil ?_
  refine At.then_n ?_
  refine At.ret ?_
  exact At.fin3 rfl rfl rfl rfl rfl ⟨rfl, rfl⟩ .nil
end Go.Proofs.YteckdahgkkmlaaaDoor
end

section
set_option maxRecDepth 20000
set_option linter.unusedVariables false
set_option linter.unusedSimpArgs false
namespace Go.Proofs.YteckdahgkkmlaaaDoor
open Go SL
variable {G : List (Nat × Obj)}
theorem bits_RotateLeft32 (x : UInt32) (n : Nat) (h1 : 1 ≤ n) (h2 : n < 32) : Does Tryd.prog G 88 [u32 x, i64 (-(n : Int))] [] (One (u32 (rotr x n))) := by
  refine Does.of Tryd.func88 rfl Tryd.ntmps88 rfl (fun w0 => ?_)
  refine At.keep [(0, _), (1, _)] (.cons rfl (.cons rfl .nil)) ?_
  have hand : u64 (UInt64.ofNat (18446744073709551616 - n) &&& 31) = .int .u64 ((32 - n : Nat) : Int) := by
    show Value.int .u64 ((UInt64.ofNat (18446744073709551616 - n) &&& 31).toNat : Int) = _
    rw [UInt64.toNat_and, UInt64.toNat_ofNat', show (31 : UInt64).toNat = 2 ^ 5 - 1 from rfl, Nat.and_two_pow_sub_one_eq_mod]
    congr 2
    omega
  refine At.seq ?_
  refine At.region ?_
  refine At.op rfl (op_assign rfl rfl ?_)
  refine At.nil ?_
  refine At.then_n ?_
  refine At.seq ?_
  refine At.region ?_
  refine At.op rfl (op_move rfl rfl ?_)
  refine At.op rfl (op_conv rfl (show ∀ w, (convert 3 113 (i64 (-(n : Int)))).run Tryd.prog w = .ok (u64 (UInt64.ofNat (18446744073709551616 - n))) w from fun w => cv_int Tryd.underlying3 Tryd.underlying113 (by rw [wrap_u64, UInt64.toNat_ofNat']; omega) w) rfl ?_)
  refine At.op rfl (op_bin rfl rfl (Bin.cast (v' := .int .u64 ((32 - n : Nat) : Int)) (b64_and (UInt64.ofNat (18446744073709551616 - n)) 31) hand) rfl ?_)
  refine At.op rfl (op_assign rfl rfl ?_)
  refine At.nil ?_
  refine At.then_n ?_
  refine At.seq ?_
  refine At.region ?_
  refine At.op rfl (op_move rfl rfl ?_)
  refine At.op rfl (op_move rfl rfl ?_)
  refine At.op rfl (op_bin rfl rfl (b32_shl x _ (32 - n) (by omega)) rfl ?_)
  refine At.op rfl (op_move rfl rfl ?_)
  refine At.op rfl (op_move rfl rfl ?_)
  refine At.op rfl (op_bin rfl rfl (Bin.cast (v' := .int .u64 (n : Int)) (bk_sub (p := 32)) (congrArg (Value.int .u64) (by rw [wrap_u64]; omega))) rfl ?_)
  refine At.op rfl (op_bin rfl rfl (b32_shr x _ n (by omega)) rfl ?_)
  refine At.op rfl (op_bin rfl rfl (b32_or _ _) rfl ?_)
  refine At.op rfl (op_assign rfl rfl ?_)
  refine At.nil ?_
  refine At.then_n ?_
  refine At.ret ?_
  exact At.fin1 rfl rfl rfl ⟨rfl, rfl⟩ .nil
theorem sha_Step_1 (x : UInt32) (n : Nat) (h1 : 1 ≤ n) (h2 : n < 32) : Does Tryd.prog G 87 [u32 x, i64 n] [] (One (u32 (rotr x n))) := by
  refine Does.of Tryd.func87 rfl Tryd.ntmps87 rfl (fun w0 => ?_)
  refine At.keep [(0, _), (1, _)] (.cons rfl (.cons rfl .nil)) ?_
  refine At.seq ?_
  refine At.region ?_
  refine At.op rfl (op_assign rfl rfl ?_)
  refine At.nil ?_
  refine At.then_n ?_
  refine At.seq ?_
  refine At.region ?_
  refine At.op rfl (op_move rfl rfl ?_)
  refine At.op rfl (op_move rfl rfl ?_)
  refine At.op rfl (op_un rfl (un_neg (by omega) (by omega)) rfl ?_)
  refine At.op rfl (op_call1 rfl Tryd.call88 (bits_RotateLeft32 x n h1 h2) rfl ?_)
  refine At.op rfl (op_assign rfl rfl ?_)
  refine At.nil ?_
  refine At.then_n ?_
  refine At.ret ?_
  exact At.fin1 rfl rfl rfl ⟨rfl, rfl⟩ .nil
theorem sha_Fill (n : Nat) (hn : n < 1000000000) : Does Tryd.prog G 77 [i64 n] [] (One (str (fillS n))) := by
  refine Does.of Tryd.func77 rfl Tryd.ntmps77 rfl (fun w0 => ?_)
  refine At.keep [(0, _)] (.cons rfl .nil) ?_
  have hL : (1 + (63 - ((n : Int) + 8) % 64) + 8 : Int) = ((1 + (63 - (n + 8) % 64) + 8 : Nat) : Int) := by omega
  refine At.seq ?_
  refine At.region ?_
  refine At.op rfl (op_assign rfl rfl ?_)
  refine At.nil ?_
  refine At.then_n ?_
  refine At.seq ?_
  refine At.seq ?_
  refine At.region ?_
  refine At.op rfl (op_move rfl rfl ?_)
  refine At.op rfl (op_bin rfl rfl b_lt rfl ?_)
  refine At.nil ?_
  refine At.then_n ?_
  refine At.cond_p rfl (fun hc0 => ?_) (fun hc0 => ?_)
  ·
    exfalso; omega
  ·
    refine At.skip ?_
    refine At.then_n ?_
    refine At.seq ?_
    refine At.region ?_
    refine At.op rfl (op_move rfl rfl ?_)
    refine At.op rfl (op_bin rfl rfl (b_add (by omega) (by omega)) rfl ?_)
    refine At.op rfl (op_bin rfl rfl (b_rem (by omega) (by decide)) rfl ?_)
    refine At.op rfl (op_bin rfl rfl (b_sub (by omega) (by omega)) rfl ?_)
    refine At.op rfl (op_assign rfl rfl ?_)
    refine At.nil ?_
    refine At.then_n ?_
    refine At.seq ?_
    refine At.region ?_
    refine At.op rfl (op_move rfl rfl ?_)
    refine At.op rfl (op_bin rfl rfl (b_add (by omega) (by omega)) rfl ?_)
    refine At.op rfl (op_bin rfl rfl (b_add (by omega) (by omega)) rfl ?_)
    rw [hL]
    refine At.op rfl (op_make rfl Tryd.underlying88 et5 (by omega) (by omega) (by omega) rfl ?_)
    intro b
    rw [made_u8]
    refine At.op rfl (op_assign rfl rfl ?_)
    refine At.nil ?_
    refine At.then_n ?_
    refine At.seq ?_
    refine At.region ?_
    refine At.op rfl (op_move rfl rfl ?_)
    refine At.op rfl (op_indexS rfl rfl Tryd.underlying88 Tryd.sizeOf5 (by omega) (by omega) rfl ?_)
    refine At.op rfl (op_storeO rfl rfl Tryd.sizeOf5 rfl rfl (by first | with_reducible exact Pull.p0 | with_reducible exact Pull.p1 | with_reducible exact Pull.p2 | with_reducible exact Pull.p3 | with_reducible exact Pull.p4 | with_reducible exact Pull.p5 | with_reducible exact Pull.p6 | with_reducible exact Pull.p7 | with_reducible exact Pull.p8 | with_reducible exact Pull.p9) (bset (List.replicate (1 + (63 - (n + 8) % 64) + 8) 0) 0 _ 128 (by simp) (by simp)) ?_)
    rw [show (List.replicate (1 + (63 - (n + 8) % 64) + 8) (0 : UInt8)).set 0 128 = fillK n 0 by
      rw [show 1 + (63 - (n + 8) % 64) + 8 = (63 - (n + 8) % 64 + (8 - 0)) + 1 by omega, List.replicate_succ]
      simp [fillK, leB]]
    refine At.nil ?_
    refine At.then_n ?_
    refine At.seq ?_
    refine At.seq ?_
    refine At.keep [(0, _), (2, _), (4, _)] (.cons rfl (.cons rfl (.cons rfl .nil))) ?_
    refine At.region ?_
    refine At.op rfl (op_move rfl rfl ?_)
    refine At.nil ?_
    refine At.then_n ?_
    refine At.block ?_
    refine At.cut (rs' := (fun k => [ownS (some ⟨b, 0, none⟩) (1 + (63 - (n + 8) % 64) + 8) ((fillK n k).map u8) 5 1]) (0 : Nat)) (.cons (by first | exact Pull.p0 | exact Pull.p1 | exact Pull.p2 | exact Pull.p3 | exact Pull.p4 | exact Pull.p5 | exact Pull.p6 | exact Pull.p7 | exact Pull.p8 | exact Pull.p9) .nil) ?_
    refine At.keep ((fun k => [(0, i64 n), (4, slc b 0 (1 + (63 - (n + 8) % 64) + 8) (1 + (63 - (n + 8) % 64) + 8)), (18, i64 k)]) (0 : Nat)) (.cons rfl (.cons rfl (.cons rfl .nil))) ?_
    refine At.loop (σ := Nat) (fun k => k ≤ 8) (fun k => [(0, i64 n), (4, slc b 0 (1 + (63 - (n + 8) % 64) + 8) (1 + (63 - (n + 8) % 64) + 8)), (18, i64 k)]) (fun k => [ownS (some ⟨b, 0, none⟩) (1 + (63 - (n + 8) % 64) + 8) ((fillK n k).map u8) 5 1]) (fun k => 8 - k) (0 : Nat) (Nat.zero_le _) ?_
    rintro k hk
    refine At.seq ?_
    refine At.region ?_
    refine At.op rfl (op_bin rfl rfl b_lt rfl ?_)
    refine At.nil ?_
    refine At.then_n ?_
    refine At.seq ?_
    refine At.cond_p rfl (fun hlt => ?_) (fun hlt => ?_)
    ·
      refine At.skip ?_
      refine At.then_n ?_
      refine At.seq ?_
      refine At.block ?_
      refine At.seq ?_
      refine At.region ?_
      refine At.op rfl (op_move rfl rfl ?_)
      refine At.op rfl (op_assign rfl rfl ?_)
      refine At.nil ?_
      refine At.then_n ?_
      refine At.region ?_
      refine At.op rfl (op_move rfl rfl ?_)
      refine At.op rfl (op_move rfl rfl ?_)
      refine At.op rfl (op_len_slc rfl Tryd.underlying88 rfl ?_)
      refine At.op rfl (op_bin rfl rfl (b_sub (by omega) (by omega)) rfl ?_)
      refine At.op rfl (op_move rfl rfl ?_)
      refine At.op rfl (op_bin rfl rfl (b_sub (by omega) (by omega)) rfl ?_)
      refine At.op rfl (op_move rfl rfl ?_)
      refine At.op rfl (op_conv rfl (cv_i64_u64 Tryd.underlying3 Tryd.underlying61 n) rfl ?_)
      refine At.op rfl (op_bin rfl rfl (b64_shl _ _ 3 (by decide)) rfl ?_)
      refine At.op rfl (op_move rfl rfl ?_)
      refine At.op rfl (op_bin rfl rfl (Bin.cast (v' := i64 ((8 * k : Nat) : Int)) (b_mul (by omega) (by omega)) (by simp [i64])) rfl ?_)
      refine At.op rfl (op_bin rfl rfl (b64_shr _ _ (8 * k) (by omega)) rfl ?_)
      refine At.op rfl (op_conv rfl (cv_u64_u8 Tryd.underlying61 Tryd.underlying5 _) rfl ?_)
      refine At.op rfl (op_indexS rfl rfl Tryd.underlying88 Tryd.sizeOf5 (by omega) (by omega) rfl ?_)
      refine At.op rfl (op_storeO rfl rfl Tryd.sizeOf5 rfl rfl (by first | with_reducible exact Pull.p0 | with_reducible exact Pull.p1 | with_reducible exact Pull.p2 | with_reducible exact Pull.p3 | with_reducible exact Pull.p4 | with_reducible exact Pull.p5 | with_reducible exact Pull.p6 | with_reducible exact Pull.p7 | with_reducible exact Pull.p8 | with_reducible exact Pull.p9) (bset (fillK n k) (1 + (63 - (n + 8) % 64) + 8 - 1 - k) _ _ (by omega) (by rw [fillK_length n k (by omega)]; omega)) ?_)
      refine At.nil ?_
      refine At.blk_n ?_
      refine At.then_n ?_
      refine At.keep [(0, _), (4, _), (18, _)] (.cons rfl (.cons rfl (.cons rfl .nil))) ?_
      refine At.region ?_
      refine At.op rfl (op_bin rfl rfl (b_add (by omega) (by omega)) rfl ?_)
      refine At.op rfl (op_move rfl rfl ?_)
      refine At.nil ?_
      refine At.then_n ?_
      rw [fillK_step n k (by omega) _ (by
        rw [shr_byte _ k (by omega)]
        congr 2
        rw [UInt64.toNat_shiftLeft, UInt64.toNat_ofNat', UInt64.toNat_ofNat', Nat.shiftLeft_eq, show 2 ^ (3 % 2 ^ 64 % 64) = 8 from rfl]
        omega)]
      exact At.back (k + 1) (by omega) (by omega) (.cons rfl (.cons rfl (.cons rfl .nil))) (.cons (by first | with_reducible exact Pull.p0 | with_reducible exact Pull.p1 | with_reducible exact Pull.p2 | with_reducible exact Pull.p3 | with_reducible exact Pull.p4 | with_reducible exact Pull.p5 | with_reducible exact Pull.p6 | with_reducible exact Pull.p7 | with_reducible exact Pull.p8 | with_reducible exact Pull.p9) .nil)
    ·
      obtain rfl : k = 8 := by omega
      refine At.exit ?_
      refine At.then_e ?_
      refine At.then_e ?_
      refine At.blk_e ?_
      refine At.then_n ?_
      refine At.seq ?_
      refine At.region ?_
      refine At.op rfl (op_move rfl rfl ?_)
      refine At.op rfl (op_b2sO rfl Tryd.underlying88 Tryd.underlying9 Tryd.underlying5 (by first | with_reducible exact Pull.p0 | with_reducible exact Pull.p1 | with_reducible exact Pull.p2 | with_reducible exact Pull.p3 | with_reducible exact Pull.p4 | with_reducible exact Pull.p5 | with_reducible exact Pull.p6 | with_reducible exact Pull.p7 | with_reducible exact Pull.p8 | with_reducible exact Pull.p9) (fillK_length n 8 (by omega)) rfl ?_)
      refine At.op rfl (op_assign rfl rfl ?_)
      refine At.nil ?_
      refine At.then_n ?_
      refine At.ret ?_
      exact At.fin1 rfl rfl rfl ⟨rfl, rfl⟩ .nil
end Go.Proofs.YteckdahgkkmlaaaDoor
end

section
set_option maxRecDepth 20000
set_option linter.unusedVariables false
set_option linter.unusedSimpArgs false
namespace Go.Proofs.YteckdahgkkmlaaaDoor
open Go SL
variable {G : List (Nat × Obj)}
/-- the table of the sum's constants lies where it lay -/
def GOK (G : List (Nat × Obj)) : Prop := ∀ w : World, (∀ p ∈ G, w.heap[p.1]? = some p.2) → ∀ j v, (shaK.map u32)[j]? = some v → w.cell? ⟨0, j, none⟩ = some v
def addP (v h : V8) (k : Nat) : List UInt32 := (List.range 8).map fun i => if i < k then v.list.getD i 0 + h.list.getD i 0 else v.list.getD i 0
theorem addP_get (v h : V8) (k : Nat) (hk : k < 8) : (addP v h k).getD k 0 = v.list.getD k 0 := by
  obtain rfl | rfl | rfl | rfl | rfl | rfl | rfl | rfl : k = 0 ∨ k = 1 ∨ k = 2 ∨ k = 3 ∨ k = 4 ∨ k = 5 ∨ k = 6 ∨ k = 7 := by omega
  all_goals rfl
theorem addP_step (v h : V8) (k : Nat) (hk : k < 8) : (addP v h k).set k ((addP v h k).getD k 0 + h.list.getD k 0) = addP v h (k + 1) := by
  obtain rfl | rfl | rfl | rfl | rfl | rfl | rfl | rfl : k = 0 ∨ k = 1 ∨ k = 2 ∨ k = 3 ∨ k = 4 ∨ k = 5 ∨ k = 6 ∨ k = 7 := by omega
  all_goals rfl
theorem hgetV (h : V8) (k j : Nat) (hj : j = k) (hk : k < 8) : [u32 h.a, u32 h.b, u32 h.c, u32 h.d, u32 h.e, u32 h.f, u32 h.g, u32 h.h][j]? = some (u32 (h.list.getD k 0)) := mget h.list k j hj hk
theorem addP_length (v h : V8) (k : Nat) : (addP v h k).length = 8 := by simp [addP]
theorem sha_Step (hG : GOK G) (h : V8) (s : List UInt8) (hs : s.length = 64) : Does Tryd.prog G 78 [h.val, str s] [] (One (stepS h s).val) := by
  refine Does.of Tryd.func78 rfl Tryd.ntmps78 rfl (fun w0 => ?_)
  refine At.keep [(0, _), (1, _)] (.cons rfl (.cons rfl .nil)) ?_
  refine At.seq ?_
  refine At.region ?_
  refine At.op rfl (op_box rfl rfl rfl ?_)
  intro b2
  refine At.op rfl (op_alloc Tryd.zeroValue142 rfl rfl ?_)
  intro b4
  refine At.nil ?_
  refine At.then_n ?_
  refine At.seq ?_
  refine At.seq ?_
  refine At.region ?_
  refine At.op rfl (op_move rfl rfl ?_)
  refine At.op rfl (op_len_str rfl Tryd.underlying9 rfl ?_)
  refine At.op rfl (op_bin rfl rfl b_ne rfl ?_)
  refine At.nil ?_
  refine At.then_n ?_
  refine At.cond_np rfl (fun hc0 => ?_) (fun hc0 => ?_)
  ·
    exfalso; omega
  ·
    refine At.skip ?_
    refine At.then_n ?_
    refine At.seq ?_
    refine At.region ?_
    refine At.op rfl (op_assign rfl rfl ?_)
    refine At.nil ?_
    refine At.then_n ?_
    refine At.seq ?_
    refine At.region ?_
    refine At.op rfl (op_alloc Tryd.zeroValue154 rfl rfl ?_)
    intro b6
    refine At.nil ?_
    refine At.then_n ?_
    refine At.seq ?_
    refine At.seq ?_
    refine At.region ?_
    refine At.op rfl (op_move rfl rfl ?_)
    refine At.op rfl (op_bytes rfl Tryd.underlying9 Tryd.underlying88 Tryd.underlying5 rfl ?_)
    intro bb cbb hcbb
    refine At.op rfl (op_len_slc rfl Tryd.underlying88 rfl ?_)
    refine At.op rfl (op_move rfl rfl ?_)
    refine At.nil ?_
    refine At.then_n ?_
    refine At.block ?_
    rw [show [Value.int IntKind.u32 0, .int .u32 0, .int .u32 0, .int .u32 0, .int .u32 0, .int .u32 0, .int .u32 0, .int .u32 0, .int .u32 0, .int .u32 0, .int .u32 0, .int .u32 0, .int .u32 0, .int .u32 0, .int .u32 0, .int .u32 0] = (wAcc s 0).map u32 from (wAcc_zero s).symm]
    refine At.cut (rs' := (fun k => [row b2 [u32 h.a, u32 h.b, u32 h.c, u32 h.d, u32 h.e, u32 h.f, u32 h.g, u32 h.h] 142 (0, 0), row b4 (List.replicate 8 (Value.int .u32 0)) 142 (0, 0), row b6 ((wAcc s k).map u32) 154 (0, 0), row bb (s.map u8 ++ List.replicate (cbb - s.length) (u8 0)) 5 (cbb, cbb + 1)]) (0 : Nat)) (.cons (by first | exact Pull.p0 | exact Pull.p1 | exact Pull.p2 | exact Pull.p3 | exact Pull.p4 | exact Pull.p5 | exact Pull.p6 | exact Pull.p7 | exact Pull.p8 | exact Pull.p9) (.cons (by first | exact Pull.p0 | exact Pull.p1 | exact Pull.p2 | exact Pull.p3 | exact Pull.p4 | exact Pull.p5 | exact Pull.p6 | exact Pull.p7 | exact Pull.p8 | exact Pull.p9) (.cons (by first | exact Pull.p0 | exact Pull.p1 | exact Pull.p2 | exact Pull.p3 | exact Pull.p4 | exact Pull.p5 | exact Pull.p6 | exact Pull.p7 | exact Pull.p8 | exact Pull.p9) (.cons (by first | exact Pull.p0 | exact Pull.p1 | exact Pull.p2 | exact Pull.p3 | exact Pull.p4 | exact Pull.p5 | exact Pull.p6 | exact Pull.p7 | exact Pull.p8 | exact Pull.p9) .nil)))) ?_
    refine At.keep ((fun k => [(2, ptr b2 0), (4, ptr b4 0), (5, .func (.func 87) #[] #[]), (6, ptr b6 0), (25, slc bb 0 s.length cbb), (26, i64 s.length), (27, i64 k)]) (0 : Nat)) (.cons rfl (.cons rfl (.cons rfl (.cons rfl (.cons rfl (.cons rfl (.cons rfl .nil))))))) ?_
    refine At.loop (σ := Nat) (fun k => k ≤ 64) (fun k => [(2, ptr b2 0), (4, ptr b4 0), (5, .func (.func 87) #[] #[]), (6, ptr b6 0), (25, slc bb 0 s.length cbb), (26, i64 s.length), (27, i64 k)]) (fun k => [row b2 [u32 h.a, u32 h.b, u32 h.c, u32 h.d, u32 h.e, u32 h.f, u32 h.g, u32 h.h] 142 (0, 0), row b4 (List.replicate 8 (Value.int .u32 0)) 142 (0, 0), row b6 ((wAcc s k).map u32) 154 (0, 0), row bb (s.map u8 ++ List.replicate (cbb - s.length) (u8 0)) 5 (cbb, cbb + 1)]) (fun k => 64 - k) (0 : Nat) (Nat.zero_le _) ?_
    rintro k hk
    refine At.seq ?_
    refine At.region ?_
    refine At.op rfl (op_bin rfl rfl b_lt rfl ?_)
    refine At.nil ?_
    refine At.then_n ?_
    refine At.seq ?_
    refine At.cond_p rfl (fun hlt => ?_) (fun hlt => ?_)
    ·
      refine At.skip ?_
      refine At.then_n ?_
      refine At.seq ?_
      refine At.block ?_
      refine At.seq ?_
      refine At.region ?_
      refine At.op rfl (op_move rfl rfl ?_)
      refine At.op rfl (op_indexS rfl rfl Tryd.underlying88 Tryd.sizeOf5 (by omega) (by omega) rfl ?_)
      refine At.op rfl (op_load rfl Tryd.isAgg5 (by first | with_reducible exact Pull.p0 | with_reducible exact Pull.p1 | with_reducible exact Pull.p2 | with_reducible exact Pull.p3 | with_reducible exact Pull.p4 | with_reducible exact Pull.p5 | with_reducible exact Pull.p6 | with_reducible exact Pull.p7 | with_reducible exact Pull.p8 | with_reducible exact Pull.p9) (bget s _ k _ (by omega) (by omega)) rfl ?_)
      refine At.op rfl (op_assign rfl rfl ?_)
      refine At.op rfl (op_assign rfl rfl ?_)
      refine At.nil ?_
      refine At.then_n ?_
      refine At.region ?_
      refine At.op rfl (op_move rfl rfl ?_)
      refine At.op rfl (op_bin rfl rfl (b_quo (by omega) (by omega) (by decide)) rfl ?_)
      refine At.op rfl (op_move rfl rfl ?_)
      refine At.op rfl (op_bin rfl rfl (b_quo (by omega) (by omega) (by decide)) rfl ?_)
      refine At.op rfl (op_indexA rfl rfl Tryd.underlying154 Tryd.sizeOf135 (by omega) (by omega) rfl ?_)
      refine At.op rfl (op_load rfl Tryd.isAgg135 (by first | with_reducible exact Pull.p0 | with_reducible exact Pull.p1 | with_reducible exact Pull.p2 | with_reducible exact Pull.p3 | with_reducible exact Pull.p4 | with_reducible exact Pull.p5 | with_reducible exact Pull.p6 | with_reducible exact Pull.p7 | with_reducible exact Pull.p8 | with_reducible exact Pull.p9) (mget (wAcc s k) (k / 4) _ (by omega) (by rw [wAcc_length]; omega)) rfl ?_)
      refine At.op rfl (op_bin rfl rfl (b32_shl _ _ 8 (by decide)) rfl ?_)
      refine At.op rfl (op_move rfl rfl ?_)
      refine At.op rfl (op_conv rfl (cv_u8_u32 Tryd.underlying5 Tryd.underlying135 _) rfl ?_)
      refine At.op rfl (op_bin rfl rfl (b32_or _ _) rfl ?_)
      refine At.op rfl (op_indexA rfl rfl Tryd.underlying154 Tryd.sizeOf135 (by omega) (by omega) rfl ?_)
      refine At.op rfl (op_store rfl rfl Tryd.sizeOf135 rfl rfl (by first | with_reducible exact Pull.p0 | with_reducible exact Pull.p1 | with_reducible exact Pull.p2 | with_reducible exact Pull.p3 | with_reducible exact Pull.p4 | with_reducible exact Pull.p5 | with_reducible exact Pull.p6 | with_reducible exact Pull.p7 | with_reducible exact Pull.p8 | with_reducible exact Pull.p9) (mset (wAcc s k) (k / 4) _ _ (by omega) (by rw [wAcc_length]; omega)) rfl ?_)
      refine At.nil ?_
      refine At.blk_n ?_
      refine At.then_n ?_
      refine At.keep [(2, _), (4, _), (5, _), (6, _), (25, _), (26, _), (27, _)] (.cons rfl (.cons rfl (.cons rfl (.cons rfl (.cons rfl (.cons rfl (.cons rfl .nil))))))) ?_
      refine At.region ?_
      refine At.op rfl (op_bin rfl rfl (b_add (by omega) (by omega)) rfl ?_)
      refine At.op rfl (op_move rfl rfl ?_)
      refine At.nil ?_
      refine At.then_n ?_
      rw [← wAcc_succ]
      exact At.back (k + 1) (by omega) (by omega) (.cons rfl (.cons rfl (.cons rfl (.cons rfl (.cons rfl (.cons rfl (.cons rfl .nil))))))) (.cons (by first | with_reducible exact Pull.p0 | with_reducible exact Pull.p1 | with_reducible exact Pull.p2 | with_reducible exact Pull.p3 | with_reducible exact Pull.p4 | with_reducible exact Pull.p5 | with_reducible exact Pull.p6 | with_reducible exact Pull.p7 | with_reducible exact Pull.p8 | with_reducible exact Pull.p9) (.cons (by first | with_reducible exact Pull.p0 | with_reducible exact Pull.p1 | with_reducible exact Pull.p2 | with_reducible exact Pull.p3 | with_reducible exact Pull.p4 | with_reducible exact Pull.p5 | with_reducible exact Pull.p6 | with_reducible exact Pull.p7 | with_reducible exact Pull.p8 | with_reducible exact Pull.p9) (.cons (by first | with_reducible exact Pull.p0 | with_reducible exact Pull.p1 | with_reducible exact Pull.p2 | with_reducible exact Pull.p3 | with_reducible exact Pull.p4 | with_reducible exact Pull.p5 | with_reducible exact Pull.p6 | with_reducible exact Pull.p7 | with_reducible exact Pull.p8 | with_reducible exact Pull.p9) (.cons (by first | with_reducible exact Pull.p0 | with_reducible exact Pull.p1 | with_reducible exact Pull.p2 | with_reducible exact Pull.p3 | with_reducible exact Pull.p4 | with_reducible exact Pull.p5 | with_reducible exact Pull.p6 | with_reducible exact Pull.p7 | with_reducible exact Pull.p8 | with_reducible exact Pull.p9) .nil))))
    ·
      obtain rfl : k = 64 := by omega
      refine At.exit ?_
      refine At.then_e ?_
      refine At.then_e ?_
      refine At.blk_e ?_
      refine At.then_n ?_
      refine At.seq ?_
      refine At.region ?_
      refine At.op rfl (op_loadW rfl Tryd.isAgg142 Tryd.sizeOf142 (by first | with_reducible exact Pull.p0 | with_reducible exact Pull.p1 | with_reducible exact Pull.p2 | with_reducible exact Pull.p3 | with_reducible exact Pull.p4 | with_reducible exact Pull.p5 | with_reducible exact Pull.p6 | with_reducible exact Pull.p7 | with_reducible exact Pull.p8 | with_reducible exact Pull.p9) rfl rfl ?_)
      refine At.op rfl (op_alloc Tryd.zeroValue142 rfl rfl ?_)
      intro b9
      refine At.op rfl (op_storeW rfl rfl Tryd.sizeOf142 (by repeat' (first | refine List.forall_mem_cons.2 ⟨rfl, ?_⟩ | exact (fun _ h => by cases h))) (by first | with_reducible exact Pull.p0 | with_reducible exact Pull.p1 | with_reducible exact Pull.p2 | with_reducible exact Pull.p3 | with_reducible exact Pull.p4 | with_reducible exact Pull.p5 | with_reducible exact Pull.p6 | with_reducible exact Pull.p7 | with_reducible exact Pull.p8 | with_reducible exact Pull.p9) rfl rfl ?_)
      refine At.nil ?_
      refine At.then_n ?_
      refine At.seq ?_
      refine At.seq ?_
      refine At.region ?_
      refine At.op rfl (op_loadGlob (us := shaK.map u32) hG Tryd.isAgg155 Tryd.sizeOf155 rfl rfl ?_)
      refine At.op rfl (op_move rfl rfl ?_)
      refine At.nil ?_
      refine At.then_n ?_
      refine At.block ?_
      refine At.cut (rs' := (fun k => [row b2 [u32 h.a, u32 h.b, u32 h.c, u32 h.d, u32 h.e, u32 h.f, u32 h.g, u32 h.h] 142 (0, 0), row b4 (List.replicate 8 (Value.int .u32 0)) 142 (0, 0), row b6 ((it h (wAcc s 64) k).2.map u32) 154 (0, 0), row b9 [u32 (it h (wAcc s 64) k).1.a, u32 (it h (wAcc s 64) k).1.b, u32 (it h (wAcc s 64) k).1.c, u32 (it h (wAcc s 64) k).1.d, u32 (it h (wAcc s 64) k).1.e, u32 (it h (wAcc s 64) k).1.f, u32 (it h (wAcc s 64) k).1.g, u32 (it h (wAcc s 64) k).1.h] 142 (0, 0)]) (0 : Nat)) (.cons (by first | exact Pull.p0 | exact Pull.p1 | exact Pull.p2 | exact Pull.p3 | exact Pull.p4 | exact Pull.p5 | exact Pull.p6 | exact Pull.p7 | exact Pull.p8 | exact Pull.p9) (.cons (by first | exact Pull.p0 | exact Pull.p1 | exact Pull.p2 | exact Pull.p3 | exact Pull.p4 | exact Pull.p5 | exact Pull.p6 | exact Pull.p7 | exact Pull.p8 | exact Pull.p9) (.cons (by first | exact Pull.p0 | exact Pull.p1 | exact Pull.p2 | exact Pull.p3 | exact Pull.p4 | exact Pull.p5 | exact Pull.p6 | exact Pull.p7 | exact Pull.p8 | exact Pull.p9) (.cons (by first | exact Pull.p0 | exact Pull.p1 | exact Pull.p2 | exact Pull.p3 | exact Pull.p4 | exact Pull.p5 | exact Pull.p6 | exact Pull.p7 | exact Pull.p8 | exact Pull.p9) .nil)))) ?_
      refine At.keep ((fun k => [(2, ptr b2 0), (4, ptr b4 0), (5, .func (.func 87) #[] #[]), (6, ptr b6 0), (9, ptr b9 0), (45, .agg (shaK.map u32).toArray), (46, i64 k)]) (0 : Nat)) (.cons rfl (.cons rfl (.cons rfl (.cons rfl (.cons rfl (.cons rfl (.cons rfl .nil))))))) ?_
      refine At.loop (σ := Nat) (fun k => k ≤ 64) (fun k => [(2, ptr b2 0), (4, ptr b4 0), (5, .func (.func 87) #[] #[]), (6, ptr b6 0), (9, ptr b9 0), (45, .agg (shaK.map u32).toArray), (46, i64 k)]) (fun k => [row b2 [u32 h.a, u32 h.b, u32 h.c, u32 h.d, u32 h.e, u32 h.f, u32 h.g, u32 h.h] 142 (0, 0), row b4 (List.replicate 8 (Value.int .u32 0)) 142 (0, 0), row b6 ((it h (wAcc s 64) k).2.map u32) 154 (0, 0), row b9 [u32 (it h (wAcc s 64) k).1.a, u32 (it h (wAcc s 64) k).1.b, u32 (it h (wAcc s 64) k).1.c, u32 (it h (wAcc s 64) k).1.d, u32 (it h (wAcc s 64) k).1.e, u32 (it h (wAcc s 64) k).1.f, u32 (it h (wAcc s 64) k).1.g, u32 (it h (wAcc s 64) k).1.h] 142 (0, 0)]) (fun k => 64 - k) (0 : Nat) (Nat.zero_le _) ?_
      rintro k hk
      rcases hit : (it h (wAcc s 64) k) with ⟨⟨va, vb, vc, vd, ve, vf, vg, vh⟩, ws⟩
      have hwl : ws.length = 16 := by
        have := it_length h (wAcc s 64) (wAcc_length s 64) k
        rw [hit] at this
        exact this
      dsimp only
      refine At.seq ?_
      refine At.region ?_
      refine At.op rfl (op_bin rfl rfl b_lt rfl ?_)
      refine At.nil ?_
      refine At.then_n ?_
      refine At.seq ?_
      refine At.cond_p rfl (fun hlt => ?_) (fun hlt => ?_)
      ·
        refine At.skip ?_
        refine At.then_n ?_
        refine At.seq ?_
        refine At.block ?_
        refine At.seq ?_
        refine At.region ?_
        refine At.op rfl (op_move rfl rfl ?_)
        refine At.op rfl (op_indexV rfl rfl Tryd.underlying155 Tryd.sizeOf135 Tryd.isAgg135 (by omega) (by omega) (mgetA shaK k _ (by omega) (by rw [shaK_length]; omega)) rfl ?_)
        refine At.op rfl (op_assign rfl rfl ?_)
        refine At.op rfl (op_assign rfl rfl ?_)
        refine At.nil ?_
        refine At.then_n ?_
        refine At.seq ?_
        refine At.region ?_
        refine At.op rfl (op_move rfl rfl ?_)
        refine At.op rfl (op_bin rfl rfl (b_rem (by omega) (by decide)) rfl ?_)
        refine At.op rfl (op_assign rfl rfl ?_)
        refine At.nil ?_
        refine At.then_n ?_
        refine At.seq_meet (r := _) (fun w2 : List UInt32 => w2 = sched k ws) (fun _ : List UInt32 => [(2, ptr b2 0), (4, ptr b4 0), (5, .func (.func 87) #[] #[]), (6, ptr b6 0), (9, ptr b9 0), (45, .agg (shaK.map u32).toArray), (46, i64 k), (10, i64 k), (11, u32 (shaK.getD k 0)), (12, i64 ((k : Int) % 16))]) (fun w2 => [row b2 [u32 h.a, u32 h.b, u32 h.c, u32 h.d, u32 h.e, u32 h.f, u32 h.g, u32 h.h] 142 (0, 0), row b4 (List.replicate 8 (Value.int .u32 0)) 142 (0, 0), row b6 (w2.map u32) 154 (0, 0), row b9 [u32 va, u32 vb, u32 vc, u32 vd, u32 ve, u32 vf, u32 vg, u32 vh] 142 (0, 0)]) ?_ ?_
        ·
          refine At.seq ?_
          refine At.region ?_
          refine At.op rfl (op_move rfl rfl ?_)
          refine At.op rfl (op_bin rfl rfl b_ge rfl ?_)
          refine At.nil ?_
          refine At.then_n ?_
          refine At.cond_p rfl (fun h16 => ?_) (fun h16 => ?_)
          ·
            refine At.seq ?_
            refine At.drawC [_, _, _, _, _, _, _, _, _, _, _, _] (by kernel_rfl) (by decide) (by kernel_rfl) 
              (Steps'.cons (Step.op rfl (fun D h1 h2 h3 K hK => op_move (mD_base rfl rfl) rfl hK))
              (Steps'.cons (Step.op rfl (fun D h1 h2 h3 K hK => op_bin (mD_done 0 (by decide) (pre_at h2 0 rfl rfl) rfl rfl rfl) rfl (b_add (by omega) (by omega)) rfl hK))
              (Steps'.cons (Step.op rfl (fun D h1 h2 h3 K hK => op_bin (mD_done 1 (by decide) (pre_at h2 0 rfl rfl) rfl rfl rfl) rfl (b_rem (by omega) (by decide)) rfl hK))
              (Steps'.cons (Step.op rfl (fun D h1 h2 h3 K hK => op_indexA (mD_base rfl rfl) (mD_done 2 (by decide) (pre_at h2 0 rfl rfl) rfl rfl rfl) Tryd.underlying154 Tryd.sizeOf135 (by omega) (by omega) rfl hK))
              (Steps'.cons (Step.op rfl (fun D h1 h2 h3 K hK => op_load (mD_done 3 (by decide) (pre_at h2 0 rfl rfl) rfl rfl rfl) Tryd.isAgg135 (by first | with_reducible exact Pull.p0 | with_reducible exact Pull.p1 | with_reducible exact Pull.p2 | with_reducible exact Pull.p3 | with_reducible exact Pull.p4 | with_reducible exact Pull.p5 | with_reducible exact Pull.p6 | with_reducible exact Pull.p7 | with_reducible exact Pull.p8 | with_reducible exact Pull.p9) (mget ws ((k + 1) % 16) _ (by omega) (by rw [hwl]; omega)) rfl hK))
              (Steps'.cons (Step.op rfl (fun D h1 h2 h3 K hK => op_move (mD_base rfl rfl) rfl hK))
              (Steps'.cons (Step.op rfl (fun D h1 h2 h3 K hK => op_bin (mD_done 5 (by decide) (pre_at h2 0 rfl rfl) rfl rfl rfl) rfl (b_add (by omega) (by omega)) rfl hK))
              (Steps'.cons (Step.op rfl (fun D h1 h2 h3 K hK => op_bin (mD_done 6 (by decide) (pre_at h2 0 rfl rfl) rfl rfl rfl) rfl (b_rem (by omega) (by decide)) rfl hK))
              (Steps'.cons (Step.op rfl (fun D h1 h2 h3 K hK => op_indexA (mD_base rfl rfl) (mD_done 7 (by decide) (pre_at h2 0 rfl rfl) rfl rfl rfl) Tryd.underlying154 Tryd.sizeOf135 (by omega) (by omega) rfl hK))
              (Steps'.cons (Step.op rfl (fun D h1 h2 h3 K hK => op_load (mD_done 8 (by decide) (pre_at h2 0 rfl rfl) rfl rfl rfl) Tryd.isAgg135 (by first | with_reducible exact Pull.p0 | with_reducible exact Pull.p1 | with_reducible exact Pull.p2 | with_reducible exact Pull.p3 | with_reducible exact Pull.p4 | with_reducible exact Pull.p5 | with_reducible exact Pull.p6 | with_reducible exact Pull.p7 | with_reducible exact Pull.p8 | with_reducible exact Pull.p9) (mget ws ((k + 14) % 16) _ (by omega) (by rw [hwl]; omega)) rfl hK))
              (Steps'.cons (Step.op rfl (fun D h1 h2 h3 K hK => op_assign (mD_done 4 (by decide) (pre_at h2 0 rfl rfl) rfl rfl rfl) rfl hK))
              (Steps'.cons (Step.op rfl (fun D h1 h2 h3 K hK => op_assign (mD_done 9 (by decide) (pre_at h2 0 rfl rfl) rfl rfl rfl) rfl hK))
              Steps'.nil)))))))))))) ?_
            refine At.keep [(2, _), (4, _), (5, _), (6, _), (9, _), (45, _), (46, _), (10, _), (11, _), (12, _), (13, _), (14, _)] (.cons rfl (.cons rfl (.cons rfl (.cons rfl (.cons rfl (.cons rfl (.cons rfl (.cons rfl (.cons rfl (.cons rfl (.cons rfl (.cons rfl .nil)))))))))))) ?_
            refine At.then_n ?_
            refine At.drawL _ [_, _, _, _, _, _, _, _, _, _, _, _, _, _, _, _, _, _, _, _, _, _, _, _, _, _, _, _, _, _, _, _, undef] (by kernel_rfl) (by decide) (by kernel_rfl) (by kernel_rfl) 
              (.cons (Step.op rfl (fun D h1 h2 h3 K hK => op_move (mD_base rfl rfl) rfl hK))
              (.cons (Step.op rfl (fun D h1 h2 h3 K hK => op_indexA (mD_base rfl rfl) (mD_done 0 (by decide) (pre_at h2 0 rfl rfl) rfl rfl rfl) Tryd.underlying154 Tryd.sizeOf135 (by omega) (by omega) rfl hK))
              (.cons (Step.op rfl (fun D h1 h2 h3 K hK => op_load (mD_done 1 (by decide) (pre_at h2 0 rfl rfl) rfl rfl rfl) Tryd.isAgg135 (by first | with_reducible exact Pull.p0 | with_reducible exact Pull.p1 | with_reducible exact Pull.p2 | with_reducible exact Pull.p3 | with_reducible exact Pull.p4 | with_reducible exact Pull.p5 | with_reducible exact Pull.p6 | with_reducible exact Pull.p7 | with_reducible exact Pull.p8 | with_reducible exact Pull.p9) (mget ws (k % 16) _ (by omega) (by rw [hwl]; omega)) rfl hK))
              (.cons (Step.op rfl (fun D h1 h2 h3 K hK => op_move (mD_base rfl rfl) rfl hK))
              (.cons (Step.op rfl (fun D h1 h2 h3 K hK => op_move (mD_base rfl rfl) rfl hK))
              (.cons (Step.op rfl (fun D h1 h2 h3 K hK => op_callC1 (fs := []) (cap := []) (mD_done 3 (by decide) (pre_at h2 0 rfl rfl) rfl rfl rfl) (evs_cons (mD_done 4 (by decide) (pre_at h2 1 rfl rfl) rfl rfl rfl) (evs_cons rfl evs_nil)) Tryd.call87 rfl (sha_Step_1 _ 7 (by decide) (by decide)) rfl hK))
              (.cons (Step.op rfl (fun D h1 h2 h3 K hK => op_move (mD_base rfl rfl) rfl hK))
              (.cons (Step.op rfl (fun D h1 h2 h3 K hK => op_move (mD_base rfl rfl) rfl hK))
              (.cons (Step.op rfl (fun D h1 h2 h3 K hK => op_callC1 (fs := []) (cap := []) (mD_done 6 (by decide) (pre_at h2 0 rfl rfl) rfl rfl rfl) (evs_cons (mD_done 7 (by decide) (pre_at h2 1 rfl rfl) rfl rfl rfl) (evs_cons rfl evs_nil)) Tryd.call87 rfl (sha_Step_1 _ 18 (by decide) (by decide)) rfl hK))
              (.cons (Step.op rfl (fun D h1 h2 h3 K hK => op_bin (mD_done 5 (by decide) (pre_at h2 0 rfl rfl) rfl rfl rfl) (mD_done 8 (by decide) (pre_at h2 1 rfl rfl) rfl rfl rfl) (b32_xor _ _) rfl hK))
              (.cons (Step.op rfl (fun D h1 h2 h3 K hK => op_move (mD_base rfl rfl) rfl hK))
              (.cons (Step.op rfl (fun D h1 h2 h3 K hK => op_bin (mD_done 10 (by decide) (pre_at h2 0 rfl rfl) rfl rfl rfl) rfl (b32_shr _ _ 3 (by decide)) rfl hK))
              (.cons (Step.op rfl (fun D h1 h2 h3 K hK => op_bin (mD_done 9 (by decide) (pre_at h2 0 rfl rfl) rfl rfl rfl) (mD_done 11 (by decide) (pre_at h2 1 rfl rfl) rfl rfl rfl) (b32_xor _ _) rfl hK))
              (.cons (Step.op rfl (fun D h1 h2 h3 K hK => op_move (mD_base rfl rfl) rfl hK))
              (.cons (Step.op rfl (fun D h1 h2 h3 K hK => op_bin (mD_done 13 (by decide) (pre_at h2 0 rfl rfl) rfl rfl rfl) rfl (b_add (by omega) (by omega)) rfl hK))
              (.cons (Step.op rfl (fun D h1 h2 h3 K hK => op_bin (mD_done 14 (by decide) (pre_at h2 0 rfl rfl) rfl rfl rfl) rfl (b_rem (by omega) (by decide)) rfl hK))
              (.cons (Step.op rfl (fun D h1 h2 h3 K hK => op_indexA (mD_base rfl rfl) (mD_done 15 (by decide) (pre_at h2 0 rfl rfl) rfl rfl rfl) Tryd.underlying154 Tryd.sizeOf135 (by omega) (by omega) rfl hK))
              (.cons (Step.op rfl (fun D h1 h2 h3 K hK => op_load (mD_done 16 (by decide) (pre_at h2 0 rfl rfl) rfl rfl rfl) Tryd.isAgg135 (by first | with_reducible exact Pull.p0 | with_reducible exact Pull.p1 | with_reducible exact Pull.p2 | with_reducible exact Pull.p3 | with_reducible exact Pull.p4 | with_reducible exact Pull.p5 | with_reducible exact Pull.p6 | with_reducible exact Pull.p7 | with_reducible exact Pull.p8 | with_reducible exact Pull.p9) (mget ws ((k + 9) % 16) _ (by omega) (by rw [hwl]; omega)) rfl hK))
              (.cons (Step.op rfl (fun D h1 h2 h3 K hK => op_bin (mD_done 12 (by decide) (pre_at h2 0 rfl rfl) rfl rfl rfl) (mD_done 17 (by decide) (pre_at h2 1 rfl rfl) rfl rfl rfl) (b32_add _ _) rfl hK))
              (.cons (Step.op rfl (fun D h1 h2 h3 K hK => op_move (mD_base rfl rfl) rfl hK))
              (.cons (Step.op rfl (fun D h1 h2 h3 K hK => op_move (mD_base rfl rfl) rfl hK))
              (.cons (Step.op rfl (fun D h1 h2 h3 K hK => op_callC1 (fs := []) (cap := []) (mD_done 19 (by decide) (pre_at h2 0 rfl rfl) rfl rfl rfl) (evs_cons (mD_done 20 (by decide) (pre_at h2 1 rfl rfl) rfl rfl rfl) (evs_cons rfl evs_nil)) Tryd.call87 rfl (sha_Step_1 _ 17 (by decide) (by decide)) rfl hK))
              (.cons (Step.op rfl (fun D h1 h2 h3 K hK => op_move (mD_base rfl rfl) rfl hK))
              (.cons (Step.op rfl (fun D h1 h2 h3 K hK => op_move (mD_base rfl rfl) rfl hK))
              (.cons (Step.op rfl (fun D h1 h2 h3 K hK => op_callC1 (fs := []) (cap := []) (mD_done 22 (by decide) (pre_at h2 0 rfl rfl) rfl rfl rfl) (evs_cons (mD_done 23 (by decide) (pre_at h2 1 rfl rfl) rfl rfl rfl) (evs_cons rfl evs_nil)) Tryd.call87 rfl (sha_Step_1 _ 19 (by decide) (by decide)) rfl hK))
              (.cons (Step.op rfl (fun D h1 h2 h3 K hK => op_bin (mD_done 21 (by decide) (pre_at h2 0 rfl rfl) rfl rfl rfl) (mD_done 24 (by decide) (pre_at h2 1 rfl rfl) rfl rfl rfl) (b32_xor _ _) rfl hK))
              (.cons (Step.op rfl (fun D h1 h2 h3 K hK => op_move (mD_base rfl rfl) rfl hK))
              (.cons (Step.op rfl (fun D h1 h2 h3 K hK => op_bin (mD_done 26 (by decide) (pre_at h2 0 rfl rfl) rfl rfl rfl) rfl (b32_shr _ _ 10 (by decide)) rfl hK))
              (.cons (Step.op rfl (fun D h1 h2 h3 K hK => op_bin (mD_done 25 (by decide) (pre_at h2 0 rfl rfl) rfl rfl rfl) (mD_done 27 (by decide) (pre_at h2 1 rfl rfl) rfl rfl rfl) (b32_xor _ _) rfl hK))
              (.cons (Step.op rfl (fun D h1 h2 h3 K hK => op_bin (mD_done 18 (by decide) (pre_at h2 0 rfl rfl) rfl rfl rfl) (mD_done 28 (by decide) (pre_at h2 1 rfl rfl) rfl rfl rfl) (b32_add _ _) rfl hK))
              (.cons (Step.op rfl (fun D h1 h2 h3 K hK => op_bin (mD_done 2 (by decide) (pre_at h2 0 rfl rfl) rfl rfl rfl) (mD_done 29 (by decide) (pre_at h2 1 rfl rfl) rfl rfl rfl) (b32_add _ _) rfl hK))
              (.cons (Step.op rfl (fun D h1 h2 h3 K hK => op_indexA (mD_base rfl rfl) (mD_done 0 (by decide) (pre_at h2 0 rfl rfl) rfl rfl rfl) Tryd.underlying154 Tryd.sizeOf135 (by omega) (by omega) rfl hK))
              (.last (Last.op rfl (fun D h2 K hK => op_store (mD_done 31 (by decide) (pre_at h2 0 rfl rfl) rfl rfl rfl) (mD_done 30 (by decide) (pre_at h2 1 rfl rfl) rfl rfl rfl) Tryd.sizeOf135 rfl rfl (by first | with_reducible exact Pull.p0 | with_reducible exact Pull.p1 | with_reducible exact Pull.p2 | with_reducible exact Pull.p3 | with_reducible exact Pull.p4 | with_reducible exact Pull.p5 | with_reducible exact Pull.p6 | with_reducible exact Pull.p7 | with_reducible exact Pull.p8 | with_reducible exact Pull.p9) (mset ws (k % 16) _ _ (by omega) (by rw [hwl]; omega)) rfl (by exact hK)))
              ))))))))))))))))))))))))))))))))) ?_
            refine At.keep [(2, _), (4, _), (5, _), (6, _), (9, _), (45, _), (46, _), (10, _), (11, _), (12, _)] (.cons rfl (.cons rfl (.cons rfl (.cons rfl (.cons rfl (.cons rfl (.cons rfl (.cons rfl (.cons rfl (.cons rfl .nil)))))))))) ?_
            refine At.then_n ?_
            first
              | exact At.meet (ws.set (k % 16) (schedX k ws)) (if_pos (by omega)).symm (.cons rfl (.cons rfl (.cons rfl (.cons rfl (.cons rfl (.cons rfl (.cons rfl (.cons rfl (.cons rfl (.cons rfl .nil)))))))))) (.cons (by first | exact Pull.p0 | exact Pull.p1 | exact Pull.p2 | exact Pull.p3 | exact Pull.p4 | exact Pull.p5 | exact Pull.p6 | exact Pull.p7 | exact Pull.p8 | exact Pull.p9) (.cons (by first | exact Pull.p0 | exact Pull.p1 | exact Pull.p2 | exact Pull.p3 | exact Pull.p4 | exact Pull.p5 | exact Pull.p6 | exact Pull.p7 | exact Pull.p8 | exact Pull.p9) (.cons (by first | exact Pull.p0 | exact Pull.p1 | exact Pull.p2 | exact Pull.p3 | exact Pull.p4 | exact Pull.p5 | exact Pull.p6 | exact Pull.p7 | exact Pull.p8 | exact Pull.p9) (.cons (by first | exact Pull.p0 | exact Pull.p1 | exact Pull.p2 | exact Pull.p3 | exact Pull.p4 | exact Pull.p5 | exact Pull.p6 | exact Pull.p7 | exact Pull.p8 | exact Pull.p9) .nil))))
              | exact At.meet ws (if_neg (by omega)).symm (.cons rfl (.cons rfl (.cons rfl (.cons rfl (.cons rfl (.cons rfl (.cons rfl (.cons rfl (.cons rfl (.cons rfl .nil)))))))))) (.cons (by first | exact Pull.p0 | exact Pull.p1 | exact Pull.p2 | exact Pull.p3 | exact Pull.p4 | exact Pull.p5 | exact Pull.p6 | exact Pull.p7 | exact Pull.p8 | exact Pull.p9) (.cons (by first | exact Pull.p0 | exact Pull.p1 | exact Pull.p2 | exact Pull.p3 | exact Pull.p4 | exact Pull.p5 | exact Pull.p6 | exact Pull.p7 | exact Pull.p8 | exact Pull.p9) (.cons (by first | exact Pull.p0 | exact Pull.p1 | exact Pull.p2 | exact Pull.p3 | exact Pull.p4 | exact Pull.p5 | exact Pull.p6 | exact Pull.p7 | exact Pull.p8 | exact Pull.p9) (.cons (by first | exact Pull.p0 | exact Pull.p1 | exact Pull.p2 | exact Pull.p3 | exact Pull.p4 | exact Pull.p5 | exact Pull.p6 | exact Pull.p7 | exact Pull.p8 | exact Pull.p9) .nil))))
          ·
            refine At.skip ?_
            refine At.then_n ?_
            first
              | exact At.meet (ws.set (k % 16) (schedX k ws)) (if_pos (by omega)).symm (.cons rfl (.cons rfl (.cons rfl (.cons rfl (.cons rfl (.cons rfl (.cons rfl (.cons rfl (.cons rfl (.cons rfl .nil)))))))))) (.cons (by first | exact Pull.p0 | exact Pull.p1 | exact Pull.p2 | exact Pull.p3 | exact Pull.p4 | exact Pull.p5 | exact Pull.p6 | exact Pull.p7 | exact Pull.p8 | exact Pull.p9) (.cons (by first | exact Pull.p0 | exact Pull.p1 | exact Pull.p2 | exact Pull.p3 | exact Pull.p4 | exact Pull.p5 | exact Pull.p6 | exact Pull.p7 | exact Pull.p8 | exact Pull.p9) (.cons (by first | exact Pull.p0 | exact Pull.p1 | exact Pull.p2 | exact Pull.p3 | exact Pull.p4 | exact Pull.p5 | exact Pull.p6 | exact Pull.p7 | exact Pull.p8 | exact Pull.p9) (.cons (by first | exact Pull.p0 | exact Pull.p1 | exact Pull.p2 | exact Pull.p3 | exact Pull.p4 | exact Pull.p5 | exact Pull.p6 | exact Pull.p7 | exact Pull.p8 | exact Pull.p9) .nil))))
              | exact At.meet ws (if_neg (by omega)).symm (.cons rfl (.cons rfl (.cons rfl (.cons rfl (.cons rfl (.cons rfl (.cons rfl (.cons rfl (.cons rfl (.cons rfl .nil)))))))))) (.cons (by first | exact Pull.p0 | exact Pull.p1 | exact Pull.p2 | exact Pull.p3 | exact Pull.p4 | exact Pull.p5 | exact Pull.p6 | exact Pull.p7 | exact Pull.p8 | exact Pull.p9) (.cons (by first | exact Pull.p0 | exact Pull.p1 | exact Pull.p2 | exact Pull.p3 | exact Pull.p4 | exact Pull.p5 | exact Pull.p6 | exact Pull.p7 | exact Pull.p8 | exact Pull.p9) (.cons (by first | exact Pull.p0 | exact Pull.p1 | exact Pull.p2 | exact Pull.p3 | exact Pull.p4 | exact Pull.p5 | exact Pull.p6 | exact Pull.p7 | exact Pull.p8 | exact Pull.p9) (.cons (by first | exact Pull.p0 | exact Pull.p1 | exact Pull.p2 | exact Pull.p3 | exact Pull.p4 | exact Pull.p5 | exact Pull.p6 | exact Pull.p7 | exact Pull.p8 | exact Pull.p9) .nil))))
        ·
          rintro w2 hw2
          have hwl2 : w2.length = 16 := by rw [hw2, sched_length, hwl]
          refine At.seq ?_
          refine At.drawC [_, _, _, _, _, _] (by kernel_rfl) (by decide) (by kernel_rfl) 
            (Steps'.cons (Step.op rfl (fun D h1 h2 h3 K hK => op_indexA (mD_base rfl rfl) rfl Tryd.underlying142 Tryd.sizeOf135 (by decide) (by decide) rfl hK))
            (Steps'.cons (Step.op rfl (fun D h1 h2 h3 K hK => op_load (mD_done 0 (by decide) (pre_at h2 0 rfl rfl) rfl rfl rfl) Tryd.isAgg135 (by first | with_reducible exact Pull.p0 | with_reducible exact Pull.p1 | with_reducible exact Pull.p2 | with_reducible exact Pull.p3 | with_reducible exact Pull.p4 | with_reducible exact Pull.p5 | with_reducible exact Pull.p6 | with_reducible exact Pull.p7 | with_reducible exact Pull.p8 | with_reducible exact Pull.p9) rfl rfl hK))
            (Steps'.cons (Step.op rfl (fun D h1 h2 h3 K hK => op_indexA (mD_base rfl rfl) rfl Tryd.underlying142 Tryd.sizeOf135 (by decide) (by decide) rfl hK))
            (Steps'.cons (Step.op rfl (fun D h1 h2 h3 K hK => op_load (mD_done 2 (by decide) (pre_at h2 0 rfl rfl) rfl rfl rfl) Tryd.isAgg135 (by first | with_reducible exact Pull.p0 | with_reducible exact Pull.p1 | with_reducible exact Pull.p2 | with_reducible exact Pull.p3 | with_reducible exact Pull.p4 | with_reducible exact Pull.p5 | with_reducible exact Pull.p6 | with_reducible exact Pull.p7 | with_reducible exact Pull.p8 | with_reducible exact Pull.p9) rfl rfl hK))
            (Steps'.cons (Step.op rfl (fun D h1 h2 h3 K hK => op_assign (mD_done 1 (by decide) (pre_at h2 0 rfl rfl) rfl rfl rfl) rfl hK))
            (Steps'.cons (Step.op rfl (fun D h1 h2 h3 K hK => op_assign (mD_done 3 (by decide) (pre_at h2 0 rfl rfl) rfl rfl rfl) rfl hK))
            Steps'.nil)))))) ?_
          refine At.keep [(2, _), (4, _), (5, _), (6, _), (9, _), (45, _), (46, _), (11, _), (12, _), (15, _), (16, _)] (.cons rfl (.cons rfl (.cons rfl (.cons rfl (.cons rfl (.cons rfl (.cons rfl (.cons rfl (.cons rfl (.cons rfl (.cons rfl .nil))))))))))) ?_
          refine At.then_n ?_
          refine At.seq ?_
          refine At.drawC [_, _, _, _, _, _, _, _, _, _, _, _, _, _, _, _, _, _, _, _, _, _, _, _, _, _, _, _, _, _, _, _] (by kernel_rfl) (by decide) (by kernel_rfl) 
            (Steps'.cons (Step.op rfl (fun D h1 h2 h3 K hK => op_indexA (mD_base rfl rfl) rfl Tryd.underlying142 Tryd.sizeOf135 (by decide) (by decide) rfl hK))
            (Steps'.cons (Step.op rfl (fun D h1 h2 h3 K hK => op_load (mD_done 0 (by decide) (pre_at h2 0 rfl rfl) rfl rfl rfl) Tryd.isAgg135 (by first | with_reducible exact Pull.p0 | with_reducible exact Pull.p1 | with_reducible exact Pull.p2 | with_reducible exact Pull.p3 | with_reducible exact Pull.p4 | with_reducible exact Pull.p5 | with_reducible exact Pull.p6 | with_reducible exact Pull.p7 | with_reducible exact Pull.p8 | with_reducible exact Pull.p9) rfl rfl hK))
            (Steps'.cons (Step.op rfl (fun D h1 h2 h3 K hK => op_move (mD_base rfl rfl) rfl hK))
            (Steps'.cons (Step.op rfl (fun D h1 h2 h3 K hK => op_move (mD_base rfl rfl) rfl hK))
            (Steps'.cons (Step.op rfl (fun D h1 h2 h3 K hK => op_callC1 (fs := []) (cap := []) (mD_done 2 (by decide) (pre_at h2 0 rfl rfl) rfl rfl rfl) (evs_cons (mD_done 3 (by decide) (pre_at h2 1 rfl rfl) rfl rfl rfl) (evs_cons rfl evs_nil)) Tryd.call87 rfl (sha_Step_1 _ 6 (by decide) (by decide)) rfl hK))
            (Steps'.cons (Step.op rfl (fun D h1 h2 h3 K hK => op_move (mD_base rfl rfl) rfl hK))
            (Steps'.cons (Step.op rfl (fun D h1 h2 h3 K hK => op_move (mD_base rfl rfl) rfl hK))
            (Steps'.cons (Step.op rfl (fun D h1 h2 h3 K hK => op_callC1 (fs := []) (cap := []) (mD_done 5 (by decide) (pre_at h2 0 rfl rfl) rfl rfl rfl) (evs_cons (mD_done 6 (by decide) (pre_at h2 1 rfl rfl) rfl rfl rfl) (evs_cons rfl evs_nil)) Tryd.call87 rfl (sha_Step_1 _ 11 (by decide) (by decide)) rfl hK))
            (Steps'.cons (Step.op rfl (fun D h1 h2 h3 K hK => op_bin (mD_done 4 (by decide) (pre_at h2 0 rfl rfl) rfl rfl rfl) (mD_done 7 (by decide) (pre_at h2 1 rfl rfl) rfl rfl rfl) (b32_xor _ _) rfl hK))
            (Steps'.cons (Step.op rfl (fun D h1 h2 h3 K hK => op_move (mD_base rfl rfl) rfl hK))
            (Steps'.cons (Step.op rfl (fun D h1 h2 h3 K hK => op_move (mD_base rfl rfl) rfl hK))
            (Steps'.cons (Step.op rfl (fun D h1 h2 h3 K hK => op_callC1 (fs := []) (cap := []) (mD_done 9 (by decide) (pre_at h2 0 rfl rfl) rfl rfl rfl) (evs_cons (mD_done 10 (by decide) (pre_at h2 1 rfl rfl) rfl rfl rfl) (evs_cons rfl evs_nil)) Tryd.call87 rfl (sha_Step_1 _ 25 (by decide) (by decide)) rfl hK))
            (Steps'.cons (Step.op rfl (fun D h1 h2 h3 K hK => op_bin (mD_done 8 (by decide) (pre_at h2 0 rfl rfl) rfl rfl rfl) (mD_done 11 (by decide) (pre_at h2 1 rfl rfl) rfl rfl rfl) (b32_xor _ _) rfl hK))
            (Steps'.cons (Step.op rfl (fun D h1 h2 h3 K hK => op_bin (mD_done 1 (by decide) (pre_at h2 0 rfl rfl) rfl rfl rfl) (mD_done 12 (by decide) (pre_at h2 1 rfl rfl) rfl rfl rfl) (b32_add _ _) rfl hK))
            (Steps'.cons (Step.op rfl (fun D h1 h2 h3 K hK => op_move (mD_base rfl rfl) rfl hK))
            (Steps'.cons (Step.op rfl (fun D h1 h2 h3 K hK => op_indexA (mD_base rfl rfl) rfl Tryd.underlying142 Tryd.sizeOf135 (by decide) (by decide) rfl hK))
            (Steps'.cons (Step.op rfl (fun D h1 h2 h3 K hK => op_load (mD_done 15 (by decide) (pre_at h2 0 rfl rfl) rfl rfl rfl) Tryd.isAgg135 (by first | with_reducible exact Pull.p0 | with_reducible exact Pull.p1 | with_reducible exact Pull.p2 | with_reducible exact Pull.p3 | with_reducible exact Pull.p4 | with_reducible exact Pull.p5 | with_reducible exact Pull.p6 | with_reducible exact Pull.p7 | with_reducible exact Pull.p8 | with_reducible exact Pull.p9) rfl rfl hK))
            (Steps'.cons (Step.op rfl (fun D h1 h2 h3 K hK => op_bin (mD_done 14 (by decide) (pre_at h2 0 rfl rfl) rfl rfl rfl) (mD_done 16 (by decide) (pre_at h2 1 rfl rfl) rfl rfl rfl) (b32_and _ _) rfl hK))
            (Steps'.cons (Step.op rfl (fun D h1 h2 h3 K hK => op_move (mD_base rfl rfl) rfl hK))
            (Steps'.cons (Step.op rfl (fun D h1 h2 h3 K hK => op_un (mD_done 18 (by decide) (pre_at h2 0 rfl rfl) rfl rfl rfl) (un32_not _) rfl hK))
            (Steps'.cons (Step.op rfl (fun D h1 h2 h3 K hK => op_indexA (mD_base rfl rfl) rfl Tryd.underlying142 Tryd.sizeOf135 (by decide) (by decide) rfl hK))
            (Steps'.cons (Step.op rfl (fun D h1 h2 h3 K hK => op_load (mD_done 20 (by decide) (pre_at h2 0 rfl rfl) rfl rfl rfl) Tryd.isAgg135 (by first | with_reducible exact Pull.p0 | with_reducible exact Pull.p1 | with_reducible exact Pull.p2 | with_reducible exact Pull.p3 | with_reducible exact Pull.p4 | with_reducible exact Pull.p5 | with_reducible exact Pull.p6 | with_reducible exact Pull.p7 | with_reducible exact Pull.p8 | with_reducible exact Pull.p9) rfl rfl hK))
            (Steps'.cons (Step.op rfl (fun D h1 h2 h3 K hK => op_bin (mD_done 19 (by decide) (pre_at h2 0 rfl rfl) rfl rfl rfl) (mD_done 21 (by decide) (pre_at h2 1 rfl rfl) rfl rfl rfl) (b32_and _ _) rfl hK))
            (Steps'.cons (Step.op rfl (fun D h1 h2 h3 K hK => op_bin (mD_done 17 (by decide) (pre_at h2 0 rfl rfl) rfl rfl rfl) (mD_done 22 (by decide) (pre_at h2 1 rfl rfl) rfl rfl rfl) (b32_or _ _) rfl hK))
            (Steps'.cons (Step.op rfl (fun D h1 h2 h3 K hK => op_bin (mD_done 13 (by decide) (pre_at h2 0 rfl rfl) rfl rfl rfl) (mD_done 23 (by decide) (pre_at h2 1 rfl rfl) rfl rfl rfl) (b32_add _ _) rfl hK))
            (Steps'.cons (Step.op rfl (fun D h1 h2 h3 K hK => op_move (mD_base rfl rfl) rfl hK))
            (Steps'.cons (Step.op rfl (fun D h1 h2 h3 K hK => op_bin (mD_done 24 (by decide) (pre_at h2 0 rfl rfl) rfl rfl rfl) (mD_done 25 (by decide) (pre_at h2 1 rfl rfl) rfl rfl rfl) (b32_add _ _) rfl hK))
            (Steps'.cons (Step.op rfl (fun D h1 h2 h3 K hK => op_move (mD_base rfl rfl) rfl hK))
            (Steps'.cons (Step.op rfl (fun D h1 h2 h3 K hK => op_indexA (mD_base rfl rfl) (mD_done 27 (by decide) (pre_at h2 0 rfl rfl) rfl rfl rfl) Tryd.underlying154 Tryd.sizeOf135 (by omega) (by omega) rfl hK))
            (Steps'.cons (Step.op rfl (fun D h1 h2 h3 K hK => op_load (mD_done 28 (by decide) (pre_at h2 0 rfl rfl) rfl rfl rfl) Tryd.isAgg135 (by first | with_reducible exact Pull.p0 | with_reducible exact Pull.p1 | with_reducible exact Pull.p2 | with_reducible exact Pull.p3 | with_reducible exact Pull.p4 | with_reducible exact Pull.p5 | with_reducible exact Pull.p6 | with_reducible exact Pull.p7 | with_reducible exact Pull.p8 | with_reducible exact Pull.p9) (mget w2 (k % 16) _ (by omega) (by rw [hwl2]; omega)) rfl hK))
            (Steps'.cons (Step.op rfl (fun D h1 h2 h3 K hK => op_bin (mD_done 26 (by decide) (pre_at h2 0 rfl rfl) rfl rfl rfl) (mD_done 29 (by decide) (pre_at h2 1 rfl rfl) rfl rfl rfl) (b32_add _ _) rfl hK))
            (Steps'.cons (Step.op rfl (fun D h1 h2 h3 K hK => op_assign (mD_done 30 (by decide) (pre_at h2 0 rfl rfl) rfl rfl rfl) rfl hK))
            Steps'.nil)))))))))))))))))))))))))))))))) ?_
          refine At.keep [(2, _), (4, _), (5, _), (6, _), (9, _), (45, _), (46, _), (15, _), (17, _)] (.cons rfl (.cons rfl (.cons rfl (.cons rfl (.cons rfl (.cons rfl (.cons rfl (.cons rfl (.cons rfl .nil))))))))) ?_
          refine At.then_n ?_
          refine At.seq ?_
          refine At.drawC [_, _, _, _, _, _, _, _, _, _, _, _, _, _, _, _, _, _, _, _, _, _, _, _, _, _] (by kernel_rfl) (by decide) (by kernel_rfl) 
            (Steps'.cons (Step.op rfl (fun D h1 h2 h3 K hK => op_move (mD_base rfl rfl) rfl hK))
            (Steps'.cons (Step.op rfl (fun D h1 h2 h3 K hK => op_move (mD_base rfl rfl) rfl hK))
            (Steps'.cons (Step.op rfl (fun D h1 h2 h3 K hK => op_callC1 (fs := []) (cap := []) (mD_done 0 (by decide) (pre_at h2 0 rfl rfl) rfl rfl rfl) (evs_cons (mD_done 1 (by decide) (pre_at h2 1 rfl rfl) rfl rfl rfl) (evs_cons rfl evs_nil)) Tryd.call87 rfl (sha_Step_1 _ 2 (by decide) (by decide)) rfl hK))
            (Steps'.cons (Step.op rfl (fun D h1 h2 h3 K hK => op_move (mD_base rfl rfl) rfl hK))
            (Steps'.cons (Step.op rfl (fun D h1 h2 h3 K hK => op_move (mD_base rfl rfl) rfl hK))
            (Steps'.cons (Step.op rfl (fun D h1 h2 h3 K hK => op_callC1 (fs := []) (cap := []) (mD_done 3 (by decide) (pre_at h2 0 rfl rfl) rfl rfl rfl) (evs_cons (mD_done 4 (by decide) (pre_at h2 1 rfl rfl) rfl rfl rfl) (evs_cons rfl evs_nil)) Tryd.call87 rfl (sha_Step_1 _ 13 (by decide) (by decide)) rfl hK))
            (Steps'.cons (Step.op rfl (fun D h1 h2 h3 K hK => op_bin (mD_done 2 (by decide) (pre_at h2 0 rfl rfl) rfl rfl rfl) (mD_done 5 (by decide) (pre_at h2 1 rfl rfl) rfl rfl rfl) (b32_xor _ _) rfl hK))
            (Steps'.cons (Step.op rfl (fun D h1 h2 h3 K hK => op_move (mD_base rfl rfl) rfl hK))
            (Steps'.cons (Step.op rfl (fun D h1 h2 h3 K hK => op_move (mD_base rfl rfl) rfl hK))
            (Steps'.cons (Step.op rfl (fun D h1 h2 h3 K hK => op_callC1 (fs := []) (cap := []) (mD_done 7 (by decide) (pre_at h2 0 rfl rfl) rfl rfl rfl) (evs_cons (mD_done 8 (by decide) (pre_at h2 1 rfl rfl) rfl rfl rfl) (evs_cons rfl evs_nil)) Tryd.call87 rfl (sha_Step_1 _ 22 (by decide) (by decide)) rfl hK))
            (Steps'.cons (Step.op rfl (fun D h1 h2 h3 K hK => op_bin (mD_done 6 (by decide) (pre_at h2 0 rfl rfl) rfl rfl rfl) (mD_done 9 (by decide) (pre_at h2 1 rfl rfl) rfl rfl rfl) (b32_xor _ _) rfl hK))
            (Steps'.cons (Step.op rfl (fun D h1 h2 h3 K hK => op_move (mD_base rfl rfl) rfl hK))
            (Steps'.cons (Step.op rfl (fun D h1 h2 h3 K hK => op_indexA (mD_base rfl rfl) rfl Tryd.underlying142 Tryd.sizeOf135 (by decide) (by decide) rfl hK))
            (Steps'.cons (Step.op rfl (fun D h1 h2 h3 K hK => op_load (mD_done 12 (by decide) (pre_at h2 0 rfl rfl) rfl rfl rfl) Tryd.isAgg135 (by first | with_reducible exact Pull.p0 | with_reducible exact Pull.p1 | with_reducible exact Pull.p2 | with_reducible exact Pull.p3 | with_reducible exact Pull.p4 | with_reducible exact Pull.p5 | with_reducible exact Pull.p6 | with_reducible exact Pull.p7 | with_reducible exact Pull.p8 | with_reducible exact Pull.p9) rfl rfl hK))
            (Steps'.cons (Step.op rfl (fun D h1 h2 h3 K hK => op_indexA (mD_base rfl rfl) rfl Tryd.underlying142 Tryd.sizeOf135 (by decide) (by decide) rfl hK))
            (Steps'.cons (Step.op rfl (fun D h1 h2 h3 K hK => op_load (mD_done 14 (by decide) (pre_at h2 0 rfl rfl) rfl rfl rfl) Tryd.isAgg135 (by first | with_reducible exact Pull.p0 | with_reducible exact Pull.p1 | with_reducible exact Pull.p2 | with_reducible exact Pull.p3 | with_reducible exact Pull.p4 | with_reducible exact Pull.p5 | with_reducible exact Pull.p6 | with_reducible exact Pull.p7 | with_reducible exact Pull.p8 | with_reducible exact Pull.p9) rfl rfl hK))
            (Steps'.cons (Step.op rfl (fun D h1 h2 h3 K hK => op_bin (mD_done 13 (by decide) (pre_at h2 0 rfl rfl) rfl rfl rfl) (mD_done 15 (by decide) (pre_at h2 1 rfl rfl) rfl rfl rfl) (b32_or _ _) rfl hK))
            (Steps'.cons (Step.op rfl (fun D h1 h2 h3 K hK => op_bin (mD_done 11 (by decide) (pre_at h2 0 rfl rfl) rfl rfl rfl) (mD_done 16 (by decide) (pre_at h2 1 rfl rfl) rfl rfl rfl) (b32_and _ _) rfl hK))
            (Steps'.cons (Step.op rfl (fun D h1 h2 h3 K hK => op_indexA (mD_base rfl rfl) rfl Tryd.underlying142 Tryd.sizeOf135 (by decide) (by decide) rfl hK))
            (Steps'.cons (Step.op rfl (fun D h1 h2 h3 K hK => op_load (mD_done 18 (by decide) (pre_at h2 0 rfl rfl) rfl rfl rfl) Tryd.isAgg135 (by first | with_reducible exact Pull.p0 | with_reducible exact Pull.p1 | with_reducible exact Pull.p2 | with_reducible exact Pull.p3 | with_reducible exact Pull.p4 | with_reducible exact Pull.p5 | with_reducible exact Pull.p6 | with_reducible exact Pull.p7 | with_reducible exact Pull.p8 | with_reducible exact Pull.p9) rfl rfl hK))
            (Steps'.cons (Step.op rfl (fun D h1 h2 h3 K hK => op_indexA (mD_base rfl rfl) rfl Tryd.underlying142 Tryd.sizeOf135 (by decide) (by decide) rfl hK))
            (Steps'.cons (Step.op rfl (fun D h1 h2 h3 K hK => op_load (mD_done 20 (by decide) (pre_at h2 0 rfl rfl) rfl rfl rfl) Tryd.isAgg135 (by first | with_reducible exact Pull.p0 | with_reducible exact Pull.p1 | with_reducible exact Pull.p2 | with_reducible exact Pull.p3 | with_reducible exact Pull.p4 | with_reducible exact Pull.p5 | with_reducible exact Pull.p6 | with_reducible exact Pull.p7 | with_reducible exact Pull.p8 | with_reducible exact Pull.p9) rfl rfl hK))
            (Steps'.cons (Step.op rfl (fun D h1 h2 h3 K hK => op_bin (mD_done 19 (by decide) (pre_at h2 0 rfl rfl) rfl rfl rfl) (mD_done 21 (by decide) (pre_at h2 1 rfl rfl) rfl rfl rfl) (b32_and _ _) rfl hK))
            (Steps'.cons (Step.op rfl (fun D h1 h2 h3 K hK => op_bin (mD_done 17 (by decide) (pre_at h2 0 rfl rfl) rfl rfl rfl) (mD_done 22 (by decide) (pre_at h2 1 rfl rfl) rfl rfl rfl) (b32_or _ _) rfl hK))
            (Steps'.cons (Step.op rfl (fun D h1 h2 h3 K hK => op_bin (mD_done 10 (by decide) (pre_at h2 0 rfl rfl) rfl rfl rfl) (mD_done 23 (by decide) (pre_at h2 1 rfl rfl) rfl rfl rfl) (b32_add _ _) rfl hK))
            (Steps'.cons (Step.op rfl (fun D h1 h2 h3 K hK => op_assign (mD_done 24 (by decide) (pre_at h2 0 rfl rfl) rfl rfl rfl) rfl hK))
            Steps'.nil)))))))))))))))))))))))))) ?_
          refine At.keep [(2, _), (4, _), (5, _), (6, _), (9, _), (45, _), (46, _), (17, _), (18, _)] (.cons rfl (.cons rfl (.cons rfl (.cons rfl (.cons rfl (.cons rfl (.cons rfl (.cons rfl (.cons rfl .nil))))))))) ?_
          refine At.then_n ?_
          refine At.seq ?_
          refine At.drawL [row b9 [u32 va, u32 va, u32 vb, u32 vc, u32 vd, u32 ve, u32 vf, u32 vg] 142 (0, 0), row b2 [u32 h.a, u32 h.b, u32 h.c, u32 h.d, u32 h.e, u32 h.f, u32 h.g, u32 h.h] 142 (0, 0), row b4 (List.replicate 8 (Value.int .u32 0)) 142 (0, 0), row b6 (w2.map u32) 154 (0, 0)] [_, _, _] (by kernel_rfl) (by decide) (by kernel_rfl) (by kernel_rfl) 
            (.cons (Step.op rfl (fun D h1 h2 h3 K hK => op_sl_arr_lo (mD_base rfl rfl) rfl Tryd.underlying142 Tryd.sizeOf135 (by decide) (by decide) rfl hK))
            (.cons (Step.op rfl (fun D h1 h2 h3 K hK => op_sl_arr_all (mD_base rfl rfl) Tryd.underlying142 Tryd.sizeOf135 rfl hK))
            (.last (Last.op rfl (fun D h2 K hK => op_copySame (cs := [u32 va, u32 vb, u32 vc, u32 vd, u32 ve, u32 vf, u32 vg, u32 vh]) (us := [u32 va, u32 vb, u32 vc, u32 vd, u32 ve, u32 vf, u32 vg]) (mD_done 0 (by decide) (pre_at h2 0 rfl rfl) rfl rfl rfl) (mD_done 1 (by decide) (pre_at h2 1 rfl rfl) rfl rfl rfl) Tryd.underlying156 (by kernel_rfl) (by first | with_reducible exact Pull.p0 | with_reducible exact Pull.p1 | with_reducible exact Pull.p2 | with_reducible exact Pull.p3 | with_reducible exact Pull.p4 | with_reducible exact Pull.p5 | with_reducible exact Pull.p6 | with_reducible exact Pull.p7 | with_reducible exact Pull.p8 | with_reducible exact Pull.p9) rfl rfl (Nat.le_refl 8) (List.forall_mem_cons.2 ⟨rfl, (List.forall_mem_cons.2 ⟨rfl, (List.forall_mem_cons.2 ⟨rfl, (List.forall_mem_cons.2 ⟨rfl, (List.forall_mem_cons.2 ⟨rfl, (List.forall_mem_cons.2 ⟨rfl, (List.forall_mem_cons.2 ⟨rfl, (fun _ h => by cases h)⟩)⟩)⟩)⟩)⟩)⟩)⟩) rfl (by exact hK)))
            ))) ?_
          refine At.keep [(2, _), (4, _), (5, _), (6, _), (9, _), (45, _), (46, _), (17, _), (18, _)] (.cons rfl (.cons rfl (.cons rfl (.cons rfl (.cons rfl (.cons rfl (.cons rfl (.cons rfl (.cons rfl .nil))))))))) ?_
          refine At.then_n ?_
          refine At.region ?_
          refine At.op rfl (op_move rfl rfl ?_)
          refine At.op rfl (op_move rfl rfl ?_)
          refine At.op rfl (op_bin rfl rfl (b32_add _ _) rfl ?_)
          refine At.op rfl (op_indexA rfl rfl Tryd.underlying142 Tryd.sizeOf135 (by decide) (by decide) rfl ?_)
          refine At.op rfl (op_load rfl Tryd.isAgg135 (by first | with_reducible exact Pull.p0 | with_reducible exact Pull.p1 | with_reducible exact Pull.p2 | with_reducible exact Pull.p3 | with_reducible exact Pull.p4 | with_reducible exact Pull.p5 | with_reducible exact Pull.p6 | with_reducible exact Pull.p7 | with_reducible exact Pull.p8 | with_reducible exact Pull.p9) rfl rfl ?_)
          refine At.op rfl (op_move rfl rfl ?_)
          refine At.op rfl (op_bin rfl rfl (b32_add _ _) rfl ?_)
          refine At.op rfl (op_indexA rfl rfl Tryd.underlying142 Tryd.sizeOf135 (by decide) (by decide) rfl ?_)
          refine At.op rfl (op_store rfl rfl Tryd.sizeOf135 rfl rfl (by first | with_reducible exact Pull.p0 | with_reducible exact Pull.p1 | with_reducible exact Pull.p2 | with_reducible exact Pull.p3 | with_reducible exact Pull.p4 | with_reducible exact Pull.p5 | with_reducible exact Pull.p6 | with_reducible exact Pull.p7 | with_reducible exact Pull.p8 | with_reducible exact Pull.p9) .zero rfl ?_)
          refine At.op rfl (op_indexA rfl rfl Tryd.underlying142 Tryd.sizeOf135 (by decide) (by decide) rfl ?_)
          refine At.op rfl (op_store rfl rfl Tryd.sizeOf135 rfl rfl (by first | with_reducible exact Pull.p0 | with_reducible exact Pull.p1 | with_reducible exact Pull.p2 | with_reducible exact Pull.p3 | with_reducible exact Pull.p4 | with_reducible exact Pull.p5 | with_reducible exact Pull.p6 | with_reducible exact Pull.p7 | with_reducible exact Pull.p8 | with_reducible exact Pull.p9) (.succ (.succ (.succ (.succ .zero)))) rfl ?_)
          refine At.nil ?_
          refine At.blk_n ?_
          refine At.then_n ?_
          refine At.region ?_
          refine At.op rfl (op_bin rfl rfl (b_add (by omega) (by omega)) rfl ?_)
          refine At.op rfl (op_move rfl rfl ?_)
          refine At.nil ?_
          refine At.then_n ?_
          have hit2 : it h (wAcc s 64) (k + 1) = (rnd k w2 ⟨va, vb, vc, vd, ve, vf, vg, vh⟩, w2) := by rw [it, hit, hw2]
          refine At.back (k + 1) (by omega) (by omega) (.cons rfl (.cons rfl (.cons rfl (.cons rfl (.cons rfl (.cons rfl (.cons rfl .nil))))))) (kk := []) ?_
          rw [hit2]
          exact (.cons (by first | exact Pull.p0 | exact Pull.p1 | exact Pull.p2 | exact Pull.p3 | exact Pull.p4 | exact Pull.p5 | exact Pull.p6 | exact Pull.p7 | exact Pull.p8 | exact Pull.p9) (.cons (by first | exact Pull.p0 | exact Pull.p1 | exact Pull.p2 | exact Pull.p3 | exact Pull.p4 | exact Pull.p5 | exact Pull.p6 | exact Pull.p7 | exact Pull.p8 | exact Pull.p9) (.cons (by first | exact Pull.p0 | exact Pull.p1 | exact Pull.p2 | exact Pull.p3 | exact Pull.p4 | exact Pull.p5 | exact Pull.p6 | exact Pull.p7 | exact Pull.p8 | exact Pull.p9) (.cons (by first | exact Pull.p0 | exact Pull.p1 | exact Pull.p2 | exact Pull.p3 | exact Pull.p4 | exact Pull.p5 | exact Pull.p6 | exact Pull.p7 | exact Pull.p8 | exact Pull.p9) .nil))))
      ·
        obtain rfl : k = 64 := by omega
        refine At.exit ?_
        refine At.then_e ?_
        refine At.then_e ?_
        refine At.blk_e ?_
        refine At.then_n ?_
        refine At.seq ?_
        refine At.seq ?_
        refine At.region ?_
        refine At.op rfl (op_move rfl rfl ?_)
        refine At.nil ?_
        refine At.then_n ?_
        refine At.block ?_
        obtain ⟨v, hv⟩ : ∃ v : V8, v = ⟨va, vb, vc, vd, ve, vf, vg, vh⟩ := ⟨_, rfl⟩
        rw [show [u32 va, u32 vb, u32 vc, u32 vd, u32 ve, u32 vf, u32 vg, u32 vh] = (addP v h 0).map u32 by rw [hv]; rfl]
        refine At.cut (rs' := (fun k => [row b2 [u32 h.a, u32 h.b, u32 h.c, u32 h.d, u32 h.e, u32 h.f, u32 h.g, u32 h.h] 142 (0, 0), row b4 (List.replicate 8 (Value.int .u32 0)) 142 (0, 0), row b9 ((addP v h k).map u32) 142 (0, 0)]) (0 : Nat)) (.cons (by first | exact Pull.p0 | exact Pull.p1 | exact Pull.p2 | exact Pull.p3 | exact Pull.p4 | exact Pull.p5 | exact Pull.p6 | exact Pull.p7 | exact Pull.p8 | exact Pull.p9) (.cons (by first | exact Pull.p0 | exact Pull.p1 | exact Pull.p2 | exact Pull.p3 | exact Pull.p4 | exact Pull.p5 | exact Pull.p6 | exact Pull.p7 | exact Pull.p8 | exact Pull.p9) (.cons (by first | exact Pull.p0 | exact Pull.p1 | exact Pull.p2 | exact Pull.p3 | exact Pull.p4 | exact Pull.p5 | exact Pull.p6 | exact Pull.p7 | exact Pull.p8 | exact Pull.p9) .nil))) ?_
        refine At.keep ((fun k => [(2, ptr b2 0), (4, ptr b4 0), (9, ptr b9 0), (169, i64 k)]) (0 : Nat)) (.cons rfl (.cons rfl (.cons rfl (.cons rfl .nil)))) ?_
        refine At.loop (σ := Nat) (fun k => k ≤ 8) (fun k => [(2, ptr b2 0), (4, ptr b4 0), (9, ptr b9 0), (169, i64 k)]) (fun k => [row b2 [u32 h.a, u32 h.b, u32 h.c, u32 h.d, u32 h.e, u32 h.f, u32 h.g, u32 h.h] 142 (0, 0), row b4 (List.replicate 8 (Value.int .u32 0)) 142 (0, 0), row b9 ((addP v h k).map u32) 142 (0, 0)]) (fun k => 8 - k) (0 : Nat) (Nat.zero_le _) ?_
        rintro k hk
        refine At.seq ?_
        refine At.region ?_
        refine At.op rfl (op_bin rfl rfl b_lt rfl ?_)
        refine At.nil ?_
        refine At.then_n ?_
        refine At.seq ?_
        refine At.cond_p rfl (fun hlt => ?_) (fun hlt => ?_)
        ·
          refine At.skip ?_
          refine At.then_n ?_
          refine At.seq ?_
          refine At.block ?_
          refine At.seq ?_
          refine At.region ?_
          refine At.op rfl (op_move rfl rfl ?_)
          refine At.op rfl (op_assign rfl rfl ?_)
          refine At.nil ?_
          refine At.then_n ?_
          refine At.drawL _ [_, _, _, _, _, _, _, _, undef] (by kernel_rfl) (by decide) (by kernel_rfl) (by kernel_rfl) 
            (.cons (Step.op rfl (fun D h1 h2 h3 K hK => op_move (mD_base rfl rfl) rfl hK))
            (.cons (Step.op rfl (fun D h1 h2 h3 K hK => op_indexA (mD_base rfl rfl) (mD_done 0 (by decide) (pre_at h2 0 rfl rfl) rfl rfl rfl) Tryd.underlying142 Tryd.sizeOf135 (by omega) (by omega) rfl hK))
            (.cons (Step.op rfl (fun D h1 h2 h3 K hK => op_load (mD_done 1 (by decide) (pre_at h2 0 rfl rfl) rfl rfl rfl) Tryd.isAgg135 (by first | with_reducible exact Pull.p0 | with_reducible exact Pull.p1 | with_reducible exact Pull.p2 | with_reducible exact Pull.p3 | with_reducible exact Pull.p4 | with_reducible exact Pull.p5 | with_reducible exact Pull.p6 | with_reducible exact Pull.p7 | with_reducible exact Pull.p8 | with_reducible exact Pull.p9) (mget (addP v h k) k _ (by omega) (by rw [addP_length]; omega)) rfl hK))
            (.cons (Step.op rfl (fun D h1 h2 h3 K hK => op_move (mD_base rfl rfl) rfl hK))
            (.cons (Step.op rfl (fun D h1 h2 h3 K hK => op_indexA (mD_base rfl rfl) (mD_done 3 (by decide) (pre_at h2 0 rfl rfl) rfl rfl rfl) Tryd.underlying142 Tryd.sizeOf135 (by omega) (by omega) rfl hK))
            (.cons (Step.op rfl (fun D h1 h2 h3 K hK => op_load (mD_done 4 (by decide) (pre_at h2 0 rfl rfl) rfl rfl rfl) Tryd.isAgg135 (by first | with_reducible exact Pull.p0 | with_reducible exact Pull.p1 | with_reducible exact Pull.p2 | with_reducible exact Pull.p3 | with_reducible exact Pull.p4 | with_reducible exact Pull.p5 | with_reducible exact Pull.p6 | with_reducible exact Pull.p7 | with_reducible exact Pull.p8 | with_reducible exact Pull.p9) (hgetV h k _ (by omega) (by omega)) rfl hK))
            (.cons (Step.op rfl (fun D h1 h2 h3 K hK => op_bin (mD_done 2 (by decide) (pre_at h2 0 rfl rfl) rfl rfl rfl) (mD_done 5 (by decide) (pre_at h2 1 rfl rfl) rfl rfl rfl) (b32_add _ _) rfl hK))
            (.cons (Step.op rfl (fun D h1 h2 h3 K hK => op_indexA (mD_base rfl rfl) (mD_done 0 (by decide) (pre_at h2 0 rfl rfl) rfl rfl rfl) Tryd.underlying142 Tryd.sizeOf135 (by omega) (by omega) rfl hK))
            (.last (Last.op rfl (fun D h2 K hK => op_store (mD_done 7 (by decide) (pre_at h2 0 rfl rfl) rfl rfl rfl) (mD_done 6 (by decide) (pre_at h2 1 rfl rfl) rfl rfl rfl) Tryd.sizeOf135 rfl rfl (by first | with_reducible exact Pull.p0 | with_reducible exact Pull.p1 | with_reducible exact Pull.p2 | with_reducible exact Pull.p3 | with_reducible exact Pull.p4 | with_reducible exact Pull.p5 | with_reducible exact Pull.p6 | with_reducible exact Pull.p7 | with_reducible exact Pull.p8 | with_reducible exact Pull.p9) (mset (addP v h k) k _ _ (by omega) (by rw [addP_length]; omega)) rfl (by exact hK)))
            ))))))))) ?_
          refine At.keep [(2, _), (4, _), (9, _), (169, _)] (.cons rfl (.cons rfl (.cons rfl (.cons rfl .nil)))) ?_
          refine At.blk_n ?_
          refine At.then_n ?_
          refine At.region ?_
          refine At.op rfl (op_bin rfl rfl (b_add (by omega) (by omega)) rfl ?_)
          refine At.op rfl (op_move rfl rfl ?_)
          refine At.nil ?_
          refine At.then_n ?_
          rw [addP_step v h k (by omega)]
          exact At.back (k + 1) (by omega) (by omega) (.cons rfl (.cons rfl (.cons rfl (.cons rfl .nil)))) (.cons (by first | with_reducible exact Pull.p0 | with_reducible exact Pull.p1 | with_reducible exact Pull.p2 | with_reducible exact Pull.p3 | with_reducible exact Pull.p4 | with_reducible exact Pull.p5 | with_reducible exact Pull.p6 | with_reducible exact Pull.p7 | with_reducible exact Pull.p8 | with_reducible exact Pull.p9) (.cons (by first | with_reducible exact Pull.p0 | with_reducible exact Pull.p1 | with_reducible exact Pull.p2 | with_reducible exact Pull.p3 | with_reducible exact Pull.p4 | with_reducible exact Pull.p5 | with_reducible exact Pull.p6 | with_reducible exact Pull.p7 | with_reducible exact Pull.p8 | with_reducible exact Pull.p9) (.cons (by first | with_reducible exact Pull.p0 | with_reducible exact Pull.p1 | with_reducible exact Pull.p2 | with_reducible exact Pull.p3 | with_reducible exact Pull.p4 | with_reducible exact Pull.p5 | with_reducible exact Pull.p6 | with_reducible exact Pull.p7 | with_reducible exact Pull.p8 | with_reducible exact Pull.p9) .nil)))
        ·
          obtain rfl : k = 8 := by omega
          refine At.exit ?_
          refine At.then_e ?_
          refine At.then_e ?_
          refine At.blk_e ?_
          refine At.then_n ?_
          refine At.seq ?_
          refine At.region ?_
          refine At.op rfl (op_loadW rfl Tryd.isAgg142 Tryd.sizeOf142 (by first | with_reducible exact Pull.p0 | with_reducible exact Pull.p1 | with_reducible exact Pull.p2 | with_reducible exact Pull.p3 | with_reducible exact Pull.p4 | with_reducible exact Pull.p5 | with_reducible exact Pull.p6 | with_reducible exact Pull.p7 | with_reducible exact Pull.p8 | with_reducible exact Pull.p9) rfl rfl ?_)
          refine At.op rfl (op_storeW rfl rfl Tryd.sizeOf142 (fun v hv => by obtain ⟨x, _, rfl⟩ := List.mem_map.1 hv; rfl) (by first | with_reducible exact Pull.p0 | with_reducible exact Pull.p1 | with_reducible exact Pull.p2 | with_reducible exact Pull.p3 | with_reducible exact Pull.p4 | with_reducible exact Pull.p5 | with_reducible exact Pull.p6 | with_reducible exact Pull.p7 | with_reducible exact Pull.p8 | with_reducible exact Pull.p9) (by rw [List.length_map, addP_length]) rfl ?_)
          refine At.nil ?_
          refine At.then_n ?_
          refine At.ret ?_
          refine At.finA rfl rfl rfl (by first | with_reducible exact Pull.p0 | with_reducible exact Pull.p1 | with_reducible exact Pull.p2 | with_reducible exact Pull.p3 | with_reducible exact Pull.p4 | with_reducible exact Pull.p5 | with_reducible exact Pull.p6 | with_reducible exact Pull.p7 | with_reducible exact Pull.p8 | with_reducible exact Pull.p9) Tryd.isAgg142 Tryd.sizeOf142 (by rw [List.length_map, addP_length]) ⟨?_, rfl⟩ .nil
          rw [stepS, hit, ← hv]; rfl
end Go.Proofs.YteckdahgkkmlaaaDoor
end

section
set_option maxRecDepth 20000
set_option linter.unusedVariables false
set_option linter.unusedSimpArgs false
namespace Go.Proofs.YteckdahgkkmlaaaDoor
open Go SL
variable {G : List (Nat × Obj)}
theorem sha_Sum (hG : GOK G) (pb : Nat) (ls : List (List UInt8)) (h1 : ls.length < 1000000) (h2 : ls.flatten.length < 100000000) : Does Tryd.prog G 60 [slc pb 0 ls.length ls.length] [row pb (ls.map str) 9 (0, 0)] (OneR (.agg ((shaB ls.flatten).map u8).toArray) [row pb (ls.map str) 9 (0, 0)]) := by
  refine Does.of Tryd.func60 rfl Tryd.ntmps60 rfl (fun w0 => ?_)
  refine At.keep [(0, _)] (.cons rfl .nil) ?_
  refine At.seq ?_
  refine At.region ?_
  refine At.op rfl (op_alloc Tryd.zeroValue120 rfl rfl ?_)
  intro b2
  refine At.nil ?_
  refine At.then_n ?_
  refine At.seq ?_
  refine At.region ?_
  refine At.op rfl (op_move rfl rfl ?_)
  refine At.op rfl (op_callR rfl Tryd.call76 (strings_Join pb ls.length 9 (0, 0) ls [] (by omega) (Nat.le_refl _) (by rw [join_sep0]; omega)) (.cons (by first | with_reducible exact Pull.p0 | with_reducible exact Pull.p1 | with_reducible exact Pull.p2 | with_reducible exact Pull.p3 | with_reducible exact Pull.p4 | with_reducible exact Pull.p5 | with_reducible exact Pull.p6 | with_reducible exact Pull.p7 | with_reducible exact Pull.p8 | with_reducible exact Pull.p9) .nil) rfl ?_)
  refine At.app1 ?_
  rw [join_sep0]
  refine At.op rfl (op_assign rfl rfl ?_)
  refine At.nil ?_
  refine At.then_n ?_
  refine At.seq ?_
  refine At.region ?_
  refine At.op rfl (op_move rfl rfl ?_)
  refine At.op rfl (op_move rfl rfl ?_)
  refine At.op rfl (op_len_str rfl Tryd.underlying9 rfl ?_)
  refine At.op rfl (op_call1 rfl Tryd.call77 (sha_Fill ls.flatten.length (by omega)) rfl ?_)
  refine At.op rfl (op_bin rfl rfl (b_cat (by have := fillS_le ls.flatten.length; omega)) rfl ?_)
  refine At.op rfl (op_assign rfl rfl ?_)
  refine At.nil ?_
  refine At.then_n ?_
  refine At.seq ?_
  refine At.region ?_
  refine At.op rfl (op_build (v := iv.val) rfl (fun w => run_build w _ _ _ (by kernel_rfl)) rfl ?_)
  refine At.op rfl (op_alloc Tryd.zeroValue142 rfl rfl ?_)
  intro b4
  refine At.op rfl (op_storeW rfl rfl Tryd.sizeOf142 (by repeat' (first | refine List.forall_mem_cons.2 ⟨rfl, ?_⟩ | exact (fun _ h => by cases h))) (by first | with_reducible exact Pull.p0 | with_reducible exact Pull.p1 | with_reducible exact Pull.p2 | with_reducible exact Pull.p3 | with_reducible exact Pull.p4 | with_reducible exact Pull.p5 | with_reducible exact Pull.p6 | with_reducible exact Pull.p7 | with_reducible exact Pull.p8 | with_reducible exact Pull.p9) rfl rfl ?_)
  refine At.nil ?_
  refine At.then_n ?_
  refine At.seq ?_
  refine At.block ?_
  refine At.cut (rs' := (fun s => [row pb (ls.map str) 9 (0, 0), row b2 (List.replicate 32 (Value.int .u8 0)) 120 (0, 0), row b4 [u32 s.2.1.a, u32 s.2.1.b, u32 s.2.1.c, u32 s.2.1.d, u32 s.2.1.e, u32 s.2.1.f, u32 s.2.1.g, u32 s.2.1.h] 142 (0, 0)]) (((ls.flatten.length + (fillS ls.flatten.length).length) / 64, iv, ls.flatten ++ fillS ls.flatten.length) : Nat × V8 × List UInt8)) (.cons (by first | exact Pull.p0 | exact Pull.p1 | exact Pull.p2 | exact Pull.p3 | exact Pull.p4 | exact Pull.p5 | exact Pull.p6 | exact Pull.p7 | exact Pull.p8 | exact Pull.p9) (.cons (by first | exact Pull.p0 | exact Pull.p1 | exact Pull.p2 | exact Pull.p3 | exact Pull.p4 | exact Pull.p5 | exact Pull.p6 | exact Pull.p7 | exact Pull.p8 | exact Pull.p9) (.cons (by first | exact Pull.p0 | exact Pull.p1 | exact Pull.p2 | exact Pull.p3 | exact Pull.p4 | exact Pull.p5 | exact Pull.p6 | exact Pull.p7 | exact Pull.p8 | exact Pull.p9) .nil))) ?_
  refine At.keep ((fun s => [(2, ptr b2 0), (3, str s.2.2), (4, ptr b4 0)]) (((ls.flatten.length + (fillS ls.flatten.length).length) / 64, iv, ls.flatten ++ fillS ls.flatten.length) : Nat × V8 × List UInt8)) (.cons rfl (.cons rfl (.cons rfl .nil))) ?_
  refine At.loop (σ := Nat × V8 × List UInt8) (fun s => s.2.2.length = 64 * s.1 ∧ foldS s.1 s.2.1 s.2.2 = shaV ls.flatten) (fun s => [(2, ptr b2 0), (3, str s.2.2), (4, ptr b4 0)]) (fun s => [row pb (ls.map str) 9 (0, 0), row b2 (List.replicate 32 (Value.int .u8 0)) 120 (0, 0), row b4 [u32 s.2.1.a, u32 s.2.1.b, u32 s.2.1.c, u32 s.2.1.d, u32 s.2.1.e, u32 s.2.1.f, u32 s.2.1.g, u32 s.2.1.h] 142 (0, 0)]) (fun s => s.1) (((ls.flatten.length + (fillS ls.flatten.length).length) / 64, iv, ls.flatten ++ fillS ls.flatten.length) : Nat × V8 × List UInt8) ⟨by dsimp only; rw [List.length_append]; have := fillS_length ls.flatten.length; omega, by dsimp only; unfold shaV; rfl⟩ ?_
  rintro ⟨n, h, rest⟩ ⟨hl, hf⟩
  dsimp only at hl hf ⊢
  refine At.seq ?_
  refine At.seq ?_
  refine At.region ?_
  refine At.op rfl (op_move rfl rfl ?_)
  refine At.op rfl (op_bin rfl rfl (b_sne  (b := [])) rfl ?_)
  refine At.nil ?_
  refine At.then_n ?_
  refine At.cond_np rfl (fun hne => ?_) (fun hne => ?_)
  ·
    obtain ⟨n, rfl⟩ : ∃ n', n = n' + 1 := by
      rcases n with _ | n
      · exact absurd (List.eq_nil_of_length_eq_zero (by omega)) hne
      · exact ⟨n, rfl⟩
    refine At.skip ?_
    refine At.then_n ?_
    refine At.seq ?_
    refine At.block ?_
    refine At.drawL _ [_, _, _, _, undef] (by kernel_rfl) (by decide) (by kernel_rfl) (by kernel_rfl) 
      (.cons (Step.op rfl (fun D h1 h2 h3 K hK => op_loadW (mD_base rfl rfl) Tryd.isAgg142 Tryd.sizeOf142 (by first | with_reducible exact Pull.p0 | with_reducible exact Pull.p1 | with_reducible exact Pull.p2 | with_reducible exact Pull.p3 | with_reducible exact Pull.p4 | with_reducible exact Pull.p5 | with_reducible exact Pull.p6 | with_reducible exact Pull.p7 | with_reducible exact Pull.p8 | with_reducible exact Pull.p9) rfl rfl hK))
      (.cons (Step.op rfl (fun D h1 h2 h3 K hK => op_move (mD_base rfl rfl) rfl hK))
      (.cons (Step.op rfl (fun D h1 h2 h3 K hK => op_sl_str_hi (mD_done 1 (by decide) (pre_at h2 0 rfl rfl) rfl rfl rfl) rfl Tryd.underlying9 (by omega) (by omega) rfl hK))
      (.cons (Step.op rfl (fun D h1 h2 h3 K hK => op_call1 (evs_cons (mD_done 0 (by decide) (pre_at h2 0 rfl rfl) rfl rfl rfl) (evs_cons (mD_done 2 (by decide) (pre_at h2 1 rfl rfl) rfl rfl rfl) evs_nil)) Tryd.call78 (sha_Step hG h (rest.take 64) (by rw [List.length_take]; omega)) rfl hK))
      (.last (Last.op rfl (fun D h2 K hK => op_storeW (mD_base rfl rfl) (mD_done 3 (by decide) (pre_at h2 0 rfl rfl) rfl rfl rfl) Tryd.sizeOf142 (V8.one (stepS h (rest.take 64))) (by first | with_reducible exact Pull.p0 | with_reducible exact Pull.p1 | with_reducible exact Pull.p2 | with_reducible exact Pull.p3 | with_reducible exact Pull.p4 | with_reducible exact Pull.p5 | with_reducible exact Pull.p6 | with_reducible exact Pull.p7 | with_reducible exact Pull.p8 | with_reducible exact Pull.p9) rfl rfl (by exact hK)))
      ))))) ?_
    refine At.keep [(2, _), (3, _), (4, _)] (.cons rfl (.cons rfl (.cons rfl .nil))) ?_
    refine At.blk_n ?_
    refine At.then_n ?_
    refine At.region ?_
    refine At.op rfl (op_move rfl rfl ?_)
    refine At.op rfl (op_sl_str_lo rfl rfl Tryd.underlying9 (by omega) (by omega) rfl ?_)
    refine At.op rfl (op_assign rfl rfl ?_)
    refine At.nil ?_
    refine At.then_n ?_
    refine At.back (n, stepS h (rest.take 64), rest.drop 64) ⟨by dsimp only; rw [List.length_drop]; omega, hf⟩ (by dsimp only; omega) (.cons rfl (.cons rfl (.cons rfl .nil))) (.cons (by first | with_reducible exact Pull.p0 | with_reducible exact Pull.p1 | with_reducible exact Pull.p2 | with_reducible exact Pull.p3 | with_reducible exact Pull.p4 | with_reducible exact Pull.p5 | with_reducible exact Pull.p6 | with_reducible exact Pull.p7 | with_reducible exact Pull.p8 | with_reducible exact Pull.p9) (.cons (by first | with_reducible exact Pull.p0 | with_reducible exact Pull.p1 | with_reducible exact Pull.p2 | with_reducible exact Pull.p3 | with_reducible exact Pull.p4 | with_reducible exact Pull.p5 | with_reducible exact Pull.p6 | with_reducible exact Pull.p7 | with_reducible exact Pull.p8 | with_reducible exact Pull.p9) (.cons (by first | with_reducible exact Pull.p0 | with_reducible exact Pull.p1 | with_reducible exact Pull.p2 | with_reducible exact Pull.p3 | with_reducible exact Pull.p4 | with_reducible exact Pull.p5 | with_reducible exact Pull.p6 | with_reducible exact Pull.p7 | with_reducible exact Pull.p8 | with_reducible exact Pull.p9) .nil)))
  ·
    obtain rfl : n = 0 := by
      rw [hne] at hl; simp at hl; omega
    have hH : h = shaV ls.flatten := hf
    subst hH
    refine At.exit ?_
    refine At.then_e ?_
    refine At.then_e ?_
    refine At.blk_e ?_
    refine At.then_n ?_
    refine At.seq ?_
    refine At.seq ?_
    refine At.region ?_
    refine At.op rfl (op_move rfl rfl ?_)
    refine At.nil ?_
    refine At.then_n ?_
    refine At.block ?_
    rw [show List.replicate 32 (Value.int .u8 0) = (outL (shaV ls.flatten) 0).map u8 from rfl]
    refine At.cut (rs' := (fun k => [row pb (ls.map str) 9 (0, 0), row b2 ((outL (shaV ls.flatten) k).map u8) 120 (0, 0), row b4 [u32 (shaV ls.flatten).a, u32 (shaV ls.flatten).b, u32 (shaV ls.flatten).c, u32 (shaV ls.flatten).d, u32 (shaV ls.flatten).e, u32 (shaV ls.flatten).f, u32 (shaV ls.flatten).g, u32 (shaV ls.flatten).h] 142 (0, 0)]) (0 : Nat)) (.cons (by first | exact Pull.p0 | exact Pull.p1 | exact Pull.p2 | exact Pull.p3 | exact Pull.p4 | exact Pull.p5 | exact Pull.p6 | exact Pull.p7 | exact Pull.p8 | exact Pull.p9) (.cons (by first | exact Pull.p0 | exact Pull.p1 | exact Pull.p2 | exact Pull.p3 | exact Pull.p4 | exact Pull.p5 | exact Pull.p6 | exact Pull.p7 | exact Pull.p8 | exact Pull.p9) (.cons (by first | exact Pull.p0 | exact Pull.p1 | exact Pull.p2 | exact Pull.p3 | exact Pull.p4 | exact Pull.p5 | exact Pull.p6 | exact Pull.p7 | exact Pull.p8 | exact Pull.p9) .nil))) ?_
    refine At.keep ((fun k => [(2, ptr b2 0), (4, ptr b4 0), (22, i64 k)]) (0 : Nat)) (.cons rfl (.cons rfl (.cons rfl .nil))) ?_
    refine At.loop (σ := Nat) (fun k => k ≤ 32) (fun k => [(2, ptr b2 0), (4, ptr b4 0), (22, i64 k)]) (fun k => [row pb (ls.map str) 9 (0, 0), row b2 ((outL (shaV ls.flatten) k).map u8) 120 (0, 0), row b4 [u32 (shaV ls.flatten).a, u32 (shaV ls.flatten).b, u32 (shaV ls.flatten).c, u32 (shaV ls.flatten).d, u32 (shaV ls.flatten).e, u32 (shaV ls.flatten).f, u32 (shaV ls.flatten).g, u32 (shaV ls.flatten).h] 142 (0, 0)]) (fun k => 32 - k) (0 : Nat) (Nat.zero_le _) ?_
    rintro k hk
    refine At.seq ?_
    refine At.region ?_
    refine At.op rfl (op_bin rfl rfl b_lt rfl ?_)
    refine At.nil ?_
    refine At.then_n ?_
    refine At.seq ?_
    refine At.cond_p rfl (fun hlt => ?_) (fun hlt => ?_)
    ·
      refine At.skip ?_
      refine At.then_n ?_
      refine At.seq ?_
      refine At.block ?_
      refine At.seq ?_
      refine At.region ?_
      refine At.op rfl (op_move rfl rfl ?_)
      refine At.op rfl (op_assign rfl rfl ?_)
      refine At.nil ?_
      refine At.then_n ?_
      refine At.region ?_
      refine At.op rfl (op_move rfl rfl ?_)
      refine At.op rfl (op_move rfl rfl ?_)
      refine At.op rfl (op_bin rfl rfl (b_quo (by omega) (by omega) (by decide)) rfl ?_)
      refine At.op rfl (op_indexA rfl rfl Tryd.underlying142 Tryd.sizeOf135 (by omega) (by omega) rfl ?_)
      refine At.op rfl (op_load rfl Tryd.isAgg135 (by first | with_reducible exact Pull.p0 | with_reducible exact Pull.p1 | with_reducible exact Pull.p2 | with_reducible exact Pull.p3 | with_reducible exact Pull.p4 | with_reducible exact Pull.p5 | with_reducible exact Pull.p6 | with_reducible exact Pull.p7 | with_reducible exact Pull.p8 | with_reducible exact Pull.p9) (hgetV (shaV ls.flatten) (k / 4) _ (by omega) (by omega)) rfl ?_)
      refine At.op rfl (op_move rfl rfl ?_)
      refine At.op rfl (op_bin rfl rfl (b_rem (by omega) (by decide)) rfl ?_)
      refine At.op rfl (op_bin rfl rfl (b_mul (by omega) (by omega)) rfl ?_)
      refine At.op rfl (op_bin rfl rfl (Bin.cast (v' := i64 ((24 - 8 * (k % 4) : Nat) : Int)) (b_sub (by omega) (by omega)) (by congr 1; omega)) rfl ?_)
      refine At.op rfl (op_bin rfl rfl (b32_shr _ _ (24 - 8 * (k % 4)) (by omega)) rfl ?_)
      refine At.op rfl (op_conv rfl (cv_u32_u8 Tryd.underlying135 Tryd.underlying5 _) rfl ?_)
      refine At.op rfl (op_indexA rfl rfl Tryd.underlying120 Tryd.sizeOf5 (by omega) (by omega) rfl ?_)
      refine At.op rfl (op_store rfl rfl Tryd.sizeOf5 rfl rfl (by first | with_reducible exact Pull.p0 | with_reducible exact Pull.p1 | with_reducible exact Pull.p2 | with_reducible exact Pull.p3 | with_reducible exact Pull.p4 | with_reducible exact Pull.p5 | with_reducible exact Pull.p6 | with_reducible exact Pull.p7 | with_reducible exact Pull.p8 | with_reducible exact Pull.p9) (bset (outL (shaV ls.flatten) k) k _ _ (by omega) (by rw [outL_length _ _ (by omega)]; omega)) rfl ?_)
      rw [show ((shaV ls.flatten).list.getD (k / 4) 0 >>> UInt32.ofNat (24 - 8 * (k % 4))).toUInt8 = outB (shaV ls.flatten) k from rfl, outL_step (shaV ls.flatten) k (by omega)]
      refine At.nil ?_
      refine At.blk_n ?_
      refine At.then_n ?_
      refine At.keep [(2, _), (4, _), (22, _)] (.cons rfl (.cons rfl (.cons rfl .nil))) ?_
      refine At.region ?_
      refine At.op rfl (op_bin rfl rfl (b_add (by omega) (by omega)) rfl ?_)
      refine At.op rfl (op_move rfl rfl ?_)
      refine At.nil ?_
      refine At.then_n ?_
      exact At.back (k + 1) (by omega) (by omega) (.cons rfl (.cons rfl (.cons rfl .nil))) (.cons (by first | with_reducible exact Pull.p0 | with_reducible exact Pull.p1 | with_reducible exact Pull.p2 | with_reducible exact Pull.p3 | with_reducible exact Pull.p4 | with_reducible exact Pull.p5 | with_reducible exact Pull.p6 | with_reducible exact Pull.p7 | with_reducible exact Pull.p8 | with_reducible exact Pull.p9) (.cons (by first | with_reducible exact Pull.p0 | with_reducible exact Pull.p1 | with_reducible exact Pull.p2 | with_reducible exact Pull.p3 | with_reducible exact Pull.p4 | with_reducible exact Pull.p5 | with_reducible exact Pull.p6 | with_reducible exact Pull.p7 | with_reducible exact Pull.p8 | with_reducible exact Pull.p9) (.cons (by first | with_reducible exact Pull.p0 | with_reducible exact Pull.p1 | with_reducible exact Pull.p2 | with_reducible exact Pull.p3 | with_reducible exact Pull.p4 | with_reducible exact Pull.p5 | with_reducible exact Pull.p6 | with_reducible exact Pull.p7 | with_reducible exact Pull.p8 | with_reducible exact Pull.p9) .nil)))
    ·
      obtain rfl : k = 32 := by omega
      refine At.exit ?_
      refine At.then_e ?_
      refine At.then_e ?_
      refine At.blk_e ?_
      refine At.then_n ?_
      refine At.seq ?_
      refine At.region ?_
      refine At.op rfl (op_loadW rfl Tryd.isAgg120 Tryd.sizeOf120 (by first | with_reducible exact Pull.p0 | with_reducible exact Pull.p1 | with_reducible exact Pull.p2 | with_reducible exact Pull.p3 | with_reducible exact Pull.p4 | with_reducible exact Pull.p5 | with_reducible exact Pull.p6 | with_reducible exact Pull.p7 | with_reducible exact Pull.p8 | with_reducible exact Pull.p9) (by rw [List.length_map, outL_length _ _ (by omega)]) rfl ?_)
      refine At.op rfl (op_storeW rfl rfl Tryd.sizeOf120 (fun v hv => by obtain ⟨x, _, rfl⟩ := List.mem_map.1 hv; rfl) (by first | with_reducible exact Pull.p0 | with_reducible exact Pull.p1 | with_reducible exact Pull.p2 | with_reducible exact Pull.p3 | with_reducible exact Pull.p4 | with_reducible exact Pull.p5 | with_reducible exact Pull.p6 | with_reducible exact Pull.p7 | with_reducible exact Pull.p8 | with_reducible exact Pull.p9) (by rw [List.length_map, outL_length _ _ (by omega)]) (by rw [List.length_map, outL_length _ _ (by omega)]) ?_)
      refine At.nil ?_
      refine At.then_n ?_
      refine At.ret ?_
      refine At.finA rfl rfl rfl (by first | with_reducible exact Pull.p0 | with_reducible exact Pull.p1 | with_reducible exact Pull.p2 | with_reducible exact Pull.p3 | with_reducible exact Pull.p4 | with_reducible exact Pull.p5 | with_reducible exact Pull.p6 | with_reducible exact Pull.p7 | with_reducible exact Pull.p8 | with_reducible exact Pull.p9) Tryd.isAgg120 Tryd.sizeOf120 (by rw [List.length_map, outL_length _ _ (by omega)]) ⟨?_, rfl⟩ (.cons (by first | with_reducible exact Pull.p0 | with_reducible exact Pull.p1 | with_reducible exact Pull.p2 | with_reducible exact Pull.p3 | with_reducible exact Pull.p4 | with_reducible exact Pull.p5 | with_reducible exact Pull.p6 | with_reducible exact Pull.p7 | with_reducible exact Pull.p8 | with_reducible exact Pull.p9) .nil)
      rw [outL_end]
theorem frame_sum (hG : GOK G) (s : List UInt8) (hs : s.length < 100000000) : Does Tryd.prog G 34 [str s] [] (One (str ((shaB s).take 16))) := by
  refine Does.of Tryd.func34 rfl Tryd.ntmps34 rfl (fun w0 => ?_)
  refine At.keep [(0, _)] (.cons rfl .nil) ?_
  refine At.seq ?_
  refine At.region ?_
  refine At.op rfl (op_assign rfl rfl ?_)
  refine At.nil ?_
  refine At.then_n ?_
  refine At.seq ?_
  refine At.region ?_
  refine At.op rfl (op_move rfl rfl ?_)
  refine At.op rfl (op_buildSlice1 [_] rfl rfl Tryd.underlying44 et9 rfl (by decide) (List.forall_mem_cons.2 ⟨rfl, (fun _ h => by cases h)⟩) rfl ?_)
  intro pb
  refine At.op rfl (op_callR rfl Tryd.call60 (sha_Sum hG pb [s] (by simp) (by simpa using hs)) (.cons (by first | exact Pull.p0 | exact Pull.p1 | exact Pull.p2 | exact Pull.p3 | exact Pull.p4 | exact Pull.p5 | exact Pull.p6 | exact Pull.p7 | exact Pull.p8 | exact Pull.p9) .nil) rfl ?_)
  refine At.app1 ?_
  rw [show [s].flatten = s by simp]
  refine At.op rfl (op_alloc Tryd.zeroValue120 rfl rfl ?_)
  intro b3
  refine At.op rfl (op_storeW rfl rfl Tryd.sizeOf120 (fun v hv => by obtain ⟨x, _, rfl⟩ := List.mem_map.1 hv; rfl) (by first | with_reducible exact Pull.p0 | with_reducible exact Pull.p1 | with_reducible exact Pull.p2 | with_reducible exact Pull.p3 | with_reducible exact Pull.p4 | with_reducible exact Pull.p5 | with_reducible exact Pull.p6 | with_reducible exact Pull.p7 | with_reducible exact Pull.p8 | with_reducible exact Pull.p9) (by rw [List.length_map, shaB_length]) rfl ?_)
  refine At.nil ?_
  refine At.then_n ?_
  refine At.seq ?_
  refine At.region ?_
  refine At.op rfl (op_sl_arr rfl rfl Tryd.underlying120 Tryd.sizeOf5 (by decide) (by decide) rfl ?_)
  refine At.op rfl (op_b2sR rfl Tryd.underlying88 Tryd.underlying9 Tryd.underlying5 (by first | with_reducible exact Pull.p0 | with_reducible exact Pull.p1 | with_reducible exact Pull.p2 | with_reducible exact Pull.p3 | with_reducible exact Pull.p4 | with_reducible exact Pull.p5 | with_reducible exact Pull.p6 | with_reducible exact Pull.p7 | with_reducible exact Pull.p8 | with_reducible exact Pull.p9) (l := (shaB s).take 16) (by rw [List.drop_zero, List.map_take]; rfl) (by rw [List.length_take, shaB_length]; rfl) rfl ?_)
  refine At.op rfl (op_assign rfl rfl ?_)
  refine At.nil ?_
  refine At.then_n ?_
  refine At.ret ?_
  exact At.fin1 rfl rfl rfl ⟨rfl, rfl⟩ .nil
end Go.Proofs.YteckdahgkkmlaaaDoor
end

section
set_option maxRecDepth 20000
set_option linter.unusedVariables false
set_option linter.unusedSimpArgs false
namespace Go.Proofs.YteckdahgkkmlaaaDoor
open Go SL
variable {G : List (Nat × Obj)}
def bodyF (k : UInt8) (q : UInt64) (t : List UInt8) : List UInt8 := [k] ++ leB q.toNat 8 ++ (leB t.length 2 ++ t)
theorem bodyF_length (k : UInt8) (q : UInt64) (t : List UInt8) : (bodyF k q t).length = 11 + t.length := by
  simp [bodyF, leB_length]; omega
def putB (k : UInt8) (q : UInt64) (t : List UInt8) : List UInt8 := bodyF k q t ++ List.replicate (240 - (bodyF k q t).length) 0
theorem putB_length (k : UInt8) (q : UInt64) (t : List UInt8) (h : t.length ≤ 229) : (putB k q t).length = 240 := by
  simp [putB, bodyF_length]; omega
def putS (k : UInt8) (q : UInt64) (t : List UInt8) : List UInt8 := putB k q t ++ (shaB (putB k q t)).take 16
def putV (k : UInt8) (q : UInt64) (t : List UInt8) : Value :=
  if k = 0 then .tuple #[str [], i64 1] else if 229 < t.length then .tuple #[str [], i64 11] else .tuple #[str (putS k q t), i64 0]
def frmV (k : UInt8) (q : UInt64) (t : List UInt8) : Value := .agg [u8 k, u64 q, str t].toArray
theorem frame_Put (hG : GOK G) (k : UInt8) (q : UInt64) (t : List UInt8) (ht : t.length < 1000000) : Does Tryd.prog G 19 [frmV k q t] [] (One (putV k q t)) := by
  refine Does.of Tryd.func19 rfl Tryd.ntmps19 rfl (fun w0 => ?_)
  refine At.keep [(0, _)] (.cons rfl .nil) ?_
  refine At.seq ?_
  refine At.region ?_
  refine At.op rfl (op_box rfl rfl rfl ?_)
  intro b1
  refine At.op rfl (op_assign rfl rfl ?_)
  refine At.op rfl (op_assign rfl rfl ?_)
  refine At.nil ?_
  refine At.then_n ?_
  refine At.seq ?_
  refine At.block ?_
  refine At.seq ?_
  refine At.region ?_
  refine At.op rfl (op_fieldAddr (o' := 0) rfl Tryd.underlying68 rfl Tryd.sizeOf5 rfl rfl ?_)
  refine At.op rfl (op_load rfl Tryd.isAgg5 (by first | with_reducible exact Pull.p0 | with_reducible exact Pull.p1 | with_reducible exact Pull.p2 | with_reducible exact Pull.p3 | with_reducible exact Pull.p4 | with_reducible exact Pull.p5 | with_reducible exact Pull.p6 | with_reducible exact Pull.p7 | with_reducible exact Pull.p8 | with_reducible exact Pull.p9) rfl rfl ?_)
  refine At.op rfl (op_bin rfl rfl (b8_eq _ (0 : UInt8)) rfl ?_)
  refine At.op rfl (op_assign rfl rfl ?_)
  refine At.nil ?_
  refine At.then_n ?_
  refine At.cond_p rfl (fun hc0 => ?_) (fun hc0 => ?_)
  ·
    refine At.seq ?_
    refine At.region ?_
    refine At.op rfl (op_assign rfl rfl ?_)
    refine At.op rfl (op_assign rfl rfl ?_)
    refine At.nil ?_
    refine At.then_n ?_
    refine At.ret ?_
    refine At.blk_r ?_
    refine At.then_r ?_
    refine At.fin2 rfl rfl rfl rfl ⟨?_, rfl⟩ .nil
    unfold putV; rw [if_pos hc0]; rfl
  ·
    refine At.seq ?_
    refine At.region ?_
    refine At.op rfl (op_fieldAddr (o' := 2) rfl Tryd.underlying68 rfl Tryd.sizeOf9 rfl rfl ?_)
    refine At.op rfl (op_load rfl Tryd.isAgg9 (by first | with_reducible exact Pull.p0 | with_reducible exact Pull.p1 | with_reducible exact Pull.p2 | with_reducible exact Pull.p3 | with_reducible exact Pull.p4 | with_reducible exact Pull.p5 | with_reducible exact Pull.p6 | with_reducible exact Pull.p7 | with_reducible exact Pull.p8 | with_reducible exact Pull.p9) rfl rfl ?_)
    refine At.op rfl (op_len_str rfl Tryd.underlying9 rfl ?_)
    refine At.op rfl (op_bin rfl rfl b_gt rfl ?_)
    refine At.op rfl (op_assign rfl rfl ?_)
    refine At.nil ?_
    refine At.then_n ?_
    refine At.cond_p rfl (fun hc1 => ?_) (fun hc1 => ?_)
    ·
      refine At.seq ?_
      refine At.region ?_
      refine At.op rfl (op_assign rfl rfl ?_)
      refine At.op rfl (op_assign rfl rfl ?_)
      refine At.nil ?_
      refine At.then_n ?_
      refine At.ret ?_
      refine At.blk_r ?_
      refine At.then_r ?_
      refine At.fin2 rfl rfl rfl rfl ⟨?_, rfl⟩ .nil
      unfold putV; rw [if_neg hc0, if_pos (by omega)]; rfl
    ·
      refine At.skip ?_
      refine At.blk_n ?_
      refine At.then_n ?_
      refine At.seq ?_
      refine At.region ?_
      refine At.op rfl (op_fieldAddr (o' := 1) rfl Tryd.underlying68 rfl Tryd.sizeOf61 rfl rfl ?_)
      refine At.op rfl (op_load rfl Tryd.isAgg61 (by first | with_reducible exact Pull.p0 | with_reducible exact Pull.p1 | with_reducible exact Pull.p2 | with_reducible exact Pull.p3 | with_reducible exact Pull.p4 | with_reducible exact Pull.p5 | with_reducible exact Pull.p6 | with_reducible exact Pull.p7 | with_reducible exact Pull.p8 | with_reducible exact Pull.p9) rfl rfl ?_)
      refine At.op rfl (op_call1 rfl Tryd.call31 (field_Number q 8 (by decide) (by decide) (by have := q.toNat_lt; omega)) rfl ?_)
      refine At.op rfl (op_move rfl rfl ?_)
      refine At.op rfl (op_extractL rfl .zero rfl ?_)
      refine At.op rfl (op_extractL rfl (.succ .zero) rfl ?_)
      refine At.op rfl (op_assign rfl rfl ?_)
      refine At.op rfl (op_assign rfl rfl ?_)
      refine At.nil ?_
      refine At.then_n ?_
      refine At.seq ?_
      refine At.keep [(1, _), (2, _), (3, _), (4, _)] (.cons rfl (.cons rfl (.cons rfl (.cons rfl .nil)))) ?_
      refine At.region ?_
      refine At.op rfl (op_fieldAddr (o' := 2) rfl Tryd.underlying68 rfl Tryd.sizeOf9 rfl rfl ?_)
      refine At.op rfl (op_load rfl Tryd.isAgg9 (by first | with_reducible exact Pull.p0 | with_reducible exact Pull.p1 | with_reducible exact Pull.p2 | with_reducible exact Pull.p3 | with_reducible exact Pull.p4 | with_reducible exact Pull.p5 | with_reducible exact Pull.p6 | with_reducible exact Pull.p7 | with_reducible exact Pull.p8 | with_reducible exact Pull.p9) rfl rfl ?_)
      refine At.op rfl (op_call1 rfl Tryd.call32 (field_Text t (by omega)) rfl ?_)
      refine At.op rfl (op_move rfl rfl ?_)
      refine At.op rfl (op_extractL rfl .zero rfl ?_)
      refine At.op rfl (op_extractL rfl (.succ .zero) rfl ?_)
      refine At.op rfl (op_assign rfl rfl ?_)
      refine At.op rfl (op_assign rfl rfl ?_)
      refine At.nil ?_
      refine At.then_n ?_
      refine At.seq ?_
      refine At.region ?_
      refine At.op rfl (op_fieldAddr (o' := 0) rfl Tryd.underlying68 rfl Tryd.sizeOf5 rfl rfl ?_)
      refine At.op rfl (op_load rfl Tryd.isAgg5 (by first | with_reducible exact Pull.p0 | with_reducible exact Pull.p1 | with_reducible exact Pull.p2 | with_reducible exact Pull.p3 | with_reducible exact Pull.p4 | with_reducible exact Pull.p5 | with_reducible exact Pull.p6 | with_reducible exact Pull.p7 | with_reducible exact Pull.p8 | with_reducible exact Pull.p9) rfl rfl ?_)
      refine At.op rfl (op_buildSlice1 [_] rfl rfl Tryd.underlying88 et5 rfl (by decide) (List.forall_mem_cons.2 ⟨rfl, (fun _ h => by cases h)⟩) rfl ?_)
      intro b2
      refine At.op rfl (op_b2sR rfl Tryd.underlying88 Tryd.underlying9 Tryd.underlying5 (by first | with_reducible exact Pull.p0 | with_reducible exact Pull.p1 | with_reducible exact Pull.p2 | with_reducible exact Pull.p3 | with_reducible exact Pull.p4 | with_reducible exact Pull.p5 | with_reducible exact Pull.p6 | with_reducible exact Pull.p7 | with_reducible exact Pull.p8 | with_reducible exact Pull.p9) (l := [k]) rfl rfl rfl ?_)
      refine At.op rfl (op_move rfl rfl ?_)
      refine At.op rfl (op_bin rfl rfl (b_cat (by rw [leB_length]; show 1 + 8 ≤ 9223372036854775807; decide)) rfl ?_)
      refine At.op rfl (op_move rfl rfl ?_)
      refine At.op rfl (op_bin rfl rfl (b_cat (by simp [leB_length]; omega)) rfl ?_)
      rw [show [k] ++ leB q.toNat 8 ++ (leB t.length 2 ++ t) = bodyF k q t from rfl]
      refine At.op rfl (op_assign rfl rfl ?_)
      refine At.nil ?_
      refine At.then_n ?_
      refine At.seq ?_
      refine At.keep [(2, _), (3, _), (8, _)] (.cons rfl (.cons rfl (.cons rfl .nil))) ?_
      refine At.region ?_
      refine At.op rfl (op_move rfl rfl ?_)
      refine At.op rfl (op_move rfl rfl ?_)
      refine At.op rfl (op_len_str rfl Tryd.underlying9 rfl ?_)
      refine At.op rfl (op_bin rfl rfl (Bin.cast (v' := i64 ((240 - (bodyF k q t).length : Nat) : Int)) (b_sub (by have := bodyF_length k q t; omega) (by have := bodyF_length k q t; omega)) (by congr 1; have := bodyF_length k q t; omega)) rfl ?_)
      have hbl := bodyF_length k q t
      refine At.op rfl (op_call1 rfl Tryd.call33 (strings_Repeat [0] (240 - (bodyF k q t).length) (by omega) (by simp; omega)) rfl ?_)
      rw [repeat_zero]
      refine At.op rfl (op_bin rfl rfl (b_cat (by rw [List.length_replicate]; omega)) rfl ?_)
      rw [show bodyF k q t ++ List.replicate (240 - (bodyF k q t).length) 0 = putB k q t from rfl]
      refine At.op rfl (op_assign rfl rfl ?_)
      refine At.nil ?_
      refine At.then_n ?_
      refine At.seq ?_
      refine At.region ?_
      refine At.op rfl (op_move rfl rfl ?_)
      refine At.op rfl (op_move rfl rfl ?_)
      refine At.op rfl (op_call1 rfl Tryd.call34 (frame_sum hG (putB k q t) (by rw [putB_length k q t (by omega)]; omega)) rfl ?_)
      refine At.op rfl (op_bin rfl rfl (b_cat (by rw [List.length_take, shaB_length, putB_length k q t (by omega)]; omega)) rfl ?_)
      refine At.op rfl (op_assign rfl rfl ?_)
      refine At.op rfl (op_assign rfl rfl ?_)
      refine At.nil ?_
      refine At.then_n ?_
      refine At.ret ?_
      refine At.fin2 rfl rfl rfl rfl ⟨?_, rfl⟩ .nil
      unfold putV; rw [if_neg hc0, if_neg (by omega)]; rfl
end Go.Proofs.YteckdahgkkmlaaaDoor
end

section
set_option maxRecDepth 20000
set_option linter.unusedVariables false
set_option linter.unusedSimpArgs false
namespace Go.Proofs.YteckdahgkkmlaaaDoor
open Go SL
variable {G : List (Nat × Obj)}
theorem mac_Same (a b : List UInt8) (ha : a.length < 9000000000000000000) (hb : b.length < 9000000000000000000) : Does Tryd.prog G 45 [str a, str b] [] (One (.bool (decide (a = b)))) := by
  refine Does.of Tryd.func45 rfl Tryd.ntmps45 rfl (fun w0 => ?_)
  refine At.keep [(0, _), (1, _)] (.cons rfl (.cons rfl .nil)) ?_
  refine At.seq ?_
  refine At.region ?_
  refine At.op rfl (op_assign rfl rfl ?_)
  refine At.nil ?_
  refine At.then_n ?_
  refine At.seq ?_
  refine At.region ?_
  refine At.op rfl (op_assign rfl rfl ?_)
  refine At.nil ?_
  refine At.then_n ?_
  refine At.seq ?_
  refine At.seq ?_
  refine At.region ?_
  refine At.op rfl (op_move rfl rfl ?_)
  refine At.op rfl (op_len_str rfl Tryd.underlying9 rfl ?_)
  refine At.op rfl (op_move rfl rfl ?_)
  refine At.op rfl (op_len_str rfl Tryd.underlying9 rfl ?_)
  refine At.op rfl (op_min rfl rfl rfl ?_)
  refine At.op rfl (op_move rfl rfl ?_)
  refine At.nil ?_
  refine At.then_n ?_
  refine At.block ?_
  refine At.keep ((fun k : Nat => [(0, str a), (1, str b), (5, u8 (dif (a.take k) (b.take k) 0)), (11, i64 ((min a.length b.length : Nat) : Int)), (12, i64 k)]) (0 : Nat)) (.cons rfl (.cons rfl (.cons rfl (.cons (congrArg (fun n => some (Value.int .i64 n)) (by split <;> omega)) (.cons rfl .nil))))) ?_
  refine At.loop (σ := Nat) (fun k => k ≤ min a.length b.length) (fun k : Nat => [(0, str a), (1, str b), (5, u8 (dif (a.take k) (b.take k) 0)), (11, i64 ((min a.length b.length : Nat) : Int)), (12, i64 k)]) (fun _ => _) (fun k => min a.length b.length - k) (0 : Nat) (Nat.zero_le _) ?_
  rintro k hk
  refine At.seq ?_
  refine At.region ?_
  refine At.op rfl (op_bin rfl rfl b_lt rfl ?_)
  refine At.nil ?_
  refine At.then_n ?_
  refine At.seq ?_
  refine At.cond_p rfl (fun hlt => ?_) (fun hlt => ?_)
  ·
    obtain ⟨xa, hxa⟩ : ∃ x, a[k]? = some x := ⟨_, List.getElem?_eq_getElem (by omega)⟩
    obtain ⟨xb, hxb⟩ : ∃ x, b[k]? = some x := ⟨_, List.getElem?_eq_getElem (by omega)⟩
    refine At.skip ?_
    refine At.then_n ?_
    refine At.seq ?_
    refine At.block ?_
    refine At.seq ?_
    refine At.region ?_
    refine At.op rfl (op_move rfl rfl ?_)
    refine At.op rfl (op_assign rfl rfl ?_)
    refine At.nil ?_
    refine At.then_n ?_
    refine At.drawC [_, _, _, _, _, _, _, _, _, _] (by kernel_rfl) (by decide) (by kernel_rfl) 
      (Steps'.cons (Step.op rfl (fun D h1 h2 h3 K hK => op_move (mD_not 9 (by decide) (not_yet h3 (q := 9) rfl 1 rfl rfl h1) rfl rfl rfl) rfl hK))
      (Steps'.cons (Step.op rfl (fun D h1 h2 h3 K hK => op_move (mD_base rfl rfl) rfl hK))
      (Steps'.cons (Step.op rfl (fun D h1 h2 h3 K hK => op_move (mD_base rfl rfl) rfl hK))
      (Steps'.cons (Step.op rfl (fun D h1 h2 h3 K hK => op_indexStr (mD_done 1 (by decide) (pre_at h2 0 rfl rfl) rfl rfl rfl) (mD_done 2 (by decide) (pre_at h2 1 rfl rfl) rfl rfl rfl) Tryd.underlying9 (by omega) hxa rfl hK))
      (Steps'.cons (Step.op rfl (fun D h1 h2 h3 K hK => op_move (mD_base rfl rfl) rfl hK))
      (Steps'.cons (Step.op rfl (fun D h1 h2 h3 K hK => op_move (mD_base rfl rfl) rfl hK))
      (Steps'.cons (Step.op rfl (fun D h1 h2 h3 K hK => op_indexStr (mD_done 4 (by decide) (pre_at h2 0 rfl rfl) rfl rfl rfl) (mD_done 5 (by decide) (pre_at h2 1 rfl rfl) rfl rfl rfl) Tryd.underlying9 (by omega) hxb rfl hK))
      (Steps'.cons (Step.op rfl (fun D h1 h2 h3 K hK => op_bin (mD_done 3 (by decide) (pre_at h2 0 rfl rfl) rfl rfl rfl) (mD_done 6 (by decide) (pre_at h2 1 rfl rfl) rfl rfl rfl) (b8_xor _ _) rfl hK))
      (Steps'.cons (Step.op rfl (fun D h1 h2 h3 K hK => op_bin (mD_done 0 (by decide) (pre_at h2 0 rfl rfl) rfl rfl rfl) (mD_done 7 (by decide) (pre_at h2 1 rfl rfl) rfl rfl rfl) (b8_or _ _) rfl hK))
      (Steps'.cons (Step.op rfl (fun D h1 h2 h3 K hK => op_assign (mD_done 8 (by decide) (pre_at h2 0 rfl rfl) rfl rfl rfl) rfl hK))
      Steps'.nil)))))))))) ?_
    refine At.keep [(0, _), (1, _), (11, _), (12, _), (5, _)] (.cons rfl (.cons rfl (.cons rfl (.cons rfl (.cons rfl .nil))))) ?_
    refine At.blk_n ?_
    refine At.then_n ?_
    refine At.region ?_
    refine At.op rfl (op_bin rfl rfl (b_add (by omega) (by omega)) rfl ?_)
    refine At.op rfl (op_move rfl rfl ?_)
    refine At.nil ?_
    refine At.then_n ?_
    refine At.back (k + 1) (by omega) (by omega) (.cons rfl (.cons rfl (.cons ?_ (.cons rfl (.cons rfl .nil))))) .nil
    exact congrArg (fun x => some (u8 x)) (by rw [take_snoc a k _ hxa, take_snoc b k _ hxb, dif_snoc _ _ _ _ _ (by simp; omega)])
  ·
    refine At.exit ?_
    refine At.then_e ?_
    refine At.then_e ?_
    refine At.blk_e ?_
    refine At.then_n ?_
    refine At.seq ?_
    refine At.region ?_
    refine At.op rfl (op_move rfl rfl ?_)
    refine At.op rfl (op_len_str rfl Tryd.underlying9 rfl ?_)
    refine At.op rfl (op_move rfl rfl ?_)
    refine At.op rfl (op_len_str rfl Tryd.underlying9 rfl ?_)
    refine At.op rfl (op_bin rfl rfl b_eq rfl ?_)
    refine At.op rfl (op_move rfl rfl ?_)
    refine At.dsplit (i := 30) rfl (fun hg7 => ?_) (fun hg7 => ?_)
    ·
      refine At.opg rfl rfl rfl (op_move rfl rfl ?_)
      refine At.opg rfl rfl rfl (op_bin rfl rfl (b8_eq _ (0 : UInt8)) rfl ?_)
      refine At.op rfl (op_pick_t rfl rfl rfl ?_)
      refine At.op rfl (op_assign rfl rfl ?_)
      refine At.nil ?_
      refine At.then_n ?_
      refine At.ret ?_
      refine At.fin1 rfl rfl rfl ⟨?_, rfl⟩ .nil
      first
        | (have e1 : a.length = b.length := by omega
           have e2 : a.take k = a := List.take_of_length_le (by omega)
           have e3 : b.take k = b := List.take_of_length_le (by omega)
           rw [e2, e3]; simp [dif_zero a b 0 e1])
        | (have e : a ≠ b := fun e => by subst e; exact hg7 rfl
           simp [e])
    ·
      refine At.opk (want := false) rfl rfl rfl rfl rfl ?_
      refine At.opk (want := false) rfl rfl rfl rfl rfl ?_
      refine At.op rfl (op_pick_f rfl rfl rfl ?_)
      refine At.op rfl (op_assign rfl rfl ?_)
      refine At.nil ?_
      refine At.then_n ?_
      refine At.ret ?_
      refine At.fin1 rfl rfl rfl ⟨?_, rfl⟩ .nil
      first
        | (have e1 : a.length = b.length := by omega
           have e2 : a.take k = a := List.take_of_length_le (by omega)
           have e3 : b.take k = b := List.take_of_length_le (by omega)
           rw [e2, e3]; simp [dif_zero a b 0 e1])
        | (have e : a ≠ b := fun e => by subst e; exact hg7 rfl
           simp [e])
end Go.Proofs.YteckdahgkkmlaaaDoor
end

section
set_option maxRecDepth 20000
set_option linter.unusedVariables false
set_option linter.unusedSimpArgs false
namespace Go.Proofs.YteckdahgkkmlaaaDoor
open Go SL
variable {G : List (Nat × Obj)}
theorem Get1_short (bp be : Nat) (s : List UInt8) (e : Int) (h : s.length ≠ 256) : Does Tryd.prog G 44 [ptr bp 0, ptr be 0] [row bp [str s] 9 (0, 0), row be [i64 e] 3 (0, 0)] (OneR (.bool false) [row bp [str s] 9 (0, 0), row be [i64 e] 3 (0, 0)]) := by
  refine Does.of Tryd.func44 rfl Tryd.ntmps44 rfl (fun w0 => ?_)
  refine At.keep [(0, _), (1, _)] (.cons rfl (.cons rfl .nil)) ?_
  refine At.seq ?_
  refine At.region ?_
  refine At.op rfl (op_assign rfl rfl ?_)
  refine At.nil ?_
  refine At.then_n ?_
  refine At.seq ?_
  refine At.drawC [_, _, _, _, _, _, _, _, _, _, _, _, _, _] (by kernel_rfl) (by decide) (by kernel_rfl) 
    (Steps'.cons (Step.op rfl (fun D h1 h2 h3 K hK => op_load (mD_base rfl rfl) Tryd.isAgg9 (by first | with_reducible exact Pull.p0 | with_reducible exact Pull.p1 | with_reducible exact Pull.p2 | with_reducible exact Pull.p3 | with_reducible exact Pull.p4 | with_reducible exact Pull.p5 | with_reducible exact Pull.p6 | with_reducible exact Pull.p7 | with_reducible exact Pull.p8 | with_reducible exact Pull.p9) rfl rfl hK))
    (Steps'.cons (Step.op rfl (fun D h1 h2 h3 K hK => op_len_str (mD_done 0 (by decide) (pre_at h2 0 rfl rfl) rfl rfl rfl) Tryd.underlying9 rfl hK))
    (Steps'.cons (Step.op rfl (fun D h1 h2 h3 K hK => op_bin (mD_done 1 (by decide) (pre_at h2 0 rfl rfl) rfl rfl rfl) rfl (Bin.cast (v' := .bool false) b_eq (by rw [decide_eq_false (by omega)])) rfl hK))
    (Steps'.cons (Step.op rfl (fun D h1 h2 h3 K hK => op_move (mD_done 2 (by decide) (pre_at h2 0 rfl rfl) rfl rfl rfl) rfl hK))
    (Steps'.cons (Step.opk (want := false) rfl rfl (fun D h2 => mD_done 3 (by decide) (pre_at h2 0 rfl rfl) rfl rfl rfl) rfl rfl)
    (Steps'.cons (Step.opk (want := false) rfl rfl (fun D h2 => mD_done 3 (by decide) (pre_at h2 0 rfl rfl) rfl rfl rfl) rfl rfl)
    (Steps'.cons (Step.opk (want := false) rfl rfl (fun D h2 => mD_done 3 (by decide) (pre_at h2 2 rfl rfl) rfl rfl rfl) rfl rfl)
    (Steps'.cons (Step.opk (want := false) rfl rfl (fun D h2 => mD_done 3 (by decide) (pre_at h2 1 rfl rfl) rfl rfl rfl) rfl rfl)
    (Steps'.cons (Step.opk (want := false) rfl rfl (fun D h2 => mD_done 3 (by decide) (pre_at h2 0 rfl rfl) rfl rfl rfl) rfl rfl)
    (Steps'.cons (Step.opk (want := false) rfl rfl (fun D h2 => mD_done 3 (by decide) (pre_at h2 0 rfl rfl) rfl rfl rfl) rfl rfl)
    (Steps'.cons (Step.opk (want := false) rfl rfl (fun D h2 => mD_done 3 (by decide) (pre_at h2 2 rfl rfl) rfl rfl rfl) rfl rfl)
    (Steps'.cons (Step.opk (want := false) rfl rfl (fun D h2 => mD_done 3 (by decide) (pre_at h2 3 rfl rfl) rfl rfl rfl) rfl rfl)
    (Steps'.cons (Step.op rfl (fun D h1 h2 h3 K hK => op_pick_f (mD_done 3 (by decide) (pre_at h2 0 rfl rfl) rfl rfl rfl) rfl rfl hK))
    (Steps'.cons (Step.op rfl (fun D h1 h2 h3 K hK => op_assign (mD_done 12 (by decide) (pre_at h2 0 rfl rfl) rfl rfl rfl) rfl hK))
    Steps'.nil)))))))))))))) ?_
  refine At.keep [(2, _)] (.cons rfl .nil) ?_
  refine At.then_n ?_
  refine At.ret ?_
  exact At.fin1 rfl rfl rfl ⟨rfl, rfl⟩ (.cons (by first | with_reducible exact Pull.p0 | with_reducible exact Pull.p1 | with_reducible exact Pull.p2 | with_reducible exact Pull.p3 | with_reducible exact Pull.p4 | with_reducible exact Pull.p5 | with_reducible exact Pull.p6 | with_reducible exact Pull.p7 | with_reducible exact Pull.p8 | with_reducible exact Pull.p9) (.cons (by first | with_reducible exact Pull.p0 | with_reducible exact Pull.p1 | with_reducible exact Pull.p2 | with_reducible exact Pull.p3 | with_reducible exact Pull.p4 | with_reducible exact Pull.p5 | with_reducible exact Pull.p6 | with_reducible exact Pull.p7 | with_reducible exact Pull.p8 | with_reducible exact Pull.p9) .nil))
theorem Get1_full (hG : GOK G) (bp be : Nat) (s : List UInt8) (h : s.length = 256) : Does Tryd.prog G 44 [ptr bp 0, ptr be 0] [row bp [str s] 9 (0, 0), row be [i64 240] 3 (0, 0)] (OneR (.bool (decide ((shaB (s.take (Int.toNat 240))).take 16 = s.drop (Int.toNat 240)))) [row bp [str s] 9 (0, 0), row be [i64 240] 3 (0, 0)]) := by
  refine Does.of Tryd.func44 rfl Tryd.ntmps44 rfl (fun w0 => ?_)
  refine At.keep [(0, _), (1, _)] (.cons rfl (.cons rfl .nil)) ?_
  refine At.seq ?_
  refine At.region ?_
  refine At.op rfl (op_assign rfl rfl ?_)
  refine At.nil ?_
  refine At.then_n ?_
  refine At.seq ?_
  refine At.drawC [_, _, _, _, _, _, _, _, _, _, _, _, _, _] (by kernel_rfl) (by decide) (by kernel_rfl) 
    (Steps'.cons (Step.op rfl (fun D h1 h2 h3 K hK => op_load (mD_base rfl rfl) Tryd.isAgg9 (by first | with_reducible exact Pull.p0 | with_reducible exact Pull.p1 | with_reducible exact Pull.p2 | with_reducible exact Pull.p3 | with_reducible exact Pull.p4 | with_reducible exact Pull.p5 | with_reducible exact Pull.p6 | with_reducible exact Pull.p7 | with_reducible exact Pull.p8 | with_reducible exact Pull.p9) rfl rfl hK))
    (Steps'.cons (Step.op rfl (fun D h1 h2 h3 K hK => op_len_str (mD_done 0 (by decide) (pre_at h2 0 rfl rfl) rfl rfl rfl) Tryd.underlying9 rfl hK))
    (Steps'.cons (Step.op rfl (fun D h1 h2 h3 K hK => op_bin (mD_done 1 (by decide) (pre_at h2 0 rfl rfl) rfl rfl rfl) rfl (Bin.cast (v' := .bool true) b_eq (by rw [decide_eq_true (by omega)])) rfl hK))
    (Steps'.cons (Step.op rfl (fun D h1 h2 h3 K hK => op_move (mD_done 2 (by decide) (pre_at h2 0 rfl rfl) rfl rfl rfl) rfl hK))
    (Steps'.cons (Step.opg rfl rfl (fun D h2 => mD_done 3 (by decide) (pre_at h2 0 rfl rfl) rfl rfl rfl) (fun D h1 h2 h3 K hK => op_load (mD_base rfl rfl) Tryd.isAgg9 (by first | with_reducible exact Pull.p0 | with_reducible exact Pull.p1 | with_reducible exact Pull.p2 | with_reducible exact Pull.p3 | with_reducible exact Pull.p4 | with_reducible exact Pull.p5 | with_reducible exact Pull.p6 | with_reducible exact Pull.p7 | with_reducible exact Pull.p8 | with_reducible exact Pull.p9) rfl rfl hK))
    (Steps'.cons (Step.opg rfl rfl (fun D h2 => mD_done 3 (by decide) (pre_at h2 0 rfl rfl) rfl rfl rfl) (fun D h1 h2 h3 K hK => op_load (mD_base rfl rfl) Tryd.isAgg3 (by first | with_reducible exact Pull.p0 | with_reducible exact Pull.p1 | with_reducible exact Pull.p2 | with_reducible exact Pull.p3 | with_reducible exact Pull.p4 | with_reducible exact Pull.p5 | with_reducible exact Pull.p6 | with_reducible exact Pull.p7 | with_reducible exact Pull.p8 | with_reducible exact Pull.p9) rfl rfl hK))
    (Steps'.cons (Step.opg rfl rfl (fun D h2 => mD_done 3 (by decide) (pre_at h2 2 rfl rfl) rfl rfl rfl) (fun D h1 h2 h3 K hK => op_sl_str_hi (mD_done 4 (by decide) (pre_at h2 0 rfl rfl) rfl rfl rfl) (mD_done 5 (by decide) (pre_at h2 1 rfl rfl) rfl rfl rfl) Tryd.underlying9 (by omega) (by omega) rfl hK))
    (Steps'.cons (Step.opg rfl rfl (fun D h2 => mD_done 3 (by decide) (pre_at h2 1 rfl rfl) rfl rfl rfl) (fun D h1 h2 h3 K hK => op_call1 (evs_cons (mD_done 6 (by decide) (pre_at h2 0 rfl rfl) rfl rfl rfl) evs_nil) Tryd.call34 (frame_sum hG (s.take (Int.toNat 240)) (by rw [List.length_take]; omega)) rfl hK))
    (Steps'.cons (Step.opg rfl rfl (fun D h2 => mD_done 3 (by decide) (pre_at h2 0 rfl rfl) rfl rfl rfl) (fun D h1 h2 h3 K hK => op_load (mD_base rfl rfl) Tryd.isAgg9 (by first | with_reducible exact Pull.p0 | with_reducible exact Pull.p1 | with_reducible exact Pull.p2 | with_reducible exact Pull.p3 | with_reducible exact Pull.p4 | with_reducible exact Pull.p5 | with_reducible exact Pull.p6 | with_reducible exact Pull.p7 | with_reducible exact Pull.p8 | with_reducible exact Pull.p9) rfl rfl hK))
    (Steps'.cons (Step.opg rfl rfl (fun D h2 => mD_done 3 (by decide) (pre_at h2 0 rfl rfl) rfl rfl rfl) (fun D h1 h2 h3 K hK => op_load (mD_base rfl rfl) Tryd.isAgg3 (by first | with_reducible exact Pull.p0 | with_reducible exact Pull.p1 | with_reducible exact Pull.p2 | with_reducible exact Pull.p3 | with_reducible exact Pull.p4 | with_reducible exact Pull.p5 | with_reducible exact Pull.p6 | with_reducible exact Pull.p7 | with_reducible exact Pull.p8 | with_reducible exact Pull.p9) rfl rfl hK))
    (Steps'.cons (Step.opg rfl rfl (fun D h2 => mD_done 3 (by decide) (pre_at h2 2 rfl rfl) rfl rfl rfl) (fun D h1 h2 h3 K hK => op_sl_str_lo (mD_done 8 (by decide) (pre_at h2 0 rfl rfl) rfl rfl rfl) (mD_done 9 (by decide) (pre_at h2 1 rfl rfl) rfl rfl rfl) Tryd.underlying9 (by omega) (by omega) rfl hK))
    (Steps'.cons (Step.opg rfl rfl (fun D h2 => mD_done 3 (by decide) (pre_at h2 3 rfl rfl) rfl rfl rfl) (fun D h1 h2 h3 K hK => op_call1 (evs_cons (mD_done 7 (by decide) (pre_at h2 0 rfl rfl) rfl rfl rfl) (evs_cons (mD_done 10 (by decide) (pre_at h2 1 rfl rfl) rfl rfl rfl) evs_nil)) Tryd.call45 (mac_Same ((shaB (s.take (Int.toNat 240))).take 16) (s.drop (Int.toNat 240)) (by rw [List.length_take, shaB_length]; omega) (by rw [List.length_drop]; omega)) rfl hK))
    (Steps'.cons (Step.op rfl (fun D h1 h2 h3 K hK => op_pick_t (mD_done 3 (by decide) (pre_at h2 0 rfl rfl) rfl rfl rfl) (mD_done 11 (by decide) (pre_at h2 1 rfl rfl) rfl rfl rfl) rfl hK))
    (Steps'.cons (Step.op rfl (fun D h1 h2 h3 K hK => op_assign (mD_done 12 (by decide) (pre_at h2 0 rfl rfl) rfl rfl rfl) rfl hK))
    Steps'.nil)))))))))))))) ?_
  refine At.keep [(2, _)] (.cons rfl .nil) ?_
  refine At.then_n ?_
  refine At.ret ?_
  exact At.fin1 rfl rfl rfl ⟨rfl, rfl⟩ (.cons (by first | with_reducible exact Pull.p0 | with_reducible exact Pull.p1 | with_reducible exact Pull.p2 | with_reducible exact Pull.p3 | with_reducible exact Pull.p4 | with_reducible exact Pull.p5 | with_reducible exact Pull.p6 | with_reducible exact Pull.p7 | with_reducible exact Pull.p8 | with_reducible exact Pull.p9) (.cons (by first | with_reducible exact Pull.p0 | with_reducible exact Pull.p1 | with_reducible exact Pull.p2 | with_reducible exact Pull.p3 | with_reducible exact Pull.p4 | with_reducible exact Pull.p5 | with_reducible exact Pull.p6 | with_reducible exact Pull.p7 | with_reducible exact Pull.p8 | with_reducible exact Pull.p9) .nil))
theorem Get2_any (bp be bf br : Nat) (s r t : List UInt8) (k x : UInt8) (q : UInt64) (h : s.length = 256) (h0 : s[0]? = some x) : Does Tryd.prog G 46 [ptr bp 0, ptr be 0, ptr bf 0, ptr br 0] [row bp [str s] 9 (0, 0), row be [i64 240] 3 (0, 0), row bf [u8 k, u64 q, str t] 68 (0, 0), row br [str r] 9 (0, 0)] (OneR (.bool (!decide (x = 0))) [row bp [str s] 9 (0, 0), row be [i64 240] 3 (0, 0), row bf [u8 x, u64 q, str t] 68 (0, 0), row br [str ((s.take (Int.toNat 240)).drop (Int.toNat 1))] 9 (0, 0)]) := by
  refine Does.of Tryd.func46 rfl Tryd.ntmps46 rfl (fun w0 => ?_)
  refine At.keep [(0, _), (1, _), (2, _), (3, _)] (.cons rfl (.cons rfl (.cons rfl (.cons rfl .nil)))) ?_
  refine At.seq ?_
  refine At.region ?_
  refine At.op rfl (op_assign rfl rfl ?_)
  refine At.nil ?_
  refine At.then_n ?_
  refine At.seq ?_
  refine At.drawE (rs' := [row br [str ((s.take (Int.toNat 240)).drop (Int.toNat 1))] 9 (0, 0), row bf [u8 x, u64 q, str t] 68 (0, 0), row bp [str s] 9 (0, 0), row be [i64 240] 3 (0, 0)]) [6, 7] [[row bf [u8 x, u64 q, str t] 68 (0, 0), row bp [str s] 9 (0, 0), row be [i64 240] 3 (0, 0), row br [str r] 9 (0, 0)], [row br [str ((s.take (Int.toNat 240)).drop (Int.toNat 1))] 9 (0, 0), row bf [u8 x, u64 q, str t] 68 (0, 0), row bp [str s] 9 (0, 0), row be [i64 240] 3 (0, 0)]] [_, _, _, _, _, _, undef, undef] (by kernel_rfl) (by decide) (by kernel_rfl) (by decide) rfl 
    (.quiet 0 (by kernel_rfl) (by kernel_rfl) (.cons (Step.op rfl (fun D h1 h2 h3 K hK => op_load (mD_base rfl rfl) Tryd.isAgg9 (by first | with_reducible exact Pull.p0 | with_reducible exact Pull.p1 | with_reducible exact Pull.p2 | with_reducible exact Pull.p3 | with_reducible exact Pull.p4 | with_reducible exact Pull.p5 | with_reducible exact Pull.p6 | with_reducible exact Pull.p7 | with_reducible exact Pull.p8 | with_reducible exact Pull.p9) rfl rfl hK)) .nil)
    (.quiet 0 (by kernel_rfl) (by kernel_rfl) (.cons (Step.op rfl (fun D h1 h2 h3 K hK => op_indexStr (mD_done 0 (by decide) (pre_at h2 0 rfl rfl) rfl rfl rfl) rfl Tryd.underlying9 (by omega) h0 rfl hK)) .nil)
    (.quiet 1 (by kernel_rfl) (by kernel_rfl) (.cons (Step.op rfl (fun D h1 h2 h3 K hK => op_load (mD_base rfl rfl) Tryd.isAgg9 (by first | with_reducible exact Pull.p0 | with_reducible exact Pull.p1 | with_reducible exact Pull.p2 | with_reducible exact Pull.p3 | with_reducible exact Pull.p4 | with_reducible exact Pull.p5 | with_reducible exact Pull.p6 | with_reducible exact Pull.p7 | with_reducible exact Pull.p8 | with_reducible exact Pull.p9) rfl rfl hK)) (.cons (Step.op rfl (fun D h1 h2 h3 K hK => op_load (mD_base rfl rfl) Tryd.isAgg9 (by first | with_reducible exact Pull.p0 | with_reducible exact Pull.p1 | with_reducible exact Pull.p2 | with_reducible exact Pull.p3 | with_reducible exact Pull.p4 | with_reducible exact Pull.p5 | with_reducible exact Pull.p6 | with_reducible exact Pull.p7 | with_reducible exact Pull.p8 | with_reducible exact Pull.p9) rfl rfl hK)) .nil))
    (.quiet 1 (by kernel_rfl) (by kernel_rfl) (.cons (Step.op rfl (fun D h1 h2 h3 K hK => op_load (mD_base rfl rfl) Tryd.isAgg3 (by first | with_reducible exact Pull.p0 | with_reducible exact Pull.p1 | with_reducible exact Pull.p2 | with_reducible exact Pull.p3 | with_reducible exact Pull.p4 | with_reducible exact Pull.p5 | with_reducible exact Pull.p6 | with_reducible exact Pull.p7 | with_reducible exact Pull.p8 | with_reducible exact Pull.p9) rfl rfl hK)) (.cons (Step.op rfl (fun D h1 h2 h3 K hK => op_load (mD_base rfl rfl) Tryd.isAgg3 (by first | with_reducible exact Pull.p0 | with_reducible exact Pull.p1 | with_reducible exact Pull.p2 | with_reducible exact Pull.p3 | with_reducible exact Pull.p4 | with_reducible exact Pull.p5 | with_reducible exact Pull.p6 | with_reducible exact Pull.p7 | with_reducible exact Pull.p8 | with_reducible exact Pull.p9) rfl rfl hK)) .nil))
    (.quiet 1 (by kernel_rfl) (by kernel_rfl) (.cons (Step.op rfl (fun D h1 h2 h3 K hK => op_sl_str (mD_done 2 (by decide) (pre_at h2 0 rfl rfl) rfl rfl rfl) rfl (mD_done 3 (by decide) (pre_at h2 1 rfl rfl) rfl rfl rfl) Tryd.underlying9 (by omega) (by omega) (by omega) rfl hK)) (.cons (Step.op rfl (fun D h1 h2 h3 K hK => op_sl_str (mD_done 2 (by decide) (pre_at h2 0 rfl rfl) rfl rfl rfl) rfl (mD_done 3 (by decide) (pre_at h2 1 rfl rfl) rfl rfl rfl) Tryd.underlying9 (by omega) (by omega) (by omega) rfl hK)) .nil))
    (.quiet 0 (by kernel_rfl) (by kernel_rfl) (.cons (Step.op rfl (fun D h1 h2 h3 K hK => op_fieldAddr (o' := 0) (mD_base rfl rfl) Tryd.underlying68 rfl Tryd.sizeOf5 rfl rfl hK)) .nil)
    (.eff 0 rfl (by kernel_rfl) (by kernel_rfl) rfl rfl (Last.op rfl (fun D h2 K hK => op_store (mD_done 5 (by decide) (pre_at h2 0 rfl rfl) rfl rfl rfl) (mD_done 1 (by decide) (pre_at h2 1 rfl rfl) rfl rfl rfl) Tryd.sizeOf5 rfl rfl (by first | with_reducible exact Pull.p0 | with_reducible exact Pull.p1 | with_reducible exact Pull.p2 | with_reducible exact Pull.p3 | with_reducible exact Pull.p4 | with_reducible exact Pull.p5 | with_reducible exact Pull.p6 | with_reducible exact Pull.p7 | with_reducible exact Pull.p8 | with_reducible exact Pull.p9) .zero rfl (by exact hK)))
    (.eff 1 rfl (by kernel_rfl) (by kernel_rfl) rfl rfl (Last.op rfl (fun D h2 K hK => op_store (mD_base rfl rfl) (mD_done 4 (by decide) (pre_at h2 0 rfl rfl) rfl rfl rfl) Tryd.sizeOf9 rfl rfl (by first | with_reducible exact Pull.p0 | with_reducible exact Pull.p1 | with_reducible exact Pull.p2 | with_reducible exact Pull.p3 | with_reducible exact Pull.p4 | with_reducible exact Pull.p5 | with_reducible exact Pull.p6 | with_reducible exact Pull.p7 | with_reducible exact Pull.p8 | with_reducible exact Pull.p9) .zero rfl (by exact hK)))
    .nil)))))))) ?_
  refine At.keep [(2, _), (4, _)] (.cons rfl (.cons rfl .nil)) ?_
  refine At.then_n ?_
  refine At.seq ?_
  refine At.region ?_
  refine At.op rfl (op_fieldAddr (o' := 0) rfl Tryd.underlying68 rfl Tryd.sizeOf5 rfl rfl ?_)
  refine At.op rfl (op_load rfl Tryd.isAgg5 (by first | with_reducible exact Pull.p0 | with_reducible exact Pull.p1 | with_reducible exact Pull.p2 | with_reducible exact Pull.p3 | with_reducible exact Pull.p4 | with_reducible exact Pull.p5 | with_reducible exact Pull.p6 | with_reducible exact Pull.p7 | with_reducible exact Pull.p8 | with_reducible exact Pull.p9) rfl rfl ?_)
  refine At.op rfl (op_bin rfl rfl (b8_ne _ (0 : UInt8)) rfl ?_)
  refine At.op rfl (op_assign rfl rfl ?_)
  refine At.nil ?_
  refine At.then_n ?_
  refine At.ret ?_
  exact At.fin1 rfl rfl rfl ⟨rfl, rfl⟩ (.cons (by first | with_reducible exact Pull.p0 | with_reducible exact Pull.p1 | with_reducible exact Pull.p2 | with_reducible exact Pull.p3 | with_reducible exact Pull.p4 | with_reducible exact Pull.p5 | with_reducible exact Pull.p6 | with_reducible exact Pull.p7 | with_reducible exact Pull.p8 | with_reducible exact Pull.p9) (.cons (by first | with_reducible exact Pull.p0 | with_reducible exact Pull.p1 | with_reducible exact Pull.p2 | with_reducible exact Pull.p3 | with_reducible exact Pull.p4 | with_reducible exact Pull.p5 | with_reducible exact Pull.p6 | with_reducible exact Pull.p7 | with_reducible exact Pull.p8 | with_reducible exact Pull.p9) (.cons (by first | with_reducible exact Pull.p0 | with_reducible exact Pull.p1 | with_reducible exact Pull.p2 | with_reducible exact Pull.p3 | with_reducible exact Pull.p4 | with_reducible exact Pull.p5 | with_reducible exact Pull.p6 | with_reducible exact Pull.p7 | with_reducible exact Pull.p8 | with_reducible exact Pull.p9) (.cons (by first | with_reducible exact Pull.p0 | with_reducible exact Pull.p1 | with_reducible exact Pull.p2 | with_reducible exact Pull.p3 | with_reducible exact Pull.p4 | with_reducible exact Pull.p5 | with_reducible exact Pull.p6 | with_reducible exact Pull.p7 | with_reducible exact Pull.p8 | with_reducible exact Pull.p9) .nil))))
theorem Get3_any (bf br : Nat) (r t : List UInt8) (k : UInt8) (q : UInt64) (h : r.length = 239) : Does Tryd.prog G 47 [ptr br 0, ptr bf 0] [row br [str r] 9 (0, 0), row bf [u8 k, u64 q, str t] 68 (0, 0)] (OneR (.bool (decide ((ttE (r.drop 8) : Int) = 0))) [row br [str (ttR (r.drop 8))] 9 (0, 0), row bf [u8 k, u64 (UInt64.ofNat (leN (r.take 8))), str (ttT (r.drop 8))] 68 (0, 0)]) := by
  refine Does.of Tryd.func47 rfl Tryd.ntmps47 rfl (fun w0 => ?_)
  refine At.keep [(0, _), (1, _)] (.cons rfl (.cons rfl .nil)) ?_
  refine At.seq ?_
  refine At.region ?_
  refine At.op rfl (op_assign rfl rfl ?_)
  refine At.nil ?_
  refine At.then_n ?_
  refine At.seq ?_
  refine At.region ?_
  refine At.op rfl (op_assign rfl rfl ?_)
  refine At.op rfl (op_assign rfl rfl ?_)
  refine At.nil ?_
  refine At.then_n ?_
  refine At.seq ?_
  refine At.region ?_
  refine At.op rfl (op_load rfl Tryd.isAgg9 (by first | with_reducible exact Pull.p0 | with_reducible exact Pull.p1 | with_reducible exact Pull.p2 | with_reducible exact Pull.p3 | with_reducible exact Pull.p4 | with_reducible exact Pull.p5 | with_reducible exact Pull.p6 | with_reducible exact Pull.p7 | with_reducible exact Pull.p8 | with_reducible exact Pull.p9) rfl rfl ?_)
  refine At.op rfl (op_call1 rfl Tryd.call48 (field_TakeNumber r 8 (by decide) (by decide) (by omega)) rfl ?_)
  rw [if_neg (by omega)]
  refine At.op rfl (op_move rfl rfl ?_)
  refine At.op rfl (op_extractL rfl .zero rfl ?_)
  refine At.op rfl (op_extractL rfl (.succ .zero) rfl ?_)
  refine At.op rfl (op_extractL rfl (.succ (.succ .zero)) rfl ?_)
  refine At.op rfl (op_fieldAddr (o' := 1) rfl Tryd.underlying68 rfl Tryd.sizeOf61 rfl rfl ?_)
  refine At.op rfl (op_store rfl rfl Tryd.sizeOf61 rfl rfl (by first | with_reducible exact Pull.p0 | with_reducible exact Pull.p1 | with_reducible exact Pull.p2 | with_reducible exact Pull.p3 | with_reducible exact Pull.p4 | with_reducible exact Pull.p5 | with_reducible exact Pull.p6 | with_reducible exact Pull.p7 | with_reducible exact Pull.p8 | with_reducible exact Pull.p9) (.succ .zero) rfl ?_)
  refine At.op rfl (op_store rfl rfl Tryd.sizeOf9 rfl rfl (by first | with_reducible exact Pull.p0 | with_reducible exact Pull.p1 | with_reducible exact Pull.p2 | with_reducible exact Pull.p3 | with_reducible exact Pull.p4 | with_reducible exact Pull.p5 | with_reducible exact Pull.p6 | with_reducible exact Pull.p7 | with_reducible exact Pull.p8 | with_reducible exact Pull.p9) .zero rfl ?_)
  refine At.op rfl (op_assign rfl rfl ?_)
  refine At.nil ?_
  refine At.then_n ?_
  refine At.seq ?_
  refine At.region ?_
  refine At.op rfl (op_load rfl Tryd.isAgg9 (by first | with_reducible exact Pull.p0 | with_reducible exact Pull.p1 | with_reducible exact Pull.p2 | with_reducible exact Pull.p3 | with_reducible exact Pull.p4 | with_reducible exact Pull.p5 | with_reducible exact Pull.p6 | with_reducible exact Pull.p7 | with_reducible exact Pull.p8 | with_reducible exact Pull.p9) rfl rfl ?_)
  refine At.op rfl (op_call1 rfl Tryd.call49 (field_TakeText (r.drop 8) (by rw [List.length_drop]; omega)) rfl ?_)
  refine At.op rfl (op_move rfl rfl ?_)
  refine At.op rfl (op_extractL rfl .zero rfl ?_)
  refine At.op rfl (op_extractL rfl (.succ .zero) rfl ?_)
  refine At.op rfl (op_extractL rfl (.succ (.succ .zero)) rfl ?_)
  refine At.op rfl (op_fieldAddr (o' := 2) rfl Tryd.underlying68 rfl Tryd.sizeOf9 rfl rfl ?_)
  refine At.op rfl (op_store rfl rfl Tryd.sizeOf9 rfl rfl (by first | with_reducible exact Pull.p0 | with_reducible exact Pull.p1 | with_reducible exact Pull.p2 | with_reducible exact Pull.p3 | with_reducible exact Pull.p4 | with_reducible exact Pull.p5 | with_reducible exact Pull.p6 | with_reducible exact Pull.p7 | with_reducible exact Pull.p8 | with_reducible exact Pull.p9) (.succ (.succ .zero)) rfl ?_)
  refine At.op rfl (op_store rfl rfl Tryd.sizeOf9 rfl rfl (by first | with_reducible exact Pull.p0 | with_reducible exact Pull.p1 | with_reducible exact Pull.p2 | with_reducible exact Pull.p3 | with_reducible exact Pull.p4 | with_reducible exact Pull.p5 | with_reducible exact Pull.p6 | with_reducible exact Pull.p7 | with_reducible exact Pull.p8 | with_reducible exact Pull.p9) .zero rfl ?_)
  refine At.op rfl (op_assign rfl rfl ?_)
  refine At.nil ?_
  refine At.then_n ?_
  refine At.seq ?_
  refine At.keep [(2, _), (3, _), (4, _)] (.cons rfl (.cons rfl (.cons rfl .nil))) ?_
  refine At.region ?_
  refine At.op rfl (op_move rfl rfl ?_)
  refine At.op rfl (op_bin rfl rfl b_eq rfl ?_)
  refine At.op rfl (op_move rfl rfl ?_)
  refine At.dsplit (i := 21) rfl (fun hg4 => ?_) (fun hg4 => ?_)
  ·
    refine At.opg rfl rfl rfl (op_move rfl rfl ?_)
    refine At.opg rfl rfl rfl (op_bin rfl rfl b_eq rfl ?_)
    refine At.op rfl (op_pick_t rfl rfl rfl ?_)
    refine At.op rfl (op_assign rfl rfl ?_)
    refine At.nil ?_
    refine At.then_n ?_
    refine At.ret ?_
    exact At.fin1 rfl rfl rfl ⟨rfl, rfl⟩ (.cons (by first | with_reducible exact Pull.p0 | with_reducible exact Pull.p1 | with_reducible exact Pull.p2 | with_reducible exact Pull.p3 | with_reducible exact Pull.p4 | with_reducible exact Pull.p5 | with_reducible exact Pull.p6 | with_reducible exact Pull.p7 | with_reducible exact Pull.p8 | with_reducible exact Pull.p9) (.cons (by first | with_reducible exact Pull.p0 | with_reducible exact Pull.p1 | with_reducible exact Pull.p2 | with_reducible exact Pull.p3 | with_reducible exact Pull.p4 | with_reducible exact Pull.p5 | with_reducible exact Pull.p6 | with_reducible exact Pull.p7 | with_reducible exact Pull.p8 | with_reducible exact Pull.p9) .nil))
  ·
    exfalso; exact hg4 rfl
theorem Get4_any (br : Nat) (r : List UInt8) (h : r.length < 1000000) : Does Tryd.prog G 50 [ptr br 0] [row br [str r] 9 (0, 0)] (OneR (.bool (decide (Lib.trimB r 0 = []))) [row br [str r] 9 (0, 0)]) := by
  refine Does.of Tryd.func50 rfl Tryd.ntmps50 rfl (fun w0 => ?_)
  refine At.keep [(0, _)] (.cons rfl .nil) ?_
  refine At.seq ?_
  refine At.region ?_
  refine At.op rfl (op_assign rfl rfl ?_)
  refine At.nil ?_
  refine At.then_n ?_
  refine At.seq ?_
  refine At.region ?_
  refine At.op rfl (op_load rfl Tryd.isAgg9 (by first | with_reducible exact Pull.p0 | with_reducible exact Pull.p1 | with_reducible exact Pull.p2 | with_reducible exact Pull.p3 | with_reducible exact Pull.p4 | with_reducible exact Pull.p5 | with_reducible exact Pull.p6 | with_reducible exact Pull.p7 | with_reducible exact Pull.p8 | with_reducible exact Pull.p9) rfl rfl ?_)
  refine At.op rfl (op_call1 rfl Tryd.call51 (strings_Trim r 0 (by decide) (by omega)) rfl ?_)
  refine At.op rfl (op_bin rfl rfl (b_seq  (b := [])) rfl ?_)
  refine At.op rfl (op_assign rfl rfl ?_)
  refine At.nil ?_
  refine At.then_n ?_
  refine At.ret ?_
  exact At.fin1 rfl rfl rfl ⟨rfl, rfl⟩ (.cons (by first | with_reducible exact Pull.p0 | with_reducible exact Pull.p1 | with_reducible exact Pull.p2 | with_reducible exact Pull.p3 | with_reducible exact Pull.p4 | with_reducible exact Pull.p5 | with_reducible exact Pull.p6 | with_reducible exact Pull.p7 | with_reducible exact Pull.p8 | with_reducible exact Pull.p9) .nil)
end Go.Proofs.YteckdahgkkmlaaaDoor
end

section
set_option maxRecDepth 20000
set_option linter.unusedVariables false
set_option linter.unusedSimpArgs false
namespace Go.Proofs.YteckdahgkkmlaaaDoor
open Go SL
variable {G : List (Nat × Obj)}
theorem fvget (l : List (Nat × List Value)) (i j : Nat) (h : j = i) {x : Nat × List Value} (hx : l[i]? = some x) : (l.map fv)[j]? = some (fv x) := by
  subst h
  rw [List.getElem?_map, hx]; rfl
theorem cut_refl : ∀ (RS : List Res), Cut RS RS []
  | [] => .nil
  | _ :: RS => .cons .here (cut_refl RS)
theorem frame_all (pb : Nat) (fs : List (Nat × List Value)) (RS RS2 : List Res) (b : Bool) (hl : fs.length < 1000000) (hch : Chain Tryd.prog G fs RS b RS2) : Does Tryd.prog G 43 [slc pb 0 fs.length fs.length] (row pb (fs.map fv) 30 (0, 0) :: RS) (OneR (.bool b) (row pb (fs.map fv) 30 (0, 0) :: RS2)) := by
  refine Does.of Tryd.func43 rfl Tryd.ntmps43 rfl (fun w0 => ?_)
  refine At.keep [(0, _)] (.cons rfl .nil) ?_
  refine At.seq ?_
  refine At.region ?_
  refine At.op rfl (op_assign rfl rfl ?_)
  refine At.nil ?_
  refine At.then_n ?_
  refine At.seq ?_
  refine At.seq ?_
  refine At.region ?_
  refine At.op rfl (op_move rfl rfl ?_)
  refine At.op rfl (op_len_slc rfl Tryd.underlying124 rfl ?_)
  refine At.op rfl (op_move rfl rfl ?_)
  refine At.nil ?_
  refine At.then_n ?_
  refine At.block ?_
  refine At.keep ((fun s => [(5, slc pb 0 fs.length fs.length), (6, i64 fs.length), (7, i64 s.1)]) ((0, RS) : Nat × List Res)) (.cons rfl (.cons rfl (.cons rfl .nil))) ?_
  refine At.loop (σ := Nat × List Res) (fun s => s.1 ≤ fs.length ∧ Chain Tryd.prog G (fs.drop s.1) s.2 b RS2) (fun s => [(5, slc pb 0 fs.length fs.length), (6, i64 fs.length), (7, i64 s.1)]) (fun s => row pb (fs.map fv) 30 (0, 0) :: s.2) (fun s => fs.length - s.1) ((0, RS) : Nat × List Res) ⟨Nat.zero_le _, hch⟩ ?_
  rintro ⟨k, RSk⟩ ⟨hk, hch⟩
  dsimp only at hk hch ⊢
  refine At.seq ?_
  refine At.region ?_
  refine At.op rfl (op_bin rfl rfl b_lt rfl ?_)
  refine At.nil ?_
  refine At.then_n ?_
  refine At.seq ?_
  refine At.cond_p rfl (fun hlt => ?_) (fun hlt => ?_)
  ·
    obtain ⟨x, hx⟩ : ∃ x, fs[k]? = some x := ⟨_, List.getElem?_eq_getElem (by omega)⟩
    have hd : fs.drop k = x :: fs.drop (k + 1) := by
      rw [List.drop_eq_getElem_cons (by omega)]
      rw [(List.getElem?_eq_some_iff.1 hx).2]
    rw [hd] at hch
    obtain ⟨b0, RS1, hcall, hf, hb1, hb2⟩ := hch.uncons
    refine At.skip ?_
    refine At.then_n ?_
    refine At.seq ?_
    refine At.block ?_
    refine At.seq ?_
    refine At.region ?_
    refine At.op rfl (op_indexS rfl rfl Tryd.underlying124 Tryd.sizeOf30 (by omega) (by omega) rfl ?_)
    refine At.op rfl (op_load rfl Tryd.isAgg30 (by first | with_reducible exact Pull.p0 | with_reducible exact Pull.p1 | with_reducible exact Pull.p2 | with_reducible exact Pull.p3 | with_reducible exact Pull.p4 | with_reducible exact Pull.p5 | with_reducible exact Pull.p6 | with_reducible exact Pull.p7 | with_reducible exact Pull.p8 | with_reducible exact Pull.p9) (fvget fs k _ (by omega) hx) rfl ?_)
    refine At.op rfl (op_assign rfl rfl ?_)
    refine At.nil ?_
    refine At.then_n ?_
    refine At.seq ?_
    refine At.region ?_
    refine At.op rfl (op_move rfl rfl ?_)
    refine At.op rfl (op_callC (fs := []) (cap := x.2) rfl rfl hcall rfl hf (cut_tail _ _) rfl ?_)
    rintro v us ⟨rfl, hus⟩
    rw [hus]
    refine At.swapR ?_
    refine At.op rfl (op_not rfl rfl ?_)
    refine At.nil ?_
    refine At.then_n ?_
    refine At.cond rfl (fun hb => ?_) (fun hb => ?_)
    ·
      obtain ⟨rfl, rfl⟩ := hb1 (by simpa using hb)
      refine At.seq ?_
      refine At.region ?_
      refine At.op rfl (op_assign rfl rfl ?_)
      refine At.nil ?_
      refine At.then_n ?_
      refine At.ret ?_
      refine At.blk_r ?_
      refine At.then_r ?_
      refine At.then_r ?_
      refine At.blk_r ?_
      refine At.then_r ?_
      exact At.fin1 rfl rfl rfl ⟨rfl, rfl⟩ (cut_refl _)
    ·
      have hch2 := hb2 (by simpa using hb)
      refine At.skip ?_
      refine At.blk_n ?_
      refine At.then_n ?_
      refine At.region ?_
      refine At.op rfl (op_bin rfl rfl (b_add (by omega) (by omega)) rfl ?_)
      refine At.op rfl (op_move rfl rfl ?_)
      refine At.nil ?_
      refine At.then_n ?_
      exact At.back (kk := []) (k + 1, RS1) ⟨by dsimp only; omega, hch2⟩ (by dsimp only; omega) (.cons rfl (.cons rfl (.cons rfl .nil))) (cut_refl _)
  ·
    rw [List.drop_of_length_le (by omega)] at hch
    obtain ⟨rfl, rfl⟩ := hch.of_nil
    refine At.exit ?_
    refine At.then_e ?_
    refine At.then_e ?_
    refine At.blk_e ?_
    refine At.then_n ?_
    refine At.seq ?_
    refine At.region ?_
    refine At.op rfl (op_assign rfl rfl ?_)
    refine At.nil ?_
    refine At.then_n ?_
    refine At.ret ?_
    exact At.fin1 rfl rfl rfl ⟨rfl, rfl⟩ (cut_refl _)
def rr (s : List UInt8) : List UInt8 := (s.take (Int.toNat 240)).drop (Int.toNat 1)
theorem rr_length (s : List UInt8) (h : s.length = 256) : (rr s).length = 239 := by simp [rr, h]
def getOK (s : List UInt8) : Bool :=
  decide (s.length = 256) && (decide ((shaB (s.take (Int.toNat 240))).take 16 = s.drop (Int.toNat 240)) && (!decide (s.getD 0 0 = 0) && (decide ((ttE ((rr s).drop 8) : Int) = 0) && decide (Lib.trimB (ttR ((rr s).drop 8)) 0 = []))))
def getV (s : List UInt8) : Value :=
  if getOK s = true then .tuple #[frmV (s.getD 0 0) (UInt64.ofNat (leN ((rr s).take 8))) (ttT ((rr s).drop 8)), i64 0] else .tuple #[frmV 0 0 [], i64 120]
theorem ttR_le (l : List UInt8) : (ttR l).length ≤ l.length := by
  unfold ttR; split <;> simp
theorem Get_chain (hG : GOK G) (bp be bf br : Nat) (s : List UInt8) (hs : s.length < 1000000) :
    (getOK s = true ∧ Chain Tryd.prog G [(44, [ptr bp 0, ptr be 0]), (46, [ptr bp 0, ptr be 0, ptr bf 0, ptr br 0]), (47, [ptr br 0, ptr bf 0]), (50, [ptr br 0])] [row bp [str s] 9 (0, 0), row be [i64 ((s.length : Int) - 16)] 3 (0, 0), row bf [u8 0, u64 0, str []] 68 (0, 0), row br [str []] 9 (0, 0)] true [row bp [str s] 9 (0, 0), row be [i64 ((s.length : Int) - 16)] 3 (0, 0), row bf [u8 (s.getD 0 0), u64 (UInt64.ofNat (leN ((rr s).take 8))), str (ttT ((rr s).drop 8))] 68 (0, 0), row br [str (ttR ((rr s).drop 8))] 9 (0, 0)]) ∨ (getOK s = false ∧ ∃ RS, Chain Tryd.prog G [(44, [ptr bp 0, ptr be 0]), (46, [ptr bp 0, ptr be 0, ptr bf 0, ptr br 0]), (47, [ptr br 0, ptr bf 0]), (50, [ptr br 0])] [row bp [str s] 9 (0, 0), row be [i64 ((s.length : Int) - 16)] 3 (0, 0), row bf [u8 0, u64 0, str []] 68 (0, 0), row br [str []] 9 (0, 0)] false RS) := by
  by_cases h : s.length = 256
  · have e : ((s.length : Int) - 16) = 240 := by omega
    rw [e]
    have h0 : s[0]? = some (s.getD 0 0) := by
      rw [List.getD_eq_getElem?_getD, List.getElem?_eq_getElem (by omega)]; rfl
    have c1 := (Get1_full hG bp be s h).frameR (rs := [row bp [str s] 9 (0, 0), row be [i64 240] 3 (0, 0), row bf [u8 0, u64 0, str []] 68 (0, 0), row br [str []] 9 (0, 0)]) (rs' := [row bp [str s] 9 (0, 0), row be [i64 240] 3 (0, 0), row bf [u8 0, u64 0, str []] 68 (0, 0), row br [str []] 9 (0, 0)]) (.cons (by first | with_reducible exact Pull.p0 | with_reducible exact Pull.p1 | with_reducible exact Pull.p2 | with_reducible exact Pull.p3 | with_reducible exact Pull.p4 | with_reducible exact Pull.p5 | with_reducible exact Pull.p6 | with_reducible exact Pull.p7 | with_reducible exact Pull.p8 | with_reducible exact Pull.p9) (.cons (by first | with_reducible exact Pull.p0 | with_reducible exact Pull.p1 | with_reducible exact Pull.p2 | with_reducible exact Pull.p3 | with_reducible exact Pull.p4 | with_reducible exact Pull.p5 | with_reducible exact Pull.p6 | with_reducible exact Pull.p7 | with_reducible exact Pull.p8 | with_reducible exact Pull.p9) .nil)) (.cons (by first | exact Pull.p0 | exact Pull.p1 | exact Pull.p2 | exact Pull.p3 | exact Pull.p4 | exact Pull.p5 | exact Pull.p6 | exact Pull.p7 | exact Pull.p8 | exact Pull.p9) (.cons (by first | exact Pull.p0 | exact Pull.p1 | exact Pull.p2 | exact Pull.p3 | exact Pull.p4 | exact Pull.p5 | exact Pull.p6 | exact Pull.p7 | exact Pull.p8 | exact Pull.p9) (.cons (by first | exact Pull.p0 | exact Pull.p1 | exact Pull.p2 | exact Pull.p3 | exact Pull.p4 | exact Pull.p5 | exact Pull.p6 | exact Pull.p7 | exact Pull.p8 | exact Pull.p9) (.cons (by first | exact Pull.p0 | exact Pull.p1 | exact Pull.p2 | exact Pull.p3 | exact Pull.p4 | exact Pull.p5 | exact Pull.p6 | exact Pull.p7 | exact Pull.p8 | exact Pull.p9) .nil))))
    have c2 := (Get2_any (G := G) bp be bf br s [] [] 0 (s.getD 0 0) 0 h h0)
    have c3 := (Get3_any (G := G) bf br (rr s) [] (s.getD 0 0) 0 (rr_length s h)).frameR (rs := [row bp [str s] 9 (0, 0), row be [i64 240] 3 (0, 0), row bf [u8 (s.getD 0 0), u64 0, str []] 68 (0, 0), row br [str (rr s)] 9 (0, 0)]) (rs' := [row bp [str s] 9 (0, 0), row be [i64 240] 3 (0, 0), row bf [u8 (s.getD 0 0), u64 (UInt64.ofNat (leN ((rr s).take 8))), str (ttT ((rr s).drop 8))] 68 (0, 0), row br [str (ttR ((rr s).drop 8))] 9 (0, 0)]) (.cons (by first | with_reducible exact Pull.p0 | with_reducible exact Pull.p1 | with_reducible exact Pull.p2 | with_reducible exact Pull.p3 | with_reducible exact Pull.p4 | with_reducible exact Pull.p5 | with_reducible exact Pull.p6 | with_reducible exact Pull.p7 | with_reducible exact Pull.p8 | with_reducible exact Pull.p9) (.cons (by first | with_reducible exact Pull.p0 | with_reducible exact Pull.p1 | with_reducible exact Pull.p2 | with_reducible exact Pull.p3 | with_reducible exact Pull.p4 | with_reducible exact Pull.p5 | with_reducible exact Pull.p6 | with_reducible exact Pull.p7 | with_reducible exact Pull.p8 | with_reducible exact Pull.p9) .nil)) (.cons (by first | exact Pull.p0 | exact Pull.p1 | exact Pull.p2 | exact Pull.p3 | exact Pull.p4 | exact Pull.p5 | exact Pull.p6 | exact Pull.p7 | exact Pull.p8 | exact Pull.p9) (.cons (by first | exact Pull.p0 | exact Pull.p1 | exact Pull.p2 | exact Pull.p3 | exact Pull.p4 | exact Pull.p5 | exact Pull.p6 | exact Pull.p7 | exact Pull.p8 | exact Pull.p9) (.cons (by first | exact Pull.p0 | exact Pull.p1 | exact Pull.p2 | exact Pull.p3 | exact Pull.p4 | exact Pull.p5 | exact Pull.p6 | exact Pull.p7 | exact Pull.p8 | exact Pull.p9) (.cons (by first | exact Pull.p0 | exact Pull.p1 | exact Pull.p2 | exact Pull.p3 | exact Pull.p4 | exact Pull.p5 | exact Pull.p6 | exact Pull.p7 | exact Pull.p8 | exact Pull.p9) .nil))))
    have c4 := (Get4_any (G := G) br (ttR ((rr s).drop 8)) (by have := ttR_le ((rr s).drop 8); have := rr_length s h; simp at *; omega)).frameR (rs := [row bp [str s] 9 (0, 0), row be [i64 240] 3 (0, 0), row bf [u8 (s.getD 0 0), u64 (UInt64.ofNat (leN ((rr s).take 8))), str (ttT ((rr s).drop 8))] 68 (0, 0), row br [str (ttR ((rr s).drop 8))] 9 (0, 0)]) (rs' := [row bp [str s] 9 (0, 0), row be [i64 240] 3 (0, 0), row bf [u8 (s.getD 0 0), u64 (UInt64.ofNat (leN ((rr s).take 8))), str (ttT ((rr s).drop 8))] 68 (0, 0), row br [str (ttR ((rr s).drop 8))] 9 (0, 0)]) (.cons (by first | with_reducible exact Pull.p0 | with_reducible exact Pull.p1 | with_reducible exact Pull.p2 | with_reducible exact Pull.p3 | with_reducible exact Pull.p4 | with_reducible exact Pull.p5 | with_reducible exact Pull.p6 | with_reducible exact Pull.p7 | with_reducible exact Pull.p8 | with_reducible exact Pull.p9) .nil) (.cons (by first | exact Pull.p0 | exact Pull.p1 | exact Pull.p2 | exact Pull.p3 | exact Pull.p4 | exact Pull.p5 | exact Pull.p6 | exact Pull.p7 | exact Pull.p8 | exact Pull.p9) (.cons (by first | exact Pull.p0 | exact Pull.p1 | exact Pull.p2 | exact Pull.p3 | exact Pull.p4 | exact Pull.p5 | exact Pull.p6 | exact Pull.p7 | exact Pull.p8 | exact Pull.p9) (.cons (by first | exact Pull.p0 | exact Pull.p1 | exact Pull.p2 | exact Pull.p3 | exact Pull.p4 | exact Pull.p5 | exact Pull.p6 | exact Pull.p7 | exact Pull.p8 | exact Pull.p9) (.cons (by first | exact Pull.p0 | exact Pull.p1 | exact Pull.p2 | exact Pull.p3 | exact Pull.p4 | exact Pull.p5 | exact Pull.p6 | exact Pull.p7 | exact Pull.p8 | exact Pull.p9) .nil))))
    unfold getOK
    rw [decide_eq_true h, Bool.true_and]
    by_cases g1 : (shaB (s.take (Int.toNat 240))).take 16 = s.drop (Int.toNat 240)
    · rw [decide_eq_true g1] at c1 ⊢
      rw [Bool.true_and]
      by_cases g2 : s.getD 0 0 = 0
      · rw [decide_eq_true g2] at c2 ⊢
        exact .inr ⟨rfl, _, .go Tryd.call44 c1 (.stop Tryd.call46 c2)⟩
      · rw [decide_eq_false g2] at c2 ⊢
        rw [Bool.not_false, Bool.true_and]
        by_cases g3 : (ttE ((rr s).drop 8) : Int) = 0
        · rw [decide_eq_true g3] at c3 ⊢
          rw [Bool.true_and]
          by_cases g4 : Lib.trimB (ttR ((rr s).drop 8)) 0 = []
          · rw [decide_eq_true g4] at c4 ⊢
            exact .inl ⟨rfl, .go Tryd.call44 c1 (.go Tryd.call46 c2 (.go Tryd.call47 c3 (.go Tryd.call50 c4 .nil)))⟩
          · rw [decide_eq_false g4] at c4 ⊢
            exact .inr ⟨rfl, _, .go Tryd.call44 c1 (.go Tryd.call46 c2 (.go Tryd.call47 c3 (.stop Tryd.call50 c4)))⟩
        · rw [decide_eq_false g3] at c3 ⊢
          exact .inr ⟨rfl, _, .go Tryd.call44 c1 (.go Tryd.call46 c2 (.stop Tryd.call47 c3))⟩
    · rw [decide_eq_false g1] at c1 ⊢
      exact .inr ⟨rfl, _, .stop Tryd.call44 c1⟩
  · refine .inr ⟨?_, _, .stop Tryd.call44 ((Get1_short bp be s ((s.length : Int) - 16) h).frameR (rs' := [row bp [str s] 9 (0, 0), row be [i64 ((s.length : Int) - 16)] 3 (0, 0), row bf [u8 0, u64 0, str []] 68 (0, 0), row br [str []] 9 (0, 0)]) (.cons (by first | with_reducible exact Pull.p0 | with_reducible exact Pull.p1 | with_reducible exact Pull.p2 | with_reducible exact Pull.p3 | with_reducible exact Pull.p4 | with_reducible exact Pull.p5 | with_reducible exact Pull.p6 | with_reducible exact Pull.p7 | with_reducible exact Pull.p8 | with_reducible exact Pull.p9) (.cons (by first | with_reducible exact Pull.p0 | with_reducible exact Pull.p1 | with_reducible exact Pull.p2 | with_reducible exact Pull.p3 | with_reducible exact Pull.p4 | with_reducible exact Pull.p5 | with_reducible exact Pull.p6 | with_reducible exact Pull.p7 | with_reducible exact Pull.p8 | with_reducible exact Pull.p9) .nil)) (.cons (by first | exact Pull.p0 | exact Pull.p1 | exact Pull.p2 | exact Pull.p3 | exact Pull.p4 | exact Pull.p5 | exact Pull.p6 | exact Pull.p7 | exact Pull.p8 | exact Pull.p9) (.cons (by first | exact Pull.p0 | exact Pull.p1 | exact Pull.p2 | exact Pull.p3 | exact Pull.p4 | exact Pull.p5 | exact Pull.p6 | exact Pull.p7 | exact Pull.p8 | exact Pull.p9) (.cons (by first | exact Pull.p0 | exact Pull.p1 | exact Pull.p2 | exact Pull.p3 | exact Pull.p4 | exact Pull.p5 | exact Pull.p6 | exact Pull.p7 | exact Pull.p8 | exact Pull.p9) (.cons (by first | exact Pull.p0 | exact Pull.p1 | exact Pull.p2 | exact Pull.p3 | exact Pull.p4 | exact Pull.p5 | exact Pull.p6 | exact Pull.p7 | exact Pull.p8 | exact Pull.p9) .nil)))))⟩
    unfold getOK
    rw [decide_eq_false h, Bool.false_and]
end Go.Proofs.YteckdahgkkmlaaaDoor
end

section
set_option maxRecDepth 20000
set_option linter.unusedVariables false
set_option linter.unusedSimpArgs false
namespace Go.Proofs.YteckdahgkkmlaaaDoor
open Go SL
variable {G : List (Nat × Obj)}
theorem frame_Get (hG : GOK G) (s : List UInt8) (hs : s.length < 1000000) : Does Tryd.prog G 28 [str s] [] (One (getV s)) := by
  refine Does.of Tryd.func28 rfl Tryd.ntmps28 rfl (fun w0 => ?_)
  refine At.keep [(0, _)] (.cons rfl .nil) ?_
  refine At.seq ?_
  refine At.region ?_
  refine At.op rfl (op_box rfl rfl rfl ?_)
  intro bp
  refine At.op rfl (op_alloc Tryd.zeroValue68 rfl rfl ?_)
  intro b2
  refine At.op rfl (op_assign rfl rfl ?_)
  refine At.nil ?_
  refine At.then_n ?_
  refine At.seq ?_
  refine At.region ?_
  refine At.op rfl (op_alloc Tryd.zeroValue68 rfl rfl ?_)
  intro bf
  refine At.nil ?_
  refine At.then_n ?_
  refine At.seq ?_
  refine At.region ?_
  refine At.op rfl (op_alloc Tryd.zeroValue9 rfl rfl ?_)
  intro br
  refine At.nil ?_
  refine At.then_n ?_
  refine At.seq ?_
  refine At.region ?_
  refine At.op rfl (op_load rfl Tryd.isAgg9 (by first | with_reducible exact Pull.p0 | with_reducible exact Pull.p1 | with_reducible exact Pull.p2 | with_reducible exact Pull.p3 | with_reducible exact Pull.p4 | with_reducible exact Pull.p5 | with_reducible exact Pull.p6 | with_reducible exact Pull.p7 | with_reducible exact Pull.p8 | with_reducible exact Pull.p9) rfl rfl ?_)
  refine At.op rfl (op_len_str rfl Tryd.underlying9 rfl ?_)
  refine At.op rfl (op_bin rfl rfl (b_sub (by omega) (by omega)) rfl ?_)
  refine At.op rfl (op_alloc Tryd.zeroValue3 rfl rfl ?_)
  intro be
  refine At.op rfl (op_store rfl rfl Tryd.sizeOf3 rfl rfl (by first | with_reducible exact Pull.p0 | with_reducible exact Pull.p1 | with_reducible exact Pull.p2 | with_reducible exact Pull.p3 | with_reducible exact Pull.p4 | with_reducible exact Pull.p5 | with_reducible exact Pull.p6 | with_reducible exact Pull.p7 | with_reducible exact Pull.p8 | with_reducible exact Pull.p9) .zero rfl ?_)
  refine At.nil ?_
  refine At.then_n ?_
  refine At.seq ?_
  refine At.region ?_
  refine At.op rfl (op_makeFunc rfl rfl rfl ?_)
  refine At.op rfl (op_makeFunc rfl rfl rfl ?_)
  refine At.op rfl (op_makeFunc rfl rfl rfl ?_)
  refine At.op rfl (op_makeFunc rfl rfl rfl ?_)
  refine At.op rfl (op_buildSlice1 [_, _, _, _] rfl rfl Tryd.underlying124 et30 rfl (by decide) (List.forall_mem_cons.2 ⟨rfl, (List.forall_mem_cons.2 ⟨rfl, (List.forall_mem_cons.2 ⟨rfl, (List.forall_mem_cons.2 ⟨rfl, (fun _ h => by cases h)⟩)⟩)⟩)⟩) rfl ?_)
  intro pb
  rcases Get_chain hG bp be bf br s hs with ⟨hok, hch⟩ | ⟨hok, RS, hch⟩
  ·
    refine At.op rfl (op_callR rfl Tryd.call43 (frame_all pb [(44, [ptr bp 0, ptr be 0]), (46, [ptr bp 0, ptr be 0, ptr bf 0, ptr br 0]), (47, [ptr br 0, ptr bf 0]), (50, [ptr br 0])] [row bp [str s] 9 (0, 0), row be [i64 ((s.length : Int) - 16)] 3 (0, 0), row bf [u8 0, u64 0, str []] 68 (0, 0), row br [str []] 9 (0, 0)] [row bp [str s] 9 (0, 0), row be [i64 ((s.length : Int) - 16)] 3 (0, 0), row bf [u8 (s.getD 0 0), u64 (UInt64.ofNat (leN ((rr s).take 8))), str (ttT ((rr s).drop 8))] 68 (0, 0), row br [str (ttR ((rr s).drop 8))] 9 (0, 0)] true (by simp) hch) (.cons (by first | exact Pull.p0 | exact Pull.p1 | exact Pull.p2 | exact Pull.p3 | exact Pull.p4 | exact Pull.p5 | exact Pull.p6 | exact Pull.p7 | exact Pull.p8 | exact Pull.p9) (.cons (by first | exact Pull.p0 | exact Pull.p1 | exact Pull.p2 | exact Pull.p3 | exact Pull.p4 | exact Pull.p5 | exact Pull.p6 | exact Pull.p7 | exact Pull.p8 | exact Pull.p9) (.cons (by first | exact Pull.p0 | exact Pull.p1 | exact Pull.p2 | exact Pull.p3 | exact Pull.p4 | exact Pull.p5 | exact Pull.p6 | exact Pull.p7 | exact Pull.p8 | exact Pull.p9) (.cons (by first | exact Pull.p0 | exact Pull.p1 | exact Pull.p2 | exact Pull.p3 | exact Pull.p4 | exact Pull.p5 | exact Pull.p6 | exact Pull.p7 | exact Pull.p8 | exact Pull.p9) (.cons (by first | exact Pull.p0 | exact Pull.p1 | exact Pull.p2 | exact Pull.p3 | exact Pull.p4 | exact Pull.p5 | exact Pull.p6 | exact Pull.p7 | exact Pull.p8 | exact Pull.p9) .nil))))) rfl ?_)
    refine At.app5 ?_
    refine At.op rfl (op_assign rfl rfl ?_)
    refine At.nil ?_
    refine At.then_n ?_
    refine At.seq ?_
    refine At.seq ?_
    refine At.keep [(2, _), (3, _), (4, _), (7, _)] (.cons rfl (.cons rfl (.cons rfl (.cons rfl .nil)))) ?_
    refine At.region ?_
    refine At.op rfl (op_move rfl rfl ?_)
    refine At.op rfl (op_not rfl rfl ?_)
    refine At.nil ?_
    refine At.then_n ?_
    refine At.cond_f rfl ?_
    refine At.skip ?_
    refine At.then_n ?_
    refine At.seq ?_
    refine At.region ?_
    refine At.op rfl (op_loadW rfl Tryd.isAgg68 Tryd.sizeOf68 (by first | with_reducible exact Pull.p0 | with_reducible exact Pull.p1 | with_reducible exact Pull.p2 | with_reducible exact Pull.p3 | with_reducible exact Pull.p4 | with_reducible exact Pull.p5 | with_reducible exact Pull.p6 | with_reducible exact Pull.p7 | with_reducible exact Pull.p8 | with_reducible exact Pull.p9) rfl rfl ?_)
    refine At.op rfl (op_storeW rfl rfl Tryd.sizeOf68 (by repeat' (first | refine List.forall_mem_cons.2 ⟨rfl, ?_⟩ | exact (fun _ h => by cases h))) (by first | with_reducible exact Pull.p0 | with_reducible exact Pull.p1 | with_reducible exact Pull.p2 | with_reducible exact Pull.p3 | with_reducible exact Pull.p4 | with_reducible exact Pull.p5 | with_reducible exact Pull.p6 | with_reducible exact Pull.p7 | with_reducible exact Pull.p8 | with_reducible exact Pull.p9) rfl rfl ?_)
    refine At.op rfl (op_assign rfl rfl ?_)
    refine At.nil ?_
    refine At.then_n ?_
    refine At.ret ?_
    refine At.fin _ (.inl rfl) (l := [.cell 2 68, .tmp 3]) rfl rfl (.agg rfl (by first | with_reducible exact Pull.p0 | with_reducible exact Pull.p1 | with_reducible exact Pull.p2 | with_reducible exact Pull.p3 | with_reducible exact Pull.p4 | with_reducible exact Pull.p5 | with_reducible exact Pull.p6 | with_reducible exact Pull.p7 | with_reducible exact Pull.p8 | with_reducible exact Pull.p9) Tryd.isAgg68 Tryd.sizeOf68 rfl (.tmp rfl .nil)) rfl ⟨?_, rfl⟩ .nil
    unfold getV; rw [hok]; rfl
  ·
    refine At.op rfl (op_callR rfl Tryd.call43 ((frame_all pb [(44, [ptr bp 0, ptr be 0]), (46, [ptr bp 0, ptr be 0, ptr bf 0, ptr br 0]), (47, [ptr br 0, ptr bf 0]), (50, [ptr br 0])] [row bp [str s] 9 (0, 0), row be [i64 ((s.length : Int) - 16)] 3 (0, 0), row bf [u8 0, u64 0, str []] 68 (0, 0), row br [str []] 9 (0, 0)] RS false (by simp) hch).frameR (rs := (row pb ([(44, [ptr bp 0, ptr be 0]), (46, [ptr bp 0, ptr be 0, ptr bf 0, ptr br 0]), (47, [ptr br 0, ptr bf 0]), (50, [ptr br 0])].map fv) 30 (0, 0) :: [row bp [str s] 9 (0, 0), row be [i64 ((s.length : Int) - 16)] 3 (0, 0), row bf [u8 0, u64 0, str []] 68 (0, 0), row br [str []] 9 (0, 0)])) (rs' := []) (cut_refl _) .nil) (.cons (by first | exact Pull.p0 | exact Pull.p1 | exact Pull.p2 | exact Pull.p3 | exact Pull.p4 | exact Pull.p5 | exact Pull.p6 | exact Pull.p7 | exact Pull.p8 | exact Pull.p9) (.cons (by first | exact Pull.p0 | exact Pull.p1 | exact Pull.p2 | exact Pull.p3 | exact Pull.p4 | exact Pull.p5 | exact Pull.p6 | exact Pull.p7 | exact Pull.p8 | exact Pull.p9) (.cons (by first | exact Pull.p0 | exact Pull.p1 | exact Pull.p2 | exact Pull.p3 | exact Pull.p4 | exact Pull.p5 | exact Pull.p6 | exact Pull.p7 | exact Pull.p8 | exact Pull.p9) (.cons (by first | exact Pull.p0 | exact Pull.p1 | exact Pull.p2 | exact Pull.p3 | exact Pull.p4 | exact Pull.p5 | exact Pull.p6 | exact Pull.p7 | exact Pull.p8 | exact Pull.p9) (.cons (by first | exact Pull.p0 | exact Pull.p1 | exact Pull.p2 | exact Pull.p3 | exact Pull.p4 | exact Pull.p5 | exact Pull.p6 | exact Pull.p7 | exact Pull.p8 | exact Pull.p9) .nil))))) rfl ?_)
    refine At.app0 ?_
    refine At.op rfl (op_assign rfl rfl ?_)
    refine At.nil ?_
    refine At.then_n ?_
    refine At.seq ?_
    refine At.seq ?_
    refine At.keep [(2, _), (3, _), (4, _), (7, _)] (.cons rfl (.cons rfl (.cons rfl (.cons rfl .nil)))) ?_
    refine At.region ?_
    refine At.op rfl (op_move rfl rfl ?_)
    refine At.op rfl (op_not rfl rfl ?_)
    refine At.nil ?_
    refine At.then_n ?_
    refine At.cond_t rfl ?_
    refine At.seq ?_
    refine At.region ?_
    refine At.op rfl (op_build (v := frmV 0 0 []) rfl (fun w => run_build w _ _ _ (by kernel_rfl)) rfl ?_)
    refine At.op rfl (op_storeW rfl rfl Tryd.sizeOf68 (by repeat' (first | refine List.forall_mem_cons.2 ⟨rfl, ?_⟩ | exact (fun _ h => by cases h))) (by first | with_reducible exact Pull.p0 | with_reducible exact Pull.p1 | with_reducible exact Pull.p2 | with_reducible exact Pull.p3 | with_reducible exact Pull.p4 | with_reducible exact Pull.p5 | with_reducible exact Pull.p6 | with_reducible exact Pull.p7 | with_reducible exact Pull.p8 | with_reducible exact Pull.p9) rfl rfl ?_)
    refine At.op rfl (op_assign rfl rfl ?_)
    refine At.nil ?_
    refine At.then_n ?_
    refine At.ret ?_
    refine At.then_r ?_
    refine At.fin _ (.inl rfl) (l := [.cell 2 68, .tmp 3]) rfl rfl (.agg rfl (by first | with_reducible exact Pull.p0 | with_reducible exact Pull.p1 | with_reducible exact Pull.p2 | with_reducible exact Pull.p3 | with_reducible exact Pull.p4 | with_reducible exact Pull.p5 | with_reducible exact Pull.p6 | with_reducible exact Pull.p7 | with_reducible exact Pull.p8 | with_reducible exact Pull.p9) Tryd.isAgg68 Tryd.sizeOf68 rfl (.tmp rfl .nil)) rfl ⟨?_, rfl⟩ .nil
    unfold getV; rw [hok]; rfl
theorem trimB_zeros (n : Nat) : Lib.trimB (List.replicate n 0) 0 = [] := by
  have h1 : ∀ n : Nat, (List.replicate n (0 : UInt8)).dropWhile (· == 0) = [] := fun n => by
    induction n with
    | zero => rfl
    | succ n ih => rw [List.replicate_succ, List.dropWhile_cons_of_pos (by rfl), ih]
  simp [Lib.trimB, Lib.trimRightB, Lib.trimLeftB, h1]
theorem putS_length (k : UInt8) (q : UInt64) (t : List UInt8) (h : t.length ≤ 229) : (putS k q t).length = 256 := by
  simp [putS, putB_length k q t h, shaB_length]
theorem putS_take (k : UInt8) (q : UInt64) (t : List UInt8) (h : t.length ≤ 229) : (putS k q t).take (Int.toNat 240) = putB k q t :=
  List.take_left' (putB_length k q t h)
theorem putS_drop (k : UInt8) (q : UInt64) (t : List UInt8) (h : t.length ≤ 229) : (putS k q t).drop (Int.toNat 240) = (shaB (putB k q t)).take 16 :=
  List.drop_left' (putB_length k q t h)
theorem putS_head (k : UInt8) (q : UInt64) (t : List UInt8) : (putS k q t).getD 0 0 = k := by
  simp [putS, putB, bodyF]
theorem putS_rr (k : UInt8) (q : UInt64) (t : List UInt8) (h : t.length ≤ 229) : rr (putS k q t) = leB q.toNat 8 ++ ((leB t.length 2 ++ t) ++ List.replicate (240 - (bodyF k q t).length) 0) := by
  unfold rr
  rw [putS_take k q t h]
  show (putB k q t).drop 1 = _
  simp [putB, bodyF]
theorem putS_n (k : UInt8) (q : UInt64) (t : List UInt8) (h : t.length ≤ 229) : UInt64.ofNat (leN ((rr (putS k q t)).take 8)) = q := by
  rw [putS_rr k q t h, List.take_left' (leB_length _ _), leN_leB _ _ (by have := q.toNat_lt; omega)]
  exact UInt64.ofNat_toNat
theorem putS_rest (k : UInt8) (q : UInt64) (t : List UInt8) (h : t.length ≤ 229) : (rr (putS k q t)).drop 8 = leB t.length 2 ++ (t ++ List.replicate (240 - (bodyF k q t).length) 0) := by
  rw [putS_rr k q t h, List.drop_left' (leB_length _ _), List.append_assoc]
theorem tt_of (t z : List UInt8) (h : t.length ≤ 1000) : ttE (leB t.length 2 ++ (t ++ z)) = 0 ∧ ttT (leB t.length 2 ++ (t ++ z)) = t ∧ ttR (leB t.length 2 ++ (t ++ z)) = z := by
  have e1 : (leB t.length 2 ++ (t ++ z)).take 2 = leB t.length 2 := List.take_left' (leB_length _ _)
  have e2 : leN (leB t.length 2) = t.length := leN_leB _ _ (by omega)
  have e3 : (leB t.length 2 ++ (t ++ z)).drop 2 = t ++ z := List.drop_left' (leB_length _ _)
  have e4 : (leB t.length 2 ++ (t ++ z)).length = 2 + (t.length + z.length) := by simp [leB_length]
  have h0 : ttE (leB t.length 2 ++ (t ++ z)) = 0 := by
    unfold ttE
    rw [e1, e2, if_neg (by omega), if_neg (by omega), if_neg (by omega)]
  refine ⟨h0, ?_, ?_⟩
  · unfold ttT; rw [if_pos h0, e1, e2, e3]; exact List.take_left' rfl
  · unfold ttR; rw [if_pos h0, e1, e2, e3]; exact List.drop_left' rfl
theorem get_put (k : UInt8) (q : UInt64) (t : List UInt8) (hk : k ≠ 0) (h : t.length ≤ 229) : getV (putS k q t) = .tuple #[frmV k q t, i64 0] := by
  obtain ⟨h1, h2, h3⟩ := tt_of t (List.replicate (240 - (bodyF k q t).length) 0) (by omega)
  rw [← putS_rest k q t h] at h1 h2 h3
  have hok : getOK (putS k q t) = true := by
    unfold getOK
    rw [putS_take k q t h, putS_drop k q t h, putS_head, h1, h3, putS_length k q t h, trimB_zeros]
    simp [hk]
  unfold getV
  rw [if_pos hok, putS_head, putS_n k q t h, h2]
theorem putS_inj (k k' : UInt8) (q q' : UInt64) (t t' : List UInt8) (hk : k ≠ 0) (h : t.length ≤ 229) (hk' : k' ≠ 0) (h' : t'.length ≤ 229) : putS k q t = putS k' q' t' ↔ (k = k' ∧ q = q' ∧ t = t') := by
  constructor
  · intro e
    have e1 := get_put k q t hk h
    rw [e, get_put k' q' t' hk' h'] at e1
    simp only [Value.tuple.injEq, frmV, Array.mk.injEq, List.cons.injEq, Value.agg.injEq, and_true] at e1
    obtain ⟨a1, a2, a3⟩ := e1
    refine ⟨?_, ?_, ?_⟩
    · exact (u8_inj.1 (by simpa [u8] using a1)).symm
    · exact (u64_inj.1 (by simpa [u64] using a2)).symm
    · simpa [str] using a3.symm
  · rintro ⟨rfl, rfl, rfl⟩; rfl
end Go.Proofs.YteckdahgkkmlaaaDoor
end

