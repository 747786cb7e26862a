/- Walks of the program's functions. -/
import Derived.Test.YteckdahgkkmlaaaGreatDoorSLBase
import Derived.Test.YteckdahgkkmlaaaGreatDoorSLSpecA
import Derived.KernelRfl
set_option maxRecDepth 20000
set_option linter.unusedVariables false
set_option linter.unusedSimpArgs false
namespace Go.Proofs.YteckdahgkkmlaaaGreatDoor
open Go SL
variable {G : List (Nat × Obj)}
theorem mac_Same (a b : List UInt8) (ha : a.length < 9000000000000000000) (hb : b.length < 9000000000000000000) : Does Tryz.prog G 53 [str a, str b] [] (One (.bool (decide (a = b)))) := by
  refine Does.of Tryz.func53 rfl Tryz.ntmps53 rfl (fun w0 => ?_)
  refine At.keep [(0, _), (1, _)] (.cons rfl (.cons rfl .nil)) ?_
  refine At.seq ?_
  refine At.region ?_
  refine At.op rfl (op_assign rfl rfl ?_)
  refine At.nil ?_
  refine At.then_n ?_
  refine At.seq ?_
  refine At.region ?_
  refine At.op rfl (op_assign rfl rfl ?_)
  refine At.nil ?_
  refine At.then_n ?_
  refine At.seq ?_
  refine At.seq ?_
  refine At.region ?_
  refine At.op rfl (op_move rfl rfl ?_)
  refine At.op rfl (op_len_str rfl Tryz.underlying9 rfl ?_)
  refine At.op rfl (op_move rfl rfl ?_)
  refine At.op rfl (op_len_str rfl Tryz.underlying9 rfl ?_)
  refine At.op rfl (op_min rfl rfl rfl ?_)
  refine At.op rfl (op_move rfl rfl ?_)
  refine At.nil ?_
  refine At.then_n ?_
  refine At.block ?_
  refine At.keep ((fun k : Nat => [(0, str a), (1, str b), (5, u8 (dif (a.take k) (b.take k) 0)), (11, i64 ((min a.length b.length : Nat) : Int)), (12, i64 k)]) (0 : Nat)) (.cons rfl (.cons rfl (.cons rfl (.cons (congrArg (fun n => some (Value.int .i64 n)) (by split <;> omega)) (.cons rfl .nil))))) ?_
  refine At.loop (σ := Nat) (fun k => k ≤ min a.length b.length) (fun k : Nat => [(0, str a), (1, str b), (5, u8 (dif (a.take k) (b.take k) 0)), (11, i64 ((min a.length b.length : Nat) : Int)), (12, i64 k)]) (fun _ => _) (fun k => min a.length b.length - k) (0 : Nat) (Nat.zero_le _) ?_
  rintro k hk
  refine At.seq ?_
  refine At.region ?_
  refine At.op rfl (op_bin rfl rfl b_lt rfl ?_)
  refine At.nil ?_
  refine At.then_n ?_
  refine At.seq ?_
  refine At.cond_p rfl (fun hlt => ?_) (fun hlt => ?_)
  ·
    obtain ⟨xa, hxa⟩ : ∃ x, a[k]? = some x := ⟨_, List.getElem?_eq_getElem (by omega)⟩
    obtain ⟨xb, hxb⟩ : ∃ x, b[k]? = some x := ⟨_, List.getElem?_eq_getElem (by omega)⟩
    refine At.skip ?_
    refine At.then_n ?_
    refine At.seq ?_
    refine At.block ?_
    refine At.seq ?_
    refine At.region ?_
    refine At.op rfl (op_move rfl rfl ?_)
    refine At.op rfl (op_assign rfl rfl ?_)
    refine At.nil ?_
    refine At.then_n ?_
    refine At.drawC [_, _, _, _, _, _, _, _, _, _] (by kernel_rfl) (by decide) (by kernel_rfl) 
      (Steps'.cons (Step.op rfl (fun D h1 h2 h3 K hK => op_move (mD_not 9 (by decide) (not_yet h3 (q := 9) rfl 1 rfl rfl h1) rfl rfl rfl) rfl hK))
      (Steps'.cons (Step.op rfl (fun D h1 h2 h3 K hK => op_move (mD_base rfl rfl) rfl hK))
      (Steps'.cons (Step.op rfl (fun D h1 h2 h3 K hK => op_move (mD_base rfl rfl) rfl hK))
      (Steps'.cons (Step.op rfl (fun D h1 h2 h3 K hK => op_indexStr (mD_done 1 (by decide) (pre_at h2 0 rfl rfl) rfl rfl rfl) (mD_done 2 (by decide) (pre_at h2 1 rfl rfl) rfl rfl rfl) Tryz.underlying9 (by omega) hxa rfl hK))
      (Steps'.cons (Step.op rfl (fun D h1 h2 h3 K hK => op_move (mD_base rfl rfl) rfl hK))
      (Steps'.cons (Step.op rfl (fun D h1 h2 h3 K hK => op_move (mD_base rfl rfl) rfl hK))
      (Steps'.cons (Step.op rfl (fun D h1 h2 h3 K hK => op_indexStr (mD_done 4 (by decide) (pre_at h2 0 rfl rfl) rfl rfl rfl) (mD_done 5 (by decide) (pre_at h2 1 rfl rfl) rfl rfl rfl) Tryz.underlying9 (by omega) hxb rfl hK))
      (Steps'.cons (Step.op rfl (fun D h1 h2 h3 K hK => op_bin (mD_done 3 (by decide) (pre_at h2 0 rfl rfl) rfl rfl rfl) (mD_done 6 (by decide) (pre_at h2 1 rfl rfl) rfl rfl rfl) (b8_xor _ _) rfl hK))
      (Steps'.cons (Step.op rfl (fun D h1 h2 h3 K hK => op_bin (mD_done 0 (by decide) (pre_at h2 0 rfl rfl) rfl rfl rfl) (mD_done 7 (by decide) (pre_at h2 1 rfl rfl) rfl rfl rfl) (b8_or _ _) rfl hK))
      (Steps'.cons (Step.op rfl (fun D h1 h2 h3 K hK => op_assign (mD_done 8 (by decide) (pre_at h2 0 rfl rfl) rfl rfl rfl) rfl hK))
      Steps'.nil)))))))))) ?_
    refine At.keep [(0, _), (1, _), (11, _), (12, _), (5, _)] (.cons rfl (.cons rfl (.cons rfl (.cons rfl (.cons rfl .nil))))) ?_
    refine At.blk_n ?_
    refine At.then_n ?_
    refine At.region ?_
    refine At.op rfl (op_bin rfl rfl (b_add (by omega) (by omega)) rfl ?_)
    refine At.op rfl (op_move rfl rfl ?_)
    refine At.nil ?_
    refine At.then_n ?_
    refine At.back (k + 1) (by omega) (by omega) (.cons rfl (.cons rfl (.cons ?_ (.cons rfl (.cons rfl .nil))))) .nil
    exact congrArg (fun x => some (u8 x)) (by rw [take_snoc a k _ hxa, take_snoc b k _ hxb, dif_snoc _ _ _ _ _ (by simp; omega)])
  ·
    refine At.exit ?_
    refine At.then_e ?_
    refine At.then_e ?_
    refine At.blk_e ?_
    refine At.then_n ?_
    refine At.seq ?_
    refine At.region ?_
    refine At.op rfl (op_move rfl rfl ?_)
    refine At.op rfl (op_len_str rfl Tryz.underlying9 rfl ?_)
    refine At.op rfl (op_move rfl rfl ?_)
    refine At.op rfl (op_len_str rfl Tryz.underlying9 rfl ?_)
    refine At.op rfl (op_bin rfl rfl b_eq rfl ?_)
    refine At.op rfl (op_move rfl rfl ?_)
    refine At.dsplit (i := 30) rfl (fun hg7 => ?_) (fun hg7 => ?_)
    ·
      refine At.opg rfl rfl rfl (op_move rfl rfl ?_)
      refine At.opg rfl rfl rfl (op_bin rfl rfl (b8_eq _ (0 : UInt8)) rfl ?_)
      refine At.op rfl (op_pick_t rfl rfl rfl ?_)
      refine At.op rfl (op_assign rfl rfl ?_)
      refine At.nil ?_
      refine At.then_n ?_
      refine At.ret ?_
      refine At.fin1 rfl rfl rfl ⟨?_, rfl⟩ .nil
      first
        | (have e1 : a.length = b.length := by omega
           have e2 : a.take k = a := List.take_of_length_le (by omega)
           have e3 : b.take k = b := List.take_of_length_le (by omega)
           rw [e2, e3]; simp [dif_zero a b 0 e1])
        | (have e : a ≠ b := fun e => by subst e; exact hg7 rfl
           simp [e])
    ·
      refine At.opk (want := false) rfl rfl rfl rfl rfl ?_
      refine At.opk (want := false) rfl rfl rfl rfl rfl ?_
      refine At.op rfl (op_pick_f rfl rfl rfl ?_)
      refine At.op rfl (op_assign rfl rfl ?_)
      refine At.nil ?_
      refine At.then_n ?_
      refine At.ret ?_
      refine At.fin1 rfl rfl rfl ⟨?_, rfl⟩ .nil
      first
        | (have e1 : a.length = b.length := by omega
           have e2 : a.take k = a := List.take_of_length_le (by omega)
           have e3 : b.take k = b := List.take_of_length_le (by omega)
           rw [e2, e3]; simp [dif_zero a b 0 e1])
        | (have e : a ≠ b := fun e => by subst e; exact hg7 rfl
           simp [e])
end Go.Proofs.YteckdahgkkmlaaaGreatDoor
