/- Walks of the program's functions. -/
import Derived.Test.YtcppimolaiinhaaDoorSLV4
import Derived.Test.YtcppimolaiinhaaDoorSLW10
import Derived.KernelRfl
set_option maxRecDepth 20000
set_option linter.unusedVariables false
set_option linter.unusedSimpArgs false
namespace Go.Proofs.YtcppimolaiinhaaDoor
open Go SL
variable {G : List (Nat × Obj)}
theorem law12_FramePuts (hG : GOK G) (k : UInt8) (q : UInt64) (t : List UInt8) : Does Tryd.prog G 3 [frmV k q t] [] (One (.bool true)) := by
  refine Does.of Tryd.func3 rfl Tryd.ntmps3 rfl (fun w0 => ?_)
  refine At.keep [(0, _)] (.cons rfl .nil) ?_
  refine At.seq ?_
  refine At.region ?_
  refine At.op rfl (op_box rfl rfl rfl ?_)
  intro b1
  refine At.op rfl (op_assign rfl rfl ?_)
  refine At.nil ?_
  refine At.then_n ?_
  refine At.seq ?_
  refine At.seq ?_
  refine At.region ?_
  refine At.op rfl (op_fieldAddr (o' := 2) rfl Tryd.underlying24 rfl Tryd.sizeOf9 rfl rfl ?_)
  refine At.op rfl (op_load rfl Tryd.isAgg9 (by first | with_reducible exact Pull.p0 | with_reducible exact Pull.p1 | with_reducible exact Pull.p2 | with_reducible exact Pull.p3 | with_reducible exact Pull.p4 | with_reducible exact Pull.p5 | with_reducible exact Pull.p6 | with_reducible exact Pull.p7 | with_reducible exact Pull.p8 | with_reducible exact Pull.p9) rfl rfl ?_)
  refine At.op rfl (op_len_str rfl Tryd.underlying9 rfl ?_)
  refine At.op rfl (op_bin rfl rfl b_gt rfl ?_)
  refine At.op rfl (op_move rfl rfl ?_)
  refine At.dsplit (i := 13) rfl (fun hg1 => ?_) (fun hg1 => ?_)
  ·
    refine At.opk (want := true) rfl rfl rfl rfl rfl ?_
    refine At.opk (want := true) rfl rfl rfl rfl rfl ?_
    refine At.op rfl (op_pick_t rfl rfl rfl ?_)
    refine At.nil ?_
    refine At.then_n ?_
    refine At.cond_t rfl ?_
    refine At.seq ?_
    refine At.region ?_
    refine At.op rfl (op_call1 rfl Tryd.call6 (law12_shown hG) rfl ?_)
    refine At.op rfl (op_assign rfl rfl ?_)
    refine At.nil ?_
    refine At.then_n ?_
    refine At.ret ?_
    refine At.then_r ?_
    refine At.fin1 rfl rfl rfl ⟨?_, rfl⟩ .nil
    first
      | rfl
      | (refine congrArg Value.bool (decide_eq_true ?_); rcases hp1 with ⟨h, _⟩ | ⟨_, h⟩
         · omega
         · exact h)
  ·
    refine At.opg rfl rfl rfl (op_call1 rfl Tryd.call6 (law12_shown hG) rfl ?_)
    refine At.opg rfl rfl rfl (op_not rfl rfl ?_)
    refine At.op rfl (op_pick_f rfl rfl rfl ?_)
    refine At.nil ?_
    refine At.then_n ?_
    refine At.cond_f rfl ?_
    refine At.skip ?_
    refine At.then_n ?_
    refine At.seq ?_
    refine At.region ?_
    refine At.op rfl (op_loadW rfl Tryd.isAgg24 Tryd.sizeOf24 (by first | with_reducible exact Pull.p0 | with_reducible exact Pull.p1 | with_reducible exact Pull.p2 | with_reducible exact Pull.p3 | with_reducible exact Pull.p4 | with_reducible exact Pull.p5 | with_reducible exact Pull.p6 | with_reducible exact Pull.p7 | with_reducible exact Pull.p8 | with_reducible exact Pull.p9) rfl rfl ?_)
    refine At.op rfl (op_call1 rfl Tryd.call7 (frame_Put hG k q t (by omega)) rfl ?_)
    obtain ⟨S1, e1, hv1, hp1⟩ := putV_split k q t
    rw [hv1]
    refine At.op rfl (op_move rfl rfl ?_)
    refine At.op rfl (op_extractL rfl .zero rfl ?_)
    refine At.op rfl (op_extractL rfl (.succ .zero) rfl ?_)
    refine At.op rfl (op_assign rfl rfl ?_)
    refine At.op rfl (op_assign rfl rfl ?_)
    refine At.nil ?_
    refine At.then_n ?_
    refine At.seq ?_
    refine At.keep [(1, _), (2, _), (3, _), (4, _)] (.cons rfl (.cons rfl (.cons rfl (.cons rfl .nil)))) ?_
    refine At.region ?_
    refine At.op rfl (op_loadW rfl Tryd.isAgg24 Tryd.sizeOf24 (by first | with_reducible exact Pull.p0 | with_reducible exact Pull.p1 | with_reducible exact Pull.p2 | with_reducible exact Pull.p3 | with_reducible exact Pull.p4 | with_reducible exact Pull.p5 | with_reducible exact Pull.p6 | with_reducible exact Pull.p7 | with_reducible exact Pull.p8 | with_reducible exact Pull.p9) rfl rfl ?_)
    refine At.op rfl (op_call1 rfl Tryd.call8 (ref_Put k q t (by omega)) rfl ?_)
    rw [hv1]
    refine At.op rfl (op_move rfl rfl ?_)
    refine At.op rfl (op_extractL rfl .zero rfl ?_)
    refine At.op rfl (op_extractL rfl (.succ .zero) rfl ?_)
    refine At.op rfl (op_assign rfl rfl ?_)
    refine At.op rfl (op_assign rfl rfl ?_)
    refine At.nil ?_
    refine At.then_n ?_
    refine At.seq ?_
    refine At.seq ?_
    refine At.region ?_
    refine At.op rfl (op_move rfl rfl ?_)
    refine At.op rfl (op_move rfl rfl ?_)
    refine At.op rfl (op_bin rfl rfl (Bin.cast (v' := .bool false) b_sne (by simp)) rfl ?_)
    refine At.op rfl (op_move rfl rfl ?_)
    refine At.opg rfl rfl rfl (op_move rfl rfl ?_)
    refine At.opg rfl rfl rfl (op_move rfl rfl ?_)
    refine At.opg rfl rfl rfl (op_bin rfl rfl (Bin.cast (v' := .bool false) b_ne (by simp)) rfl ?_)
    refine At.op rfl (op_pick_f rfl rfl rfl ?_)
    refine At.nil ?_
    refine At.then_n ?_
    refine At.cond_f rfl ?_
    refine At.skip ?_
    refine At.then_n ?_
    refine At.seq ?_
    refine At.seq ?_
    refine At.keep [(1, _), (2, _), (3, _), (4, _)] (.cons rfl (.cons rfl (.cons rfl (.cons rfl .nil)))) ?_
    refine At.region ?_
    refine At.op rfl (op_move rfl rfl ?_)
    refine At.op rfl (op_bin rfl rfl b_ne rfl ?_)
    refine At.nil ?_
    refine At.then_n ?_
    refine At.cond_np rfl (fun he => ?_) (fun he => ?_)
    ·
      refine At.seq ?_
      refine At.region ?_
      refine At.op rfl (op_move rfl rfl ?_)
      refine At.op rfl (op_bin rfl rfl (b_seq  (b := [])) rfl ?_)
      refine At.op rfl (op_assign rfl rfl ?_)
      refine At.nil ?_
      refine At.then_n ?_
      refine At.ret ?_
      refine At.then_r ?_
      refine At.fin1 rfl rfl rfl ⟨?_, rfl⟩ .nil
      first
        | rfl
        | (refine congrArg Value.bool (decide_eq_true ?_); rcases hp1 with ⟨h, _⟩ | ⟨_, h⟩
           · omega
           · exact h)
    ·
      obtain ⟨hs1, hk0, hlen⟩ : S1 = putS k q t ∧ k ≠ 0 ∧ t.length ≤ 229 := by
        rcases hp1 with ⟨_, h⟩ | ⟨h, _⟩
        · exact h
        · omega
      refine At.skip ?_
      refine At.then_n ?_
      refine At.seq ?_
      refine At.region ?_
      refine At.op rfl (op_move rfl rfl ?_)
      refine At.op rfl (op_call1 rfl Tryd.call9 (frame_Get hG S1 (by rw [hs1, putS_length k q t hlen]; omega)) rfl ?_)
      rw [hs1, get_put k q t hk0 hlen]
      refine At.op rfl (op_move rfl rfl ?_)
      refine At.op rfl (op_extractL rfl .zero rfl ?_)
      refine At.op rfl (op_extractL rfl (.succ .zero) rfl ?_)
      refine At.op rfl (op_alloc Tryd.zeroValue24 rfl rfl ?_)
      intro b7
      refine At.op rfl (op_storeW rfl rfl Tryd.sizeOf24 (by repeat' (first | refine List.forall_mem_cons.2 ⟨rfl, ?_⟩ | exact (fun _ h => by cases h))) (by first | with_reducible exact Pull.p0 | with_reducible exact Pull.p1 | with_reducible exact Pull.p2 | with_reducible exact Pull.p3 | with_reducible exact Pull.p4 | with_reducible exact Pull.p5 | with_reducible exact Pull.p6 | with_reducible exact Pull.p7 | with_reducible exact Pull.p8 | with_reducible exact Pull.p9) rfl rfl ?_)
      refine At.op rfl (op_assign rfl rfl ?_)
      refine At.nil ?_
      refine At.then_n ?_
      refine At.seq ?_
      refine At.region ?_
      refine At.op rfl (op_move rfl rfl ?_)
      refine At.op rfl (op_bin rfl rfl (Bin.cast (v' := .bool true) b_eq (by simp)) rfl ?_)
      refine At.op rfl (op_move rfl rfl ?_)
      refine At.opg rfl rfl rfl (op_loadW rfl Tryd.isAgg24 Tryd.sizeOf24 (by first | with_reducible exact Pull.p0 | with_reducible exact Pull.p1 | with_reducible exact Pull.p2 | with_reducible exact Pull.p3 | with_reducible exact Pull.p4 | with_reducible exact Pull.p5 | with_reducible exact Pull.p6 | with_reducible exact Pull.p7 | with_reducible exact Pull.p8 | with_reducible exact Pull.p9) rfl rfl ?_)
      refine At.opg rfl rfl rfl (op_loadW rfl Tryd.isAgg24 Tryd.sizeOf24 (by first | with_reducible exact Pull.p0 | with_reducible exact Pull.p1 | with_reducible exact Pull.p2 | with_reducible exact Pull.p3 | with_reducible exact Pull.p4 | with_reducible exact Pull.p5 | with_reducible exact Pull.p6 | with_reducible exact Pull.p7 | with_reducible exact Pull.p8 | with_reducible exact Pull.p9) rfl rfl ?_)
      refine At.opg rfl rfl rfl (op_bin rfl rfl (Bin.cast (v' := .bool true) (b_steq Tryd.underlying24 (by kernel_rfl) (by kernel_rfl) (eqf_cons (by decide) Tryd.isAgg5 rfl rfl (eq8 Tryd.underlying5) (eqf_cons (by decide) Tryd.isAgg22 rfl rfl (eq64 Tryd.underlying22) (eqf_cons (by decide) Tryd.isAgg9 rfl rfl (eqs' Tryd.underlying9) eqf_nil)))) (by simp)) rfl ?_)
      refine At.op rfl (op_pick_t rfl rfl rfl ?_)
      refine At.op rfl (op_assign rfl rfl ?_)
      refine At.nil ?_
      refine At.then_n ?_
      refine At.ret ?_
      refine At.fin1 rfl rfl rfl ⟨?_, rfl⟩ .nil
      first
        | rfl
        | (refine congrArg Value.bool (decide_eq_true ?_); rcases hp1 with ⟨h, _⟩ | ⟨_, h⟩
           · omega
           · exact h)
end Go.Proofs.YtcppimolaiinhaaDoor
