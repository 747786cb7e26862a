/- Walks of the program's functions. -/
import Derived.Test.YtcppimolaiinhaaDoorSLW9
import Derived.KernelRfl
set_option maxRecDepth 20000
set_option linter.unusedVariables false
set_option linter.unusedSimpArgs false
namespace Go.Proofs.YtcppimolaiinhaaDoor
open Go SL
variable {G : List (Nat × Obj)}
theorem law12_shown (hG : GOK G) : Does Tryd.prog G 6 [] [] (One (.bool true)) := by
  refine Does.of Tryd.func6 rfl Tryd.ntmps6 rfl (fun w0 => ?_)
  refine At.keep [] .nil ?_
  refine At.seq ?_
  refine At.region ?_
  refine At.op rfl (op_assign rfl rfl ?_)
  refine At.nil ?_
  refine At.then_n ?_
  refine At.seq ?_
  refine At.region ?_
  refine At.op rfl (op_build (v := frmV 2 5 [97, 98, 99]) rfl (fun w => run_build w _ _ _ (by kernel_rfl)) rfl ?_)
  refine At.op rfl (op_call1 rfl Tryd.call7 (frame_Put hG 2 5 [97, 98, 99] (by decide)) rfl ?_)
  rw [show putV 2 5 [97, 98, 99] = .tuple #[str (putS 2 5 [97, 98, 99]), i64 0] from by unfold putV; rw [if_neg (by decide), if_neg (by decide)]]
  refine At.op rfl (op_move rfl rfl ?_)
  refine At.op rfl (op_extractL rfl .zero rfl ?_)
  refine At.op rfl (op_extractL rfl (.succ .zero) rfl ?_)
  refine At.op rfl (op_assign rfl rfl ?_)
  refine At.op rfl (op_assign rfl rfl ?_)
  refine At.nil ?_
  refine At.then_n ?_
  refine At.seq ?_
  refine At.region ?_
  refine At.op rfl (op_move rfl rfl ?_)
  refine At.op rfl (op_call1 rfl Tryd.call9 (frame_Get hG (putS 2 5 [97, 98, 99]) (by rw [putS_length 2 5 [97, 98, 99] (by decide)]; decide)) rfl ?_)
  rw [get_put 2 5 [97, 98, 99] (by decide) (by decide)]
  refine At.op rfl (op_move rfl rfl ?_)
  refine At.op rfl (op_extractL rfl .zero rfl ?_)
  refine At.op rfl (op_extractL rfl (.succ .zero) rfl ?_)
  refine At.op rfl (op_alloc Tryd.zeroValue24 rfl rfl ?_)
  intro b1
  refine At.op rfl (op_storeW rfl rfl Tryd.sizeOf24 (by repeat' (first | refine List.forall_mem_cons.2 ⟨rfl, ?_⟩ | exact (fun _ h => by cases h))) (by first | with_reducible exact Pull.p0 | with_reducible exact Pull.p1 | with_reducible exact Pull.p2 | with_reducible exact Pull.p3 | with_reducible exact Pull.p4 | with_reducible exact Pull.p5 | with_reducible exact Pull.p6 | with_reducible exact Pull.p7 | with_reducible exact Pull.p8 | with_reducible exact Pull.p9) rfl rfl ?_)
  refine At.op rfl (op_assign rfl rfl ?_)
  refine At.nil ?_
  refine At.then_n ?_
  refine At.seq ?_
  refine At.region ?_
  refine At.op rfl (op_move rfl rfl ?_)
  refine At.op rfl (op_bin rfl rfl (Bin.cast (v' := .bool true) b_eq (by rfl)) rfl ?_)
  refine At.op rfl (op_move rfl rfl ?_)
  refine At.opg rfl rfl rfl (op_move rfl rfl ?_)
  refine At.opg rfl rfl rfl (op_bin rfl rfl (Bin.cast (v' := .bool true) b_eq (by rfl)) rfl ?_)
  refine At.op rfl (op_pick_t rfl rfl rfl ?_)
  refine At.op rfl (op_move rfl rfl ?_)
  refine At.opg rfl rfl rfl (op_move rfl rfl ?_)
  refine At.opg rfl rfl rfl (op_len_str rfl Tryd.underlying9 rfl ?_)
  refine At.opg rfl rfl rfl (op_bin rfl rfl (Bin.cast (v' := .bool true) b_eq (by rw [putS_length 2 5 [97, 98, 99] (by decide)]; rfl)) rfl ?_)
  refine At.op rfl (op_pick_t rfl rfl rfl ?_)
  refine At.op rfl (op_move rfl rfl ?_)
  refine At.opg rfl rfl rfl (op_loadW rfl Tryd.isAgg24 Tryd.sizeOf24 (by first | with_reducible exact Pull.p0 | with_reducible exact Pull.p1 | with_reducible exact Pull.p2 | with_reducible exact Pull.p3 | with_reducible exact Pull.p4 | with_reducible exact Pull.p5 | with_reducible exact Pull.p6 | with_reducible exact Pull.p7 | with_reducible exact Pull.p8 | with_reducible exact Pull.p9) rfl rfl ?_)
  refine At.opg rfl rfl rfl (op_build (v := frmV 2 5 [97, 98, 99]) rfl (fun w => run_build w _ _ _ (by kernel_rfl)) rfl ?_)
  refine At.opg rfl rfl rfl (op_bin rfl rfl (Bin.cast (v' := .bool true) (b_steq Tryd.underlying24 (by kernel_rfl) (by kernel_rfl) (eqf_cons (by decide) Tryd.isAgg5 rfl rfl (eq8 Tryd.underlying5) (eqf_cons (by decide) Tryd.isAgg22 rfl rfl (eq64 Tryd.underlying22) (eqf_cons (by decide) Tryd.isAgg9 rfl rfl (eqs' Tryd.underlying9) eqf_nil)))) (by simp)) rfl ?_)
  refine At.op rfl (op_pick_t rfl rfl rfl ?_)
  refine At.op rfl (op_move rfl rfl ?_)
  refine At.opg rfl rfl rfl (op_call1 rfl Tryd.call11 frame_Room rfl ?_)
  refine At.opg rfl rfl rfl (op_bin rfl rfl (Bin.cast (v' := .bool true) b_eq (by rfl)) rfl ?_)
  refine At.op rfl (op_pick_t rfl rfl rfl ?_)
  refine At.op rfl (op_assign rfl rfl ?_)
  refine At.nil ?_
  refine At.then_n ?_
  refine At.ret ?_
  exact At.fin1 rfl rfl rfl ⟨rfl, rfl⟩ .nil
theorem putV_split (k : UInt8) (q : UInt64) (t : List UInt8) : ∃ (S : List UInt8) (e : Nat), putV k q t = .tuple #[str S, i64 e] ∧ ((e = 0 ∧ S = putS k q t ∧ k ≠ 0 ∧ t.length ≤ 229) ∨ (e ≠ 0 ∧ S = [])) := by
  unfold putV
  split
  · exact ⟨[], 1, rfl, .inr ⟨by decide, rfl⟩⟩
  · split
    · exact ⟨[], 11, rfl, .inr ⟨by decide, rfl⟩⟩
    · rename_i h1 h2
      exact ⟨putS k q t, 0, rfl, .inl ⟨rfl, rfl, h1, by omega⟩⟩
theorem once_law {k1 k2 : UInt8} {q1 q2 : UInt64} {t1 t2 S1 S2 : List UInt8} {e1 e2 : Nat} (h1 : (e1 = 0 ∧ S1 = putS k1 q1 t1 ∧ k1 ≠ 0 ∧ t1.length ≤ 229) ∨ (e1 ≠ 0 ∧ S1 = [])) (h2 : (e2 = 0 ∧ S2 = putS k2 q2 t2 ∧ k2 ≠ 0 ∧ t2.length ≤ 229) ∨ (e2 ≠ 0 ∧ S2 = []))
    (g1 : e1 = 0) (g2 : e2 = 0) : (decide (S1 = S2) == (decide (k1 = k2) && (decide (q1 = q2) && (decide (t1 = t2) && true)))) = true := by
  rcases h1 with ⟨_, rfl, a1, a2⟩ | ⟨h, _⟩
  · rcases h2 with ⟨_, rfl, b1, b2⟩ | ⟨h, _⟩
    · have := putS_inj k1 k2 q1 q2 t1 t2 a1 a2 b1 b2
      by_cases e : putS k1 q1 t1 = putS k2 q2 t2
      · obtain ⟨c1, c2, c3⟩ := this.1 e
        simp [c1, c2, c3]
      · have hn : ¬ (k1 = k2 ∧ q1 = q2 ∧ t1 = t2) := fun h => e (this.2 h)
        rw [decide_eq_false e]
        by_cases c1 : k1 = k2 <;> by_cases c2 : q1 = q2 <;> by_cases c3 : t1 = t2 <;> simp_all
    · exact absurd g2 h
  · exact absurd g1 h
theorem law12_FrameOnce (hG : GOK G) (k1 k2 : UInt8) (q1 q2 : UInt64) (t1 t2 : List UInt8) : Does Tryd.prog G 5 [frmV k1 q1 t1, frmV k2 q2 t2] [] (One (.bool true)) := by
  refine Does.of Tryd.func5 rfl Tryd.ntmps5 rfl (fun w0 => ?_)
  refine At.keep [(0, _), (1, _)] (.cons rfl (.cons rfl .nil)) ?_
  refine At.seq ?_
  refine At.region ?_
  refine At.op rfl (op_box rfl rfl rfl ?_)
  intro b1
  refine At.op rfl (op_box rfl rfl rfl ?_)
  intro b2
  refine At.op rfl (op_assign rfl rfl ?_)
  refine At.nil ?_
  refine At.then_n ?_
  refine At.seq ?_
  refine At.seq ?_
  refine At.region ?_
  refine At.op rfl (op_fieldAddr (o' := 2) rfl Tryd.underlying24 rfl Tryd.sizeOf9 rfl rfl ?_)
  refine At.op rfl (op_load rfl Tryd.isAgg9 (by first | with_reducible exact Pull.p0 | with_reducible exact Pull.p1 | with_reducible exact Pull.p2 | with_reducible exact Pull.p3 | with_reducible exact Pull.p4 | with_reducible exact Pull.p5 | with_reducible exact Pull.p6 | with_reducible exact Pull.p7 | with_reducible exact Pull.p8 | with_reducible exact Pull.p9) rfl rfl ?_)
  refine At.op rfl (op_len_str rfl Tryd.underlying9 rfl ?_)
  refine At.op rfl (op_bin rfl rfl b_gt rfl ?_)
  refine At.op rfl (op_move rfl rfl ?_)
  refine At.dsplit (i := 13) rfl (fun hg1 => ?_) (fun hg1 => ?_)
  ·
    refine At.opk (want := true) rfl rfl rfl rfl rfl ?_
    refine At.opk (want := true) rfl rfl rfl rfl rfl ?_
    refine At.opk (want := true) rfl rfl rfl rfl rfl ?_
    refine At.opk (want := true) rfl rfl rfl rfl rfl ?_
    refine At.op rfl (op_pick_t rfl rfl rfl ?_)
    refine At.op rfl (op_move rfl rfl ?_)
    refine At.opk (want := true) rfl rfl rfl rfl rfl ?_
    refine At.opk (want := true) rfl rfl rfl rfl rfl ?_
    refine At.op rfl (op_pick_t rfl rfl rfl ?_)
    refine At.nil ?_
    refine At.then_n ?_
    refine At.cond_t rfl ?_
    refine At.seq ?_
    refine At.keep [(2, _), (3, _), (4, _)] (.cons rfl (.cons rfl (.cons rfl .nil))) ?_
    refine At.region ?_
    refine At.op rfl (op_call1 rfl Tryd.call6 (law12_shown hG) rfl ?_)
    refine At.op rfl (op_assign rfl rfl ?_)
    refine At.nil ?_
    refine At.then_n ?_
    refine At.ret ?_
    refine At.then_r ?_
    refine At.fin1 rfl rfl rfl ⟨?_, rfl⟩ .nil
    first
      | rfl
      | (refine congrArg Value.bool (once_law hp1 hp2 ?_ ?_) <;> omega)
      | (refine congrArg Value.bool (decide_eq_true ?_); rcases hp2 with ⟨h, _⟩ | ⟨_, h⟩
         · omega
         · exact h)
      | (refine congrArg Value.bool (decide_eq_true ?_); rcases hp1 with ⟨h, _⟩ | ⟨_, h⟩
         · omega
         · exact h)
  ·
    refine At.opg rfl rfl rfl (op_fieldAddr (o' := 2) rfl Tryd.underlying24 rfl Tryd.sizeOf9 rfl rfl ?_)
    refine At.opg rfl rfl rfl (op_load rfl Tryd.isAgg9 (by first | with_reducible exact Pull.p0 | with_reducible exact Pull.p1 | with_reducible exact Pull.p2 | with_reducible exact Pull.p3 | with_reducible exact Pull.p4 | with_reducible exact Pull.p5 | with_reducible exact Pull.p6 | with_reducible exact Pull.p7 | with_reducible exact Pull.p8 | with_reducible exact Pull.p9) rfl rfl ?_)
    refine At.opg rfl rfl rfl (op_len_str rfl Tryd.underlying9 rfl ?_)
    refine At.opg rfl rfl rfl (op_bin rfl rfl b_gt rfl ?_)
    refine At.op rfl (op_pick_f rfl rfl rfl ?_)
    refine At.op rfl (op_move rfl rfl ?_)
    refine At.dsplit (i := 19) rfl (fun hg1 => ?_) (fun hg1 => ?_)
    ·
      refine At.opk (want := true) rfl rfl rfl rfl rfl ?_
      refine At.opk (want := true) rfl rfl rfl rfl rfl ?_
      refine At.op rfl (op_pick_t rfl rfl rfl ?_)
      refine At.nil ?_
      refine At.then_n ?_
      refine At.cond_t rfl ?_
      refine At.seq ?_
      refine At.keep [(2, _), (3, _), (4, _)] (.cons rfl (.cons rfl (.cons rfl .nil))) ?_
      refine At.region ?_
      refine At.op rfl (op_call1 rfl Tryd.call6 (law12_shown hG) rfl ?_)
      refine At.op rfl (op_assign rfl rfl ?_)
      refine At.nil ?_
      refine At.then_n ?_
      refine At.ret ?_
      refine At.then_r ?_
      refine At.fin1 rfl rfl rfl ⟨?_, rfl⟩ .nil
      first
        | rfl
        | (refine congrArg Value.bool (once_law hp1 hp2 ?_ ?_) <;> omega)
        | (refine congrArg Value.bool (decide_eq_true ?_); rcases hp2 with ⟨h, _⟩ | ⟨_, h⟩
           · omega
           · exact h)
        | (refine congrArg Value.bool (decide_eq_true ?_); rcases hp1 with ⟨h, _⟩ | ⟨_, h⟩
           · omega
           · exact h)
    ·
      refine At.opg rfl rfl rfl (op_call1 rfl Tryd.call6 (law12_shown hG) rfl ?_)
      refine At.opg rfl rfl rfl (op_not rfl rfl ?_)
      refine At.op rfl (op_pick_f rfl rfl rfl ?_)
      refine At.nil ?_
      refine At.then_n ?_
      refine At.cond_f rfl ?_
      refine At.skip ?_
      refine At.then_n ?_
      refine At.seq ?_
      refine At.keep [(2, _), (3, _), (4, _)] (.cons rfl (.cons rfl (.cons rfl .nil))) ?_
      refine At.region ?_
      refine At.op rfl (op_loadW rfl Tryd.isAgg24 Tryd.sizeOf24 (by first | with_reducible exact Pull.p0 | with_reducible exact Pull.p1 | with_reducible exact Pull.p2 | with_reducible exact Pull.p3 | with_reducible exact Pull.p4 | with_reducible exact Pull.p5 | with_reducible exact Pull.p6 | with_reducible exact Pull.p7 | with_reducible exact Pull.p8 | with_reducible exact Pull.p9) rfl rfl ?_)
      refine At.op rfl (op_call1 rfl Tryd.call7 (frame_Put hG k1 q1 t1 (by omega)) rfl ?_)
      obtain ⟨S1, e1, hv1, hp1⟩ := putV_split k1 q1 t1
      rw [hv1]
      refine At.op rfl (op_move rfl rfl ?_)
      refine At.op rfl (op_extractL rfl .zero rfl ?_)
      refine At.op rfl (op_extractL rfl (.succ .zero) rfl ?_)
      refine At.op rfl (op_assign rfl rfl ?_)
      refine At.op rfl (op_assign rfl rfl ?_)
      refine At.nil ?_
      refine At.then_n ?_
      refine At.seq ?_
      refine At.region ?_
      refine At.op rfl (op_loadW rfl Tryd.isAgg24 Tryd.sizeOf24 (by first | with_reducible exact Pull.p0 | with_reducible exact Pull.p1 | with_reducible exact Pull.p2 | with_reducible exact Pull.p3 | with_reducible exact Pull.p4 | with_reducible exact Pull.p5 | with_reducible exact Pull.p6 | with_reducible exact Pull.p7 | with_reducible exact Pull.p8 | with_reducible exact Pull.p9) rfl rfl ?_)
      refine At.op rfl (op_call1 rfl Tryd.call7 (frame_Put hG k2 q2 t2 (by omega)) rfl ?_)
      obtain ⟨S2, e2, hv2, hp2⟩ := putV_split k2 q2 t2
      rw [hv2]
      refine At.op rfl (op_move rfl rfl ?_)
      refine At.op rfl (op_extractL rfl .zero rfl ?_)
      refine At.op rfl (op_extractL rfl (.succ .zero) rfl ?_)
      refine At.op rfl (op_assign rfl rfl ?_)
      refine At.op rfl (op_assign rfl rfl ?_)
      refine At.nil ?_
      refine At.then_n ?_
      refine At.seq ?_
      refine At.seq ?_
      refine At.region ?_
      refine At.op rfl (op_move rfl rfl ?_)
      refine At.op rfl (op_bin rfl rfl b_ne rfl ?_)
      refine At.op rfl (op_move rfl rfl ?_)
      refine At.nsplit (i := 36) rfl (fun hg5 => ?_) (fun hg5 => ?_)
      ·
        refine At.opk (want := true) rfl rfl rfl rfl rfl ?_
        refine At.opk (want := true) rfl rfl rfl rfl rfl ?_
        refine At.op rfl (op_pick_t rfl rfl rfl ?_)
        refine At.nil ?_
        refine At.then_n ?_
        refine At.cond_t rfl ?_
        refine At.seq ?_
        refine At.keep [(2, _), (3, _), (4, _), (5, _), (6, _), (7, _), (8, _)] (.cons rfl (.cons rfl (.cons rfl (.cons rfl (.cons rfl (.cons rfl (.cons rfl .nil))))))) ?_
        refine At.region ?_
        refine At.op rfl (op_move rfl rfl ?_)
        refine At.op rfl (op_bin rfl rfl b_eq rfl ?_)
        refine At.op rfl (op_move rfl rfl ?_)
        refine At.dsplit (i := 42) rfl (fun hg6 => ?_) (fun hg6 => ?_)
        ·
          refine At.opk (want := true) rfl rfl rfl rfl rfl ?_
          refine At.opk (want := true) rfl rfl rfl rfl rfl ?_
          refine At.op rfl (op_pick_t rfl rfl rfl ?_)
          refine At.op rfl (op_move rfl rfl ?_)
          refine At.opg rfl rfl rfl (op_move rfl rfl ?_)
          refine At.opg rfl rfl rfl (op_bin rfl rfl b_eq rfl ?_)
          refine At.opg rfl rfl rfl (op_move rfl rfl ?_)
          refine At.dsplit (i := 49) rfl (fun hg6 => ?_) (fun hg6 => ?_)
          ·
            refine At.opk (want := true) rfl rfl rfl rfl rfl ?_
            refine At.opk (want := true) rfl rfl rfl rfl rfl ?_
            refine At.opg rfl rfl rfl (op_pick_t rfl rfl rfl ?_)
            refine At.op rfl (op_pick_t rfl rfl rfl ?_)
            refine At.op rfl (op_assign rfl rfl ?_)
            refine At.nil ?_
            refine At.then_n ?_
            refine At.ret ?_
            refine At.then_r ?_
            refine At.fin1 rfl rfl rfl ⟨?_, rfl⟩ .nil
            first
              | rfl
              | (refine congrArg Value.bool (once_law hp1 hp2 ?_ ?_) <;> omega)
              | (refine congrArg Value.bool (decide_eq_true ?_); rcases hp2 with ⟨h, _⟩ | ⟨_, h⟩
                 · omega
                 · exact h)
              | (refine congrArg Value.bool (decide_eq_true ?_); rcases hp1 with ⟨h, _⟩ | ⟨_, h⟩
                 · omega
                 · exact h)
          ·
            refine At.opg rfl rfl rfl (op_move rfl rfl ?_)
            refine At.opg rfl rfl rfl (op_bin rfl rfl (b_seq  (b := [])) rfl ?_)
            refine At.opg rfl rfl rfl (op_pick_f rfl rfl rfl ?_)
            refine At.op rfl (op_pick_t rfl rfl rfl ?_)
            refine At.op rfl (op_assign rfl rfl ?_)
            refine At.nil ?_
            refine At.then_n ?_
            refine At.ret ?_
            refine At.then_r ?_
            refine At.fin1 rfl rfl rfl ⟨?_, rfl⟩ .nil
            first
              | rfl
              | (refine congrArg Value.bool (once_law hp1 hp2 ?_ ?_) <;> omega)
              | (refine congrArg Value.bool (decide_eq_true ?_); rcases hp2 with ⟨h, _⟩ | ⟨_, h⟩
                 · omega
                 · exact h)
              | (refine congrArg Value.bool (decide_eq_true ?_); rcases hp1 with ⟨h, _⟩ | ⟨_, h⟩
                 · omega
                 · exact h)
        ·
          refine At.opg rfl rfl rfl (op_move rfl rfl ?_)
          refine At.opg rfl rfl rfl (op_bin rfl rfl (b_seq  (b := [])) rfl ?_)
          refine At.op rfl (op_pick_f rfl rfl rfl ?_)
          refine At.op rfl (op_move rfl rfl ?_)
          refine At.dsplit (i := 46) rfl (fun hgq => ?_) (fun hgq => ?_)
          ·
            refine At.opg rfl rfl rfl (op_move rfl rfl ?_)
            refine At.opg rfl rfl rfl (op_bin rfl rfl b_eq rfl ?_)
            refine At.opg rfl rfl rfl (op_move rfl rfl ?_)
            refine At.dsplit (i := 49) rfl (fun hg6 => ?_) (fun hg6 => ?_)
            ·
              refine At.opk (want := true) rfl rfl rfl rfl rfl ?_
              refine At.opk (want := true) rfl rfl rfl rfl rfl ?_
              refine At.opg rfl rfl rfl (op_pick_t rfl rfl rfl ?_)
              refine At.op rfl (op_pick_t rfl rfl rfl ?_)
              refine At.op rfl (op_assign rfl rfl ?_)
              refine At.nil ?_
              refine At.then_n ?_
              refine At.ret ?_
              refine At.then_r ?_
              refine At.fin1 rfl rfl rfl ⟨?_, rfl⟩ .nil
              first
                | rfl
                | (refine congrArg Value.bool (once_law hp1 hp2 ?_ ?_) <;> omega)
                | (refine congrArg Value.bool (decide_eq_true ?_); rcases hp2 with ⟨h, _⟩ | ⟨_, h⟩
                   · omega
                   · exact h)
                | (refine congrArg Value.bool (decide_eq_true ?_); rcases hp1 with ⟨h, _⟩ | ⟨_, h⟩
                   · omega
                   · exact h)
            ·
              refine At.opg rfl rfl rfl (op_move rfl rfl ?_)
              refine At.opg rfl rfl rfl (op_bin rfl rfl (b_seq  (b := [])) rfl ?_)
              refine At.opg rfl rfl rfl (op_pick_f rfl rfl rfl ?_)
              refine At.op rfl (op_pick_t rfl rfl rfl ?_)
              refine At.op rfl (op_assign rfl rfl ?_)
              refine At.nil ?_
              refine At.then_n ?_
              refine At.ret ?_
              refine At.then_r ?_
              refine At.fin1 rfl rfl rfl ⟨?_, rfl⟩ .nil
              first
                | rfl
                | (refine congrArg Value.bool (once_law hp1 hp2 ?_ ?_) <;> omega)
                | (refine congrArg Value.bool (decide_eq_true ?_); rcases hp2 with ⟨h, _⟩ | ⟨_, h⟩
                   · omega
                   · exact h)
                | (refine congrArg Value.bool (decide_eq_true ?_); rcases hp1 with ⟨h, _⟩ | ⟨_, h⟩
                   · omega
                   · exact h)
          ·
            exfalso
            rcases hp1 with ⟨h, _⟩ | ⟨_, h⟩
            · omega
            · exact hgq h
      ·
        refine At.opg rfl rfl rfl (op_move rfl rfl ?_)
        refine At.opg rfl rfl rfl (op_bin rfl rfl b_ne rfl ?_)
        refine At.op rfl (op_pick_f rfl rfl rfl ?_)
        refine At.nil ?_
        refine At.then_n ?_
        refine At.cond_np rfl (fun hc1 => ?_) (fun hc1 => ?_)
        ·
          refine At.seq ?_
          refine At.keep [(2, _), (3, _), (4, _), (5, _), (6, _), (7, _), (8, _)] (.cons rfl (.cons rfl (.cons rfl (.cons rfl (.cons rfl (.cons rfl (.cons rfl .nil))))))) ?_
          refine At.region ?_
          refine At.op rfl (op_move rfl rfl ?_)
          refine At.op rfl (op_bin rfl rfl b_eq rfl ?_)
          refine At.op rfl (op_move rfl rfl ?_)
          refine At.dsplit (i := 42) rfl (fun hg6 => ?_) (fun hg6 => ?_)
          ·
            refine At.opk (want := true) rfl rfl rfl rfl rfl ?_
            refine At.opk (want := true) rfl rfl rfl rfl rfl ?_
            refine At.op rfl (op_pick_t rfl rfl rfl ?_)
            refine At.op rfl (op_move rfl rfl ?_)
            refine At.opg rfl rfl rfl (op_move rfl rfl ?_)
            refine At.opg rfl rfl rfl (op_bin rfl rfl b_eq rfl ?_)
            refine At.opg rfl rfl rfl (op_move rfl rfl ?_)
            refine At.dsplit (i := 49) rfl (fun hg6 => ?_) (fun hg6 => ?_)
            ·
              refine At.opk (want := true) rfl rfl rfl rfl rfl ?_
              refine At.opk (want := true) rfl rfl rfl rfl rfl ?_
              refine At.opg rfl rfl rfl (op_pick_t rfl rfl rfl ?_)
              refine At.op rfl (op_pick_t rfl rfl rfl ?_)
              refine At.op rfl (op_assign rfl rfl ?_)
              refine At.nil ?_
              refine At.then_n ?_
              refine At.ret ?_
              refine At.then_r ?_
              refine At.fin1 rfl rfl rfl ⟨?_, rfl⟩ .nil
              first
                | rfl
                | (refine congrArg Value.bool (once_law hp1 hp2 ?_ ?_) <;> omega)
                | (refine congrArg Value.bool (decide_eq_true ?_); rcases hp2 with ⟨h, _⟩ | ⟨_, h⟩
                   · omega
                   · exact h)
                | (refine congrArg Value.bool (decide_eq_true ?_); rcases hp1 with ⟨h, _⟩ | ⟨_, h⟩
                   · omega
                   · exact h)
            ·
              refine At.opg rfl rfl rfl (op_move rfl rfl ?_)
              refine At.opg rfl rfl rfl (op_bin rfl rfl (b_seq  (b := [])) rfl ?_)
              refine At.opg rfl rfl rfl (op_pick_f rfl rfl rfl ?_)
              refine At.op rfl (op_pick_t rfl rfl rfl ?_)
              refine At.op rfl (op_assign rfl rfl ?_)
              refine At.nil ?_
              refine At.then_n ?_
              refine At.ret ?_
              refine At.then_r ?_
              refine At.fin1 rfl rfl rfl ⟨?_, rfl⟩ .nil
              first
                | rfl
                | (refine congrArg Value.bool (once_law hp1 hp2 ?_ ?_) <;> omega)
                | (refine congrArg Value.bool (decide_eq_true ?_); rcases hp2 with ⟨h, _⟩ | ⟨_, h⟩
                   · omega
                   · exact h)
                | (refine congrArg Value.bool (decide_eq_true ?_); rcases hp1 with ⟨h, _⟩ | ⟨_, h⟩
                   · omega
                   · exact h)
          ·
            refine At.opg rfl rfl rfl (op_move rfl rfl ?_)
            refine At.opg rfl rfl rfl (op_bin rfl rfl (b_seq  (b := [])) rfl ?_)
            refine At.op rfl (op_pick_f rfl rfl rfl ?_)
            refine At.op rfl (op_move rfl rfl ?_)
            refine At.dsplit (i := 46) rfl (fun hgq => ?_) (fun hgq => ?_)
            ·
              refine At.opg rfl rfl rfl (op_move rfl rfl ?_)
              refine At.opg rfl rfl rfl (op_bin rfl rfl b_eq rfl ?_)
              refine At.opg rfl rfl rfl (op_move rfl rfl ?_)
              refine At.dsplit (i := 49) rfl (fun hg6 => ?_) (fun hg6 => ?_)
              ·
                refine At.opk (want := true) rfl rfl rfl rfl rfl ?_
                refine At.opk (want := true) rfl rfl rfl rfl rfl ?_
                refine At.opg rfl rfl rfl (op_pick_t rfl rfl rfl ?_)
                refine At.op rfl (op_pick_t rfl rfl rfl ?_)
                refine At.op rfl (op_assign rfl rfl ?_)
                refine At.nil ?_
                refine At.then_n ?_
                refine At.ret ?_
                refine At.then_r ?_
                refine At.fin1 rfl rfl rfl ⟨?_, rfl⟩ .nil
                first
                  | rfl
                  | (refine congrArg Value.bool (once_law hp1 hp2 ?_ ?_) <;> omega)
                  | (refine congrArg Value.bool (decide_eq_true ?_); rcases hp2 with ⟨h, _⟩ | ⟨_, h⟩
                     · omega
                     · exact h)
                  | (refine congrArg Value.bool (decide_eq_true ?_); rcases hp1 with ⟨h, _⟩ | ⟨_, h⟩
                     · omega
                     · exact h)
              ·
                refine At.opg rfl rfl rfl (op_move rfl rfl ?_)
                refine At.opg rfl rfl rfl (op_bin rfl rfl (b_seq  (b := [])) rfl ?_)
                refine At.opg rfl rfl rfl (op_pick_f rfl rfl rfl ?_)
                refine At.op rfl (op_pick_t rfl rfl rfl ?_)
                refine At.op rfl (op_assign rfl rfl ?_)
                refine At.nil ?_
                refine At.then_n ?_
                refine At.ret ?_
                refine At.then_r ?_
                refine At.fin1 rfl rfl rfl ⟨?_, rfl⟩ .nil
                first
                  | rfl
                  | (refine congrArg Value.bool (once_law hp1 hp2 ?_ ?_) <;> omega)
                  | (refine congrArg Value.bool (decide_eq_true ?_); rcases hp2 with ⟨h, _⟩ | ⟨_, h⟩
                     · omega
                     · exact h)
                  | (refine congrArg Value.bool (decide_eq_true ?_); rcases hp1 with ⟨h, _⟩ | ⟨_, h⟩
                     · omega
                     · exact h)
            ·
              exfalso
              rcases hp1 with ⟨h, _⟩ | ⟨_, h⟩
              · omega
              · exact hgq h
        ·
          refine At.skip ?_
          refine At.then_n ?_
          refine At.seq ?_
          refine At.keep [(2, _), (3, _), (4, _), (5, _), (7, _)] (.cons rfl (.cons rfl (.cons rfl (.cons rfl (.cons rfl .nil))))) ?_
          refine At.region ?_
          refine At.op rfl (op_move rfl rfl ?_)
          refine At.op rfl (op_move rfl rfl ?_)
          refine At.op rfl (op_bin rfl rfl (b_seq  ) rfl ?_)
          refine At.op rfl (op_loadW rfl Tryd.isAgg24 Tryd.sizeOf24 (by first | with_reducible exact Pull.p0 | with_reducible exact Pull.p1 | with_reducible exact Pull.p2 | with_reducible exact Pull.p3 | with_reducible exact Pull.p4 | with_reducible exact Pull.p5 | with_reducible exact Pull.p6 | with_reducible exact Pull.p7 | with_reducible exact Pull.p8 | with_reducible exact Pull.p9) rfl rfl ?_)
          refine At.op rfl (op_loadW rfl Tryd.isAgg24 Tryd.sizeOf24 (by first | with_reducible exact Pull.p0 | with_reducible exact Pull.p1 | with_reducible exact Pull.p2 | with_reducible exact Pull.p3 | with_reducible exact Pull.p4 | with_reducible exact Pull.p5 | with_reducible exact Pull.p6 | with_reducible exact Pull.p7 | with_reducible exact Pull.p8 | with_reducible exact Pull.p9) rfl rfl ?_)
          refine At.op rfl (op_bin rfl rfl (b_steq Tryd.underlying24 (by kernel_rfl) (by kernel_rfl) (eqf_cons (by decide) Tryd.isAgg5 rfl rfl (eq8 Tryd.underlying5) (eqf_cons (by decide) Tryd.isAgg22 rfl rfl (eq64 Tryd.underlying22) (eqf_cons (by decide) Tryd.isAgg9 rfl rfl (eqs' Tryd.underlying9) eqf_nil)))) rfl ?_)
          refine At.op rfl (op_bin rfl rfl (b_beq Tryd.underlying4) rfl ?_)
          refine At.op rfl (op_assign rfl rfl ?_)
          refine At.nil ?_
          refine At.then_n ?_
          refine At.ret ?_
          refine At.fin1 rfl rfl rfl ⟨?_, rfl⟩ .nil
          first
            | rfl
            | (refine congrArg Value.bool (once_law hp1 hp2 ?_ ?_) <;> omega)
            | (refine congrArg Value.bool (decide_eq_true ?_); rcases hp2 with ⟨h, _⟩ | ⟨_, h⟩
               · omega
               · exact h)
            | (refine congrArg Value.bool (decide_eq_true ?_); rcases hp1 with ⟨h, _⟩ | ⟨_, h⟩
               · omega
               · exact h)
end Go.Proofs.YtcppimolaiinhaaDoor
