/- Walks of the program's functions. -/
import Derived.Test.YteckdahgkkmlaaaGreatDoorSLC0
import Derived.KernelRfl
set_option maxRecDepth 20000
set_option linter.unusedVariables false
set_option linter.unusedSimpArgs false
namespace Go.Proofs.YteckdahgkkmlaaaGreatDoor
open Go SL
variable {G : List (Nat × Obj)}
theorem size_Segs (a b : Int) : Does Tryz.prog G 28 [.agg #[i64 a, i64 b]] [] (One (i64 a)) := by
  refine Does.of Tryz.func28 rfl Tryz.ntmps28 rfl (fun w0 => ?_)
  refine At.keep [(0, _)] (.cons rfl .nil) ?_
  refine At.seq ?_
  refine At.region ?_
  refine At.op rfl (op_box rfl rfl rfl ?_)
  intro b1
  refine At.op rfl (op_assign rfl rfl ?_)
  refine At.nil ?_
  refine At.then_n ?_
  refine At.seq ?_
  refine At.region ?_
  refine At.op rfl (op_fieldAddr (o' := 0) rfl Tryz.underlying52 rfl Tryz.sizeOf3 rfl rfl ?_)
  refine At.op rfl (op_load rfl Tryz.isAgg3 (by first | with_reducible exact Pull.p0 | with_reducible exact Pull.p1 | with_reducible exact Pull.p2 | with_reducible exact Pull.p3 | with_reducible exact Pull.p4 | with_reducible exact Pull.p5 | with_reducible exact Pull.p6 | with_reducible exact Pull.p7 | with_reducible exact Pull.p8 | with_reducible exact Pull.p9) rfl rfl ?_)
  refine At.op rfl (op_assign rfl rfl ?_)
  refine At.nil ?_
  refine At.then_n ?_
  refine At.ret ?_
  exact At.fin1 rfl rfl rfl ⟨rfl, rfl⟩ .nil
theorem size_Pages (a b : Int) : Does Tryz.prog G 39 [.agg #[i64 a, i64 b]] [] (One (i64 b)) := by
  refine Does.of Tryz.func39 rfl Tryz.ntmps39 rfl (fun w0 => ?_)
  refine At.keep [(0, _)] (.cons rfl .nil) ?_
  refine At.seq ?_
  refine At.region ?_
  refine At.op rfl (op_box rfl rfl rfl ?_)
  intro b1
  refine At.op rfl (op_assign rfl rfl ?_)
  refine At.nil ?_
  refine At.then_n ?_
  refine At.seq ?_
  refine At.region ?_
  refine At.op rfl (op_fieldAddr (o' := 1) rfl Tryz.underlying52 rfl Tryz.sizeOf3 rfl rfl ?_)
  refine At.op rfl (op_load rfl Tryz.isAgg3 (by first | with_reducible exact Pull.p0 | with_reducible exact Pull.p1 | with_reducible exact Pull.p2 | with_reducible exact Pull.p3 | with_reducible exact Pull.p4 | with_reducible exact Pull.p5 | with_reducible exact Pull.p6 | with_reducible exact Pull.p7 | with_reducible exact Pull.p8 | with_reducible exact Pull.p9) rfl rfl ?_)
  refine At.op rfl (op_assign rfl rfl ?_)
  refine At.nil ?_
  refine At.then_n ?_
  refine At.ret ?_
  exact At.fin1 rfl rfl rfl ⟨rfl, rfl⟩ .nil
theorem size_has (a b : Nat) (i j : Int) (hi : 0 ≤ i ∧ i < a) (hj : 0 ≤ j ∧ j < b) : Does Tryz.prog G 36 [.agg #[i64 a, i64 b], i64 i, i64 j] [] (One (.bool true)) := by
  refine Does.of Tryz.func36 rfl Tryz.ntmps36 rfl (fun w0 => ?_)
  refine At.keep [(0, _), (1, _), (2, _)] (.cons rfl (.cons rfl (.cons rfl .nil))) ?_
  refine At.seq ?_
  refine At.region ?_
  refine At.op rfl (op_box rfl rfl rfl ?_)
  intro b1
  refine At.op rfl (op_assign rfl rfl ?_)
  refine At.nil ?_
  refine At.then_n ?_
  refine At.seq ?_
  refine At.region ?_
  refine At.op rfl (op_move rfl rfl ?_)
  refine At.op rfl (op_bin rfl rfl (Bin.cast (v' := .bool true) b_ge (congrArg Value.bool (decide_eq_true (by omega)))) rfl ?_)
  refine At.op rfl (op_move rfl rfl ?_)
  refine At.opg rfl rfl rfl (op_move rfl rfl ?_)
  refine At.opg rfl rfl rfl (op_fieldAddr (o' := 0) rfl Tryz.underlying52 rfl Tryz.sizeOf3 rfl rfl ?_)
  refine At.opg rfl rfl rfl (op_load rfl Tryz.isAgg3 (by first | with_reducible exact Pull.p0 | with_reducible exact Pull.p1 | with_reducible exact Pull.p2 | with_reducible exact Pull.p3 | with_reducible exact Pull.p4 | with_reducible exact Pull.p5 | with_reducible exact Pull.p6 | with_reducible exact Pull.p7 | with_reducible exact Pull.p8 | with_reducible exact Pull.p9) rfl rfl ?_)
  refine At.opg rfl rfl rfl (op_bin rfl rfl (Bin.cast (v' := .bool true) b_lt (congrArg Value.bool (decide_eq_true (by omega)))) rfl ?_)
  refine At.op rfl (op_pick_t rfl rfl rfl ?_)
  refine At.op rfl (op_move rfl rfl ?_)
  refine At.opg rfl rfl rfl (op_move rfl rfl ?_)
  refine At.opg rfl rfl rfl (op_bin rfl rfl (Bin.cast (v' := .bool true) b_ge (congrArg Value.bool (decide_eq_true (by omega)))) rfl ?_)
  refine At.op rfl (op_pick_t rfl rfl rfl ?_)
  refine At.op rfl (op_move rfl rfl ?_)
  refine At.opg rfl rfl rfl (op_move rfl rfl ?_)
  refine At.opg rfl rfl rfl (op_fieldAddr (o' := 1) rfl Tryz.underlying52 rfl Tryz.sizeOf3 rfl rfl ?_)
  refine At.opg rfl rfl rfl (op_load rfl Tryz.isAgg3 (by first | with_reducible exact Pull.p0 | with_reducible exact Pull.p1 | with_reducible exact Pull.p2 | with_reducible exact Pull.p3 | with_reducible exact Pull.p4 | with_reducible exact Pull.p5 | with_reducible exact Pull.p6 | with_reducible exact Pull.p7 | with_reducible exact Pull.p8 | with_reducible exact Pull.p9) rfl rfl ?_)
  refine At.opg rfl rfl rfl (op_bin rfl rfl (Bin.cast (v' := .bool true) b_lt (congrArg Value.bool (decide_eq_true (by omega)))) rfl ?_)
  refine At.op rfl (op_pick_t rfl rfl rfl ?_)
  refine At.op rfl (op_assign rfl rfl ?_)
  refine At.nil ?_
  refine At.then_n ?_
  refine At.ret ?_
  exact At.fin1 rfl rfl rfl ⟨rfl, rfl⟩ .nil
theorem power_Up (pw : Nat) : Does Tryz.prog G 35 [ptr pw 0] [row pw powL 66 (0, 0)] (OneR (.bool true) [row pw powL 66 (0, 0)]) := by
  refine Does.of Tryz.func35 rfl Tryz.ntmps35 rfl (fun w0 => ?_)
  refine At.keep [(0, _)] (.cons rfl .nil) ?_
  refine At.seq ?_
  refine At.region ?_
  refine At.op rfl (op_assign rfl rfl ?_)
  refine At.nil ?_
  refine At.then_n ?_
  refine At.seq ?_
  refine At.region ?_
  refine At.op rfl (op_move rfl rfl ?_)
  refine At.op rfl (op_nilCheck rfl rfl ?_)
  refine At.op rfl (op_fieldAddr (o' := 0) rfl Tryz.underlying66 rfl Tryz.sizeOf4 rfl rfl ?_)
  refine At.op rfl (op_load rfl Tryz.isAgg4 (by first | with_reducible exact Pull.p0 | with_reducible exact Pull.p1 | with_reducible exact Pull.p2 | with_reducible exact Pull.p3 | with_reducible exact Pull.p4 | with_reducible exact Pull.p5 | with_reducible exact Pull.p6 | with_reducible exact Pull.p7 | with_reducible exact Pull.p8 | with_reducible exact Pull.p9) rfl rfl ?_)
  refine At.op rfl (op_not rfl rfl ?_)
  refine At.op rfl (op_assign rfl rfl ?_)
  refine At.nil ?_
  refine At.then_n ?_
  refine At.ret ?_
  exact At.fin1 rfl rfl rfl ⟨rfl, rfl⟩ (.cons (by first | with_reducible exact Pull.p0 | with_reducible exact Pull.p1 | with_reducible exact Pull.p2 | with_reducible exact Pull.p3 | with_reducible exact Pull.p4 | with_reducible exact Pull.p5 | with_reducible exact Pull.p6 | with_reducible exact Pull.p7 | with_reducible exact Pull.p8 | with_reducible exact Pull.p9) .nil)
theorem power_Kept (pw : Nat) : Does Tryz.prog G 49 [ptr pw 0] [row pw powL 66 (0, 0)] (OneR (.tuple #[i64 0, .int .u8 0]) [row pw powL 66 (0, 0)]) := by
  refine Does.of Tryz.func49 rfl Tryz.ntmps49 rfl (fun w0 => ?_)
  refine At.keep [(0, _)] (.cons rfl .nil) ?_
  refine At.seq ?_
  refine At.region ?_
  refine At.op rfl (op_assign rfl rfl ?_)
  refine At.op rfl (op_assign rfl rfl ?_)
  refine At.nil ?_
  refine At.then_n ?_
  refine At.seq ?_
  refine At.drawC [_, _, _, _, _, _, _, _, _, _] (by kernel_rfl) (by decide) (by kernel_rfl) 
    (Steps'.cons (Step.op rfl (fun D h1 h2 h3 K hK => op_move (mD_base rfl rfl) rfl hK))
    (Steps'.cons (Step.op rfl (fun D h1 h2 h3 K hK => op_nilCheck (mD_done 0 (by decide) (pre_at h2 0 rfl rfl) rfl rfl rfl) rfl hK))
    (Steps'.cons (Step.op rfl (fun D h1 h2 h3 K hK => op_fieldAddr (o' := 2) (mD_done 1 (by decide) (pre_at h2 0 rfl rfl) rfl rfl rfl) Tryz.underlying66 rfl Tryz.sizeOf3 rfl rfl hK))
    (Steps'.cons (Step.op rfl (fun D h1 h2 h3 K hK => op_load (mD_done 2 (by decide) (pre_at h2 0 rfl rfl) rfl rfl rfl) Tryz.isAgg3 (by first | with_reducible exact Pull.p0 | with_reducible exact Pull.p1 | with_reducible exact Pull.p2 | with_reducible exact Pull.p3 | with_reducible exact Pull.p4 | with_reducible exact Pull.p5 | with_reducible exact Pull.p6 | with_reducible exact Pull.p7 | with_reducible exact Pull.p8 | with_reducible exact Pull.p9) rfl rfl hK))
    (Steps'.cons (Step.op rfl (fun D h1 h2 h3 K hK => op_move (mD_base rfl rfl) rfl hK))
    (Steps'.cons (Step.op rfl (fun D h1 h2 h3 K hK => op_nilCheck (mD_done 4 (by decide) (pre_at h2 0 rfl rfl) rfl rfl rfl) rfl hK))
    (Steps'.cons (Step.op rfl (fun D h1 h2 h3 K hK => op_fieldAddr (o' := 3) (mD_done 5 (by decide) (pre_at h2 0 rfl rfl) rfl rfl rfl) Tryz.underlying66 rfl Tryz.sizeOf5 rfl rfl hK))
    (Steps'.cons (Step.op rfl (fun D h1 h2 h3 K hK => op_load (mD_done 6 (by decide) (pre_at h2 0 rfl rfl) rfl rfl rfl) Tryz.isAgg5 (by first | with_reducible exact Pull.p0 | with_reducible exact Pull.p1 | with_reducible exact Pull.p2 | with_reducible exact Pull.p3 | with_reducible exact Pull.p4 | with_reducible exact Pull.p5 | with_reducible exact Pull.p6 | with_reducible exact Pull.p7 | with_reducible exact Pull.p8 | with_reducible exact Pull.p9) rfl rfl hK))
    (Steps'.cons (Step.op rfl (fun D h1 h2 h3 K hK => op_assign (mD_done 3 (by decide) (pre_at h2 0 rfl rfl) rfl rfl rfl) rfl hK))
    (Steps'.cons (Step.op rfl (fun D h1 h2 h3 K hK => op_assign (mD_done 7 (by decide) (pre_at h2 0 rfl rfl) rfl rfl rfl) rfl hK))
    Steps'.nil)))))))))) ?_
  refine At.keep [(2, _), (3, _)] (.cons rfl (.cons rfl .nil)) ?_
  refine At.then_n ?_
  refine At.ret ?_
  exact At.fin2 rfl rfl rfl rfl ⟨rfl, rfl⟩ (.cons (by first | with_reducible exact Pull.p0 | with_reducible exact Pull.p1 | with_reducible exact Pull.p2 | with_reducible exact Pull.p3 | with_reducible exact Pull.p4 | with_reducible exact Pull.p5 | with_reducible exact Pull.p6 | with_reducible exact Pull.p7 | with_reducible exact Pull.p8 | with_reducible exact Pull.p9) .nil)
theorem atomic_Load (pw : Nat) : Does Tryz.prog G 88 [ptr pw 1] [row pw powL 66 (0, 0)] (OneR (i64 0) [row pw powL 66 (0, 0)]) := by
  refine Does.of Tryz.func88 rfl Tryz.ntmps88 rfl (fun w0 => ?_)
  refine At.keep [(0, _)] (.cons rfl .nil) ?_
  refine At.seq ?_
  refine At.region ?_
  refine At.op rfl (op_assign rfl rfl ?_)
  refine At.nil ?_
  refine At.then_n ?_
  refine At.seq ?_
  refine At.region ?_
  refine At.op rfl (op_move rfl rfl ?_)
  refine At.op rfl (op_nilCheck rfl rfl ?_)
  refine At.op rfl (op_fieldAddr (o' := 1) rfl Tryz.underlying64 rfl Tryz.sizeOf2 rfl rfl ?_)
  refine At.op rfl (op_extR rfl (by first | with_reducible exact Pull.p0 | with_reducible exact Pull.p1 | with_reducible exact Pull.p2 | with_reducible exact Pull.p3 | with_reducible exact Pull.p4 | with_reducible exact Pull.p5 | with_reducible exact Pull.p6 | with_reducible exact Pull.p7 | with_reducible exact Pull.p8 | with_reducible exact Pull.p9) (fun w hw => run_call_load Tryz.func98 (by kernel_rfl) (by kernel_rfl) (by kernel_rfl) .i64 (by kernel_rfl) (a := ⟨pw, 1, none⟩) (by rw [row_cell hw]; rfl)) rfl ?_)
  refine At.op rfl (op_assign rfl rfl ?_)
  refine At.nil ?_
  refine At.then_n ?_
  refine At.ret ?_
  exact At.fin1 rfl rfl rfl ⟨rfl, rfl⟩ (.cons (by first | with_reducible exact Pull.p0 | with_reducible exact Pull.p1 | with_reducible exact Pull.p2 | with_reducible exact Pull.p3 | with_reducible exact Pull.p4 | with_reducible exact Pull.p5 | with_reducible exact Pull.p6 | with_reducible exact Pull.p7 | with_reducible exact Pull.p8 | with_reducible exact Pull.p9) .nil)
theorem power_Act (pw : Nat) : Does Tryz.prog G 70 [ptr pw 0] [row pw powL 66 (0, 0)] (OneR (.tuple #[.bool true, .bool true]) [row pw powL 66 (0, 0)]) := by
  refine Does.of Tryz.func70 rfl Tryz.ntmps70 rfl (fun w0 => ?_)
  refine At.keep [(0, _)] (.cons rfl .nil) ?_
  refine At.seq ?_
  refine At.region ?_
  refine At.op rfl (op_assign rfl rfl ?_)
  refine At.op rfl (op_assign rfl rfl ?_)
  refine At.nil ?_
  refine At.then_n ?_
  refine At.seq ?_
  refine At.block ?_
  refine At.seq ?_
  refine At.region ?_
  refine At.op rfl (op_move rfl rfl ?_)
  refine At.op rfl (op_nilCheck rfl rfl ?_)
  refine At.op rfl (op_fieldAddr (o' := 0) rfl Tryz.underlying66 rfl Tryz.sizeOf4 rfl rfl ?_)
  refine At.op rfl (op_load rfl Tryz.isAgg4 (by first | with_reducible exact Pull.p0 | with_reducible exact Pull.p1 | with_reducible exact Pull.p2 | with_reducible exact Pull.p3 | with_reducible exact Pull.p4 | with_reducible exact Pull.p5 | with_reducible exact Pull.p6 | with_reducible exact Pull.p7 | with_reducible exact Pull.p8 | with_reducible exact Pull.p9) rfl rfl ?_)
  refine At.op rfl (op_assign rfl rfl ?_)
  refine At.nil ?_
  refine At.then_n ?_
  refine At.cond_f rfl ?_
  refine At.seq ?_
  refine At.region ?_
  refine At.op rfl (op_move rfl rfl ?_)
  refine At.op rfl (op_nilCheck rfl rfl ?_)
  refine At.op rfl (op_fieldAddr (o' := 1) rfl Tryz.underlying66 rfl Tryz.sizeOf64 rfl rfl ?_)
  refine At.op rfl (op_callQ rfl Tryz.call88 (atomic_Load pw) (.cons (by first | with_reducible exact Pull.p0 | with_reducible exact Pull.p1 | with_reducible exact Pull.p2 | with_reducible exact Pull.p3 | with_reducible exact Pull.p4 | with_reducible exact Pull.p5 | with_reducible exact Pull.p6 | with_reducible exact Pull.p7 | with_reducible exact Pull.p8 | with_reducible exact Pull.p9) .nil) rfl ?_)
  refine At.op rfl (op_bin rfl rfl (Bin.cast (v' := .bool true) b_eq (congrArg Value.bool (decide_eq_true rfl))) rfl ?_)
  refine At.op rfl (op_assign rfl rfl ?_)
  refine At.nil ?_
  refine At.then_n ?_
  refine At.cond_t rfl ?_
  refine At.seq ?_
  refine At.region ?_
  refine At.op rfl (op_assign rfl rfl ?_)
  refine At.op rfl (op_assign rfl rfl ?_)
  refine At.nil ?_
  refine At.then_n ?_
  refine At.ret ?_
  refine At.blk_r ?_
  refine At.then_r ?_
  exact At.fin2 rfl rfl rfl rfl ⟨rfl, rfl⟩ (.cons (by first | with_reducible exact Pull.p0 | with_reducible exact Pull.p1 | with_reducible exact Pull.p2 | with_reducible exact Pull.p3 | with_reducible exact Pull.p4 | with_reducible exact Pull.p5 | with_reducible exact Pull.p6 | with_reducible exact Pull.p7 | with_reducible exact Pull.p8 | with_reducible exact Pull.p9) .nil)
theorem nand_NewPower : Does Tryz.prog G 7 [] [] (fun v rs' => ∃ pw, v = ptr pw 0 ∧ rs' = [row pw powL 66 (0, 0)]) := by
  refine Does.of Tryz.func7 rfl Tryz.ntmps7 rfl (fun w0 => ?_)
  refine At.keep [] .nil ?_
  refine At.seq ?_
  refine At.region ?_
  refine At.op rfl (op_assign rfl rfl ?_)
  refine At.nil ?_
  refine At.then_n ?_
  refine At.seq ?_
  refine At.region ?_
  refine At.op rfl (op_build (v := .agg powL.toArray) rfl (fun w => run_build w _ _ _ (by kernel_rfl)) rfl ?_)
  refine At.op rfl (op_box rfl rfl rfl ?_)
  intro pw
  refine At.op rfl (op_assign rfl rfl ?_)
  refine At.nil ?_
  refine At.then_n ?_
  refine At.ret ?_
  exact At.fin1 rfl rfl rfl ⟨pw, rfl, rfl⟩ (.cons (by first | with_reducible exact Pull.p0 | with_reducible exact Pull.p1 | with_reducible exact Pull.p2 | with_reducible exact Pull.p3 | with_reducible exact Pull.p4 | with_reducible exact Pull.p5 | with_reducible exact Pull.p6 | with_reducible exact Pull.p7 | with_reducible exact Pull.p8 | with_reducible exact Pull.p9) .nil)
end Go.Proofs.YteckdahgkkmlaaaGreatDoor
