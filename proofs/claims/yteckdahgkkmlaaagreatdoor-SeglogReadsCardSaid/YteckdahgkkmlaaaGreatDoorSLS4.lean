/- Walks of the program's functions. -/
import Derived.Test.YteckdahgkkmlaaaGreatDoorSLS3
import Derived.KernelRfl
set_option maxRecDepth 20000
set_option linter.unusedVariables false
set_option linter.unusedSimpArgs false
namespace Go.Proofs.YteckdahgkkmlaaaGreatDoor
open Go SL
variable {G : List (Nat × Obj)}
theorem seglog_free (c : Chp) (hc : c.wf) (g : Lg) (i : Nat) : Does Tryz.prog G 27 [ptr g.lb 0, i64 i] [chipR c, logRow g c.cb, logMap g] (OneR (.bool (isFree g c i)) [chipR c, logRow g c.cb, logMap g]) := by
  refine Does.of Tryz.func27 rfl Tryz.ntmps27 rfl (fun w0 => ?_)
  refine At.keep [(0, _), (1, _)] (.cons rfl (.cons rfl .nil)) ?_
  refine At.seq ?_
  refine At.region ?_
  refine At.op rfl (op_assign rfl rfl ?_)
  refine At.nil ?_
  refine At.then_n ?_
  refine At.seq ?_
  refine At.region ?_
  refine At.op rfl (op_move rfl rfl ?_)
  refine At.op rfl (op_move rfl rfl ?_)
  refine At.op rfl (op_nilCheck rfl rfl ?_)
  refine At.op rfl (op_fieldAddr (o' := 1) rfl Tryz.underlying71 rfl Tryz.sizeOf3 rfl rfl ?_)
  refine At.op rfl (op_load rfl Tryz.isAgg3 (by first | with_reducible exact Pull.p0 | with_reducible exact Pull.p1 | with_reducible exact Pull.p2 | with_reducible exact Pull.p3 | with_reducible exact Pull.p4 | with_reducible exact Pull.p5 | with_reducible exact Pull.p6 | with_reducible exact Pull.p7 | with_reducible exact Pull.p8 | with_reducible exact Pull.p9) rfl rfl ?_)
  refine At.op rfl (op_bin rfl rfl b_ne rfl ?_)
  refine At.op rfl (op_move rfl rfl ?_)
  refine At.nsplit (i := 11) rfl (fun hg1 => ?_) (fun hg1 => ?_)
  ·
    refine At.opg rfl rfl rfl (op_move rfl rfl ?_)
    refine At.opg rfl rfl rfl (op_nilCheck rfl rfl ?_)
    refine At.opg rfl rfl rfl (op_fieldAddr (o' := 3) rfl Tryz.underlying71 rfl Tryz.sizeOf69 rfl rfl ?_)
    refine At.opg rfl rfl rfl (op_load rfl Tryz.isAgg69 (by first | with_reducible exact Pull.p0 | with_reducible exact Pull.p1 | with_reducible exact Pull.p2 | with_reducible exact Pull.p3 | with_reducible exact Pull.p4 | with_reducible exact Pull.p5 | with_reducible exact Pull.p6 | with_reducible exact Pull.p7 | with_reducible exact Pull.p8 | with_reducible exact Pull.p9) rfl rfl ?_)
    refine At.opg rfl rfl rfl (op_move rfl rfl ?_)
    refine At.opg rfl rfl rfl (op_lookupI rfl rfl Tryz.underlying69 Tryz.underlying3 Tryz.zeroValue3 (by first | with_reducible exact Pull.p0 | with_reducible exact Pull.p1 | with_reducible exact Pull.p2 | with_reducible exact Pull.p3 | with_reducible exact Pull.p4 | with_reducible exact Pull.p5 | with_reducible exact Pull.p6 | with_reducible exact Pull.p7 | with_reducible exact Pull.p8 | with_reducible exact Pull.p9) rfl ?_)
    refine At.opg rfl rfl rfl (op_bin rfl rfl b_eq rfl ?_)
    refine At.op rfl (op_pick_t rfl rfl rfl ?_)
    refine At.op rfl (op_move rfl rfl ?_)
    refine At.dsplit (i := 20) rfl (fun hg1b => ?_) (fun hg1b => ?_)
    ·
      refine At.opg rfl rfl rfl (op_move rfl rfl ?_)
      refine At.opg rfl rfl rfl (op_move rfl rfl ?_)
      refine At.opg rfl rfl rfl (op_callQ rfl Tryz.call32 (seglog_many c hc g i) (.cons (by first | with_reducible exact Pull.p0 | with_reducible exact Pull.p1 | with_reducible exact Pull.p2 | with_reducible exact Pull.p3 | with_reducible exact Pull.p4 | with_reducible exact Pull.p5 | with_reducible exact Pull.p6 | with_reducible exact Pull.p7 | with_reducible exact Pull.p8 | with_reducible exact Pull.p9) (.cons (by first | with_reducible exact Pull.p0 | with_reducible exact Pull.p1 | with_reducible exact Pull.p2 | with_reducible exact Pull.p3 | with_reducible exact Pull.p4 | with_reducible exact Pull.p5 | with_reducible exact Pull.p6 | with_reducible exact Pull.p7 | with_reducible exact Pull.p8 | with_reducible exact Pull.p9) .nil)) rfl ?_)
      refine At.opg rfl rfl rfl (op_bin rfl rfl b_eq rfl ?_)
      refine At.op rfl (op_pick_t rfl rfl rfl ?_)
      refine At.op rfl (op_assign rfl rfl ?_)
      refine At.nil ?_
      refine At.then_n ?_
      refine At.ret ?_
      have h2 := hg1b
      refine At.fin1 rfl rfl rfl ⟨by simp [isFree, hg1, h2], rfl⟩ (.cons (by first | exact Pull.p0 | exact Pull.p1 | exact Pull.p2 | exact Pull.p3 | exact Pull.p4 | exact Pull.p5 | exact Pull.p6 | exact Pull.p7 | exact Pull.p8 | exact Pull.p9) (.cons (by first | exact Pull.p0 | exact Pull.p1 | exact Pull.p2 | exact Pull.p3 | exact Pull.p4 | exact Pull.p5 | exact Pull.p6 | exact Pull.p7 | exact Pull.p8 | exact Pull.p9) (.cons (by first | exact Pull.p0 | exact Pull.p1 | exact Pull.p2 | exact Pull.p3 | exact Pull.p4 | exact Pull.p5 | exact Pull.p6 | exact Pull.p7 | exact Pull.p8 | exact Pull.p9) .nil)))
    ·
      refine At.opk (want := false) rfl rfl rfl rfl rfl ?_
      refine At.opk (want := false) rfl rfl rfl rfl rfl ?_
      refine At.opk (want := false) rfl rfl rfl rfl rfl ?_
      refine At.opk (want := false) rfl rfl rfl rfl rfl ?_
      refine At.op rfl (op_pick_f rfl rfl rfl ?_)
      refine At.op rfl (op_assign rfl rfl ?_)
      refine At.nil ?_
      refine At.then_n ?_
      refine At.ret ?_
      have h2 := hg1b
      refine At.fin1 rfl rfl rfl ⟨by simp [isFree, hg1, h2], rfl⟩ (.cons (by first | exact Pull.p0 | exact Pull.p1 | exact Pull.p2 | exact Pull.p3 | exact Pull.p4 | exact Pull.p5 | exact Pull.p6 | exact Pull.p7 | exact Pull.p8 | exact Pull.p9) (.cons (by first | exact Pull.p0 | exact Pull.p1 | exact Pull.p2 | exact Pull.p3 | exact Pull.p4 | exact Pull.p5 | exact Pull.p6 | exact Pull.p7 | exact Pull.p8 | exact Pull.p9) (.cons (by first | exact Pull.p0 | exact Pull.p1 | exact Pull.p2 | exact Pull.p3 | exact Pull.p4 | exact Pull.p5 | exact Pull.p6 | exact Pull.p7 | exact Pull.p8 | exact Pull.p9) .nil)))
  ·
    refine At.opk (want := false) rfl rfl rfl rfl rfl ?_
    refine At.opk (want := false) rfl rfl rfl rfl rfl ?_
    refine At.opk (want := false) rfl rfl rfl rfl rfl ?_
    refine At.opk (want := false) rfl rfl rfl rfl rfl ?_
    refine At.opk (want := false) rfl rfl rfl rfl rfl ?_
    refine At.opk (want := false) rfl rfl rfl rfl rfl ?_
    refine At.opk (want := false) rfl rfl rfl rfl rfl ?_
    refine At.op rfl (op_pick_f rfl rfl rfl ?_)
    refine At.op rfl (op_move rfl rfl ?_)
    refine At.opk (want := false) rfl rfl rfl rfl rfl ?_
    refine At.opk (want := false) rfl rfl rfl rfl rfl ?_
    refine At.opk (want := false) rfl rfl rfl rfl rfl ?_
    refine At.opk (want := false) rfl rfl rfl rfl rfl ?_
    refine At.op rfl (op_pick_f rfl rfl rfl ?_)
    refine At.op rfl (op_assign rfl rfl ?_)
    refine At.nil ?_
    refine At.then_n ?_
    refine At.ret ?_
    refine At.fin1 rfl rfl rfl ⟨by simp [isFree, hg1], rfl⟩ (.cons (by first | exact Pull.p0 | exact Pull.p1 | exact Pull.p2 | exact Pull.p3 | exact Pull.p4 | exact Pull.p5 | exact Pull.p6 | exact Pull.p7 | exact Pull.p8 | exact Pull.p9) (.cons (by first | exact Pull.p0 | exact Pull.p1 | exact Pull.p2 | exact Pull.p3 | exact Pull.p4 | exact Pull.p5 | exact Pull.p6 | exact Pull.p7 | exact Pull.p8 | exact Pull.p9) (.cons (by first | exact Pull.p0 | exact Pull.p1 | exact Pull.p2 | exact Pull.p3 | exact Pull.p4 | exact Pull.p5 | exact Pull.p6 | exact Pull.p7 | exact Pull.p8 | exact Pull.p9) .nil)))
theorem seglog_Used1 (c : Chp) (hc : c.wf) (g : Lg) (bg i : Nat) : Does Tryz.prog G 31 [i64 i, ptr bg 0] [chipR c, logRow g c.cb, row bg [ptr g.lb 0] 26 (0, 0), logMap g] (OneR (.bool (isUsed g c i)) [chipR c, logRow g c.cb, row bg [ptr g.lb 0] 26 (0, 0), logMap g]) := by
  refine Does.of Tryz.func31 rfl Tryz.ntmps31 rfl (fun w0 => ?_)
  refine At.keep [(0, _), (1, _)] (.cons rfl (.cons rfl .nil)) ?_
  refine At.seq ?_
  refine At.region ?_
  refine At.op rfl (op_assign rfl rfl ?_)
  refine At.nil ?_
  refine At.then_n ?_
  refine At.seq ?_
  refine At.region ?_
  refine At.op rfl (op_move rfl rfl ?_)
  refine At.op rfl (op_load rfl Tryz.isAgg26 (by first | with_reducible exact Pull.p0 | with_reducible exact Pull.p1 | with_reducible exact Pull.p2 | with_reducible exact Pull.p3 | with_reducible exact Pull.p4 | with_reducible exact Pull.p5 | with_reducible exact Pull.p6 | with_reducible exact Pull.p7 | with_reducible exact Pull.p8 | with_reducible exact Pull.p9) rfl rfl ?_)
  refine At.op rfl (op_nilCheck rfl rfl ?_)
  refine At.op rfl (op_fieldAddr (o' := 1) rfl Tryz.underlying71 rfl Tryz.sizeOf3 rfl rfl ?_)
  refine At.op rfl (op_load rfl Tryz.isAgg3 (by first | with_reducible exact Pull.p0 | with_reducible exact Pull.p1 | with_reducible exact Pull.p2 | with_reducible exact Pull.p3 | with_reducible exact Pull.p4 | with_reducible exact Pull.p5 | with_reducible exact Pull.p6 | with_reducible exact Pull.p7 | with_reducible exact Pull.p8 | with_reducible exact Pull.p9) rfl rfl ?_)
  refine At.op rfl (op_bin rfl rfl b_ne rfl ?_)
  refine At.op rfl (op_move rfl rfl ?_)
  refine At.nsplit (i := 10) rfl (fun hg1 => ?_) (fun hg1 => ?_)
  ·
    refine At.opg rfl rfl rfl (op_load rfl Tryz.isAgg26 (by first | with_reducible exact Pull.p0 | with_reducible exact Pull.p1 | with_reducible exact Pull.p2 | with_reducible exact Pull.p3 | with_reducible exact Pull.p4 | with_reducible exact Pull.p5 | with_reducible exact Pull.p6 | with_reducible exact Pull.p7 | with_reducible exact Pull.p8 | with_reducible exact Pull.p9) rfl rfl ?_)
    refine At.opg rfl rfl rfl (op_nilCheck rfl rfl ?_)
    refine At.opg rfl rfl rfl (op_fieldAddr (o' := 3) rfl Tryz.underlying71 rfl Tryz.sizeOf69 rfl rfl ?_)
    refine At.opg rfl rfl rfl (op_load rfl Tryz.isAgg69 (by first | with_reducible exact Pull.p0 | with_reducible exact Pull.p1 | with_reducible exact Pull.p2 | with_reducible exact Pull.p3 | with_reducible exact Pull.p4 | with_reducible exact Pull.p5 | with_reducible exact Pull.p6 | with_reducible exact Pull.p7 | with_reducible exact Pull.p8 | with_reducible exact Pull.p9) rfl rfl ?_)
    refine At.opg rfl rfl rfl (op_move rfl rfl ?_)
    refine At.opg rfl rfl rfl (op_lookupI rfl rfl Tryz.underlying69 Tryz.underlying3 Tryz.zeroValue3 (by first | with_reducible exact Pull.p0 | with_reducible exact Pull.p1 | with_reducible exact Pull.p2 | with_reducible exact Pull.p3 | with_reducible exact Pull.p4 | with_reducible exact Pull.p5 | with_reducible exact Pull.p6 | with_reducible exact Pull.p7 | with_reducible exact Pull.p8 | with_reducible exact Pull.p9) rfl ?_)
    refine At.opg rfl rfl rfl (op_bin rfl rfl b_eq rfl ?_)
    refine At.op rfl (op_pick_t rfl rfl rfl ?_)
    refine At.op rfl (op_move rfl rfl ?_)
    refine At.dsplit (i := 19) rfl (fun hg1b => ?_) (fun hg1b => ?_)
    ·
      refine At.opg rfl rfl rfl (op_load rfl Tryz.isAgg26 (by first | with_reducible exact Pull.p0 | with_reducible exact Pull.p1 | with_reducible exact Pull.p2 | with_reducible exact Pull.p3 | with_reducible exact Pull.p4 | with_reducible exact Pull.p5 | with_reducible exact Pull.p6 | with_reducible exact Pull.p7 | with_reducible exact Pull.p8 | with_reducible exact Pull.p9) rfl rfl ?_)
      refine At.opg rfl rfl rfl (op_move rfl rfl ?_)
      refine At.opg rfl rfl rfl (op_callQ rfl Tryz.call32 (seglog_many c hc g i) (.cons (by first | with_reducible exact Pull.p0 | with_reducible exact Pull.p1 | with_reducible exact Pull.p2 | with_reducible exact Pull.p3 | with_reducible exact Pull.p4 | with_reducible exact Pull.p5 | with_reducible exact Pull.p6 | with_reducible exact Pull.p7 | with_reducible exact Pull.p8 | with_reducible exact Pull.p9) (.cons (by first | with_reducible exact Pull.p0 | with_reducible exact Pull.p1 | with_reducible exact Pull.p2 | with_reducible exact Pull.p3 | with_reducible exact Pull.p4 | with_reducible exact Pull.p5 | with_reducible exact Pull.p6 | with_reducible exact Pull.p7 | with_reducible exact Pull.p8 | with_reducible exact Pull.p9) .nil)) rfl ?_)
      refine At.opg rfl rfl rfl (op_bin rfl rfl b_gt rfl ?_)
      refine At.op rfl (op_pick_t rfl rfl rfl ?_)
      refine At.op rfl (op_assign rfl rfl ?_)
      refine At.nil ?_
      refine At.then_n ?_
      refine At.ret ?_
      have h2 := hg1b
      refine At.fin1 rfl rfl rfl ⟨by simp [isUsed, hg1, h2], rfl⟩ (.cons (by first | exact Pull.p0 | exact Pull.p1 | exact Pull.p2 | exact Pull.p3 | exact Pull.p4 | exact Pull.p5 | exact Pull.p6 | exact Pull.p7 | exact Pull.p8 | exact Pull.p9) (.cons (by first | exact Pull.p0 | exact Pull.p1 | exact Pull.p2 | exact Pull.p3 | exact Pull.p4 | exact Pull.p5 | exact Pull.p6 | exact Pull.p7 | exact Pull.p8 | exact Pull.p9) (.cons (by first | exact Pull.p0 | exact Pull.p1 | exact Pull.p2 | exact Pull.p3 | exact Pull.p4 | exact Pull.p5 | exact Pull.p6 | exact Pull.p7 | exact Pull.p8 | exact Pull.p9) (.cons (by first | exact Pull.p0 | exact Pull.p1 | exact Pull.p2 | exact Pull.p3 | exact Pull.p4 | exact Pull.p5 | exact Pull.p6 | exact Pull.p7 | exact Pull.p8 | exact Pull.p9) .nil))))
    ·
      refine At.opk (want := false) rfl rfl rfl rfl rfl ?_
      refine At.opk (want := false) rfl rfl rfl rfl rfl ?_
      refine At.opk (want := false) rfl rfl rfl rfl rfl ?_
      refine At.opk (want := false) rfl rfl rfl rfl rfl ?_
      refine At.op rfl (op_pick_f rfl rfl rfl ?_)
      refine At.op rfl (op_assign rfl rfl ?_)
      refine At.nil ?_
      refine At.then_n ?_
      refine At.ret ?_
      have h2 := hg1b
      refine At.fin1 rfl rfl rfl ⟨by simp [isUsed, hg1, h2], rfl⟩ (.cons (by first | exact Pull.p0 | exact Pull.p1 | exact Pull.p2 | exact Pull.p3 | exact Pull.p4 | exact Pull.p5 | exact Pull.p6 | exact Pull.p7 | exact Pull.p8 | exact Pull.p9) (.cons (by first | exact Pull.p0 | exact Pull.p1 | exact Pull.p2 | exact Pull.p3 | exact Pull.p4 | exact Pull.p5 | exact Pull.p6 | exact Pull.p7 | exact Pull.p8 | exact Pull.p9) (.cons (by first | exact Pull.p0 | exact Pull.p1 | exact Pull.p2 | exact Pull.p3 | exact Pull.p4 | exact Pull.p5 | exact Pull.p6 | exact Pull.p7 | exact Pull.p8 | exact Pull.p9) (.cons (by first | exact Pull.p0 | exact Pull.p1 | exact Pull.p2 | exact Pull.p3 | exact Pull.p4 | exact Pull.p5 | exact Pull.p6 | exact Pull.p7 | exact Pull.p8 | exact Pull.p9) .nil))))
  ·
    refine At.opk (want := false) rfl rfl rfl rfl rfl ?_
    refine At.opk (want := false) rfl rfl rfl rfl rfl ?_
    refine At.opk (want := false) rfl rfl rfl rfl rfl ?_
    refine At.opk (want := false) rfl rfl rfl rfl rfl ?_
    refine At.opk (want := false) rfl rfl rfl rfl rfl ?_
    refine At.opk (want := false) rfl rfl rfl rfl rfl ?_
    refine At.opk (want := false) rfl rfl rfl rfl rfl ?_
    refine At.op rfl (op_pick_f rfl rfl rfl ?_)
    refine At.op rfl (op_move rfl rfl ?_)
    refine At.opk (want := false) rfl rfl rfl rfl rfl ?_
    refine At.opk (want := false) rfl rfl rfl rfl rfl ?_
    refine At.opk (want := false) rfl rfl rfl rfl rfl ?_
    refine At.opk (want := false) rfl rfl rfl rfl rfl ?_
    refine At.op rfl (op_pick_f rfl rfl rfl ?_)
    refine At.op rfl (op_assign rfl rfl ?_)
    refine At.nil ?_
    refine At.then_n ?_
    refine At.ret ?_
    refine At.fin1 rfl rfl rfl ⟨by simp [isUsed, hg1], rfl⟩ (.cons (by first | exact Pull.p0 | exact Pull.p1 | exact Pull.p2 | exact Pull.p3 | exact Pull.p4 | exact Pull.p5 | exact Pull.p6 | exact Pull.p7 | exact Pull.p8 | exact Pull.p9) (.cons (by first | exact Pull.p0 | exact Pull.p1 | exact Pull.p2 | exact Pull.p3 | exact Pull.p4 | exact Pull.p5 | exact Pull.p6 | exact Pull.p7 | exact Pull.p8 | exact Pull.p9) (.cons (by first | exact Pull.p0 | exact Pull.p1 | exact Pull.p2 | exact Pull.p3 | exact Pull.p4 | exact Pull.p5 | exact Pull.p6 | exact Pull.p7 | exact Pull.p8 | exact Pull.p9) (.cons (by first | exact Pull.p0 | exact Pull.p1 | exact Pull.p2 | exact Pull.p3 | exact Pull.p4 | exact Pull.p5 | exact Pull.p6 | exact Pull.p7 | exact Pull.p8 | exact Pull.p9) .nil))))
theorem seglog_Retired1 (c : Chp) (g : Lg) (bg i : Nat) : Does Tryz.prog G 33 [i64 i, ptr bg 0] [chipR c, logRow g c.cb, row bg [ptr g.lb 0] 26 (0, 0), logMap g] (OneR (.bool (isRetired g i)) [chipR c, logRow g c.cb, row bg [ptr g.lb 0] 26 (0, 0), logMap g]) := by
  refine Does.of Tryz.func33 rfl Tryz.ntmps33 rfl (fun w0 => ?_)
  refine At.keep [(0, _), (1, _)] (.cons rfl (.cons rfl .nil)) ?_
  refine At.seq ?_
  refine At.region ?_
  refine At.op rfl (op_assign rfl rfl ?_)
  refine At.nil ?_
  refine At.then_n ?_
  refine At.seq ?_
  refine At.region ?_
  refine At.op rfl (op_load rfl Tryz.isAgg26 (by first | with_reducible exact Pull.p0 | with_reducible exact Pull.p1 | with_reducible exact Pull.p2 | with_reducible exact Pull.p3 | with_reducible exact Pull.p4 | with_reducible exact Pull.p5 | with_reducible exact Pull.p6 | with_reducible exact Pull.p7 | with_reducible exact Pull.p8 | with_reducible exact Pull.p9) rfl rfl ?_)
  refine At.op rfl (op_nilCheck rfl rfl ?_)
  refine At.op rfl (op_fieldAddr (o' := 3) rfl Tryz.underlying71 rfl Tryz.sizeOf69 rfl rfl ?_)
  refine At.op rfl (op_load rfl Tryz.isAgg69 (by first | with_reducible exact Pull.p0 | with_reducible exact Pull.p1 | with_reducible exact Pull.p2 | with_reducible exact Pull.p3 | with_reducible exact Pull.p4 | with_reducible exact Pull.p5 | with_reducible exact Pull.p6 | with_reducible exact Pull.p7 | with_reducible exact Pull.p8 | with_reducible exact Pull.p9) rfl rfl ?_)
  refine At.op rfl (op_move rfl rfl ?_)
  refine At.op rfl (op_lookupI rfl rfl Tryz.underlying69 Tryz.underlying3 Tryz.zeroValue3 (by first | with_reducible exact Pull.p0 | with_reducible exact Pull.p1 | with_reducible exact Pull.p2 | with_reducible exact Pull.p3 | with_reducible exact Pull.p4 | with_reducible exact Pull.p5 | with_reducible exact Pull.p6 | with_reducible exact Pull.p7 | with_reducible exact Pull.p8 | with_reducible exact Pull.p9) rfl ?_)
  refine At.op rfl (op_bin rfl rfl b_gt rfl ?_)
  refine At.op rfl (op_assign rfl rfl ?_)
  refine At.nil ?_
  refine At.then_n ?_
  refine At.ret ?_
  exact At.fin1 rfl rfl rfl ⟨rfl, rfl⟩ (.cons (by first | exact Pull.p0 | exact Pull.p1 | exact Pull.p2 | exact Pull.p3 | exact Pull.p4 | exact Pull.p5 | exact Pull.p6 | exact Pull.p7 | exact Pull.p8 | exact Pull.p9) (.cons (by first | exact Pull.p0 | exact Pull.p1 | exact Pull.p2 | exact Pull.p3 | exact Pull.p4 | exact Pull.p5 | exact Pull.p6 | exact Pull.p7 | exact Pull.p8 | exact Pull.p9) (.cons (by first | exact Pull.p0 | exact Pull.p1 | exact Pull.p2 | exact Pull.p3 | exact Pull.p4 | exact Pull.p5 | exact Pull.p6 | exact Pull.p7 | exact Pull.p8 | exact Pull.p9) (.cons (by first | exact Pull.p0 | exact Pull.p1 | exact Pull.p2 | exact Pull.p3 | exact Pull.p4 | exact Pull.p5 | exact Pull.p6 | exact Pull.p7 | exact Pull.p8 | exact Pull.p9) .nil))))
theorem seglog_Free (c : Chp) (hc : c.wf) (g : Lg) : Does Tryz.prog G 11 [ptr g.lb 0] [chipR c, logRow g c.cb, logMap g] (OneR (i64 (freeL g c).length) [chipR c, logRow g c.cb, logMap g]) := by
  refine Does.of Tryz.func11 rfl Tryz.ntmps11 rfl (fun w0 => ?_)
  refine At.keep [(0, _)] (.cons rfl .nil) ?_
  refine At.seq ?_
  refine At.region ?_
  refine At.op rfl (op_assign rfl rfl ?_)
  refine At.nil ?_
  refine At.then_n ?_
  refine At.seq ?_
  refine At.region ?_
  refine At.op rfl (op_move rfl rfl ?_)
  refine At.op rfl (op_move rfl rfl ?_)
  refine At.op rfl (op_makeFunc rfl rfl rfl ?_)
  refine At.op rfl (op_callF rfl Tryz.call26 (seglog_those c hc g 27 [ptr g.lb 0] [] [logMap g] (isFree g c) Tryz.call27 (fun i _ => seglog_free c hc g i)) (.cons (by first | exact Pull.p0 | exact Pull.p1 | exact Pull.p2 | exact Pull.p3 | exact Pull.p4 | exact Pull.p5 | exact Pull.p6 | exact Pull.p7 | exact Pull.p8 | exact Pull.p9) (.cons (by first | exact Pull.p0 | exact Pull.p1 | exact Pull.p2 | exact Pull.p3 | exact Pull.p4 | exact Pull.p5 | exact Pull.p6 | exact Pull.p7 | exact Pull.p8 | exact Pull.p9) (.cons (by first | exact Pull.p0 | exact Pull.p1 | exact Pull.p2 | exact Pull.p3 | exact Pull.p4 | exact Pull.p5 | exact Pull.p6 | exact Pull.p7 | exact Pull.p8 | exact Pull.p9) .nil))) rfl ?_)
  rintro v _ ⟨ad, cp, rfl, rfl⟩
  show At _ _ [ownS ad cp (((List.range c.segs).filter (isFree g c)).map fun n : Nat => i64 n) 3 1, chipR c, logRow g c.cb, logMap g] _
  refine At.op rfl (op_len_slc rfl Tryz.underlying48 rfl ?_)
  refine At.op rfl (op_assign rfl rfl ?_)
  refine At.nil ?_
  refine At.then_n ?_
  refine At.ret ?_
  exact At.fin1 rfl rfl rfl ⟨rfl, rfl⟩ (.cons (by first | exact Pull.p0 | exact Pull.p1 | exact Pull.p2 | exact Pull.p3 | exact Pull.p4 | exact Pull.p5 | exact Pull.p6 | exact Pull.p7 | exact Pull.p8 | exact Pull.p9) (.cons (by first | exact Pull.p0 | exact Pull.p1 | exact Pull.p2 | exact Pull.p3 | exact Pull.p4 | exact Pull.p5 | exact Pull.p6 | exact Pull.p7 | exact Pull.p8 | exact Pull.p9) (.cons (by first | exact Pull.p0 | exact Pull.p1 | exact Pull.p2 | exact Pull.p3 | exact Pull.p4 | exact Pull.p5 | exact Pull.p6 | exact Pull.p7 | exact Pull.p8 | exact Pull.p9) .nil)))
theorem seglog_Used (c : Chp) (hc : c.wf) (g : Lg) : Does Tryz.prog G 16 [ptr g.lb 0] [chipR c, logRow g c.cb, logMap g] (fun v rs' => ∃ ad cp, v = .slice ad ((List.range c.segs).filter (isUsed g c)).length cp ∧ rs' = [chipR c, logRow g c.cb, logMap g]) := by
  refine Does.of Tryz.func16 rfl Tryz.ntmps16 rfl (fun w0 => ?_)
  refine At.keep [(0, _)] (.cons rfl .nil) ?_
  refine At.seq ?_
  refine At.region ?_
  refine At.op rfl (op_box rfl rfl rfl ?_)
  intro bg
  refine At.op rfl (op_assign rfl rfl ?_)
  refine At.nil ?_
  refine At.then_n ?_
  refine At.seq ?_
  refine At.region ?_
  refine At.op rfl (op_load rfl Tryz.isAgg26 (by first | with_reducible exact Pull.p0 | with_reducible exact Pull.p1 | with_reducible exact Pull.p2 | with_reducible exact Pull.p3 | with_reducible exact Pull.p4 | with_reducible exact Pull.p5 | with_reducible exact Pull.p6 | with_reducible exact Pull.p7 | with_reducible exact Pull.p8 | with_reducible exact Pull.p9) rfl rfl ?_)
  refine At.op rfl (op_makeFunc rfl rfl rfl ?_)
  refine At.op rfl (op_callF rfl Tryz.call26 (seglog_those c hc g 31 [] [ptr bg 0] [row bg [ptr g.lb 0] 26 (0, 0), logMap g] (isUsed g c) Tryz.call31 (fun i _ => seglog_Used1 c hc g bg i)) (.cons (by first | exact Pull.p0 | exact Pull.p1 | exact Pull.p2 | exact Pull.p3 | exact Pull.p4 | exact Pull.p5 | exact Pull.p6 | exact Pull.p7 | exact Pull.p8 | exact Pull.p9) (.cons (by first | exact Pull.p0 | exact Pull.p1 | exact Pull.p2 | exact Pull.p3 | exact Pull.p4 | exact Pull.p5 | exact Pull.p6 | exact Pull.p7 | exact Pull.p8 | exact Pull.p9) (.cons (by first | exact Pull.p0 | exact Pull.p1 | exact Pull.p2 | exact Pull.p3 | exact Pull.p4 | exact Pull.p5 | exact Pull.p6 | exact Pull.p7 | exact Pull.p8 | exact Pull.p9) (.cons (by first | exact Pull.p0 | exact Pull.p1 | exact Pull.p2 | exact Pull.p3 | exact Pull.p4 | exact Pull.p5 | exact Pull.p6 | exact Pull.p7 | exact Pull.p8 | exact Pull.p9) .nil)))) rfl ?_)
  rintro v _ ⟨ad, cp, rfl, rfl⟩
  show At _ _ [ownS ad cp (((List.range c.segs).filter (isUsed g c)).map fun n : Nat => i64 n) 3 1, chipR c, logRow g c.cb, row bg [ptr g.lb 0] 26 (0, 0), logMap g] _
  refine At.op rfl (op_assign rfl rfl ?_)
  refine At.nil ?_
  refine At.then_n ?_
  refine At.ret ?_
  exact At.fin1 rfl rfl rfl ⟨ad, cp, rfl, rfl⟩ (.cons (by first | exact Pull.p0 | exact Pull.p1 | exact Pull.p2 | exact Pull.p3 | exact Pull.p4 | exact Pull.p5 | exact Pull.p6 | exact Pull.p7 | exact Pull.p8 | exact Pull.p9) (.cons (by first | exact Pull.p0 | exact Pull.p1 | exact Pull.p2 | exact Pull.p3 | exact Pull.p4 | exact Pull.p5 | exact Pull.p6 | exact Pull.p7 | exact Pull.p8 | exact Pull.p9) (.cons (by first | exact Pull.p0 | exact Pull.p1 | exact Pull.p2 | exact Pull.p3 | exact Pull.p4 | exact Pull.p5 | exact Pull.p6 | exact Pull.p7 | exact Pull.p8 | exact Pull.p9) .nil)))
theorem seglog_Retired (c : Chp) (hc : c.wf) (g : Lg) : Does Tryz.prog G 17 [ptr g.lb 0] [chipR c, logRow g c.cb, logMap g] (fun v rs' => ∃ ad cp, v = .slice ad ((List.range c.segs).filter (isRetired g)).length cp ∧ rs' = [chipR c, logRow g c.cb, logMap g]) := by
  refine Does.of Tryz.func17 rfl Tryz.ntmps17 rfl (fun w0 => ?_)
  refine At.keep [(0, _)] (.cons rfl .nil) ?_
  refine At.seq ?_
  refine At.region ?_
  refine At.op rfl (op_box rfl rfl rfl ?_)
  intro bg
  refine At.op rfl (op_assign rfl rfl ?_)
  refine At.nil ?_
  refine At.then_n ?_
  refine At.seq ?_
  refine At.region ?_
  refine At.op rfl (op_load rfl Tryz.isAgg26 (by first | with_reducible exact Pull.p0 | with_reducible exact Pull.p1 | with_reducible exact Pull.p2 | with_reducible exact Pull.p3 | with_reducible exact Pull.p4 | with_reducible exact Pull.p5 | with_reducible exact Pull.p6 | with_reducible exact Pull.p7 | with_reducible exact Pull.p8 | with_reducible exact Pull.p9) rfl rfl ?_)
  refine At.op rfl (op_makeFunc rfl rfl rfl ?_)
  refine At.op rfl (op_callF rfl Tryz.call26 (seglog_those c hc g 33 [] [ptr bg 0] [row bg [ptr g.lb 0] 26 (0, 0), logMap g] (isRetired g) Tryz.call33 (fun i _ => seglog_Retired1 c g bg i)) (.cons (by first | exact Pull.p0 | exact Pull.p1 | exact Pull.p2 | exact Pull.p3 | exact Pull.p4 | exact Pull.p5 | exact Pull.p6 | exact Pull.p7 | exact Pull.p8 | exact Pull.p9) (.cons (by first | exact Pull.p0 | exact Pull.p1 | exact Pull.p2 | exact Pull.p3 | exact Pull.p4 | exact Pull.p5 | exact Pull.p6 | exact Pull.p7 | exact Pull.p8 | exact Pull.p9) (.cons (by first | exact Pull.p0 | exact Pull.p1 | exact Pull.p2 | exact Pull.p3 | exact Pull.p4 | exact Pull.p5 | exact Pull.p6 | exact Pull.p7 | exact Pull.p8 | exact Pull.p9) (.cons (by first | exact Pull.p0 | exact Pull.p1 | exact Pull.p2 | exact Pull.p3 | exact Pull.p4 | exact Pull.p5 | exact Pull.p6 | exact Pull.p7 | exact Pull.p8 | exact Pull.p9) .nil)))) rfl ?_)
  rintro v _ ⟨ad, cp, rfl, rfl⟩
  show At _ _ [ownS ad cp (((List.range c.segs).filter (isRetired g)).map fun n : Nat => i64 n) 3 1, chipR c, logRow g c.cb, row bg [ptr g.lb 0] 26 (0, 0), logMap g] _
  refine At.op rfl (op_assign rfl rfl ?_)
  refine At.nil ?_
  refine At.then_n ?_
  refine At.ret ?_
  exact At.fin1 rfl rfl rfl ⟨ad, cp, rfl, rfl⟩ (.cons (by first | exact Pull.p0 | exact Pull.p1 | exact Pull.p2 | exact Pull.p3 | exact Pull.p4 | exact Pull.p5 | exact Pull.p6 | exact Pull.p7 | exact Pull.p8 | exact Pull.p9) (.cons (by first | exact Pull.p0 | exact Pull.p1 | exact Pull.p2 | exact Pull.p3 | exact Pull.p4 | exact Pull.p5 | exact Pull.p6 | exact Pull.p7 | exact Pull.p8 | exact Pull.p9) (.cons (by first | exact Pull.p0 | exact Pull.p1 | exact Pull.p2 | exact Pull.p3 | exact Pull.p4 | exact Pull.p5 | exact Pull.p6 | exact Pull.p7 | exact Pull.p8 | exact Pull.p9) .nil)))
theorem seglog_Open (cb : Nat) (g : Lg) : Does Tryz.prog G 13 [ptr g.lb 0] [logRow g cb] (OneR (i64 g.op) [logRow g cb]) := by
  refine Does.of Tryz.func13 rfl Tryz.ntmps13 rfl (fun w0 => ?_)
  refine At.keep [(0, _)] (.cons rfl .nil) ?_
  refine At.seq ?_
  refine At.region ?_
  refine At.op rfl (op_assign rfl rfl ?_)
  refine At.nil ?_
  refine At.then_n ?_
  refine At.seq ?_
  refine At.region ?_
  refine At.op rfl (op_move rfl rfl ?_)
  refine At.op rfl (op_nilCheck rfl rfl ?_)
  refine At.op rfl (op_fieldAddr (o' := 1) rfl Tryz.underlying71 rfl Tryz.sizeOf3 rfl rfl ?_)
  refine At.op rfl (op_load rfl Tryz.isAgg3 (by first | with_reducible exact Pull.p0 | with_reducible exact Pull.p1 | with_reducible exact Pull.p2 | with_reducible exact Pull.p3 | with_reducible exact Pull.p4 | with_reducible exact Pull.p5 | with_reducible exact Pull.p6 | with_reducible exact Pull.p7 | with_reducible exact Pull.p8 | with_reducible exact Pull.p9) rfl rfl ?_)
  refine At.op rfl (op_assign rfl rfl ?_)
  refine At.nil ?_
  refine At.then_n ?_
  refine At.ret ?_
  exact At.fin1 rfl rfl rfl ⟨rfl, rfl⟩ (.cons (by first | with_reducible exact Pull.p0 | with_reducible exact Pull.p1 | with_reducible exact Pull.p2 | with_reducible exact Pull.p3 | with_reducible exact Pull.p4 | with_reducible exact Pull.p5 | with_reducible exact Pull.p6 | with_reducible exact Pull.p7 | with_reducible exact Pull.p8 | with_reducible exact Pull.p9) .nil)
theorem seglog_Seq (cb : Nat) (g : Lg) : Does Tryz.prog G 14 [ptr g.lb 0] [logRow g cb] (OneR (u64 g.seq) [logRow g cb]) := by
  refine Does.of Tryz.func14 rfl Tryz.ntmps14 rfl (fun w0 => ?_)
  refine At.keep [(0, _)] (.cons rfl .nil) ?_
  refine At.seq ?_
  refine At.region ?_
  refine At.op rfl (op_assign rfl rfl ?_)
  refine At.nil ?_
  refine At.then_n ?_
  refine At.seq ?_
  refine At.region ?_
  refine At.op rfl (op_move rfl rfl ?_)
  refine At.op rfl (op_nilCheck rfl rfl ?_)
  refine At.op rfl (op_fieldAddr (o' := 2) rfl Tryz.underlying71 rfl Tryz.sizeOf40 rfl rfl ?_)
  refine At.op rfl (op_load rfl Tryz.isAgg40 (by first | with_reducible exact Pull.p0 | with_reducible exact Pull.p1 | with_reducible exact Pull.p2 | with_reducible exact Pull.p3 | with_reducible exact Pull.p4 | with_reducible exact Pull.p5 | with_reducible exact Pull.p6 | with_reducible exact Pull.p7 | with_reducible exact Pull.p8 | with_reducible exact Pull.p9) rfl rfl ?_)
  refine At.op rfl (op_assign rfl rfl ?_)
  refine At.nil ?_
  refine At.then_n ?_
  refine At.ret ?_
  exact At.fin1 rfl rfl rfl ⟨rfl, rfl⟩ (.cons (by first | with_reducible exact Pull.p0 | with_reducible exact Pull.p1 | with_reducible exact Pull.p2 | with_reducible exact Pull.p3 | with_reducible exact Pull.p4 | with_reducible exact Pull.p5 | with_reducible exact Pull.p6 | with_reducible exact Pull.p7 | with_reducible exact Pull.p8 | with_reducible exact Pull.p9) .nil)
theorem seglog_next (c : Chp) (hc : c.wf) (g : Lg) (i : Nat) (hi : i < c.segs) : Does Tryz.prog G 23 [ptr g.lb 0, i64 i] [chipR c, logRow g c.cb] (OneR (i64 (c.next i)) [chipR c, logRow g c.cb]) := by
  refine Does.of Tryz.func23 rfl Tryz.ntmps23 rfl (fun w0 => ?_)
  refine At.keep [(0, _), (1, _)] (.cons rfl (.cons rfl .nil)) ?_
  obtain ⟨sg, hsg, hsl, _, _⟩ := hc.seg hi
  have hb2 := hc.pages1
  refine At.seq ?_
  refine At.region ?_
  refine At.op rfl (op_assign rfl rfl ?_)
  refine At.nil ?_
  refine At.then_n ?_
  refine At.seq ?_
  refine At.seq ?_
  refine At.region ?_
  refine At.op rfl (op_move rfl rfl ?_)
  refine At.op rfl (op_nilCheck rfl rfl ?_)
  refine At.op rfl (op_fieldAddr (o' := 0) rfl Tryz.underlying71 rfl Tryz.sizeOf22 rfl rfl ?_)
  refine At.op rfl (op_load rfl Tryz.isAgg22 (by first | with_reducible exact Pull.p0 | with_reducible exact Pull.p1 | with_reducible exact Pull.p2 | with_reducible exact Pull.p3 | with_reducible exact Pull.p4 | with_reducible exact Pull.p5 | with_reducible exact Pull.p6 | with_reducible exact Pull.p7 | with_reducible exact Pull.p8 | with_reducible exact Pull.p9) rfl rfl ?_)
  refine At.op rfl (op_nilCheck rfl rfl ?_)
  refine At.op rfl (op_fieldAddr (o' := 0) rfl Tryz.underlying55 rfl Tryz.sizeOf52 rfl rfl ?_)
  refine At.op rfl (op_loadGA (us := [i64 c.segs, i64 c.pages]) (chipR c) rfl Tryz.isAgg52 Tryz.sizeOf52 (by first | with_reducible exact Pull.p0 | with_reducible exact Pull.p1 | with_reducible exact Pull.p2 | with_reducible exact Pull.p3 | with_reducible exact Pull.p4 | with_reducible exact Pull.p5 | with_reducible exact Pull.p6 | with_reducible exact Pull.p7 | with_reducible exact Pull.p8 | with_reducible exact Pull.p9) (chip_size c) rfl rfl ?_)
  refine At.op rfl (op_call1 rfl Tryz.call39 (size_Pages c.segs c.pages) rfl ?_)
  refine At.op rfl (op_move rfl rfl ?_)
  refine At.nil ?_
  refine At.then_n ?_
  refine At.block ?_
  refine At.cut (rs' := (fun _ => [chipR c, logRow g c.cb]) (0 : Nat)) (.cons (by first | exact Pull.p0 | exact Pull.p1 | exact Pull.p2 | exact Pull.p3 | exact Pull.p4 | exact Pull.p5 | exact Pull.p6 | exact Pull.p7 | exact Pull.p8 | exact Pull.p9) (.cons (by first | exact Pull.p0 | exact Pull.p1 | exact Pull.p2 | exact Pull.p3 | exact Pull.p4 | exact Pull.p5 | exact Pull.p6 | exact Pull.p7 | exact Pull.p8 | exact Pull.p9) .nil)) ?_
  refine At.keep ((fun k => [(0, ptr g.lb 0), (1, i64 i), (16, i64 c.pages), (17, i64 k)]) (0 : Nat)) (.cons rfl (.cons rfl (.cons rfl (.cons rfl .nil)))) ?_
  refine At.loop (σ := Nat) (fun k => k ≤ c.pages ∧ c.next i = pgNext (sg.pg.drop k) k) (fun k => [(0, ptr g.lb 0), (1, i64 i), (16, i64 c.pages), (17, i64 k)]) (fun _ => [chipR c, logRow g c.cb]) (fun k => c.pages - k) (0 : Nat) ⟨Nat.zero_le _, by simp [Chp.next, hsg]⟩ ?_
  rintro k ⟨hk, hnx⟩
  refine At.seq ?_
  refine At.region ?_
  refine At.op rfl (op_bin rfl rfl b_lt rfl ?_)
  refine At.nil ?_
  refine At.then_n ?_
  refine At.seq ?_
  refine At.cond_p rfl (fun hlt0 => ?_) (fun hlt0 => ?_)
  ·
    have hlt : k < c.pages := by omega
    obtain ⟨p, hp⟩ : ∃ p, sg.pg[k]? = some p := ⟨_, List.getElem?_eq_getElem (by omega)⟩
    refine At.skip ?_
    refine At.then_n ?_
    refine At.seq ?_
    refine At.block ?_
    refine At.seq ?_
    refine At.region ?_
    refine At.op rfl (op_move rfl rfl ?_)
    refine At.op rfl (op_assign rfl rfl ?_)
    refine At.nil ?_
    refine At.then_n ?_
    refine At.seq ?_
    refine At.region ?_
    refine At.op rfl (op_move rfl rfl ?_)
    refine At.op rfl (op_nilCheck rfl rfl ?_)
    refine At.op rfl (op_fieldAddr (o' := 0) rfl Tryz.underlying71 rfl Tryz.sizeOf22 rfl rfl ?_)
    refine At.op rfl (op_load rfl Tryz.isAgg22 (by first | with_reducible exact Pull.p0 | with_reducible exact Pull.p1 | with_reducible exact Pull.p2 | with_reducible exact Pull.p3 | with_reducible exact Pull.p4 | with_reducible exact Pull.p5 | with_reducible exact Pull.p6 | with_reducible exact Pull.p7 | with_reducible exact Pull.p8 | with_reducible exact Pull.p9) rfl rfl ?_)
    refine At.op rfl (op_move rfl rfl ?_)
    refine At.op rfl (op_move rfl rfl ?_)
    refine At.op rfl (op_callQ rfl Tryz.call19 (nand_Read c hc i k hi hlt) (.cons (by first | with_reducible exact Pull.p0 | with_reducible exact Pull.p1 | with_reducible exact Pull.p2 | with_reducible exact Pull.p3 | with_reducible exact Pull.p4 | with_reducible exact Pull.p5 | with_reducible exact Pull.p6 | with_reducible exact Pull.p7 | with_reducible exact Pull.p8 | with_reducible exact Pull.p9) .nil) rfl ?_)
    have hat := Chp.at_eq hsg hp
    rcases hv : p.view with _ | t <;> rw [hv] at hat <;> rw [hat]
    ·
      refine At.op rfl (op_move rfl rfl ?_)
      refine At.op rfl (op_extractL rfl .zero rfl ?_)
      refine At.op rfl (op_extractL rfl (.succ .zero) rfl ?_)
      refine At.op rfl (op_extractL rfl (.succ (.succ .zero)) rfl ?_)
      refine At.op rfl (op_assign rfl rfl ?_)
      refine At.op rfl (op_assign rfl rfl ?_)
      refine At.op rfl (op_assign rfl rfl ?_)
      refine At.nil ?_
      refine At.then_n ?_
      refine At.seq ?_
      refine At.keep [(0, _), (1, _), (16, _), (17, _), (5, _), (7, _)] (.cons rfl (.cons rfl (.cons rfl (.cons rfl (.cons rfl (.cons rfl .nil)))))) ?_
      refine At.region ?_
      refine At.op rfl (op_move rfl rfl ?_)
      refine At.op rfl (op_not rfl rfl ?_)
      refine At.nil ?_
      refine At.then_n ?_
      refine At.cond_t rfl ?_
      refine At.seq ?_
      refine At.region ?_
      refine At.op rfl (op_move rfl rfl ?_)
      refine At.op rfl (op_assign rfl rfl ?_)
      refine At.nil ?_
      refine At.then_n ?_
      refine At.ret ?_
      refine At.blk_r ?_
      refine At.then_r ?_
      refine At.then_r ?_
      refine At.blk_r ?_
      refine At.then_r ?_
      exact At.fin1 rfl rfl rfl ⟨by rw [hnx, pgNext_drop hp, hv], rfl⟩ (.cons (by first | exact Pull.p0 | exact Pull.p1 | exact Pull.p2 | exact Pull.p3 | exact Pull.p4 | exact Pull.p5 | exact Pull.p6 | exact Pull.p7 | exact Pull.p8 | exact Pull.p9) (.cons (by first | exact Pull.p0 | exact Pull.p1 | exact Pull.p2 | exact Pull.p3 | exact Pull.p4 | exact Pull.p5 | exact Pull.p6 | exact Pull.p7 | exact Pull.p8 | exact Pull.p9) .nil))
    ·
      refine At.op rfl (op_move rfl rfl ?_)
      refine At.op rfl (op_extractL rfl .zero rfl ?_)
      refine At.op rfl (op_extractL rfl (.succ .zero) rfl ?_)
      refine At.op rfl (op_extractL rfl (.succ (.succ .zero)) rfl ?_)
      refine At.op rfl (op_assign rfl rfl ?_)
      refine At.op rfl (op_assign rfl rfl ?_)
      refine At.op rfl (op_assign rfl rfl ?_)
      refine At.nil ?_
      refine At.then_n ?_
      refine At.seq ?_
      refine At.keep [(0, _), (1, _), (16, _), (17, _), (5, _), (7, _)] (.cons rfl (.cons rfl (.cons rfl (.cons rfl (.cons rfl (.cons rfl .nil)))))) ?_
      refine At.region ?_
      refine At.op rfl (op_move rfl rfl ?_)
      refine At.op rfl (op_not rfl rfl ?_)
      refine At.nil ?_
      refine At.then_n ?_
      refine At.cond_f rfl ?_
      refine At.skip ?_
      refine At.blk_n ?_
      refine At.then_n ?_
      refine At.region ?_
      refine At.op rfl (op_bin rfl rfl (b_add (by omega) (by omega)) rfl ?_)
      refine At.op rfl (op_move rfl rfl ?_)
      refine At.nil ?_
      refine At.then_n ?_
      exact At.back (k + 1) ⟨by omega, by rw [hnx, pgNext_drop hp, hv]⟩ (by omega) (.cons rfl (.cons rfl (.cons rfl (.cons rfl .nil)))) (.cons (by first | with_reducible exact Pull.p0 | with_reducible exact Pull.p1 | with_reducible exact Pull.p2 | with_reducible exact Pull.p3 | with_reducible exact Pull.p4 | with_reducible exact Pull.p5 | with_reducible exact Pull.p6 | with_reducible exact Pull.p7 | with_reducible exact Pull.p8 | with_reducible exact Pull.p9) (.cons (by first | with_reducible exact Pull.p0 | with_reducible exact Pull.p1 | with_reducible exact Pull.p2 | with_reducible exact Pull.p3 | with_reducible exact Pull.p4 | with_reducible exact Pull.p5 | with_reducible exact Pull.p6 | with_reducible exact Pull.p7 | with_reducible exact Pull.p8 | with_reducible exact Pull.p9) .nil))
  ·
    refine At.exit ?_
    refine At.then_e ?_
    refine At.then_e ?_
    refine At.blk_e ?_
    refine At.then_n ?_
    refine At.seq ?_
    refine At.region ?_
    refine At.op rfl (op_assign rfl rfl ?_)
    refine At.nil ?_
    refine At.then_n ?_
    refine At.ret ?_
    exact At.fin1 rfl rfl rfl ⟨by rw [hnx, List.drop_of_length_le (by omega)]; rfl, rfl⟩ (.cons (by first | exact Pull.p0 | exact Pull.p1 | exact Pull.p2 | exact Pull.p3 | exact Pull.p4 | exact Pull.p5 | exact Pull.p6 | exact Pull.p7 | exact Pull.p8 | exact Pull.p9) (.cons (by first | exact Pull.p0 | exact Pull.p1 | exact Pull.p2 | exact Pull.p3 | exact Pull.p4 | exact Pull.p5 | exact Pull.p6 | exact Pull.p7 | exact Pull.p8 | exact Pull.p9) .nil))
theorem wear_lt {c : Chp} (hc : c.wf) (i : Nat) : c.wearAt i < 1000000 := by
  unfold Chp.wearAt
  cases hx : c.l[i]? with
  | none => simp
  | some s => simpa using (hc.pgs s (List.mem_of_getElem? hx)).2.1
theorem seglog_take1 (c : Chp) (hc : c.wf) (g : Lg) (bg a b : Nat) (ha : a < c.segs) (hb : b < c.segs) : Does Tryz.prog G 45 [i64 a, i64 b, ptr bg 0] [row bg [ptr g.lb 0] 26 (0, 0), chipR c, logRow g c.cb, logMap g] (OneR (i64 (wearZ c a - wearZ c b)) [row bg [ptr g.lb 0] 26 (0, 0), chipR c, logRow g c.cb, logMap g]) := by
  refine Does.of Tryz.func45 rfl Tryz.ntmps45 rfl (fun w0 => ?_)
  refine At.keep [(0, _), (1, _), (2, _)] (.cons rfl (.cons rfl (.cons rfl .nil))) ?_
  refine At.seq ?_
  refine At.region ?_
  refine At.op rfl (op_assign rfl rfl ?_)
  refine At.nil ?_
  refine At.then_n ?_
  refine At.seq ?_
  refine At.drawC [_, _, _, _, _, _, _, _, _, _, _, _, _, _] (by kernel_rfl) (by decide) (by kernel_rfl) 
    (Steps'.cons (Step.op rfl (fun D h1 h2 h3 K hK => op_load (mD_base rfl rfl) Tryz.isAgg26 (by first | with_reducible exact Pull.p0 | with_reducible exact Pull.p1 | with_reducible exact Pull.p2 | with_reducible exact Pull.p3 | with_reducible exact Pull.p4 | with_reducible exact Pull.p5 | with_reducible exact Pull.p6 | with_reducible exact Pull.p7 | with_reducible exact Pull.p8 | with_reducible exact Pull.p9) rfl rfl hK))
    (Steps'.cons (Step.op rfl (fun D h1 h2 h3 K hK => op_nilCheck (mD_done 0 (by decide) (pre_at h2 0 rfl rfl) rfl rfl rfl) rfl hK))
    (Steps'.cons (Step.op rfl (fun D h1 h2 h3 K hK => op_fieldAddr (o' := 0) (mD_done 1 (by decide) (pre_at h2 0 rfl rfl) rfl rfl rfl) Tryz.underlying71 rfl Tryz.sizeOf22 rfl rfl hK))
    (Steps'.cons (Step.op rfl (fun D h1 h2 h3 K hK => op_load (mD_done 2 (by decide) (pre_at h2 0 rfl rfl) rfl rfl rfl) Tryz.isAgg22 (by first | with_reducible exact Pull.p0 | with_reducible exact Pull.p1 | with_reducible exact Pull.p2 | with_reducible exact Pull.p3 | with_reducible exact Pull.p4 | with_reducible exact Pull.p5 | with_reducible exact Pull.p6 | with_reducible exact Pull.p7 | with_reducible exact Pull.p8 | with_reducible exact Pull.p9) rfl rfl hK))
    (Steps'.cons (Step.op rfl (fun D h1 h2 h3 K hK => op_move (mD_base rfl rfl) rfl hK))
    (Steps'.cons (Step.op rfl (fun D h1 h2 h3 K hK => op_callQ (evs_cons (mD_done 3 (by decide) (pre_at h2 0 rfl rfl) rfl rfl rfl) (evs_cons (mD_done 4 (by decide) (pre_at h2 1 rfl rfl) rfl rfl rfl) evs_nil)) Tryz.call46 (nand_Wear c hc a ha) (.cons (by first | with_reducible exact Pull.p0 | with_reducible exact Pull.p1 | with_reducible exact Pull.p2 | with_reducible exact Pull.p3 | with_reducible exact Pull.p4 | with_reducible exact Pull.p5 | with_reducible exact Pull.p6 | with_reducible exact Pull.p7 | with_reducible exact Pull.p8 | with_reducible exact Pull.p9) .nil) rfl hK))
    (Steps'.cons (Step.op rfl (fun D h1 h2 h3 K hK => op_load (mD_base rfl rfl) Tryz.isAgg26 (by first | with_reducible exact Pull.p0 | with_reducible exact Pull.p1 | with_reducible exact Pull.p2 | with_reducible exact Pull.p3 | with_reducible exact Pull.p4 | with_reducible exact Pull.p5 | with_reducible exact Pull.p6 | with_reducible exact Pull.p7 | with_reducible exact Pull.p8 | with_reducible exact Pull.p9) rfl rfl hK))
    (Steps'.cons (Step.op rfl (fun D h1 h2 h3 K hK => op_nilCheck (mD_done 6 (by decide) (pre_at h2 0 rfl rfl) rfl rfl rfl) rfl hK))
    (Steps'.cons (Step.op rfl (fun D h1 h2 h3 K hK => op_fieldAddr (o' := 0) (mD_done 7 (by decide) (pre_at h2 0 rfl rfl) rfl rfl rfl) Tryz.underlying71 rfl Tryz.sizeOf22 rfl rfl hK))
    (Steps'.cons (Step.op rfl (fun D h1 h2 h3 K hK => op_load (mD_done 8 (by decide) (pre_at h2 0 rfl rfl) rfl rfl rfl) Tryz.isAgg22 (by first | with_reducible exact Pull.p0 | with_reducible exact Pull.p1 | with_reducible exact Pull.p2 | with_reducible exact Pull.p3 | with_reducible exact Pull.p4 | with_reducible exact Pull.p5 | with_reducible exact Pull.p6 | with_reducible exact Pull.p7 | with_reducible exact Pull.p8 | with_reducible exact Pull.p9) rfl rfl hK))
    (Steps'.cons (Step.op rfl (fun D h1 h2 h3 K hK => op_move (mD_base rfl rfl) rfl hK))
    (Steps'.cons (Step.op rfl (fun D h1 h2 h3 K hK => op_callQ (evs_cons (mD_done 9 (by decide) (pre_at h2 0 rfl rfl) rfl rfl rfl) (evs_cons (mD_done 10 (by decide) (pre_at h2 1 rfl rfl) rfl rfl rfl) evs_nil)) Tryz.call46 (nand_Wear c hc b hb) (.cons (by first | with_reducible exact Pull.p0 | with_reducible exact Pull.p1 | with_reducible exact Pull.p2 | with_reducible exact Pull.p3 | with_reducible exact Pull.p4 | with_reducible exact Pull.p5 | with_reducible exact Pull.p6 | with_reducible exact Pull.p7 | with_reducible exact Pull.p8 | with_reducible exact Pull.p9) .nil) rfl hK))
    (Steps'.cons (Step.op rfl (fun D h1 h2 h3 K hK => op_bin (mD_done 5 (by decide) (pre_at h2 0 rfl rfl) rfl rfl rfl) (mD_done 11 (by decide) (pre_at h2 1 rfl rfl) rfl rfl rfl) (b_sub (by have := wear_lt hc a; have := wear_lt hc b; omega) (by have := wear_lt hc a; have := wear_lt hc b; omega)) rfl hK))
    (Steps'.cons (Step.op rfl (fun D h1 h2 h3 K hK => op_assign (mD_done 12 (by decide) (pre_at h2 0 rfl rfl) rfl rfl rfl) rfl hK))
    Steps'.nil)))))))))))))) ?_
  refine At.keep [(5, _)] (.cons rfl .nil) ?_
  refine At.then_n ?_
  refine At.ret ?_
  exact At.fin1 rfl rfl rfl ⟨rfl, rfl⟩ (.cons (by first | exact Pull.p0 | exact Pull.p1 | exact Pull.p2 | exact Pull.p3 | exact Pull.p4 | exact Pull.p5 | exact Pull.p6 | exact Pull.p7 | exact Pull.p8 | exact Pull.p9) (.cons (by first | exact Pull.p0 | exact Pull.p1 | exact Pull.p2 | exact Pull.p3 | exact Pull.p4 | exact Pull.p5 | exact Pull.p6 | exact Pull.p7 | exact Pull.p8 | exact Pull.p9) (.cons (by first | exact Pull.p0 | exact Pull.p1 | exact Pull.p2 | exact Pull.p3 | exact Pull.p4 | exact Pull.p5 | exact Pull.p6 | exact Pull.p7 | exact Pull.p8 | exact Pull.p9) (.cons (by first | exact Pull.p0 | exact Pull.p1 | exact Pull.p2 | exact Pull.p3 | exact Pull.p4 | exact Pull.p5 | exact Pull.p6 | exact Pull.p7 | exact Pull.p8 | exact Pull.p9) .nil))))
theorem xget {xs : List Nat} {k y : Nat} (h : xs[k]? = some y) : (xs.map fun n : Nat => i64 n)[0 + ((k : Int)).toNat * 1]? = some (i64 y) := by simp [h]
theorem minF_snoc {f : Nat → Int} {xs : List Nat} {k y : Nat} (hk : 1 ≤ k) (hy : xs[k]? = some y) : minF f (xs.take (k + 1)) = if f y < f (minF f (xs.take k)) then y else minF f (xs.take k) := by
  rw [take_snoc xs k y hy]
  cases xs with
  | nil => simp at hy
  | cons a l =>
    obtain ⟨k, rfl⟩ : ∃ q, k = q + 1 := ⟨k - 1, by omega⟩
    simp only [List.take_succ_cons, List.cons_append, minF, List.foldl_append, List.foldl_cons, List.foldl_nil]
    rfl
theorem slices_MinFunc (b cp fid : Nat) (xs : List Nat) (f : Nat → Int) (fs cap : List Value) (R : List Res) (hne : xs ≠ []) (hxl : xs.length < 1000000) (hcall : ∀ a w, (callFunc fid a).run Tryz.prog w = .ok (.enter fid a) w)
    (hf : ∀ y m, y ∈ xs → m ∈ xs → Does Tryz.prog G fid (fs ++ [i64 y, i64 m] ++ cap) R (OneR (i64 (f y - f m)) R)) :
    Does Tryz.prog G 44 [slc b 0 xs.length cp, .func (.func fid) fs.toArray cap.toArray] (ownS (some ⟨b, 0, none⟩) cp (xs.map fun n : Nat => i64 n) 3 1 :: R) (OneR (i64 (minF f xs)) (ownS (some ⟨b, 0, none⟩) cp (xs.map fun n : Nat => i64 n) 3 1 :: R)) := by
  refine Does.of Tryz.func44 rfl Tryz.ntmps44 rfl (fun w0 => ?_)
  refine At.keep [(0, _), (1, _)] (.cons rfl (.cons rfl .nil)) ?_
  obtain ⟨x0, hx0⟩ : ∃ x0, xs[0]? = some x0 := ⟨_, List.getElem?_eq_getElem (List.length_pos_iff.2 hne)⟩
  refine At.seq ?_
  refine At.region ?_
  refine At.op rfl (op_assign rfl rfl ?_)
  refine At.nil ?_
  refine At.then_n ?_
  refine At.seq ?_
  refine At.seq ?_
  refine At.region ?_
  refine At.op rfl (op_move rfl rfl ?_)
  refine At.op rfl (op_len_slc rfl Tryz.underlying48 rfl ?_)
  refine At.op rfl (op_bin rfl rfl (Bin.cast (v' := .bool false) b_lt (congrArg Value.bool (decide_eq_false (by have : 0 < xs.length := List.length_pos_iff.2 hne; omega)))) rfl ?_)
  refine At.nil ?_
  refine At.then_n ?_
  refine At.cond_f rfl ?_
  refine At.skip ?_
  refine At.then_n ?_
  refine At.seq ?_
  refine At.region ?_
  refine At.op rfl (op_move rfl rfl ?_)
  refine At.op rfl (op_indexS rfl rfl Tryz.underlying48 Tryz.sizeOf3 (by decide) (by have : 0 < xs.length := List.length_pos_iff.2 hne; omega) rfl ?_)
  refine At.op rfl (op_loadO rfl Tryz.isAgg3 (by first | with_reducible exact Pull.p0 | with_reducible exact Pull.p1 | with_reducible exact Pull.p2 | with_reducible exact Pull.p3 | with_reducible exact Pull.p4 | with_reducible exact Pull.p5 | with_reducible exact Pull.p6 | with_reducible exact Pull.p7 | with_reducible exact Pull.p8 | with_reducible exact Pull.p9) (xget (k := 0) hx0) rfl ?_)
  refine At.op rfl (op_assign rfl rfl ?_)
  refine At.nil ?_
  refine At.then_n ?_
  refine At.seq ?_
  refine At.seq ?_
  refine At.region ?_
  refine At.op rfl (op_assign rfl rfl ?_)
  refine At.nil ?_
  refine At.then_n ?_
  refine At.block ?_
  refine At.keep ((fun s => [(0, slc b 0 xs.length cp), (1, .func (.func fid) fs.toArray cap.toArray), (5, i64 s.2), (6, i64 s.1)]) ((1, x0) : Nat × Nat)) (.cons rfl (.cons rfl (.cons rfl (.cons rfl .nil)))) ?_
  refine At.loop (σ := Nat × Nat) (fun s => 1 ≤ s.1 ∧ s.1 ≤ xs.length ∧ s.2 = minF f (xs.take s.1) ∧ s.2 ∈ xs) (fun s => [(0, slc b 0 xs.length cp), (1, .func (.func fid) fs.toArray cap.toArray), (5, i64 s.2), (6, i64 s.1)]) (fun _ => ownS (some ⟨b, 0, none⟩) cp (xs.map fun n : Nat => i64 n) 3 1 :: R) (fun s => xs.length - s.1) ((1, x0) : Nat × Nat) ⟨Nat.le_refl _, List.length_pos_iff.2 hne, by cases xs with | nil => simp at hx0 | cons a l => simp at hx0; subst hx0; rfl, List.mem_of_getElem? hx0⟩ ?_
  rintro ⟨k, m⟩ ⟨hk1, hk, hmf, hm⟩
  dsimp only at hk1 hk hmf hm ⊢
  refine At.seq ?_
  refine At.seq ?_
  refine At.region ?_
  refine At.op rfl (op_move rfl rfl ?_)
  refine At.op rfl (op_move rfl rfl ?_)
  refine At.op rfl (op_len_slc rfl Tryz.underlying48 rfl ?_)
  refine At.op rfl (op_bin rfl rfl b_lt rfl ?_)
  refine At.nil ?_
  refine At.then_n ?_
  refine At.cond_p rfl (fun hlt0 => ?_) (fun hlt0 => ?_)
  ·
    obtain ⟨y, hy0⟩ : ∃ y, xs[k]? = some y := ⟨_, List.getElem?_eq_getElem (by omega)⟩
    have hy := List.mem_of_getElem? hy0
    refine At.skip ?_
    refine At.then_n ?_
    refine At.seq ?_
    refine At.block ?_
    refine At.seq ?_
    refine At.region ?_
    refine At.op rfl (op_move rfl rfl ?_)
    refine At.op rfl (op_move rfl rfl ?_)
    refine At.op rfl (op_move rfl rfl ?_)
    refine At.op rfl (op_indexS rfl rfl Tryz.underlying48 Tryz.sizeOf3 (by omega) (by omega) rfl ?_)
    refine At.op rfl (op_loadO rfl Tryz.isAgg3 (by first | with_reducible exact Pull.p0 | with_reducible exact Pull.p1 | with_reducible exact Pull.p2 | with_reducible exact Pull.p3 | with_reducible exact Pull.p4 | with_reducible exact Pull.p5 | with_reducible exact Pull.p6 | with_reducible exact Pull.p7 | with_reducible exact Pull.p8 | with_reducible exact Pull.p9) (xget hy0) rfl ?_)
    refine At.op rfl (op_move rfl rfl ?_)
    refine At.op rfl (op_callQC (fs := fs) (cap := cap) rfl rfl hcall rfl (hf y m hy hm) (cut_tail _ _) rfl ?_)
    refine At.op rfl (op_bin rfl rfl b_lt rfl ?_)
    refine At.nil ?_
    refine At.then_n ?_
    refine At.cond_p rfl (fun hcmp => ?_) (fun hcmp => ?_)
    ·
      have hnew : y = minF f (xs.take (k + 1)) := by rw [minF_snoc (k := k) (by omega) hy0, ← hmf, if_pos (by omega)]
      refine At.keep [(0, _), (1, _), (5, _), (6, _)] (.cons rfl (.cons rfl (.cons rfl (.cons rfl .nil)))) ?_
      refine At.region ?_
      refine At.op rfl (op_move rfl rfl ?_)
      refine At.op rfl (op_move rfl rfl ?_)
      refine At.op rfl (op_indexS rfl rfl Tryz.underlying48 Tryz.sizeOf3 (by omega) (by omega) rfl ?_)
      refine At.op rfl (op_loadO rfl Tryz.isAgg3 (by first | with_reducible exact Pull.p0 | with_reducible exact Pull.p1 | with_reducible exact Pull.p2 | with_reducible exact Pull.p3 | with_reducible exact Pull.p4 | with_reducible exact Pull.p5 | with_reducible exact Pull.p6 | with_reducible exact Pull.p7 | with_reducible exact Pull.p8 | with_reducible exact Pull.p9) (xget hy0) rfl ?_)
      refine At.op rfl (op_assign rfl rfl ?_)
      refine At.nil ?_
      refine At.blk_n ?_
      refine At.then_n ?_
      refine At.region ?_
      refine At.op rfl (op_move rfl rfl ?_)
      refine At.op rfl (op_bin rfl rfl (b_add (by omega) (by omega)) rfl ?_)
      refine At.op rfl (op_assign rfl rfl ?_)
      refine At.nil ?_
      refine At.then_n ?_
      first
        | exact At.back (kk := []) (k + 1, y) ⟨by dsimp only; omega, by dsimp only; omega, hnew, hy⟩ (by dsimp only; omega) (.cons rfl (.cons rfl (.cons rfl (.cons rfl .nil)))) (cut_all _)
        | exact At.back (kk := []) (k + 1, m) ⟨by dsimp only; omega, by dsimp only; omega, hnew, hm⟩ (by dsimp only; omega) (.cons rfl (.cons rfl (.cons rfl (.cons rfl .nil)))) (cut_all _)
    ·
      have hnew : m = minF f (xs.take (k + 1)) := by rw [minF_snoc (k := k) (by omega) hy0, ← hmf, if_neg (by omega)]
      refine At.skip ?_
      refine At.blk_n ?_
      refine At.then_n ?_
      refine At.keep [(0, _), (1, _), (5, _), (6, _)] (.cons rfl (.cons rfl (.cons rfl (.cons rfl .nil)))) ?_
      refine At.region ?_
      refine At.op rfl (op_move rfl rfl ?_)
      refine At.op rfl (op_bin rfl rfl (b_add (by omega) (by omega)) rfl ?_)
      refine At.op rfl (op_assign rfl rfl ?_)
      refine At.nil ?_
      refine At.then_n ?_
      first
        | exact At.back (kk := []) (k + 1, y) ⟨by dsimp only; omega, by dsimp only; omega, hnew, hy⟩ (by dsimp only; omega) (.cons rfl (.cons rfl (.cons rfl (.cons rfl .nil)))) (cut_all _)
        | exact At.back (kk := []) (k + 1, m) ⟨by dsimp only; omega, by dsimp only; omega, hnew, hm⟩ (by dsimp only; omega) (.cons rfl (.cons rfl (.cons rfl (.cons rfl .nil)))) (cut_all _)
  ·
    refine At.exit ?_
    refine At.then_e ?_
    refine At.then_e ?_
    refine At.blk_e ?_
    refine At.then_n ?_
    refine At.seq ?_
    refine At.region ?_
    refine At.op rfl (op_move rfl rfl ?_)
    refine At.op rfl (op_assign rfl rfl ?_)
    refine At.nil ?_
    refine At.then_n ?_
    refine At.ret ?_
    obtain rfl : k = xs.length := by omega
    exact At.fin1 rfl rfl rfl ⟨by rw [hmf, List.take_length], rfl⟩ (cut_all _)
end Go.Proofs.YteckdahgkkmlaaaGreatDoor
