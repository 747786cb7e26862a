/- The proof's own walks of the program's functions, part 3. -/
import Derived.Test.YteckdahgkkmlaaaDoorSLSpecS
import Derived.KernelRfl
import Derived.Test.YteckdahgkkmlaaaDoorSLMapU
import Derived.Test.YteckdahgkkmlaaaDoorSLDrawG
import Derived.Test.YteckdahgkkmlaaaDoorBag2
section
set_option maxRecDepth 20000
set_option linter.unusedVariables false
set_option linter.unusedSimpArgs false
namespace Go.Proofs.YteckdahgkkmlaaaDoor
open Go SL
variable {G : List (Nat × Obj)}
theorem nand_Program (c : Chp) (h : c.wf) (i j : Nat) (t : List UInt8) (hi : i < c.segs) (hj : j < c.pages) (ht : t.length ≤ 256) (hpast : c.past.length < 1000000) (hfree : c.at i j = none) : Does Tryd.prog G 22 [ptr c.cb 0, i64 i, i64 j, str t] [chipR c] (fun v rs' => ∃ b pa pc, v = i64 0 ∧ rs' = [chipR (c.prog i j b (padS t) pa pc)]) := by
  refine Does.of Tryd.func22 rfl Tryd.ntmps22 rfl (fun w0 => ?_)
  refine At.keep [(0, _), (1, _), (2, _), (3, _)] (.cons rfl (.cons rfl (.cons rfl (.cons rfl .nil)))) ?_
  obtain ⟨s, hs, hp, hsl⟩ := Chp.free_page h hi hj hfree
  refine At.chip (by first | with_reducible exact Pull.p0 | with_reducible exact Pull.p1 | with_reducible exact Pull.p2 | with_reducible exact Pull.p3 | with_reducible exact Pull.p4 | with_reducible exact Pull.p5 | with_reducible exact Pull.p6 | with_reducible exact Pull.p7 | with_reducible exact Pull.p8 | with_reducible exact Pull.p9) ?_
  refine At.seq ?_
  refine At.region ?_
  refine At.op rfl (op_box rfl rfl rfl ?_)
  intro c1
  refine At.op rfl (op_box rfl rfl rfl ?_)
  intro c3
  refine At.op rfl (op_box rfl rfl rfl ?_)
  intro c4
  refine At.op rfl (op_box rfl rfl rfl ?_)
  intro sb
  refine At.op rfl (op_assign rfl rfl ?_)
  refine At.nil ?_
  refine At.then_n ?_
  refine At.seq ?_
  refine At.block ?_
  refine At.seq ?_
  refine At.region ?_
  refine At.op rfl (op_load rfl Tryd.isAgg22 (by first | with_reducible exact Pull.p0 | with_reducible exact Pull.p1 | with_reducible exact Pull.p2 | with_reducible exact Pull.p3 | with_reducible exact Pull.p4 | with_reducible exact Pull.p5 | with_reducible exact Pull.p6 | with_reducible exact Pull.p7 | with_reducible exact Pull.p8 | with_reducible exact Pull.p9) rfl rfl ?_)
  refine At.op rfl (op_nilCheck rfl rfl ?_)
  refine At.op rfl (op_fieldAddr (o' := 2) rfl Tryd.underlying46 rfl Tryd.sizeOf24 rfl rfl ?_)
  refine At.op rfl (op_load rfl Tryd.isAgg24 (by first | with_reducible exact Pull.p0 | with_reducible exact Pull.p1 | with_reducible exact Pull.p2 | with_reducible exact Pull.p3 | with_reducible exact Pull.p4 | with_reducible exact Pull.p5 | with_reducible exact Pull.p6 | with_reducible exact Pull.p7 | with_reducible exact Pull.p8 | with_reducible exact Pull.p9) rfl rfl ?_)
  refine At.op rfl (op_callQ rfl Tryd.call24 (power_Up c.pw) (.cons (by first | with_reducible exact Pull.p0 | with_reducible exact Pull.p1 | with_reducible exact Pull.p2 | with_reducible exact Pull.p3 | with_reducible exact Pull.p4 | with_reducible exact Pull.p5 | with_reducible exact Pull.p6 | with_reducible exact Pull.p7 | with_reducible exact Pull.p8 | with_reducible exact Pull.p9) .nil) rfl ?_)
  refine At.op rfl (op_not rfl rfl ?_)
  refine At.op rfl (op_assign rfl rfl ?_)
  refine At.nil ?_
  refine At.then_n ?_
  refine At.cond_f rfl ?_
  refine At.seq ?_
  refine At.drawC [_, _, _, _, _, _, _, _, _, _, _, _, _, _] (by kernel_rfl) (by decide) (by kernel_rfl) 
    (Steps'.cons (Step.op rfl (fun D h1 h2 h3 K hK => op_load (mD_base rfl rfl) Tryd.isAgg22 (by first | with_reducible exact Pull.p0 | with_reducible exact Pull.p1 | with_reducible exact Pull.p2 | with_reducible exact Pull.p3 | with_reducible exact Pull.p4 | with_reducible exact Pull.p5 | with_reducible exact Pull.p6 | with_reducible exact Pull.p7 | with_reducible exact Pull.p8 | with_reducible exact Pull.p9) rfl rfl hK))
    (Steps'.cons (Step.op rfl (fun D h1 h2 h3 K hK => op_nilCheck (mD_done 0 (by decide) (pre_at h2 0 rfl rfl) rfl rfl rfl) rfl hK))
    (Steps'.cons (Step.op rfl (fun D h1 h2 h3 K hK => op_fieldAddr (o' := 0) (mD_done 1 (by decide) (pre_at h2 0 rfl rfl) rfl rfl rfl) Tryd.underlying46 rfl Tryd.sizeOf42 rfl rfl hK))
    (Steps'.cons (Step.op rfl (fun D h1 h2 h3 K hK => op_loadA (us := [_, _]) (mD_done 2 (by decide) (pre_at h2 0 rfl rfl) rfl rfl rfl) Tryd.isAgg42 Tryd.sizeOf42 (by first | with_reducible exact Pull.p0 | with_reducible exact Pull.p1 | with_reducible exact Pull.p2 | with_reducible exact Pull.p3 | with_reducible exact Pull.p4 | with_reducible exact Pull.p5 | with_reducible exact Pull.p6 | with_reducible exact Pull.p7 | with_reducible exact Pull.p8 | with_reducible exact Pull.p9) rfl rfl rfl hK))
    (Steps'.cons (Step.op rfl (fun D h1 h2 h3 K hK => op_load (mD_base rfl rfl) Tryd.isAgg3 (by first | with_reducible exact Pull.p0 | with_reducible exact Pull.p1 | with_reducible exact Pull.p2 | with_reducible exact Pull.p3 | with_reducible exact Pull.p4 | with_reducible exact Pull.p5 | with_reducible exact Pull.p6 | with_reducible exact Pull.p7 | with_reducible exact Pull.p8 | with_reducible exact Pull.p9) rfl rfl hK))
    (Steps'.cons (Step.op rfl (fun D h1 h2 h3 K hK => op_load (mD_base rfl rfl) Tryd.isAgg3 (by first | with_reducible exact Pull.p0 | with_reducible exact Pull.p1 | with_reducible exact Pull.p2 | with_reducible exact Pull.p3 | with_reducible exact Pull.p4 | with_reducible exact Pull.p5 | with_reducible exact Pull.p6 | with_reducible exact Pull.p7 | with_reducible exact Pull.p8 | with_reducible exact Pull.p9) rfl rfl hK))
    (Steps'.cons (Step.op rfl (fun D h1 h2 h3 K hK => op_call1 (evs_cons (mD_done 3 (by decide) (pre_at h2 0 rfl rfl) rfl rfl rfl) (evs_cons (mD_done 4 (by decide) (pre_at h2 1 rfl rfl) rfl rfl rfl) (evs_cons (mD_done 5 (by decide) (pre_at h2 2 rfl rfl) rfl rfl rfl) evs_nil))) Tryd.call25 (size_has c.segs c.pages i j ⟨by omega, by omega⟩ ⟨by omega, by omega⟩) rfl hK))
    (Steps'.cons (Step.op rfl (fun D h1 h2 h3 K hK => op_not (mD_done 6 (by decide) (pre_at h2 0 rfl rfl) rfl rfl rfl) rfl hK))
    (Steps'.cons (Step.op rfl (fun D h1 h2 h3 K hK => op_move (mD_done 7 (by decide) (pre_at h2 0 rfl rfl) rfl rfl rfl) rfl hK))
    (Steps'.cons (Step.opg rfl rfl (fun D h2 => mD_done 8 (by decide) (pre_at h2 0 rfl rfl) rfl rfl rfl) (fun D h1 h2 h3 K hK => op_load (mD_base rfl rfl) Tryd.isAgg9 (by first | with_reducible exact Pull.p0 | with_reducible exact Pull.p1 | with_reducible exact Pull.p2 | with_reducible exact Pull.p3 | with_reducible exact Pull.p4 | with_reducible exact Pull.p5 | with_reducible exact Pull.p6 | with_reducible exact Pull.p7 | with_reducible exact Pull.p8 | with_reducible exact Pull.p9) rfl rfl hK))
    (Steps'.cons (Step.opg rfl rfl (fun D h2 => mD_done 8 (by decide) (pre_at h2 1 rfl rfl) rfl rfl rfl) (fun D h1 h2 h3 K hK => op_len_str (mD_done 9 (by decide) (pre_at h2 0 rfl rfl) rfl rfl rfl) Tryd.underlying9 rfl hK))
    (Steps'.cons (Step.opg rfl rfl (fun D h2 => mD_done 8 (by decide) (pre_at h2 1 rfl rfl) rfl rfl rfl) (fun D h1 h2 h3 K hK => op_bin (mD_done 10 (by decide) (pre_at h2 0 rfl rfl) rfl rfl rfl) rfl (Bin.cast (v' := .bool false) b_gt (congrArg Value.bool (decide_eq_false (by omega)))) rfl hK))
    (Steps'.cons (Step.op rfl (fun D h1 h2 h3 K hK => op_pick_f (mD_done 8 (by decide) (pre_at h2 0 rfl rfl) rfl rfl rfl) (mD_done 11 (by decide) (pre_at h2 1 rfl rfl) rfl rfl rfl) rfl hK))
    (Steps'.cons (Step.op rfl (fun D h1 h2 h3 K hK => op_assign (mD_done 12 (by decide) (pre_at h2 0 rfl rfl) rfl rfl rfl) rfl hK))
    Steps'.nil)))))))))))))) ?_
  refine At.keep [(4, _), (5, _), (6, _), (7, _), (8, _), (16, _)] (.cons rfl (.cons rfl (.cons rfl (.cons rfl (.cons rfl (.cons rfl .nil)))))) ?_
  refine At.then_n ?_
  refine At.cond_f rfl ?_
  refine At.seq ?_
  refine At.drawC [_, _, _, _, _, _, _, _, _, _, _, _, _] (by kernel_rfl) (by decide) (by kernel_rfl) 
    (Steps'.cons (Step.op rfl (fun D h1 h2 h3 K hK => op_load (mD_base rfl rfl) Tryd.isAgg22 (by first | with_reducible exact Pull.p0 | with_reducible exact Pull.p1 | with_reducible exact Pull.p2 | with_reducible exact Pull.p3 | with_reducible exact Pull.p4 | with_reducible exact Pull.p5 | with_reducible exact Pull.p6 | with_reducible exact Pull.p7 | with_reducible exact Pull.p8 | with_reducible exact Pull.p9) rfl rfl hK))
    (Steps'.cons (Step.op rfl (fun D h1 h2 h3 K hK => op_nilCheck (mD_done 0 (by decide) (pre_at h2 0 rfl rfl) rfl rfl rfl) rfl hK))
    (Steps'.cons (Step.op rfl (fun D h1 h2 h3 K hK => op_fieldAddr (o' := 4) (mD_done 1 (by decide) (pre_at h2 0 rfl rfl) rfl rfl rfl) Tryd.underlying46 rfl Tryd.sizeOf43 rfl rfl hK))
    (Steps'.cons (Step.op rfl (fun D h1 h2 h3 K hK => op_load (mD_done 2 (by decide) (pre_at h2 0 rfl rfl) rfl rfl rfl) Tryd.isAgg43 (by first | with_reducible exact Pull.p0 | with_reducible exact Pull.p1 | with_reducible exact Pull.p2 | with_reducible exact Pull.p3 | with_reducible exact Pull.p4 | with_reducible exact Pull.p5 | with_reducible exact Pull.p6 | with_reducible exact Pull.p7 | with_reducible exact Pull.p8 | with_reducible exact Pull.p9) rfl rfl hK))
    (Steps'.cons (Step.op rfl (fun D h1 h2 h3 K hK => op_load (mD_base rfl rfl) Tryd.isAgg3 (by first | with_reducible exact Pull.p0 | with_reducible exact Pull.p1 | with_reducible exact Pull.p2 | with_reducible exact Pull.p3 | with_reducible exact Pull.p4 | with_reducible exact Pull.p5 | with_reducible exact Pull.p6 | with_reducible exact Pull.p7 | with_reducible exact Pull.p8 | with_reducible exact Pull.p9) rfl rfl hK))
    (Steps'.cons (Step.op rfl (fun D h1 h2 h3 K hK => op_indexS (mD_done 3 (by decide) (pre_at h2 0 rfl rfl) rfl rfl rfl) (mD_done 4 (by decide) (pre_at h2 1 rfl rfl) rfl rfl rfl) Tryd.underlying43 Tryd.sizeOf49 (by omega) (by omega) rfl hK))
    (Steps'.cons (Step.op rfl (fun D h1 h2 h3 K hK => op_fieldAddr (mD_done 5 (by decide) (pre_at h2 0 rfl rfl) rfl rfl rfl) Tryd.underlying49 rfl Tryd.sizeOf47 rfl rfl hK))
    (Steps'.cons (Step.op rfl (fun D h1 h2 h3 K hK => op_load (mD_done 6 (by decide) (pre_at h2 0 rfl rfl) rfl rfl rfl) Tryd.isAgg47 (by first | with_reducible exact Pull.p0 | with_reducible exact Pull.p1 | with_reducible exact Pull.p2 | with_reducible exact Pull.p3 | with_reducible exact Pull.p4 | with_reducible exact Pull.p5 | with_reducible exact Pull.p6 | with_reducible exact Pull.p7 | with_reducible exact Pull.p8 | with_reducible exact Pull.p9) (seg_get0 hs) rfl hK))
    (Steps'.cons (Step.op rfl (fun D h1 h2 h3 K hK => op_load (mD_base rfl rfl) Tryd.isAgg3 (by first | with_reducible exact Pull.p0 | with_reducible exact Pull.p1 | with_reducible exact Pull.p2 | with_reducible exact Pull.p3 | with_reducible exact Pull.p4 | with_reducible exact Pull.p5 | with_reducible exact Pull.p6 | with_reducible exact Pull.p7 | with_reducible exact Pull.p8 | with_reducible exact Pull.p9) rfl rfl hK))
    (Steps'.cons (Step.op rfl (fun D h1 h2 h3 K hK => op_indexS (mD_done 7 (by decide) (pre_at h2 0 rfl rfl) rfl rfl rfl) (mD_done 8 (by decide) (pre_at h2 1 rfl rfl) rfl rfl rfl) Tryd.underlying47 Tryd.sizeOf78 (by omega) (by omega) rfl hK))
    (Steps'.cons (Step.op rfl (fun D h1 h2 h3 K hK => op_loadG (pgsR c.l) (mD_done 9 (by decide) (pre_at h2 0 rfl rfl) rfl rfl rfl) Tryd.isAgg78 (by first | with_reducible exact Pull.p0 | with_reducible exact Pull.p1 | with_reducible exact Pull.p2 | with_reducible exact Pull.p3 | with_reducible exact Pull.p4 | with_reducible exact Pull.p5 | with_reducible exact Pull.p6 | with_reducible exact Pull.p7 | with_reducible exact Pull.p8 | with_reducible exact Pull.p9) (fun w hw => by have := pgs_ptr hw hs hp; simpa [Pg.ptr] using this) rfl hK))
    (Steps'.cons (Step.op rfl (fun D h1 h2 h3 K hK => op_bin (mD_done 10 (by decide) (pre_at h2 0 rfl rfl) rfl rfl rfl) rfl (Bin.cast (v' := .bool false) (b_pnnil Tryd.underlying78) rfl) rfl hK))
    (Steps'.cons (Step.op rfl (fun D h1 h2 h3 K hK => op_assign (mD_done 11 (by decide) (pre_at h2 0 rfl rfl) rfl rfl rfl) rfl hK))
    Steps'.nil))))))))))))) ?_
  refine At.keep [(4, _), (5, _), (6, _), (7, _), (8, _), (30, _)] (.cons rfl (.cons rfl (.cons rfl (.cons rfl (.cons rfl (.cons rfl .nil)))))) ?_
  refine At.then_n ?_
  refine At.cond_f rfl ?_
  refine At.skip ?_
  refine At.blk_n ?_
  refine At.then_n ?_
  refine At.seq ?_
  refine At.drawL _ [_, _, _, _, _, _, undef] (by kernel_rfl) (by decide) (by kernel_rfl) (by kernel_rfl) 
    (.cons (Step.op rfl (fun D h1 h2 h3 K hK => op_load (mD_base rfl rfl) Tryd.isAgg9 (by first | with_reducible exact Pull.p0 | with_reducible exact Pull.p1 | with_reducible exact Pull.p2 | with_reducible exact Pull.p3 | with_reducible exact Pull.p4 | with_reducible exact Pull.p5 | with_reducible exact Pull.p6 | with_reducible exact Pull.p7 | with_reducible exact Pull.p8 | with_reducible exact Pull.p9) rfl rfl hK))
    (.cons (Step.op rfl (fun D h1 h2 h3 K hK => op_load (mD_base rfl rfl) Tryd.isAgg9 (by first | with_reducible exact Pull.p0 | with_reducible exact Pull.p1 | with_reducible exact Pull.p2 | with_reducible exact Pull.p3 | with_reducible exact Pull.p4 | with_reducible exact Pull.p5 | with_reducible exact Pull.p6 | with_reducible exact Pull.p7 | with_reducible exact Pull.p8 | with_reducible exact Pull.p9) rfl rfl hK))
    (.cons (Step.op rfl (fun D h1 h2 h3 K hK => op_len_str (mD_done 1 (by decide) (pre_at h2 0 rfl rfl) rfl rfl rfl) Tryd.underlying9 rfl hK))
    (.cons (Step.op rfl (fun D h1 h2 h3 K hK => op_bin rfl (mD_done 2 (by decide) (pre_at h2 0 rfl rfl) rfl rfl rfl) (Bin.cast (v' := i64 ((256 - t.length : Nat) : Int)) (b_sub (by omega) (by omega)) (by congr 1; omega)) rfl hK))
    (.cons (Step.op rfl (fun D h1 h2 h3 K hK => op_call1 (evs_cons rfl (evs_cons (mD_done 3 (by decide) (pre_at h2 0 rfl rfl) rfl rfl rfl) evs_nil)) Tryd.call33 (by have := strings_Repeat (G := G) [0] (256 - t.length) (by omega) (by simp; omega); rwa [repeat_zero] at this) rfl hK))
    (.cons (Step.op rfl (fun D h1 h2 h3 K hK => op_bin (mD_done 0 (by decide) (pre_at h2 0 rfl rfl) rfl rfl rfl) (mD_done 4 (by decide) (pre_at h2 1 rfl rfl) rfl rfl rfl) (b_cat (by rw [List.length_replicate]; omega)) rfl hK))
    (.last (Last.op rfl (fun D h2 K hK => op_store (mD_base rfl rfl) (mD_done 5 (by decide) (pre_at h2 0 rfl rfl) rfl rfl rfl) Tryd.sizeOf9 rfl rfl (by first | with_reducible exact Pull.p0 | with_reducible exact Pull.p1 | with_reducible exact Pull.p2 | with_reducible exact Pull.p3 | with_reducible exact Pull.p4 | with_reducible exact Pull.p5 | with_reducible exact Pull.p6 | with_reducible exact Pull.p7 | with_reducible exact Pull.p8 | with_reducible exact Pull.p9) .zero rfl (by exact hK)))
    ))))))) ?_
  refine At.keep [(4, _), (5, _), (6, _), (7, _), (8, _)] (.cons rfl (.cons rfl (.cons rfl (.cons rfl (.cons rfl .nil))))) ?_
  refine At.then_n ?_
  refine At.seq ?_
  refine At.region ?_
  refine At.op rfl (op_load rfl Tryd.isAgg22 (by first | with_reducible exact Pull.p0 | with_reducible exact Pull.p1 | with_reducible exact Pull.p2 | with_reducible exact Pull.p3 | with_reducible exact Pull.p4 | with_reducible exact Pull.p5 | with_reducible exact Pull.p6 | with_reducible exact Pull.p7 | with_reducible exact Pull.p8 | with_reducible exact Pull.p9) rfl rfl ?_)
  refine At.op rfl (op_makeFunc rfl rfl rfl ?_)
  refine At.op rfl (op_callF rfl Tryd.call38 (nand_act c.cb c.pw 39 _ _ _ [] [ptr c1 0, ptr sb 0, ptr c3 0, ptr c4 0] _ _ Tryd.call39 (nand_Program1 c h i j sb c1 c3 c4 (padS t) hpast s .no hs hp hi hj)) (.cons (by first | exact Pull.p0 | exact Pull.p1 | exact Pull.p2 | exact Pull.p3 | exact Pull.p4 | exact Pull.p5 | exact Pull.p6 | exact Pull.p7 | exact Pull.p8 | exact Pull.p9) (.cons (by first | exact Pull.p0 | exact Pull.p1 | exact Pull.p2 | exact Pull.p3 | exact Pull.p4 | exact Pull.p5 | exact Pull.p6 | exact Pull.p7 | exact Pull.p8 | exact Pull.p9) (.cons (by first | exact Pull.p0 | exact Pull.p1 | exact Pull.p2 | exact Pull.p3 | exact Pull.p4 | exact Pull.p5 | exact Pull.p6 | exact Pull.p7 | exact Pull.p8 | exact Pull.p9) (.cons (by first | exact Pull.p0 | exact Pull.p1 | exact Pull.p2 | exact Pull.p3 | exact Pull.p4 | exact Pull.p5 | exact Pull.p6 | exact Pull.p7 | exact Pull.p8 | exact Pull.p9) (.cons (by first | exact Pull.p0 | exact Pull.p1 | exact Pull.p2 | exact Pull.p3 | exact Pull.p4 | exact Pull.p5 | exact Pull.p6 | exact Pull.p7 | exact Pull.p8 | exact Pull.p9) (.cons (by first | exact Pull.p0 | exact Pull.p1 | exact Pull.p2 | exact Pull.p3 | exact Pull.p4 | exact Pull.p5 | exact Pull.p6 | exact Pull.p7 | exact Pull.p8 | exact Pull.p9) (.cons (by first | exact Pull.p0 | exact Pull.p1 | exact Pull.p2 | exact Pull.p3 | exact Pull.p4 | exact Pull.p5 | exact Pull.p6 | exact Pull.p7 | exact Pull.p8 | exact Pull.p9) (.cons (by first | exact Pull.p0 | exact Pull.p1 | exact Pull.p2 | exact Pull.p3 | exact Pull.p4 | exact Pull.p5 | exact Pull.p6 | exact Pull.p7 | exact Pull.p8 | exact Pull.p9) (.cons (by first | exact Pull.p0 | exact Pull.p1 | exact Pull.p2 | exact Pull.p3 | exact Pull.p4 | exact Pull.p5 | exact Pull.p6 | exact Pull.p7 | exact Pull.p8 | exact Pull.p9) .nil))))))))) rfl ?_)
  rintro v rs2 ⟨rfl, ad, cp, rfl⟩
  refine At.app6 ?_
  refine At.op rfl (op_assign rfl rfl ?_)
  refine At.nil ?_
  refine At.then_n ?_
  refine At.ret ?_
  refine At.merge (by first | with_reducible exact Pull.p0 | with_reducible exact Pull.p1 | with_reducible exact Pull.p2 | with_reducible exact Pull.p3 | with_reducible exact Pull.p4 | with_reducible exact Pull.p5 | with_reducible exact Pull.p6 | with_reducible exact Pull.p7 | with_reducible exact Pull.p8 | with_reducible exact Pull.p9) (by first | with_reducible exact Pull.p0 | with_reducible exact Pull.p1 | with_reducible exact Pull.p2 | with_reducible exact Pull.p3 | with_reducible exact Pull.p4 | with_reducible exact Pull.p5 | with_reducible exact Pull.p6 | with_reducible exact Pull.p7 | with_reducible exact Pull.p8 | with_reducible exact Pull.p9) (fun w h1 h2 _ => pgs_own hs (by omega) h1 h2) (pgs_own_fp hs) ?_
  refine At.unchip (c.prog i j sb (padS t) ad cp) (by rw [Chp.prog_rows hs]; exact (.cons (by first | exact Pull.p0 | exact Pull.p1 | exact Pull.p2 | exact Pull.p3 | exact Pull.p4 | exact Pull.p5 | exact Pull.p6 | exact Pull.p7 | exact Pull.p8 | exact Pull.p9) (.cons (by first | exact Pull.p0 | exact Pull.p1 | exact Pull.p2 | exact Pull.p3 | exact Pull.p4 | exact Pull.p5 | exact Pull.p6 | exact Pull.p7 | exact Pull.p8 | exact Pull.p9) (.cons (by first | exact Pull.p0 | exact Pull.p1 | exact Pull.p2 | exact Pull.p3 | exact Pull.p4 | exact Pull.p5 | exact Pull.p6 | exact Pull.p7 | exact Pull.p8 | exact Pull.p9) (.cons (by first | exact Pull.p0 | exact Pull.p1 | exact Pull.p2 | exact Pull.p3 | exact Pull.p4 | exact Pull.p5 | exact Pull.p6 | exact Pull.p7 | exact Pull.p8 | exact Pull.p9) (.cons (by first | exact Pull.p0 | exact Pull.p1 | exact Pull.p2 | exact Pull.p3 | exact Pull.p4 | exact Pull.p5 | exact Pull.p6 | exact Pull.p7 | exact Pull.p8 | exact Pull.p9) .nil)))))) ?_
  exact At.fin1 rfl rfl rfl ⟨sb, ad, cp, rfl, rfl⟩ (.cons (by first | with_reducible exact Pull.p0 | with_reducible exact Pull.p1 | with_reducible exact Pull.p2 | with_reducible exact Pull.p3 | with_reducible exact Pull.p4 | with_reducible exact Pull.p5 | with_reducible exact Pull.p6 | with_reducible exact Pull.p7 | with_reducible exact Pull.p8 | with_reducible exact Pull.p9) .nil)
end Go.Proofs.YteckdahgkkmlaaaDoor
end

section
set_option maxRecDepth 20000
set_option linter.unusedVariables false
set_option linter.unusedSimpArgs false
namespace Go.Proofs.YteckdahgkkmlaaaDoor
open Go SL
variable {G : List (Nat × Obj)}
theorem seglog_take_ok (c : Chp) (hc : c.wf) (g : Lg) (r : Int) (h : takeOK g c r = true) : Does Tryd.prog G 21 [ptr g.lb 0, i64 r] [chipR c, logRow g c.cb, logMap g] (OneR (i64 0) [chipR c, logRow (takeL g c) c.cb, logMap (takeL g c)]) := by
  refine Does.of Tryd.func21 rfl Tryd.ntmps21 rfl (fun w0 => ?_)
  refine At.keep [(0, _), (1, _)] (.cons rfl (.cons rfl .nil)) ?_
  have h2 := of_decide_eq_true h
  have hlen : (freeL g c).length < 1000000 := by
    have := List.length_filter_le (isFree g c) (List.range c.segs)
    rw [List.length_range] at this
    have h64 := hc.segs1
    show ((List.range c.segs).filter (isFree g c)).length < _
    omega
  have hpos : 0 < (freeL g c).length := by split at h2 <;> omega
  have hne : freeL g c ≠ [] := List.length_pos_iff.1 hpos
  refine At.seq ?_
  refine At.region ?_
  refine At.op rfl (op_box rfl rfl rfl ?_)
  intro bg
  refine At.op rfl (op_assign rfl rfl ?_)
  refine At.nil ?_
  refine At.then_n ?_
  refine At.seq ?_
  refine At.region ?_
  refine At.op rfl (op_load rfl Tryd.isAgg26 (by first | with_reducible exact Pull.p0 | with_reducible exact Pull.p1 | with_reducible exact Pull.p2 | with_reducible exact Pull.p3 | with_reducible exact Pull.p4 | with_reducible exact Pull.p5 | with_reducible exact Pull.p6 | with_reducible exact Pull.p7 | with_reducible exact Pull.p8 | with_reducible exact Pull.p9) rfl rfl ?_)
  refine At.op rfl (op_load rfl Tryd.isAgg26 (by first | with_reducible exact Pull.p0 | with_reducible exact Pull.p1 | with_reducible exact Pull.p2 | with_reducible exact Pull.p3 | with_reducible exact Pull.p4 | with_reducible exact Pull.p5 | with_reducible exact Pull.p6 | with_reducible exact Pull.p7 | with_reducible exact Pull.p8 | with_reducible exact Pull.p9) rfl rfl ?_)
  refine At.op rfl (op_makeFunc rfl rfl rfl ?_)
  refine At.op rfl (op_callF rfl Tryd.call29 (seglog_those c hc g 30 [ptr g.lb 0] [] [logMap g] (isFree g c) Tryd.call30 (fun i _ => seglog_free c hc g i)) (.cons (by first | exact Pull.p0 | exact Pull.p1 | exact Pull.p2 | exact Pull.p3 | exact Pull.p4 | exact Pull.p5 | exact Pull.p6 | exact Pull.p7 | exact Pull.p8 | exact Pull.p9) (.cons (by first | exact Pull.p0 | exact Pull.p1 | exact Pull.p2 | exact Pull.p3 | exact Pull.p4 | exact Pull.p5 | exact Pull.p6 | exact Pull.p7 | exact Pull.p8 | exact Pull.p9) (.cons (by first | exact Pull.p0 | exact Pull.p1 | exact Pull.p2 | exact Pull.p3 | exact Pull.p4 | exact Pull.p5 | exact Pull.p6 | exact Pull.p7 | exact Pull.p8 | exact Pull.p9) .nil))) rfl ?_)
  rintro v _ ⟨ad, cp, rfl, rfl⟩
  show At _ _ [ownS ad cp (((List.range c.segs).filter (isFree g c)).map fun n : Nat => i64 n) 3 1, chipR c, logRow g c.cb, logMap g, row bg [ptr g.lb 0] 26 (0, 0)] _
  refine At.own_some (by first | with_reducible exact Pull.p0 | with_reducible exact Pull.p1 | with_reducible exact Pull.p2 | with_reducible exact Pull.p3 | with_reducible exact Pull.p4 | with_reducible exact Pull.p5 | with_reducible exact Pull.p6 | with_reducible exact Pull.p7 | with_reducible exact Pull.p8 | with_reducible exact Pull.p9) (by intro e; have := congrArg List.length e; rw [List.length_map] at this; have h3 : (freeL g c).length = 0 := this; omega) (fun b hb => ?_)
  subst hb
  refine At.op rfl (op_assign rfl rfl ?_)
  refine At.nil ?_
  refine At.then_n ?_
  refine At.seq ?_
  refine At.seq ?_
  refine At.region ?_
  refine At.op rfl (op_move rfl rfl ?_)
  refine At.op rfl (op_len_slc rfl Tryd.underlying40 rfl ?_)
  refine At.op rfl (op_move rfl rfl ?_)
  refine At.op rfl (op_max rfl rfl rfl ?_)
  refine At.op rfl (op_bin rfl rfl (Bin.cast (v' := .bool false) b_le (congrArg Value.bool (decide_eq_false (Int.not_le.2 h2)))) rfl ?_)
  refine At.nil ?_
  refine At.then_n ?_
  refine At.cond_f rfl ?_
  refine At.skip ?_
  refine At.then_n ?_
  refine At.seq ?_
  refine At.drawE (rs' := [logRow (takeL g c) c.cb, ownS (some ⟨b, 0, none⟩) cp (((List.range c.segs).filter (isFree g c)).map fun n : Nat => i64 n) 3 1, chipR c, logMap g, row bg [ptr g.lb 0] 26 (0, 0)]) [6] [[logRow (takeL g c) c.cb, ownS (some ⟨b, 0, none⟩) cp (((List.range c.segs).filter (isFree g c)).map fun n : Nat => i64 n) 3 1, chipR c, logMap g, row bg [ptr g.lb 0] 26 (0, 0)]] [_, _, _, _, _, _, undef] (by kernel_rfl) (by decide) (by kernel_rfl) (by decide) rfl 
    (.quiet 0 (by kernel_rfl) (by kernel_rfl) (.cons (Step.op rfl (fun D h1 h2 h3 K hK => op_load (mD_base rfl rfl) Tryd.isAgg26 (by first | with_reducible exact Pull.p0 | with_reducible exact Pull.p1 | with_reducible exact Pull.p2 | with_reducible exact Pull.p3 | with_reducible exact Pull.p4 | with_reducible exact Pull.p5 | with_reducible exact Pull.p6 | with_reducible exact Pull.p7 | with_reducible exact Pull.p8 | with_reducible exact Pull.p9) rfl rfl hK)) .nil)
    (.quiet 0 (by kernel_rfl) (by kernel_rfl) (.cons (Step.op rfl (fun D h1 h2 h3 K hK => op_move (mD_base rfl rfl) rfl hK)) .nil)
    (.quiet 0 (by kernel_rfl) (by kernel_rfl) (.cons (Step.op rfl (fun D h1 h2 h3 K hK => op_makeFunc rfl (evs_cons (mD_base rfl rfl) evs_nil) rfl hK)) .nil)
    (.quiet 0 (by kernel_rfl) (by kernel_rfl) (.cons (Step.op rfl (fun D h1 h2 h3 K hK => op_callQ (evs_cons (mD_done 1 (by decide) (pre_at h2 0 rfl rfl) rfl rfl rfl) (evs_cons (mD_done 2 (by decide) (pre_at h2 1 rfl rfl) rfl rfl rfl) evs_nil)) Tryd.call35 (slices_MinFunc b cp 36 (freeL g c) (wearZ c) [] [ptr bg 0] [row bg [ptr g.lb 0] 26 (0, 0), chipR c, logRow g c.cb, logMap g] hne hlen Tryd.call36 (fun y m hy hm => seglog_take1 c hc g bg y m (mem_freeL hy).1 (mem_freeL hm).1)) (.cons (by first | exact Pull.p0 | exact Pull.p1 | exact Pull.p2 | exact Pull.p3 | exact Pull.p4 | exact Pull.p5 | exact Pull.p6 | exact Pull.p7 | exact Pull.p8 | exact Pull.p9) (.cons (by first | exact Pull.p0 | exact Pull.p1 | exact Pull.p2 | exact Pull.p3 | exact Pull.p4 | exact Pull.p5 | exact Pull.p6 | exact Pull.p7 | exact Pull.p8 | exact Pull.p9) (.cons (by first | exact Pull.p0 | exact Pull.p1 | exact Pull.p2 | exact Pull.p3 | exact Pull.p4 | exact Pull.p5 | exact Pull.p6 | exact Pull.p7 | exact Pull.p8 | exact Pull.p9) (.cons (by first | exact Pull.p0 | exact Pull.p1 | exact Pull.p2 | exact Pull.p3 | exact Pull.p4 | exact Pull.p5 | exact Pull.p6 | exact Pull.p7 | exact Pull.p8 | exact Pull.p9) (.cons (by first | exact Pull.p0 | exact Pull.p1 | exact Pull.p2 | exact Pull.p3 | exact Pull.p4 | exact Pull.p5 | exact Pull.p6 | exact Pull.p7 | exact Pull.p8 | exact Pull.p9) .nil))))) rfl hK)) .nil)
    (.quiet 1 (by kernel_rfl) (by kernel_rfl) (.cons (Step.op rfl (fun D h1 h2 h3 K hK => op_nilCheck (mD_done 0 (by decide) (pre_at h2 0 rfl rfl) rfl rfl rfl) rfl hK)) (.cons (Step.op rfl (fun D h1 h2 h3 K hK => op_nilCheck (mD_done 0 (by decide) (pre_at h2 0 rfl rfl) rfl rfl rfl) rfl hK)) .nil))
    (.quiet 0 (by kernel_rfl) (by kernel_rfl) (.cons (Step.op rfl (fun D h1 h2 h3 K hK => op_fieldAddr (o' := 1) (mD_done 4 (by decide) (pre_at h2 0 rfl rfl) rfl rfl rfl) Tryd.underlying63 rfl Tryd.sizeOf3 rfl rfl hK)) .nil)
    (.eff 0 rfl (by kernel_rfl) (by kernel_rfl) rfl rfl (Last.op rfl (fun D h2 K hK => op_store (mD_done 5 (by decide) (pre_at h2 0 rfl rfl) rfl rfl rfl) (mD_done 3 (by decide) (pre_at h2 1 rfl rfl) rfl rfl rfl) Tryd.sizeOf3 rfl rfl (by first | with_reducible exact Pull.p0 | with_reducible exact Pull.p1 | with_reducible exact Pull.p2 | with_reducible exact Pull.p3 | with_reducible exact Pull.p4 | with_reducible exact Pull.p5 | with_reducible exact Pull.p6 | with_reducible exact Pull.p7 | with_reducible exact Pull.p8 | with_reducible exact Pull.p9) (.succ .zero) rfl (by exact hK)))
    .nil))))))) ?_
  refine At.keep [(4, _)] (.cons rfl .nil) ?_
  refine At.then_n ?_
  refine At.seq ?_
  refine At.region ?_
  refine At.op rfl (op_assign rfl rfl ?_)
  refine At.nil ?_
  refine At.then_n ?_
  refine At.ret ?_
  exact At.fin1 rfl rfl rfl ⟨rfl, rfl⟩ (.cons (by first | exact Pull.p0 | exact Pull.p1 | exact Pull.p2 | exact Pull.p3 | exact Pull.p4 | exact Pull.p5 | exact Pull.p6 | exact Pull.p7 | exact Pull.p8 | exact Pull.p9) (.cons (by first | exact Pull.p0 | exact Pull.p1 | exact Pull.p2 | exact Pull.p3 | exact Pull.p4 | exact Pull.p5 | exact Pull.p6 | exact Pull.p7 | exact Pull.p8 | exact Pull.p9) (.cons (by first | exact Pull.p0 | exact Pull.p1 | exact Pull.p2 | exact Pull.p3 | exact Pull.p4 | exact Pull.p5 | exact Pull.p6 | exact Pull.p7 | exact Pull.p8 | exact Pull.p9) .nil)))
theorem seglog_take_no (c : Chp) (hc : c.wf) (g : Lg) (r : Int) (h : takeOK g c r = false) : Does Tryd.prog G 21 [ptr g.lb 0, i64 r] [chipR c, logRow g c.cb, logMap g] (OneR (i64 2) [chipR c, logRow g c.cb, logMap g]) := by
  refine Does.of Tryd.func21 rfl Tryd.ntmps21 rfl (fun w0 => ?_)
  refine At.keep [(0, _), (1, _)] (.cons rfl (.cons rfl .nil)) ?_
  have h2 := of_decide_eq_false h
  have hlen : (freeL g c).length < 1000000 := by
    have := List.length_filter_le (isFree g c) (List.range c.segs)
    rw [List.length_range] at this
    have h64 := hc.segs1
    show ((List.range c.segs).filter (isFree g c)).length < _
    omega
  refine At.seq ?_
  refine At.region ?_
  refine At.op rfl (op_box rfl rfl rfl ?_)
  intro bg
  refine At.op rfl (op_assign rfl rfl ?_)
  refine At.nil ?_
  refine At.then_n ?_
  refine At.seq ?_
  refine At.region ?_
  refine At.op rfl (op_load rfl Tryd.isAgg26 (by first | with_reducible exact Pull.p0 | with_reducible exact Pull.p1 | with_reducible exact Pull.p2 | with_reducible exact Pull.p3 | with_reducible exact Pull.p4 | with_reducible exact Pull.p5 | with_reducible exact Pull.p6 | with_reducible exact Pull.p7 | with_reducible exact Pull.p8 | with_reducible exact Pull.p9) rfl rfl ?_)
  refine At.op rfl (op_load rfl Tryd.isAgg26 (by first | with_reducible exact Pull.p0 | with_reducible exact Pull.p1 | with_reducible exact Pull.p2 | with_reducible exact Pull.p3 | with_reducible exact Pull.p4 | with_reducible exact Pull.p5 | with_reducible exact Pull.p6 | with_reducible exact Pull.p7 | with_reducible exact Pull.p8 | with_reducible exact Pull.p9) rfl rfl ?_)
  refine At.op rfl (op_makeFunc rfl rfl rfl ?_)
  refine At.op rfl (op_callF rfl Tryd.call29 (seglog_those c hc g 30 [ptr g.lb 0] [] [logMap g] (isFree g c) Tryd.call30 (fun i _ => seglog_free c hc g i)) (.cons (by first | exact Pull.p0 | exact Pull.p1 | exact Pull.p2 | exact Pull.p3 | exact Pull.p4 | exact Pull.p5 | exact Pull.p6 | exact Pull.p7 | exact Pull.p8 | exact Pull.p9) (.cons (by first | exact Pull.p0 | exact Pull.p1 | exact Pull.p2 | exact Pull.p3 | exact Pull.p4 | exact Pull.p5 | exact Pull.p6 | exact Pull.p7 | exact Pull.p8 | exact Pull.p9) (.cons (by first | exact Pull.p0 | exact Pull.p1 | exact Pull.p2 | exact Pull.p3 | exact Pull.p4 | exact Pull.p5 | exact Pull.p6 | exact Pull.p7 | exact Pull.p8 | exact Pull.p9) .nil))) rfl ?_)
  rintro v _ ⟨ad, cp, rfl, rfl⟩
  show At _ _ [ownS ad cp (((List.range c.segs).filter (isFree g c)).map fun n : Nat => i64 n) 3 1, chipR c, logRow g c.cb, logMap g, row bg [ptr g.lb 0] 26 (0, 0)] _
  refine At.op rfl (op_assign rfl rfl ?_)
  refine At.nil ?_
  refine At.then_n ?_
  refine At.seq ?_
  refine At.seq ?_
  refine At.region ?_
  refine At.op rfl (op_move rfl rfl ?_)
  refine At.op rfl (op_len_slc rfl Tryd.underlying40 rfl ?_)
  refine At.op rfl (op_move rfl rfl ?_)
  refine At.op rfl (op_max rfl rfl rfl ?_)
  refine At.op rfl (op_bin rfl rfl (Bin.cast (v' := .bool true) b_le (congrArg Value.bool (decide_eq_true (Int.not_lt.1 h2)))) rfl ?_)
  refine At.nil ?_
  refine At.then_n ?_
  refine At.cond_t rfl ?_
  refine At.seq ?_
  refine At.region ?_
  refine At.op rfl (op_assign rfl rfl ?_)
  refine At.nil ?_
  refine At.then_n ?_
  refine At.ret ?_
  refine At.then_r ?_
  exact At.fin1 rfl rfl rfl ⟨rfl, rfl⟩ (.cons (by first | exact Pull.p0 | exact Pull.p1 | exact Pull.p2 | exact Pull.p3 | exact Pull.p4 | exact Pull.p5 | exact Pull.p6 | exact Pull.p7 | exact Pull.p8 | exact Pull.p9) (.cons (by first | exact Pull.p0 | exact Pull.p1 | exact Pull.p2 | exact Pull.p3 | exact Pull.p4 | exact Pull.p5 | exact Pull.p6 | exact Pull.p7 | exact Pull.p8 | exact Pull.p9) (.cons (by first | exact Pull.p0 | exact Pull.p1 | exact Pull.p2 | exact Pull.p3 | exact Pull.p4 | exact Pull.p5 | exact Pull.p6 | exact Pull.p7 | exact Pull.p8 | exact Pull.p9) .nil)))
theorem seglog_Room_none (c : Chp) (hc : c.wf) (g : Lg) (hop : g.op = -1) : Does Tryd.prog G 9 [ptr g.lb 0] [chipR c, logRow g c.cb, logMap g] (OneR (i64 ((freeL g c).length * c.pages : Int)) [chipR c, logRow g c.cb, logMap g]) := by
  refine Does.of Tryd.func9 rfl Tryd.ntmps9 rfl (fun w0 => ?_)
  refine At.keep [(0, _)] (.cons rfl .nil) ?_
  have hb1 := hc.segs1
  have hb2 := hc.pages1
  have hl : (freeL g c).length ≤ 64 := by
    have := List.length_filter_le (isFree g c) (List.range c.segs)
    rw [List.length_range] at this
    show ((List.range c.segs).filter (isFree g c)).length ≤ _
    omega
  have hmul : ((freeL g c).length : Int) * (c.pages : Int) ≤ 64 * 16 := by exact_mod_cast Nat.mul_le_mul hl hb2.2
  have hmul0 : (0 : Int) ≤ ((freeL g c).length : Int) * (c.pages : Int) := by exact_mod_cast Nat.zero_le _
  refine At.seq ?_
  refine At.region ?_
  refine At.op rfl (op_assign rfl rfl ?_)
  refine At.nil ?_
  refine At.then_n ?_
  refine At.seq ?_
  refine At.drawC [_, _, _, _, _, _, _, _, _, _, _, _] (by kernel_rfl) (by decide) (by kernel_rfl) 
    (Steps'.cons (Step.op rfl (fun D h1 h2 h3 K hK => op_move (mD_base rfl rfl) rfl hK))
    (Steps'.cons (Step.op rfl (fun D h1 h2 h3 K hK => op_callQ (evs_cons (mD_done 0 (by decide) (pre_at h2 0 rfl rfl) rfl rfl rfl) evs_nil) Tryd.call16 (seglog_Free c hc g) (.cons (by first | with_reducible exact Pull.p0 | with_reducible exact Pull.p1 | with_reducible exact Pull.p2 | with_reducible exact Pull.p3 | with_reducible exact Pull.p4 | with_reducible exact Pull.p5 | with_reducible exact Pull.p6 | with_reducible exact Pull.p7 | with_reducible exact Pull.p8 | with_reducible exact Pull.p9) (.cons (by first | with_reducible exact Pull.p0 | with_reducible exact Pull.p1 | with_reducible exact Pull.p2 | with_reducible exact Pull.p3 | with_reducible exact Pull.p4 | with_reducible exact Pull.p5 | with_reducible exact Pull.p6 | with_reducible exact Pull.p7 | with_reducible exact Pull.p8 | with_reducible exact Pull.p9) (.cons (by first | with_reducible exact Pull.p0 | with_reducible exact Pull.p1 | with_reducible exact Pull.p2 | with_reducible exact Pull.p3 | with_reducible exact Pull.p4 | with_reducible exact Pull.p5 | with_reducible exact Pull.p6 | with_reducible exact Pull.p7 | with_reducible exact Pull.p8 | with_reducible exact Pull.p9) .nil))) rfl hK))
    (Steps'.cons (Step.op rfl (fun D h1 h2 h3 K hK => op_move (mD_base rfl rfl) rfl hK))
    (Steps'.cons (Step.op rfl (fun D h1 h2 h3 K hK => op_nilCheck (mD_done 2 (by decide) (pre_at h2 0 rfl rfl) rfl rfl rfl) rfl hK))
    (Steps'.cons (Step.op rfl (fun D h1 h2 h3 K hK => op_fieldAddr (o' := 0) (mD_done 3 (by decide) (pre_at h2 0 rfl rfl) rfl rfl rfl) Tryd.underlying63 rfl Tryd.sizeOf22 rfl rfl hK))
    (Steps'.cons (Step.op rfl (fun D h1 h2 h3 K hK => op_load (mD_done 4 (by decide) (pre_at h2 0 rfl rfl) rfl rfl rfl) Tryd.isAgg22 (by first | with_reducible exact Pull.p0 | with_reducible exact Pull.p1 | with_reducible exact Pull.p2 | with_reducible exact Pull.p3 | with_reducible exact Pull.p4 | with_reducible exact Pull.p5 | with_reducible exact Pull.p6 | with_reducible exact Pull.p7 | with_reducible exact Pull.p8 | with_reducible exact Pull.p9) rfl rfl hK))
    (Steps'.cons (Step.op rfl (fun D h1 h2 h3 K hK => op_nilCheck (mD_done 5 (by decide) (pre_at h2 0 rfl rfl) rfl rfl rfl) rfl hK))
    (Steps'.cons (Step.op rfl (fun D h1 h2 h3 K hK => op_fieldAddr (o' := 0) (mD_done 6 (by decide) (pre_at h2 0 rfl rfl) rfl rfl rfl) Tryd.underlying46 rfl Tryd.sizeOf42 rfl rfl hK))
    (Steps'.cons (Step.op rfl (fun D h1 h2 h3 K hK => op_loadGA (us := [i64 c.segs, i64 c.pages]) (chipR c) (mD_done 7 (by decide) (pre_at h2 0 rfl rfl) rfl rfl rfl) Tryd.isAgg42 Tryd.sizeOf42 (by first | with_reducible exact Pull.p0 | with_reducible exact Pull.p1 | with_reducible exact Pull.p2 | with_reducible exact Pull.p3 | with_reducible exact Pull.p4 | with_reducible exact Pull.p5 | with_reducible exact Pull.p6 | with_reducible exact Pull.p7 | with_reducible exact Pull.p8 | with_reducible exact Pull.p9) (chip_size c) rfl rfl hK))
    (Steps'.cons (Step.op rfl (fun D h1 h2 h3 K hK => op_call1 (evs_cons (mD_done 8 (by decide) (pre_at h2 0 rfl rfl) rfl rfl rfl) evs_nil) Tryd.call17 (size_Pages c.segs c.pages) rfl hK))
    (Steps'.cons (Step.op rfl (fun D h1 h2 h3 K hK => op_bin (mD_done 1 (by decide) (pre_at h2 0 rfl rfl) rfl rfl rfl) (mD_done 9 (by decide) (pre_at h2 1 rfl rfl) rfl rfl rfl) (b_mul (by omega) (by omega)) rfl hK))
    (Steps'.cons (Step.op rfl (fun D h1 h2 h3 K hK => op_assign (mD_done 10 (by decide) (pre_at h2 0 rfl rfl) rfl rfl rfl) rfl hK))
    Steps'.nil)))))))))))) ?_
  refine At.keep [(0, _), (2, _), (3, _)] (.cons rfl (.cons rfl (.cons rfl .nil))) ?_
  refine At.then_n ?_
  refine At.seq ?_
  refine At.seq ?_
  refine At.region ?_
  refine At.op rfl (op_move rfl rfl ?_)
  refine At.op rfl (op_nilCheck rfl rfl ?_)
  refine At.op rfl (op_fieldAddr (o' := 1) rfl Tryd.underlying63 rfl Tryd.sizeOf3 rfl rfl ?_)
  refine At.op rfl (op_load rfl Tryd.isAgg3 (by first | with_reducible exact Pull.p0 | with_reducible exact Pull.p1 | with_reducible exact Pull.p2 | with_reducible exact Pull.p3 | with_reducible exact Pull.p4 | with_reducible exact Pull.p5 | with_reducible exact Pull.p6 | with_reducible exact Pull.p7 | with_reducible exact Pull.p8 | with_reducible exact Pull.p9) rfl rfl ?_)
  refine At.op rfl (op_bin rfl rfl (Bin.cast (v' := .bool false) b_ne (congrArg Value.bool (by rw [decide_eq_true hop]; rfl))) rfl ?_)
  refine At.nil ?_
  refine At.then_n ?_
  refine At.cond_f rfl ?_
  refine At.skip ?_
  refine At.then_n ?_
  refine At.seq ?_
  refine At.region ?_
  refine At.op rfl (op_move rfl rfl ?_)
  refine At.op rfl (op_assign rfl rfl ?_)
  refine At.nil ?_
  refine At.then_n ?_
  refine At.ret ?_
  exact At.fin1 rfl rfl rfl ⟨rfl, rfl⟩ (.cons (by first | exact Pull.p0 | exact Pull.p1 | exact Pull.p2 | exact Pull.p3 | exact Pull.p4 | exact Pull.p5 | exact Pull.p6 | exact Pull.p7 | exact Pull.p8 | exact Pull.p9) (.cons (by first | exact Pull.p0 | exact Pull.p1 | exact Pull.p2 | exact Pull.p3 | exact Pull.p4 | exact Pull.p5 | exact Pull.p6 | exact Pull.p7 | exact Pull.p8 | exact Pull.p9) (.cons (by first | exact Pull.p0 | exact Pull.p1 | exact Pull.p2 | exact Pull.p3 | exact Pull.p4 | exact Pull.p5 | exact Pull.p6 | exact Pull.p7 | exact Pull.p8 | exact Pull.p9) .nil)))
theorem seglog_Room_open (c : Chp) (hc : c.wf) (g : Lg) (i : Nat) (hop : g.op = i) : Does Tryd.prog G 9 [ptr g.lb 0] [chipR c, logRow g c.cb, logMap g] (OneR (i64 ((freeL g c).length * c.pages + (c.pages - c.many i) : Int)) [chipR c, logRow g c.cb, logMap g]) := by
  refine Does.of Tryd.func9 rfl Tryd.ntmps9 rfl (fun w0 => ?_)
  refine At.keep [(0, _)] (.cons rfl .nil) ?_
  have hb1 := hc.segs1
  have hb2 := hc.pages1
  have hl : (freeL g c).length ≤ 64 := by
    have := List.length_filter_le (isFree g c) (List.range c.segs)
    rw [List.length_range] at this
    show ((List.range c.segs).filter (isFree g c)).length ≤ _
    omega
  have hmul : ((freeL g c).length : Int) * (c.pages : Int) ≤ 64 * 16 := by exact_mod_cast Nat.mul_le_mul hl hb2.2
  have hmul0 : (0 : Int) ≤ ((freeL g c).length : Int) * (c.pages : Int) := by exact_mod_cast Nat.zero_le _
  have hmy := c.many_le hc i
  refine At.seq ?_
  refine At.region ?_
  refine At.op rfl (op_assign rfl rfl ?_)
  refine At.nil ?_
  refine At.then_n ?_
  refine At.seq ?_
  refine At.drawC [_, _, _, _, _, _, _, _, _, _, _, _] (by kernel_rfl) (by decide) (by kernel_rfl) 
    (Steps'.cons (Step.op rfl (fun D h1 h2 h3 K hK => op_move (mD_base rfl rfl) rfl hK))
    (Steps'.cons (Step.op rfl (fun D h1 h2 h3 K hK => op_callQ (evs_cons (mD_done 0 (by decide) (pre_at h2 0 rfl rfl) rfl rfl rfl) evs_nil) Tryd.call16 (seglog_Free c hc g) (.cons (by first | with_reducible exact Pull.p0 | with_reducible exact Pull.p1 | with_reducible exact Pull.p2 | with_reducible exact Pull.p3 | with_reducible exact Pull.p4 | with_reducible exact Pull.p5 | with_reducible exact Pull.p6 | with_reducible exact Pull.p7 | with_reducible exact Pull.p8 | with_reducible exact Pull.p9) (.cons (by first | with_reducible exact Pull.p0 | with_reducible exact Pull.p1 | with_reducible exact Pull.p2 | with_reducible exact Pull.p3 | with_reducible exact Pull.p4 | with_reducible exact Pull.p5 | with_reducible exact Pull.p6 | with_reducible exact Pull.p7 | with_reducible exact Pull.p8 | with_reducible exact Pull.p9) (.cons (by first | with_reducible exact Pull.p0 | with_reducible exact Pull.p1 | with_reducible exact Pull.p2 | with_reducible exact Pull.p3 | with_reducible exact Pull.p4 | with_reducible exact Pull.p5 | with_reducible exact Pull.p6 | with_reducible exact Pull.p7 | with_reducible exact Pull.p8 | with_reducible exact Pull.p9) .nil))) rfl hK))
    (Steps'.cons (Step.op rfl (fun D h1 h2 h3 K hK => op_move (mD_base rfl rfl) rfl hK))
    (Steps'.cons (Step.op rfl (fun D h1 h2 h3 K hK => op_nilCheck (mD_done 2 (by decide) (pre_at h2 0 rfl rfl) rfl rfl rfl) rfl hK))
    (Steps'.cons (Step.op rfl (fun D h1 h2 h3 K hK => op_fieldAddr (o' := 0) (mD_done 3 (by decide) (pre_at h2 0 rfl rfl) rfl rfl rfl) Tryd.underlying63 rfl Tryd.sizeOf22 rfl rfl hK))
    (Steps'.cons (Step.op rfl (fun D h1 h2 h3 K hK => op_load (mD_done 4 (by decide) (pre_at h2 0 rfl rfl) rfl rfl rfl) Tryd.isAgg22 (by first | with_reducible exact Pull.p0 | with_reducible exact Pull.p1 | with_reducible exact Pull.p2 | with_reducible exact Pull.p3 | with_reducible exact Pull.p4 | with_reducible exact Pull.p5 | with_reducible exact Pull.p6 | with_reducible exact Pull.p7 | with_reducible exact Pull.p8 | with_reducible exact Pull.p9) rfl rfl hK))
    (Steps'.cons (Step.op rfl (fun D h1 h2 h3 K hK => op_nilCheck (mD_done 5 (by decide) (pre_at h2 0 rfl rfl) rfl rfl rfl) rfl hK))
    (Steps'.cons (Step.op rfl (fun D h1 h2 h3 K hK => op_fieldAddr (o' := 0) (mD_done 6 (by decide) (pre_at h2 0 rfl rfl) rfl rfl rfl) Tryd.underlying46 rfl Tryd.sizeOf42 rfl rfl hK))
    (Steps'.cons (Step.op rfl (fun D h1 h2 h3 K hK => op_loadGA (us := [i64 c.segs, i64 c.pages]) (chipR c) (mD_done 7 (by decide) (pre_at h2 0 rfl rfl) rfl rfl rfl) Tryd.isAgg42 Tryd.sizeOf42 (by first | with_reducible exact Pull.p0 | with_reducible exact Pull.p1 | with_reducible exact Pull.p2 | with_reducible exact Pull.p3 | with_reducible exact Pull.p4 | with_reducible exact Pull.p5 | with_reducible exact Pull.p6 | with_reducible exact Pull.p7 | with_reducible exact Pull.p8 | with_reducible exact Pull.p9) (chip_size c) rfl rfl hK))
    (Steps'.cons (Step.op rfl (fun D h1 h2 h3 K hK => op_call1 (evs_cons (mD_done 8 (by decide) (pre_at h2 0 rfl rfl) rfl rfl rfl) evs_nil) Tryd.call17 (size_Pages c.segs c.pages) rfl hK))
    (Steps'.cons (Step.op rfl (fun D h1 h2 h3 K hK => op_bin (mD_done 1 (by decide) (pre_at h2 0 rfl rfl) rfl rfl rfl) (mD_done 9 (by decide) (pre_at h2 1 rfl rfl) rfl rfl rfl) (b_mul (by omega) (by omega)) rfl hK))
    (Steps'.cons (Step.op rfl (fun D h1 h2 h3 K hK => op_assign (mD_done 10 (by decide) (pre_at h2 0 rfl rfl) rfl rfl rfl) rfl hK))
    Steps'.nil)))))))))))) ?_
  refine At.keep [(0, _), (2, _), (3, _)] (.cons rfl (.cons rfl (.cons rfl .nil))) ?_
  refine At.then_n ?_
  refine At.seq ?_
  refine At.seq ?_
  refine At.region ?_
  refine At.op rfl (op_move rfl rfl ?_)
  refine At.op rfl (op_nilCheck rfl rfl ?_)
  refine At.op rfl (op_fieldAddr (o' := 1) rfl Tryd.underlying63 rfl Tryd.sizeOf3 rfl rfl ?_)
  refine At.op rfl (op_load rfl Tryd.isAgg3 (by first | with_reducible exact Pull.p0 | with_reducible exact Pull.p1 | with_reducible exact Pull.p2 | with_reducible exact Pull.p3 | with_reducible exact Pull.p4 | with_reducible exact Pull.p5 | with_reducible exact Pull.p6 | with_reducible exact Pull.p7 | with_reducible exact Pull.p8 | with_reducible exact Pull.p9) rfl rfl ?_)
  refine At.op rfl (op_bin rfl rfl (Bin.cast (v' := .bool true) b_ne (congrArg Value.bool (by rw [decide_eq_false (by omega)]; rfl))) rfl ?_)
  refine At.nil ?_
  refine At.then_n ?_
  refine At.cond_t rfl ?_
  refine At.drawC [_, _, _, _, _, _, _, _, _, _, _, _, _, _, _, _, _, _] (by kernel_rfl) (by decide) (by kernel_rfl) 
    (Steps'.cons (Step.op rfl (fun D h1 h2 h3 K hK => op_move (mD_not 17 (by decide) (not_yet h3 (q := 17) rfl 2 rfl rfl h1) rfl rfl rfl) rfl hK))
    (Steps'.cons (Step.op rfl (fun D h1 h2 h3 K hK => op_move (mD_base rfl rfl) rfl hK))
    (Steps'.cons (Step.op rfl (fun D h1 h2 h3 K hK => op_nilCheck (mD_done 1 (by decide) (pre_at h2 0 rfl rfl) rfl rfl rfl) rfl hK))
    (Steps'.cons (Step.op rfl (fun D h1 h2 h3 K hK => op_fieldAddr (o' := 0) (mD_done 2 (by decide) (pre_at h2 0 rfl rfl) rfl rfl rfl) Tryd.underlying63 rfl Tryd.sizeOf22 rfl rfl hK))
    (Steps'.cons (Step.op rfl (fun D h1 h2 h3 K hK => op_load (mD_done 3 (by decide) (pre_at h2 0 rfl rfl) rfl rfl rfl) Tryd.isAgg22 (by first | with_reducible exact Pull.p0 | with_reducible exact Pull.p1 | with_reducible exact Pull.p2 | with_reducible exact Pull.p3 | with_reducible exact Pull.p4 | with_reducible exact Pull.p5 | with_reducible exact Pull.p6 | with_reducible exact Pull.p7 | with_reducible exact Pull.p8 | with_reducible exact Pull.p9) rfl rfl hK))
    (Steps'.cons (Step.op rfl (fun D h1 h2 h3 K hK => op_nilCheck (mD_done 4 (by decide) (pre_at h2 0 rfl rfl) rfl rfl rfl) rfl hK))
    (Steps'.cons (Step.op rfl (fun D h1 h2 h3 K hK => op_fieldAddr (o' := 0) (mD_done 5 (by decide) (pre_at h2 0 rfl rfl) rfl rfl rfl) Tryd.underlying46 rfl Tryd.sizeOf42 rfl rfl hK))
    (Steps'.cons (Step.op rfl (fun D h1 h2 h3 K hK => op_loadGA (us := [i64 c.segs, i64 c.pages]) (chipR c) (mD_done 6 (by decide) (pre_at h2 0 rfl rfl) rfl rfl rfl) Tryd.isAgg42 Tryd.sizeOf42 (by first | with_reducible exact Pull.p0 | with_reducible exact Pull.p1 | with_reducible exact Pull.p2 | with_reducible exact Pull.p3 | with_reducible exact Pull.p4 | with_reducible exact Pull.p5 | with_reducible exact Pull.p6 | with_reducible exact Pull.p7 | with_reducible exact Pull.p8 | with_reducible exact Pull.p9) (chip_size c) rfl rfl hK))
    (Steps'.cons (Step.op rfl (fun D h1 h2 h3 K hK => op_call1 (evs_cons (mD_done 7 (by decide) (pre_at h2 0 rfl rfl) rfl rfl rfl) evs_nil) Tryd.call17 (size_Pages c.segs c.pages) rfl hK))
    (Steps'.cons (Step.op rfl (fun D h1 h2 h3 K hK => op_move (mD_base rfl rfl) rfl hK))
    (Steps'.cons (Step.op rfl (fun D h1 h2 h3 K hK => op_move (mD_base rfl rfl) rfl hK))
    (Steps'.cons (Step.op rfl (fun D h1 h2 h3 K hK => op_nilCheck (mD_done 10 (by decide) (pre_at h2 0 rfl rfl) rfl rfl rfl) rfl hK))
    (Steps'.cons (Step.op rfl (fun D h1 h2 h3 K hK => op_fieldAddr (o' := 1) (mD_done 11 (by decide) (pre_at h2 0 rfl rfl) rfl rfl rfl) Tryd.underlying63 rfl Tryd.sizeOf3 rfl rfl hK))
    (Steps'.cons (Step.op rfl (fun D h1 h2 h3 K hK => op_load (mD_done 12 (by decide) (pre_at h2 0 rfl rfl) rfl rfl rfl) Tryd.isAgg3 (by first | with_reducible exact Pull.p0 | with_reducible exact Pull.p1 | with_reducible exact Pull.p2 | with_reducible exact Pull.p3 | with_reducible exact Pull.p4 | with_reducible exact Pull.p5 | with_reducible exact Pull.p6 | with_reducible exact Pull.p7 | with_reducible exact Pull.p8 | with_reducible exact Pull.p9) (by rw [← hop]; rfl) rfl hK))
    (Steps'.cons (Step.op rfl (fun D h1 h2 h3 K hK => op_callQ (evs_cons (mD_done 9 (by decide) (pre_at h2 0 rfl rfl) rfl rfl rfl) (evs_cons (mD_done 13 (by decide) (pre_at h2 1 rfl rfl) rfl rfl rfl) evs_nil)) Tryd.call18 (seglog_many c hc g i) (.cons (by first | with_reducible exact Pull.p0 | with_reducible exact Pull.p1 | with_reducible exact Pull.p2 | with_reducible exact Pull.p3 | with_reducible exact Pull.p4 | with_reducible exact Pull.p5 | with_reducible exact Pull.p6 | with_reducible exact Pull.p7 | with_reducible exact Pull.p8 | with_reducible exact Pull.p9) (.cons (by first | with_reducible exact Pull.p0 | with_reducible exact Pull.p1 | with_reducible exact Pull.p2 | with_reducible exact Pull.p3 | with_reducible exact Pull.p4 | with_reducible exact Pull.p5 | with_reducible exact Pull.p6 | with_reducible exact Pull.p7 | with_reducible exact Pull.p8 | with_reducible exact Pull.p9) .nil)) rfl hK))
    (Steps'.cons (Step.op rfl (fun D h1 h2 h3 K hK => op_bin (mD_done 8 (by decide) (pre_at h2 0 rfl rfl) rfl rfl rfl) (mD_done 14 (by decide) (pre_at h2 1 rfl rfl) rfl rfl rfl) (b_sub (by omega) (by omega)) rfl hK))
    (Steps'.cons (Step.op rfl (fun D h1 h2 h3 K hK => op_bin (mD_done 0 (by decide) (pre_at h2 0 rfl rfl) rfl rfl rfl) (mD_done 15 (by decide) (pre_at h2 1 rfl rfl) rfl rfl rfl) (b_add (by omega) (by omega)) rfl hK))
    (Steps'.cons (Step.op rfl (fun D h1 h2 h3 K hK => op_assign (mD_done 16 (by decide) (pre_at h2 0 rfl rfl) rfl rfl rfl) rfl hK))
    Steps'.nil)))))))))))))))))) ?_
  refine At.keep [(2, _), (3, _)] (.cons rfl (.cons rfl .nil)) ?_
  refine At.then_n ?_
  refine At.seq ?_
  refine At.region ?_
  refine At.op rfl (op_move rfl rfl ?_)
  refine At.op rfl (op_assign rfl rfl ?_)
  refine At.nil ?_
  refine At.then_n ?_
  refine At.ret ?_
  exact At.fin1 rfl rfl rfl ⟨rfl, rfl⟩ (.cons (by first | exact Pull.p0 | exact Pull.p1 | exact Pull.p2 | exact Pull.p3 | exact Pull.p4 | exact Pull.p5 | exact Pull.p6 | exact Pull.p7 | exact Pull.p8 | exact Pull.p9) (.cons (by first | exact Pull.p0 | exact Pull.p1 | exact Pull.p2 | exact Pull.p3 | exact Pull.p4 | exact Pull.p5 | exact Pull.p6 | exact Pull.p7 | exact Pull.p8 | exact Pull.p9) (.cons (by first | exact Pull.p0 | exact Pull.p1 | exact Pull.p2 | exact Pull.p3 | exact Pull.p4 | exact Pull.p5 | exact Pull.p6 | exact Pull.p7 | exact Pull.p8 | exact Pull.p9) .nil)))
theorem seglog_Read_none (hG : GOK G) (c : Chp) (hc : c.wf) (g : Lg) (i j : Nat) (hi : i < c.segs) (hj : j < c.pages) (hat : c.at i j = none) : Does Tryd.prog G 15 [ptr g.lb 0, .agg [i64 i, i64 j].toArray] [chipR c, logRow g c.cb] (OneR (.tuple #[frmV 0 0 [], i64 3]) [chipR c, logRow g c.cb]) := by
  refine Does.of Tryd.func15 rfl Tryd.ntmps15 rfl (fun w0 => ?_)
  refine At.keep [(0, _), (1, _)] (.cons rfl (.cons rfl .nil)) ?_
  refine At.seq ?_
  refine At.region ?_
  refine At.op rfl (op_box rfl rfl rfl ?_)
  intro b3
  refine At.op rfl (op_alloc Tryd.zeroValue68 rfl rfl ?_)
  intro b4
  refine At.op rfl (op_assign rfl rfl ?_)
  refine At.nil ?_
  refine At.then_n ?_
  refine At.seq ?_
  refine At.drawC [_, _, _, _, _, _, _, _, _, _, _, _, _, _, _, _] (by kernel_rfl) (by decide) (by kernel_rfl) 
    (Steps'.cons (Step.op rfl (fun D h1 h2 h3 K hK => op_move (mD_base rfl rfl) rfl hK))
    (Steps'.cons (Step.op rfl (fun D h1 h2 h3 K hK => op_nilCheck (mD_done 0 (by decide) (pre_at h2 0 rfl rfl) rfl rfl rfl) rfl hK))
    (Steps'.cons (Step.op rfl (fun D h1 h2 h3 K hK => op_fieldAddr (o' := 0) (mD_done 1 (by decide) (pre_at h2 0 rfl rfl) rfl rfl rfl) Tryd.underlying63 rfl Tryd.sizeOf22 rfl rfl hK))
    (Steps'.cons (Step.op rfl (fun D h1 h2 h3 K hK => op_load (mD_done 2 (by decide) (pre_at h2 0 rfl rfl) rfl rfl rfl) Tryd.isAgg22 (by first | with_reducible exact Pull.p0 | with_reducible exact Pull.p1 | with_reducible exact Pull.p2 | with_reducible exact Pull.p3 | with_reducible exact Pull.p4 | with_reducible exact Pull.p5 | with_reducible exact Pull.p6 | with_reducible exact Pull.p7 | with_reducible exact Pull.p8 | with_reducible exact Pull.p9) rfl rfl hK))
    (Steps'.cons (Step.op rfl (fun D h1 h2 h3 K hK => op_fieldAddr (o' := 0) (mD_base rfl rfl) Tryd.underlying34 rfl Tryd.sizeOf3 rfl rfl hK))
    (Steps'.cons (Step.op rfl (fun D h1 h2 h3 K hK => op_load (mD_done 4 (by decide) (pre_at h2 0 rfl rfl) rfl rfl rfl) Tryd.isAgg3 (by first | with_reducible exact Pull.p0 | with_reducible exact Pull.p1 | with_reducible exact Pull.p2 | with_reducible exact Pull.p3 | with_reducible exact Pull.p4 | with_reducible exact Pull.p5 | with_reducible exact Pull.p6 | with_reducible exact Pull.p7 | with_reducible exact Pull.p8 | with_reducible exact Pull.p9) rfl rfl hK))
    (Steps'.cons (Step.op rfl (fun D h1 h2 h3 K hK => op_fieldAddr (o' := 1) (mD_base rfl rfl) Tryd.underlying34 rfl Tryd.sizeOf3 rfl rfl hK))
    (Steps'.cons (Step.op rfl (fun D h1 h2 h3 K hK => op_load (mD_done 6 (by decide) (pre_at h2 0 rfl rfl) rfl rfl rfl) Tryd.isAgg3 (by first | with_reducible exact Pull.p0 | with_reducible exact Pull.p1 | with_reducible exact Pull.p2 | with_reducible exact Pull.p3 | with_reducible exact Pull.p4 | with_reducible exact Pull.p5 | with_reducible exact Pull.p6 | with_reducible exact Pull.p7 | with_reducible exact Pull.p8 | with_reducible exact Pull.p9) rfl rfl hK))
    (Steps'.cons (Step.op rfl (fun D h1 h2 h3 K hK => op_callQ (evs_cons (mD_done 3 (by decide) (pre_at h2 0 rfl rfl) rfl rfl rfl) (evs_cons (mD_done 5 (by decide) (pre_at h2 1 rfl rfl) rfl rfl rfl) (evs_cons (mD_done 7 (by decide) (pre_at h2 2 rfl rfl) rfl rfl rfl) evs_nil))) Tryd.call13 (by have := nand_Read (G := G) c hc i j hi hj; rw [hat] at this; exact this) (.cons (by first | with_reducible exact Pull.p0 | with_reducible exact Pull.p1 | with_reducible exact Pull.p2 | with_reducible exact Pull.p3 | with_reducible exact Pull.p4 | with_reducible exact Pull.p5 | with_reducible exact Pull.p6 | with_reducible exact Pull.p7 | with_reducible exact Pull.p8 | with_reducible exact Pull.p9) .nil) rfl hK))
    (Steps'.cons (Step.op rfl (fun D h1 h2 h3 K hK => op_move (mD_done 8 (by decide) (pre_at h2 0 rfl rfl) rfl rfl rfl) rfl hK))
    (Steps'.cons (Step.op rfl (fun D h1 h2 h3 K hK => op_extractL (mD_done 9 (by decide) (pre_at h2 0 rfl rfl) rfl rfl rfl) .zero rfl hK))
    (Steps'.cons (Step.op rfl (fun D h1 h2 h3 K hK => op_extractL (mD_done 9 (by decide) (pre_at h2 0 rfl rfl) rfl rfl rfl) (.succ .zero) rfl hK))
    (Steps'.cons (Step.op rfl (fun D h1 h2 h3 K hK => op_extractL (mD_done 9 (by decide) (pre_at h2 0 rfl rfl) rfl rfl rfl) (.succ (.succ .zero)) rfl hK))
    (Steps'.cons (Step.op rfl (fun D h1 h2 h3 K hK => op_assign (mD_done 10 (by decide) (pre_at h2 0 rfl rfl) rfl rfl rfl) rfl hK))
    (Steps'.cons (Step.op rfl (fun D h1 h2 h3 K hK => op_assign (mD_done 11 (by decide) (pre_at h2 0 rfl rfl) rfl rfl rfl) rfl hK))
    (Steps'.cons (Step.op rfl (fun D h1 h2 h3 K hK => op_assign (mD_done 12 (by decide) (pre_at h2 0 rfl rfl) rfl rfl rfl) rfl hK))
    Steps'.nil)))))))))))))))) ?_
  refine At.keep [(4, _), (5, _), (6, _), (7, _), (8, _)] (.cons rfl (.cons rfl (.cons rfl (.cons rfl (.cons rfl .nil))))) ?_
  refine At.then_n ?_
  refine At.seq ?_
  refine At.block ?_
  refine At.seq ?_
  refine At.region ?_
  refine At.op rfl (op_move rfl rfl ?_)
  refine At.op rfl (op_bin rfl rfl (Bin.cast (v' := .bool false) b_ne (congrArg Value.bool (by rw [decide_eq_true rfl]; rfl))) rfl ?_)
  refine At.op rfl (op_assign rfl rfl ?_)
  refine At.nil ?_
  refine At.then_n ?_
  refine At.cond_f rfl ?_
  refine At.seq ?_
  refine At.region ?_
  refine At.op rfl (op_move rfl rfl ?_)
  refine At.op rfl (op_not rfl rfl ?_)
  refine At.op rfl (op_assign rfl rfl ?_)
  refine At.nil ?_
  refine At.then_n ?_
  refine At.cond_t rfl ?_
  refine At.seq ?_
  refine At.region ?_
  refine At.op rfl (op_build (v := frmV 0 0 []) rfl (fun w => run_build w _ _ _ (by kernel_rfl)) rfl ?_)
  refine At.op rfl (op_storeW rfl rfl Tryd.sizeOf68 (by repeat' (first | refine List.forall_mem_cons.2 ⟨rfl, ?_⟩ | exact (fun _ h => by cases h))) (by first | with_reducible exact Pull.p0 | with_reducible exact Pull.p1 | with_reducible exact Pull.p2 | with_reducible exact Pull.p3 | with_reducible exact Pull.p4 | with_reducible exact Pull.p5 | with_reducible exact Pull.p6 | with_reducible exact Pull.p7 | with_reducible exact Pull.p8 | with_reducible exact Pull.p9) rfl rfl ?_)
  refine At.op rfl (op_assign rfl rfl ?_)
  refine At.nil ?_
  refine At.then_n ?_
  refine At.ret ?_
  refine At.blk_r ?_
  refine At.then_r ?_
  exact At.fin (l := [.cell 4 68, .tmp 5]) _ (.inl rfl) rfl rfl (.agg rfl (by first | with_reducible exact Pull.p0 | with_reducible exact Pull.p1 | with_reducible exact Pull.p2 | with_reducible exact Pull.p3 | with_reducible exact Pull.p4 | with_reducible exact Pull.p5 | with_reducible exact Pull.p6 | with_reducible exact Pull.p7 | with_reducible exact Pull.p8 | with_reducible exact Pull.p9) Tryd.isAgg68 Tryd.sizeOf68 rfl (.tmp rfl .nil)) rfl ⟨rfl, rfl⟩ (.cons (by first | exact Pull.p0 | exact Pull.p1 | exact Pull.p2 | exact Pull.p3 | exact Pull.p4 | exact Pull.p5 | exact Pull.p6 | exact Pull.p7 | exact Pull.p8 | exact Pull.p9) (.cons (by first | exact Pull.p0 | exact Pull.p1 | exact Pull.p2 | exact Pull.p3 | exact Pull.p4 | exact Pull.p5 | exact Pull.p6 | exact Pull.p7 | exact Pull.p8 | exact Pull.p9) .nil))
theorem seglog_Read_some (hG : GOK G) (c : Chp) (hc : c.wf) (g : Lg) (i j : Nat) (hi : i < c.segs) (hj : j < c.pages) (s : List UInt8) (hat : c.at i j = some s) : Does Tryd.prog G 15 [ptr g.lb 0, .agg [i64 i, i64 j].toArray] [chipR c, logRow g c.cb] (OneR (getV s) [chipR c, logRow g c.cb]) := by
  refine Does.of Tryd.func15 rfl Tryd.ntmps15 rfl (fun w0 => ?_)
  refine At.keep [(0, _), (1, _)] (.cons rfl (.cons rfl .nil)) ?_
  refine At.seq ?_
  refine At.region ?_
  refine At.op rfl (op_box rfl rfl rfl ?_)
  intro b3
  refine At.op rfl (op_alloc Tryd.zeroValue68 rfl rfl ?_)
  intro b4
  refine At.op rfl (op_assign rfl rfl ?_)
  refine At.nil ?_
  refine At.then_n ?_
  refine At.seq ?_
  refine At.drawC [_, _, _, _, _, _, _, _, _, _, _, _, _, _, _, _] (by kernel_rfl) (by decide) (by kernel_rfl) 
    (Steps'.cons (Step.op rfl (fun D h1 h2 h3 K hK => op_move (mD_base rfl rfl) rfl hK))
    (Steps'.cons (Step.op rfl (fun D h1 h2 h3 K hK => op_nilCheck (mD_done 0 (by decide) (pre_at h2 0 rfl rfl) rfl rfl rfl) rfl hK))
    (Steps'.cons (Step.op rfl (fun D h1 h2 h3 K hK => op_fieldAddr (o' := 0) (mD_done 1 (by decide) (pre_at h2 0 rfl rfl) rfl rfl rfl) Tryd.underlying63 rfl Tryd.sizeOf22 rfl rfl hK))
    (Steps'.cons (Step.op rfl (fun D h1 h2 h3 K hK => op_load (mD_done 2 (by decide) (pre_at h2 0 rfl rfl) rfl rfl rfl) Tryd.isAgg22 (by first | with_reducible exact Pull.p0 | with_reducible exact Pull.p1 | with_reducible exact Pull.p2 | with_reducible exact Pull.p3 | with_reducible exact Pull.p4 | with_reducible exact Pull.p5 | with_reducible exact Pull.p6 | with_reducible exact Pull.p7 | with_reducible exact Pull.p8 | with_reducible exact Pull.p9) rfl rfl hK))
    (Steps'.cons (Step.op rfl (fun D h1 h2 h3 K hK => op_fieldAddr (o' := 0) (mD_base rfl rfl) Tryd.underlying34 rfl Tryd.sizeOf3 rfl rfl hK))
    (Steps'.cons (Step.op rfl (fun D h1 h2 h3 K hK => op_load (mD_done 4 (by decide) (pre_at h2 0 rfl rfl) rfl rfl rfl) Tryd.isAgg3 (by first | with_reducible exact Pull.p0 | with_reducible exact Pull.p1 | with_reducible exact Pull.p2 | with_reducible exact Pull.p3 | with_reducible exact Pull.p4 | with_reducible exact Pull.p5 | with_reducible exact Pull.p6 | with_reducible exact Pull.p7 | with_reducible exact Pull.p8 | with_reducible exact Pull.p9) rfl rfl hK))
    (Steps'.cons (Step.op rfl (fun D h1 h2 h3 K hK => op_fieldAddr (o' := 1) (mD_base rfl rfl) Tryd.underlying34 rfl Tryd.sizeOf3 rfl rfl hK))
    (Steps'.cons (Step.op rfl (fun D h1 h2 h3 K hK => op_load (mD_done 6 (by decide) (pre_at h2 0 rfl rfl) rfl rfl rfl) Tryd.isAgg3 (by first | with_reducible exact Pull.p0 | with_reducible exact Pull.p1 | with_reducible exact Pull.p2 | with_reducible exact Pull.p3 | with_reducible exact Pull.p4 | with_reducible exact Pull.p5 | with_reducible exact Pull.p6 | with_reducible exact Pull.p7 | with_reducible exact Pull.p8 | with_reducible exact Pull.p9) rfl rfl hK))
    (Steps'.cons (Step.op rfl (fun D h1 h2 h3 K hK => op_callQ (evs_cons (mD_done 3 (by decide) (pre_at h2 0 rfl rfl) rfl rfl rfl) (evs_cons (mD_done 5 (by decide) (pre_at h2 1 rfl rfl) rfl rfl rfl) (evs_cons (mD_done 7 (by decide) (pre_at h2 2 rfl rfl) rfl rfl rfl) evs_nil))) Tryd.call13 (by have := nand_Read (G := G) c hc i j hi hj; rw [hat] at this; exact this) (.cons (by first | with_reducible exact Pull.p0 | with_reducible exact Pull.p1 | with_reducible exact Pull.p2 | with_reducible exact Pull.p3 | with_reducible exact Pull.p4 | with_reducible exact Pull.p5 | with_reducible exact Pull.p6 | with_reducible exact Pull.p7 | with_reducible exact Pull.p8 | with_reducible exact Pull.p9) .nil) rfl hK))
    (Steps'.cons (Step.op rfl (fun D h1 h2 h3 K hK => op_move (mD_done 8 (by decide) (pre_at h2 0 rfl rfl) rfl rfl rfl) rfl hK))
    (Steps'.cons (Step.op rfl (fun D h1 h2 h3 K hK => op_extractL (mD_done 9 (by decide) (pre_at h2 0 rfl rfl) rfl rfl rfl) .zero rfl hK))
    (Steps'.cons (Step.op rfl (fun D h1 h2 h3 K hK => op_extractL (mD_done 9 (by decide) (pre_at h2 0 rfl rfl) rfl rfl rfl) (.succ .zero) rfl hK))
    (Steps'.cons (Step.op rfl (fun D h1 h2 h3 K hK => op_extractL (mD_done 9 (by decide) (pre_at h2 0 rfl rfl) rfl rfl rfl) (.succ (.succ .zero)) rfl hK))
    (Steps'.cons (Step.op rfl (fun D h1 h2 h3 K hK => op_assign (mD_done 10 (by decide) (pre_at h2 0 rfl rfl) rfl rfl rfl) rfl hK))
    (Steps'.cons (Step.op rfl (fun D h1 h2 h3 K hK => op_assign (mD_done 11 (by decide) (pre_at h2 0 rfl rfl) rfl rfl rfl) rfl hK))
    (Steps'.cons (Step.op rfl (fun D h1 h2 h3 K hK => op_assign (mD_done 12 (by decide) (pre_at h2 0 rfl rfl) rfl rfl rfl) rfl hK))
    Steps'.nil)))))))))))))))) ?_
  refine At.keep [(4, _), (5, _), (6, _), (7, _), (8, _)] (.cons rfl (.cons rfl (.cons rfl (.cons rfl (.cons rfl .nil))))) ?_
  refine At.then_n ?_
  refine At.seq ?_
  refine At.block ?_
  refine At.seq ?_
  refine At.region ?_
  refine At.op rfl (op_move rfl rfl ?_)
  refine At.op rfl (op_bin rfl rfl (Bin.cast (v' := .bool false) b_ne (congrArg Value.bool (by rw [decide_eq_true rfl]; rfl))) rfl ?_)
  refine At.op rfl (op_assign rfl rfl ?_)
  refine At.nil ?_
  refine At.then_n ?_
  refine At.cond_f rfl ?_
  refine At.seq ?_
  refine At.region ?_
  refine At.op rfl (op_move rfl rfl ?_)
  refine At.op rfl (op_not rfl rfl ?_)
  refine At.op rfl (op_assign rfl rfl ?_)
  refine At.nil ?_
  refine At.then_n ?_
  refine At.cond_f rfl ?_
  refine At.skip ?_
  refine At.blk_n ?_
  refine At.then_n ?_
  refine At.seq ?_
  refine At.region ?_
  refine At.op rfl (op_move rfl rfl ?_)
  refine At.op rfl (op_call1 rfl Tryd.call28 (frame_Get hG s (by have := hc.strs _ _ _ hat; omega)) rfl ?_)
  obtain ⟨k, q, t, e, hv⟩ := getV_cut s
  rw [hv]
  refine At.op rfl (op_extractL rfl .zero rfl ?_)
  refine At.op rfl (op_extractL rfl (.succ .zero) rfl ?_)
  refine At.op rfl (op_storeW rfl rfl Tryd.sizeOf68 (by repeat' (first | refine List.forall_mem_cons.2 ⟨rfl, ?_⟩ | exact (fun _ h => by cases h))) (by first | with_reducible exact Pull.p0 | with_reducible exact Pull.p1 | with_reducible exact Pull.p2 | with_reducible exact Pull.p3 | with_reducible exact Pull.p4 | with_reducible exact Pull.p5 | with_reducible exact Pull.p6 | with_reducible exact Pull.p7 | with_reducible exact Pull.p8 | with_reducible exact Pull.p9) rfl rfl ?_)
  refine At.op rfl (op_assign rfl rfl ?_)
  refine At.nil ?_
  refine At.then_n ?_
  refine At.ret ?_
  exact At.fin (l := [.cell 4 68, .tmp 5]) _ (.inl rfl) rfl rfl (.agg rfl (by first | with_reducible exact Pull.p0 | with_reducible exact Pull.p1 | with_reducible exact Pull.p2 | with_reducible exact Pull.p3 | with_reducible exact Pull.p4 | with_reducible exact Pull.p5 | with_reducible exact Pull.p6 | with_reducible exact Pull.p7 | with_reducible exact Pull.p8 | with_reducible exact Pull.p9) Tryd.isAgg68 Tryd.sizeOf68 rfl (.tmp rfl .nil)) rfl ⟨rfl, rfl⟩ (.cons (by first | exact Pull.p0 | exact Pull.p1 | exact Pull.p2 | exact Pull.p3 | exact Pull.p4 | exact Pull.p5 | exact Pull.p6 | exact Pull.p7 | exact Pull.p8 | exact Pull.p9) (.cons (by first | exact Pull.p0 | exact Pull.p1 | exact Pull.p2 | exact Pull.p3 | exact Pull.p4 | exact Pull.p5 | exact Pull.p6 | exact Pull.p7 | exact Pull.p8 | exact Pull.p9) .nil))
def eraseL (g : Lg) (i : Nat) : Lg := { g with op := if g.op = i then -1 else g.op }
def retireL (g : Lg) (i : Nat) : Lg := { g with op := if g.op = i then -1 else g.op, ret := iput g.ret i (IntKind.i64.wrap (iget g.ret i + 1)) g.clock, clock := if ihas g.ret i then g.clock else g.clock + 1 }
theorem Chp.wf.seg' {c : Chp} (h : c.wf) {i : Nat} (hi : i < c.segs) : ∃ s, c.l[i]? = some s ∧ c.badAt i = s.bad ∧ c.wearAt i = s.wear := by
  obtain ⟨s, hs, _⟩ := h.seg hi
  exact ⟨s, hs, by simp [Chp.badAt, hs], by simp [Chp.wearAt, hs]⟩
end Go.Proofs.YteckdahgkkmlaaaDoor
end

section
set_option maxRecDepth 20000
set_option linter.unusedVariables false
set_option linter.unusedSimpArgs false
namespace Go.Proofs.YteckdahgkkmlaaaDoor
open Go SL
variable {G : List (Nat × Obj)}
theorem putV_ok {k : UInt8} {q : UInt64} {t : List UInt8} (hk : k ≠ 0) (ht : t.length ≤ 229) : putV k q t = .tuple #[str (putS k q t), i64 0] := by
  unfold putV
  rw [if_neg hk, if_neg (by omega)]
theorem padS_put {k : UInt8} {q : UInt64} {t : List UInt8} (ht : t.length ≤ 229) : padS (putS k q t) = putS k q t := by
  unfold padS
  rw [putS_length k q t ht]
  simp
theorem seglog_Append_open (hG : GOK G) (c : Chp) (hc : c.wf) (g : Lg) (k : UInt8) (t : List UInt8) (r : Int) (hk : k ≠ 0) (ht : t.length ≤ 229) (i j : Nat) (hop : g.op = i) (hi : i < c.segs) (hj : j < c.pages) (hnj : c.next i = (j : Int)) (hfree : c.at i j = none) (hpast : c.past.length < 1000000) : Does Tryd.prog G 10 [ptr g.lb 0, u8 k, str t, i64 r] [chipR c, logRow g c.cb, logMap g] (fun v rs' => ∃ b pa pc, v = .tuple #[.agg [i64 i, i64 j].toArray, i64 0] ∧ rs' = [chipR (c.prog i j b (putS k g.seq t) pa pc), logRow (Lg.mk g.lb g.mb i (g.seq + 1) g.ret g.clock) c.cb, logMap g]) := by
  refine Does.of Tryd.func10 rfl Tryd.ntmps10 rfl (fun w0 => ?_)
  refine At.keep [(0, _), (1, _), (2, _), (3, _)] (.cons rfl (.cons rfl (.cons rfl (.cons rfl .nil)))) ?_
  show At _ _ [chipR c, row g.lb [ptr c.cb 0, i64 g.op, u64 g.seq, .map (some g.mb)] 63 (0, 0), logMap g] _
  rw [hop]
  refine At.seq ?_
  refine At.region ?_
  refine At.op rfl (op_alloc Tryd.zeroValue34 rfl rfl ?_)
  intro b8
  refine At.op rfl (op_assign rfl rfl ?_)
  refine At.nil ?_
  refine At.then_n ?_
  refine At.seq ?_
  refine At.region ?_
  refine At.op rfl (op_move rfl rfl ?_)
  refine At.op rfl (op_move rfl rfl ?_)
  refine At.op rfl (op_nilCheck rfl rfl ?_)
  refine At.op rfl (op_fieldAddr (o' := 2) rfl Tryd.underlying63 rfl Tryd.sizeOf61 rfl rfl ?_)
  refine At.op rfl (op_load rfl Tryd.isAgg61 (by first | with_reducible exact Pull.p0 | with_reducible exact Pull.p1 | with_reducible exact Pull.p2 | with_reducible exact Pull.p3 | with_reducible exact Pull.p4 | with_reducible exact Pull.p5 | with_reducible exact Pull.p6 | with_reducible exact Pull.p7 | with_reducible exact Pull.p8 | with_reducible exact Pull.p9) rfl rfl ?_)
  refine At.op rfl (op_move rfl rfl ?_)
  refine At.op rfl (op_build (v := frmV k g.seq t) rfl (fun w => run_build w _ _ _ (by kernel_rfl)) rfl ?_)
  refine At.op rfl (op_call1 rfl Tryd.call19 (frame_Put hG k g.seq t (by omega)) rfl ?_)
  rw [putV_ok hk ht]
  refine At.op rfl (op_move rfl rfl ?_)
  refine At.op rfl (op_extractL rfl .zero rfl ?_)
  refine At.op rfl (op_extractL rfl (.succ .zero) rfl ?_)
  refine At.op rfl (op_assign rfl rfl ?_)
  refine At.op rfl (op_assign rfl rfl ?_)
  refine At.nil ?_
  refine At.then_n ?_
  refine At.seq ?_
  refine At.seq ?_
  refine At.keep [(0, _), (3, _), (8, _), (9, _), (10, _), (11, _)] (.cons rfl (.cons rfl (.cons rfl (.cons rfl (.cons rfl (.cons rfl .nil)))))) ?_
  refine At.region ?_
  refine At.op rfl (op_move rfl rfl ?_)
  refine At.op rfl (op_bin rfl rfl (Bin.cast (v' := .bool false) b_ne (congrArg Value.bool (by rw [decide_eq_true rfl]; rfl))) rfl ?_)
  refine At.nil ?_
  refine At.then_n ?_
  refine At.cond_f rfl ?_
  refine At.skip ?_
  refine At.then_n ?_
  refine At.seq ?_
  refine At.seq ?_
  refine At.region ?_
  refine At.op rfl (op_move rfl rfl ?_)
  refine At.op rfl (op_nilCheck rfl rfl ?_)
  refine At.op rfl (op_fieldAddr (o' := 1) rfl Tryd.underlying63 rfl Tryd.sizeOf3 rfl rfl ?_)
  refine At.op rfl (op_load rfl Tryd.isAgg3 (by first | with_reducible exact Pull.p0 | with_reducible exact Pull.p1 | with_reducible exact Pull.p2 | with_reducible exact Pull.p3 | with_reducible exact Pull.p4 | with_reducible exact Pull.p5 | with_reducible exact Pull.p6 | with_reducible exact Pull.p7 | with_reducible exact Pull.p8 | with_reducible exact Pull.p9) rfl rfl ?_)
  refine At.op rfl (op_bin rfl rfl (Bin.cast (v' := .bool false) b_eq (congrArg Value.bool (decide_eq_false (by omega)))) rfl ?_)
  refine At.op rfl (op_move rfl rfl ?_)
  refine At.opg rfl rfl rfl (op_move rfl rfl ?_)
  refine At.opg rfl rfl rfl (op_move rfl rfl ?_)
  refine At.opg rfl rfl rfl (op_nilCheck rfl rfl ?_)
  refine At.opg rfl rfl rfl (op_fieldAddr (o' := 1) rfl Tryd.underlying63 rfl Tryd.sizeOf3 rfl rfl ?_)
  refine At.opg rfl rfl rfl (op_load rfl Tryd.isAgg3 (by first | with_reducible exact Pull.p0 | with_reducible exact Pull.p1 | with_reducible exact Pull.p2 | with_reducible exact Pull.p3 | with_reducible exact Pull.p4 | with_reducible exact Pull.p5 | with_reducible exact Pull.p6 | with_reducible exact Pull.p7 | with_reducible exact Pull.p8 | with_reducible exact Pull.p9) rfl rfl ?_)
  refine At.opg rfl rfl rfl (op_callQ rfl Tryd.call20 (by have := seglog_next (G := G) c hc (Lg.mk g.lb g.mb i g.seq g.ret g.clock) i hi; rw [hnj] at this; exact this) (.cons (by first | exact Pull.p0 | exact Pull.p1 | exact Pull.p2 | exact Pull.p3 | exact Pull.p4 | exact Pull.p5 | exact Pull.p6 | exact Pull.p7 | exact Pull.p8 | exact Pull.p9) (.cons (by first | exact Pull.p0 | exact Pull.p1 | exact Pull.p2 | exact Pull.p3 | exact Pull.p4 | exact Pull.p5 | exact Pull.p6 | exact Pull.p7 | exact Pull.p8 | exact Pull.p9) .nil)) rfl ?_)
  refine At.opg rfl rfl rfl (op_bin rfl rfl (Bin.cast (v' := .bool false) b_eq (congrArg Value.bool (decide_eq_false (by omega)))) rfl ?_)
  refine At.op rfl (op_pick_f rfl rfl rfl ?_)
  refine At.nil ?_
  refine At.then_n ?_
  refine At.cond_f rfl ?_
  refine At.skip ?_
  refine At.then_n ?_
  refine At.seq ?_
  refine At.keep [(0, _), (8, _), (9, _), (10, _)] (.cons rfl (.cons rfl (.cons rfl (.cons rfl .nil)))) ?_
  refine At.drawAl 11 [12] (fun ba => _) (fun ba => [_]) (fun ba => [ptr g.lb 0, ptr g.lb 0, ptr g.lb 1, i64 i, ptr g.lb 0, ptr g.lb 0, ptr g.lb 0, ptr g.lb 1, i64 i, i64 j, .agg [i64 i, i64 j].toArray, ptr ba 0, undef]) (by kernel_rfl) (by decide) (by kernel_rfl) rfl rfl rfl (by kernel_rfl) (fun _ => rfl) (fun _ => rfl) (by
        intro b b' j
        rcases j with _ | j
        · first | exact .inr (.inr rfl) | exact .inl rfl | exact .inr (.inl (by kernel_rfl))
        rcases j with _ | j
        · first | exact .inr (.inr rfl) | exact .inl rfl | exact .inr (.inl (by kernel_rfl))
        rcases j with _ | j
        · first | exact .inr (.inr rfl) | exact .inl rfl | exact .inr (.inl (by kernel_rfl))
        rcases j with _ | j
        · first | exact .inr (.inr rfl) | exact .inl rfl | exact .inr (.inl (by kernel_rfl))
        rcases j with _ | j
        · first | exact .inr (.inr rfl) | exact .inl rfl | exact .inr (.inl (by kernel_rfl))
        rcases j with _ | j
        · first | exact .inr (.inr rfl) | exact .inl rfl | exact .inr (.inl (by kernel_rfl))
        rcases j with _ | j
        · first | exact .inr (.inr rfl) | exact .inl rfl | exact .inr (.inl (by kernel_rfl))
        rcases j with _ | j
        · first | exact .inr (.inr rfl) | exact .inl rfl | exact .inr (.inl (by kernel_rfl))
        rcases j with _ | j
        · first | exact .inr (.inr rfl) | exact .inl rfl | exact .inr (.inl (by kernel_rfl))
        rcases j with _ | j
        · first | exact .inr (.inr rfl) | exact .inl rfl | exact .inr (.inl (by kernel_rfl))
        rcases j with _ | j
        · first | exact .inr (.inr rfl) | exact .inl rfl | exact .inr (.inl (by kernel_rfl))
        rcases j with _ | j
        · first | exact .inr (.inr rfl) | exact .inl rfl | exact .inr (.inl (by kernel_rfl))
        rcases j with _ | j
        · first | exact .inr (.inr rfl) | exact .inl rfl | exact .inr (.inl (by kernel_rfl))
        exact .inr (.inr rfl)) (fun g D K hD hK => op_alloc Tryd.zeroValue34 rfl rfl hK) (fun ba => 
    (.quiet 1 (by kernel_rfl) (by kernel_rfl) (.cons (Step.op rfl (fun D h1 h2 h3 K hK => op_move (mD_base rfl rfl) rfl hK)) (.cons (Step.op rfl (fun D h1 h2 h3 K hK => op_move (mD_base rfl rfl) rfl hK)) .nil))
    (.quiet 1 (by kernel_rfl) (by kernel_rfl) (.cons (Step.op rfl (fun D h1 h2 h3 K hK => op_nilCheck (mD_done 0 (by decide) (pre_at h2 0 rfl rfl) rfl rfl rfl) rfl hK)) (.cons (Step.op rfl (fun D h1 h2 h3 K hK => op_nilCheck (mD_done 0 (by decide) (pre_at h2 0 rfl rfl) rfl rfl rfl) rfl hK)) .nil))
    (.quiet 1 (by kernel_rfl) (by kernel_rfl) (.cons (Step.op rfl (fun D h1 h2 h3 K hK => op_fieldAddr (o' := 1) (mD_done 1 (by decide) (pre_at h2 0 rfl rfl) rfl rfl rfl) Tryd.underlying63 rfl Tryd.sizeOf3 rfl rfl hK)) (.cons (Step.op rfl (fun D h1 h2 h3 K hK => op_fieldAddr (o' := 1) (mD_done 1 (by decide) (pre_at h2 0 rfl rfl) rfl rfl rfl) Tryd.underlying63 rfl Tryd.sizeOf3 rfl rfl hK)) .nil))
    (.quiet 1 (by kernel_rfl) (by kernel_rfl) (.cons (Step.op rfl (fun D h1 h2 h3 K hK => op_load (mD_done 2 (by decide) (pre_at h2 0 rfl rfl) rfl rfl rfl) Tryd.isAgg3 (by first | with_reducible exact Pull.p0 | with_reducible exact Pull.p1 | with_reducible exact Pull.p2 | with_reducible exact Pull.p3 | with_reducible exact Pull.p4 | with_reducible exact Pull.p5 | with_reducible exact Pull.p6 | with_reducible exact Pull.p7 | with_reducible exact Pull.p8 | with_reducible exact Pull.p9) rfl rfl hK)) (.cons (Step.op rfl (fun D h1 h2 h3 K hK => op_load (mD_done 2 (by decide) (pre_at h2 0 rfl rfl) rfl rfl rfl) Tryd.isAgg3 (by first | with_reducible exact Pull.p0 | with_reducible exact Pull.p1 | with_reducible exact Pull.p2 | with_reducible exact Pull.p3 | with_reducible exact Pull.p4 | with_reducible exact Pull.p5 | with_reducible exact Pull.p6 | with_reducible exact Pull.p7 | with_reducible exact Pull.p8 | with_reducible exact Pull.p9) rfl rfl hK)) .nil))
    (.quiet 1 (by kernel_rfl) (by kernel_rfl) (.cons (Step.op rfl (fun D h1 h2 h3 K hK => op_move (mD_base rfl rfl) rfl hK)) (.cons (Step.op rfl (fun D h1 h2 h3 K hK => op_move (mD_base rfl rfl) rfl hK)) .nil))
    (.quiet 1 (by kernel_rfl) (by kernel_rfl) (.cons (Step.op rfl (fun D h1 h2 h3 K hK => op_move (mD_base rfl rfl) rfl hK)) (.cons (Step.op rfl (fun D h1 h2 h3 K hK => op_move (mD_base rfl rfl) rfl hK)) .nil))
    (.quiet 1 (by kernel_rfl) (by kernel_rfl) (.cons (Step.op rfl (fun D h1 h2 h3 K hK => op_nilCheck (mD_done 5 (by decide) (pre_at h2 0 rfl rfl) rfl rfl rfl) rfl hK)) (.cons (Step.op rfl (fun D h1 h2 h3 K hK => op_nilCheck (mD_done 5 (by decide) (pre_at h2 0 rfl rfl) rfl rfl rfl) rfl hK)) .nil))
    (.quiet 1 (by kernel_rfl) (by kernel_rfl) (.cons (Step.op rfl (fun D h1 h2 h3 K hK => op_fieldAddr (o' := 1) (mD_done 6 (by decide) (pre_at h2 0 rfl rfl) rfl rfl rfl) Tryd.underlying63 rfl Tryd.sizeOf3 rfl rfl hK)) (.cons (Step.op rfl (fun D h1 h2 h3 K hK => op_fieldAddr (o' := 1) (mD_done 6 (by decide) (pre_at h2 0 rfl rfl) rfl rfl rfl) Tryd.underlying63 rfl Tryd.sizeOf3 rfl rfl hK)) .nil))
    (.quiet 1 (by kernel_rfl) (by kernel_rfl) (.cons (Step.op rfl (fun D h1 h2 h3 K hK => op_load (mD_done 7 (by decide) (pre_at h2 0 rfl rfl) rfl rfl rfl) Tryd.isAgg3 (by first | with_reducible exact Pull.p0 | with_reducible exact Pull.p1 | with_reducible exact Pull.p2 | with_reducible exact Pull.p3 | with_reducible exact Pull.p4 | with_reducible exact Pull.p5 | with_reducible exact Pull.p6 | with_reducible exact Pull.p7 | with_reducible exact Pull.p8 | with_reducible exact Pull.p9) rfl rfl hK)) (.cons (Step.op rfl (fun D h1 h2 h3 K hK => op_load (mD_done 7 (by decide) (pre_at h2 0 rfl rfl) rfl rfl rfl) Tryd.isAgg3 (by first | with_reducible exact Pull.p0 | with_reducible exact Pull.p1 | with_reducible exact Pull.p2 | with_reducible exact Pull.p3 | with_reducible exact Pull.p4 | with_reducible exact Pull.p5 | with_reducible exact Pull.p6 | with_reducible exact Pull.p7 | with_reducible exact Pull.p8 | with_reducible exact Pull.p9) rfl rfl hK)) .nil))
    (.quiet 1 (by kernel_rfl) (by kernel_rfl) (.cons (Step.op rfl (fun D h1 h2 h3 K hK => op_callQ (evs_cons (mD_done 4 (by decide) (pre_at h2 0 rfl rfl) rfl rfl rfl) (evs_cons (mD_done 8 (by decide) (pre_at h2 1 rfl rfl) rfl rfl rfl) evs_nil)) Tryd.call20 (by have := seglog_next (G := G) c hc (Lg.mk g.lb g.mb i g.seq g.ret g.clock) i hi; rw [hnj] at this; exact this) (.cons (by first | exact Pull.p0 | exact Pull.p1 | exact Pull.p2 | exact Pull.p3 | exact Pull.p4 | exact Pull.p5 | exact Pull.p6 | exact Pull.p7 | exact Pull.p8 | exact Pull.p9) (.cons (by first | exact Pull.p0 | exact Pull.p1 | exact Pull.p2 | exact Pull.p3 | exact Pull.p4 | exact Pull.p5 | exact Pull.p6 | exact Pull.p7 | exact Pull.p8 | exact Pull.p9) .nil)) rfl hK)) (.cons (Step.op rfl (fun D h1 h2 h3 K hK => op_callQ (evs_cons (mD_done 4 (by decide) (pre_at h2 0 rfl rfl) rfl rfl rfl) (evs_cons (mD_done 8 (by decide) (pre_at h2 1 rfl rfl) rfl rfl rfl) evs_nil)) Tryd.call20 (by have := seglog_next (G := G) c hc (Lg.mk g.lb g.mb i g.seq g.ret g.clock) i hi; rw [hnj] at this; exact this) (.cons (by first | exact Pull.p0 | exact Pull.p1 | exact Pull.p2 | exact Pull.p3 | exact Pull.p4 | exact Pull.p5 | exact Pull.p6 | exact Pull.p7 | exact Pull.p8 | exact Pull.p9) (.cons (by first | exact Pull.p0 | exact Pull.p1 | exact Pull.p2 | exact Pull.p3 | exact Pull.p4 | exact Pull.p5 | exact Pull.p6 | exact Pull.p7 | exact Pull.p8 | exact Pull.p9) .nil)) rfl hK)) .nil))
    (.quiet 1 (by kernel_rfl) (by kernel_rfl) (.cons (Step.op rfl (fun D h1 h2 h3 K hK => op_build (v := .agg [i64 i, i64 j].toArray) (evp_cons (mD_done 3 (by decide) (pre_at h2 0 rfl rfl) rfl rfl rfl) (evp_cons (mD_done 9 (by decide) (pre_at h2 1 rfl rfl) rfl rfl rfl) evp_nil)) (fun w => run_build w _ _ _ (by kernel_rfl)) rfl hK)) (.cons (Step.op rfl (fun D h1 h2 h3 K hK => op_build (v := .agg [i64 i, i64 j].toArray) (evp_cons (mD_done 3 (by decide) (pre_at h2 0 rfl rfl) rfl rfl rfl) (evp_cons (mD_done 9 (by decide) (pre_at h2 1 rfl rfl) rfl rfl rfl) evp_nil)) (fun w => run_build w _ _ _ (by kernel_rfl)) rfl hK)) .nil))
    (.skip 
    (.eff 1 rfl (by kernel_rfl) (by kernel_rfl) rfl rfl (Last.op rfl (fun D h2 K hK => op_storeW (mD_done 11 (by decide) (pre_at h2 0 rfl rfl) rfl rfl rfl) (mD_done 10 (by decide) (pre_at h2 1 rfl rfl) rfl rfl rfl) Tryd.sizeOf34 (List.forall_mem_cons.2 ⟨rfl, (List.forall_mem_cons.2 ⟨rfl, (fun _ h => by cases h)⟩)⟩) (by first | with_reducible exact Pull.p0 | with_reducible exact Pull.p1 | with_reducible exact Pull.p2 | with_reducible exact Pull.p3 | with_reducible exact Pull.p4 | with_reducible exact Pull.p5 | with_reducible exact Pull.p6 | with_reducible exact Pull.p7 | with_reducible exact Pull.p8 | with_reducible exact Pull.p9) rfl rfl (by exact hK)))
    .nil)))))))))))))) (fun ba => ?_)
  show At _ _ [row ba [i64 i, i64 j] 34 (0, 0), row b8 [i64 0, i64 0] 34 (0, 0), chipR c, row g.lb [ptr c.cb 0, i64 i, u64 g.seq, .map (some g.mb)] 63 (0, 0), logMap g] _
  refine At.keep [(0, _), (8, _), (9, _), (10, _), (13, _)] (.cons rfl (.cons rfl (.cons rfl (.cons rfl (.cons rfl .nil))))) ?_
  refine At.then_n ?_
  refine At.seq ?_
  refine At.region ?_
  refine At.op rfl (op_move rfl rfl ?_)
  refine At.op rfl (op_nilCheck rfl rfl ?_)
  refine At.op rfl (op_fieldAddr (o' := 2) rfl Tryd.underlying63 rfl Tryd.sizeOf61 rfl rfl ?_)
  refine At.op rfl (op_load rfl Tryd.isAgg61 (by first | with_reducible exact Pull.p0 | with_reducible exact Pull.p1 | with_reducible exact Pull.p2 | with_reducible exact Pull.p3 | with_reducible exact Pull.p4 | with_reducible exact Pull.p5 | with_reducible exact Pull.p6 | with_reducible exact Pull.p7 | with_reducible exact Pull.p8 | with_reducible exact Pull.p9) rfl rfl ?_)
  refine At.op rfl (op_bin rfl rfl (b64_add _ (1 : UInt64)) rfl ?_)
  refine At.op rfl (op_nilCheck rfl rfl ?_)
  refine At.op rfl (op_fieldAddr (o' := 2) rfl Tryd.underlying63 rfl Tryd.sizeOf61 rfl rfl ?_)
  refine At.op rfl (op_store rfl rfl Tryd.sizeOf61 rfl rfl (by first | with_reducible exact Pull.p0 | with_reducible exact Pull.p1 | with_reducible exact Pull.p2 | with_reducible exact Pull.p3 | with_reducible exact Pull.p4 | with_reducible exact Pull.p5 | with_reducible exact Pull.p6 | with_reducible exact Pull.p7 | with_reducible exact Pull.p8 | with_reducible exact Pull.p9) (.succ (.succ .zero)) rfl ?_)
  refine At.nil ?_
  refine At.then_n ?_
  refine At.seq ?_
  refine At.seq ?_
  refine At.drawX2 (γ := Nat × Option Addr × Nat) (0, none, 0) [9] (fun gh => [[chipR (c.prog i j gh.1 (putS k g.seq t) gh.2.1 gh.2.2), row g.lb [ptr c.cb 0, i64 i, u64 (g.seq + 1), .map (some g.mb)] 63 (0, 0), row ba [i64 i, i64 j] 34 (0, 0), row b8 [i64 0, i64 0] 34 (0, 0), logMap g]]) (fun gh => [ptr g.lb 0, ptr g.lb 0, ptr g.lb 0, ptr c.cb 0, ptr ba 0, i64 i, ptr ba 1, i64 j, str (putS k g.seq t), i64 0, i64 0]) (by kernel_rfl) (by decide) (by kernel_rfl) (by decide) (by kernel_rfl) (fun _ => rfl) (fun gh => 
    (.quiet 1 (by kernel_rfl) (by kernel_rfl) (.cons (Step.op rfl (fun D h1 h2 h3 K hK => op_move (mD_base rfl rfl) rfl hK)) (.cons (Step.op rfl (fun D h1 h2 h3 K hK => op_move (mD_base rfl rfl) rfl hK)) .nil))
    (.quiet 1 (by kernel_rfl) (by kernel_rfl) (.cons (Step.op rfl (fun D h1 h2 h3 K hK => op_nilCheck (mD_done 0 (by decide) (pre_at h2 0 rfl rfl) rfl rfl rfl) rfl hK)) (.cons (Step.op rfl (fun D h1 h2 h3 K hK => op_nilCheck (mD_done 0 (by decide) (pre_at h2 0 rfl rfl) rfl rfl rfl) rfl hK)) .nil))
    (.quiet 1 (by kernel_rfl) (by kernel_rfl) (.cons (Step.op rfl (fun D h1 h2 h3 K hK => op_fieldAddr (o' := 0) (mD_done 1 (by decide) (pre_at h2 0 rfl rfl) rfl rfl rfl) Tryd.underlying63 rfl Tryd.sizeOf22 rfl rfl hK)) (.cons (Step.op rfl (fun D h1 h2 h3 K hK => op_fieldAddr (o' := 0) (mD_done 1 (by decide) (pre_at h2 0 rfl rfl) rfl rfl rfl) Tryd.underlying63 rfl Tryd.sizeOf22 rfl rfl hK)) .nil))
    (.quiet 0 (by kernel_rfl) (by kernel_rfl) (.cons (Step.op rfl (fun D h1 h2 h3 K hK => op_load (mD_done 2 (by decide) (pre_at h2 0 rfl rfl) rfl rfl rfl) Tryd.isAgg22 (by first | with_reducible exact Pull.p0 | with_reducible exact Pull.p1 | with_reducible exact Pull.p2 | with_reducible exact Pull.p3 | with_reducible exact Pull.p4 | with_reducible exact Pull.p5 | with_reducible exact Pull.p6 | with_reducible exact Pull.p7 | with_reducible exact Pull.p8 | with_reducible exact Pull.p9) rfl rfl hK)) .nil)
    (.quiet 1 (by kernel_rfl) (by kernel_rfl) (.cons (Step.op rfl (fun D h1 h2 h3 K hK => op_fieldAddr (o' := 0) (mD_base rfl rfl) Tryd.underlying34 rfl Tryd.sizeOf3 rfl rfl hK)) (.cons (Step.op rfl (fun D h1 h2 h3 K hK => op_fieldAddr (o' := 0) (mD_base rfl rfl) Tryd.underlying34 rfl Tryd.sizeOf3 rfl rfl hK)) .nil))
    (.quiet 0 (by kernel_rfl) (by kernel_rfl) (.cons (Step.op rfl (fun D h1 h2 h3 K hK => op_load (mD_done 4 (by decide) (pre_at h2 0 rfl rfl) rfl rfl rfl) Tryd.isAgg3 (by first | with_reducible exact Pull.p0 | with_reducible exact Pull.p1 | with_reducible exact Pull.p2 | with_reducible exact Pull.p3 | with_reducible exact Pull.p4 | with_reducible exact Pull.p5 | with_reducible exact Pull.p6 | with_reducible exact Pull.p7 | with_reducible exact Pull.p8 | with_reducible exact Pull.p9) rfl rfl hK)) .nil)
    (.quiet 1 (by kernel_rfl) (by kernel_rfl) (.cons (Step.op rfl (fun D h1 h2 h3 K hK => op_fieldAddr (o' := 1) (mD_base rfl rfl) Tryd.underlying34 rfl Tryd.sizeOf3 rfl rfl hK)) (.cons (Step.op rfl (fun D h1 h2 h3 K hK => op_fieldAddr (o' := 1) (mD_base rfl rfl) Tryd.underlying34 rfl Tryd.sizeOf3 rfl rfl hK)) .nil))
    (.quiet 0 (by kernel_rfl) (by kernel_rfl) (.cons (Step.op rfl (fun D h1 h2 h3 K hK => op_load (mD_done 6 (by decide) (pre_at h2 0 rfl rfl) rfl rfl rfl) Tryd.isAgg3 (by first | with_reducible exact Pull.p0 | with_reducible exact Pull.p1 | with_reducible exact Pull.p2 | with_reducible exact Pull.p3 | with_reducible exact Pull.p4 | with_reducible exact Pull.p5 | with_reducible exact Pull.p6 | with_reducible exact Pull.p7 | with_reducible exact Pull.p8 | with_reducible exact Pull.p9) rfl rfl hK)) .nil)
    (.quiet 0 (by kernel_rfl) (by kernel_rfl) (.cons (Step.op rfl (fun D h1 h2 h3 K hK => op_move (mD_base rfl rfl) rfl hK)) .nil)
    (.skip (by kernel_rfl) 
    (.quiet 1 (by kernel_rfl) (by kernel_rfl) (.cons (Step.op rfl (fun D h1 h2 h3 K hK => op_assign (mD_done 9 (by decide) (pre_at h2 0 rfl rfl) rfl rfl rfl) rfl hK)) (.cons (Step.op rfl (fun D h1 h2 h3 K hK => op_assign (mD_done 9 (by decide) (pre_at h2 0 rfl rfl) rfl rfl rfl) rfl hK)) .nil))
    .nil))))))))))))
    (.cons rfl rfl (fun gh => i64 0) (fun _ => rfl) (fun gh => _) (fun gh => [chipR (c.prog i j gh.1 (putS k g.seq t) gh.2.1 gh.2.2), row g.lb [ptr c.cb 0, i64 i, u64 (g.seq + 1), .map (some g.mb)] 63 (0, 0), row ba [i64 i, i64 j] 34 (0, 0), row b8 [i64 0, i64 0] 34 (0, 0), logMap g]) (fun _ => rfl) (fun _ => rfl) (fun gh D h2 K hK => op_callF (evs_cons (mD_done 3 (by decide) (pre_at h2 0 rfl rfl) rfl rfl rfl) (evs_cons (mD_done 5 (by decide) (pre_at h2 1 rfl rfl) rfl rfl rfl) (evs_cons (mD_done 7 (by decide) (pre_at h2 2 rfl rfl) rfl rfl rfl) (evs_cons (mD_done 8 (by decide) (pre_at h2 3 rfl rfl) rfl rfl rfl) evs_nil)))) Tryd.call22 (by have := nand_Program (G := G) c hc i j (putS k g.seq t) hi hj (by rw [putS_length k g.seq t ht]; exact Nat.le_refl _) hpast hfree; rw [padS_put ht] at this; exact this) (.cons (by first | with_reducible exact Pull.p0 | with_reducible exact Pull.p1 | with_reducible exact Pull.p2 | with_reducible exact Pull.p3 | with_reducible exact Pull.p4 | with_reducible exact Pull.p5 | with_reducible exact Pull.p6 | with_reducible exact Pull.p7 | with_reducible exact Pull.p8 | with_reducible exact Pull.p9) .nil) rfl (fun v us hu => by obtain ⟨b, pa, pc, rfl, rfl⟩ := hu; exact hK (b, pa, pc) (by
          intro j
          rcases j with _ | j
          · first | exact .inl rfl | exact .inr (by kernel_rfl)
          rcases j with _ | j
          · first | exact .inl rfl | exact .inr (by kernel_rfl)
          rcases j with _ | j
          · first | exact .inl rfl | exact .inr (by kernel_rfl)
          rcases j with _ | j
          · first | exact .inl rfl | exact .inr (by kernel_rfl)
          rcases j with _ | j
          · first | exact .inl rfl | exact .inr (by kernel_rfl)
          rcases j with _ | j
          · first | exact .inl rfl | exact .inr (by kernel_rfl)
          rcases j with _ | j
          · first | exact .inl rfl | exact .inr (by kernel_rfl)
          rcases j with _ | j
          · first | exact .inl rfl | exact .inr (by kernel_rfl)
          rcases j with _ | j
          · first | exact .inl rfl | exact .inr (by kernel_rfl)
          rcases j with _ | j
          · first | exact .inl rfl | exact .inr (by kernel_rfl)
          rcases j with _ | j
          · first | exact .inl rfl | exact .inr (by kernel_rfl)
          exact .inl rfl)))
    .nil) ?_
  rintro ⟨sb, pa, pc⟩
  show At _ _ ([chipR (c.prog i j sb (putS k g.seq t) pa pc), row g.lb [ptr c.cb 0, i64 i, u64 (g.seq + 1), .map (some g.mb)] 63 (0, 0), row ba [i64 i, i64 j] 34 (0, 0), row b8 [i64 0, i64 0] 34 (0, 0), logMap g]) _
  refine At.keep [(8, _), (9, _), (13, _), (14, _)] (.cons rfl (.cons rfl (.cons rfl (.cons rfl .nil)))) ?_
  refine At.then_n ?_
  refine At.seq ?_
  refine At.region ?_
  refine At.op rfl (op_move rfl rfl ?_)
  refine At.op rfl (op_bin rfl rfl (Bin.cast (v' := .bool false) b_ne (congrArg Value.bool (by rw [decide_eq_true rfl]; rfl))) rfl ?_)
  refine At.nil ?_
  refine At.then_n ?_
  refine At.cond_f rfl ?_
  refine At.skip ?_
  refine At.then_n ?_
  refine At.seq ?_
  refine At.region ?_
  refine At.op rfl (op_loadW rfl Tryd.isAgg34 Tryd.sizeOf34 (by first | with_reducible exact Pull.p0 | with_reducible exact Pull.p1 | with_reducible exact Pull.p2 | with_reducible exact Pull.p3 | with_reducible exact Pull.p4 | with_reducible exact Pull.p5 | with_reducible exact Pull.p6 | with_reducible exact Pull.p7 | with_reducible exact Pull.p8 | with_reducible exact Pull.p9) rfl rfl ?_)
  refine At.op rfl (op_storeW rfl rfl Tryd.sizeOf34 (by repeat' (first | refine List.forall_mem_cons.2 ⟨rfl, ?_⟩ | exact (fun _ h => by cases h))) (by first | with_reducible exact Pull.p0 | with_reducible exact Pull.p1 | with_reducible exact Pull.p2 | with_reducible exact Pull.p3 | with_reducible exact Pull.p4 | with_reducible exact Pull.p5 | with_reducible exact Pull.p6 | with_reducible exact Pull.p7 | with_reducible exact Pull.p8 | with_reducible exact Pull.p9) rfl rfl ?_)
  refine At.op rfl (op_assign rfl rfl ?_)
  refine At.nil ?_
  refine At.then_n ?_
  refine At.ret ?_
  exact At.fin (l := [.cell 8 34, .tmp 9]) _ (.inl rfl) rfl rfl (.agg rfl (by first | with_reducible exact Pull.p0 | with_reducible exact Pull.p1 | with_reducible exact Pull.p2 | with_reducible exact Pull.p3 | with_reducible exact Pull.p4 | with_reducible exact Pull.p5 | with_reducible exact Pull.p6 | with_reducible exact Pull.p7 | with_reducible exact Pull.p8 | with_reducible exact Pull.p9) Tryd.isAgg34 Tryd.sizeOf34 rfl (.tmp rfl .nil)) rfl ⟨sb, pa, pc, rfl, rfl⟩ (.cons (by first | exact Pull.p0 | exact Pull.p1 | exact Pull.p2 | exact Pull.p3 | exact Pull.p4 | exact Pull.p5 | exact Pull.p6 | exact Pull.p7 | exact Pull.p8 | exact Pull.p9) (.cons (by first | exact Pull.p0 | exact Pull.p1 | exact Pull.p2 | exact Pull.p3 | exact Pull.p4 | exact Pull.p5 | exact Pull.p6 | exact Pull.p7 | exact Pull.p8 | exact Pull.p9) (.cons (by first | exact Pull.p0 | exact Pull.p1 | exact Pull.p2 | exact Pull.p3 | exact Pull.p4 | exact Pull.p5 | exact Pull.p6 | exact Pull.p7 | exact Pull.p8 | exact Pull.p9) .nil)))
theorem seglog_Append_take0 (hG : GOK G) (c : Chp) (hc : c.wf) (g : Lg) (k : UInt8) (t : List UInt8) (r : Int) (hk : k ≠ 0) (ht : t.length ≤ 229) (i j : Nat) (hop : g.op = -1) (hi : i < c.segs) (hj : j < c.pages) (hnj : c.next i = (j : Int)) (hfree : c.at i j = none) (hpast : c.past.length < 1000000) (htk : takeOK g c r = true) (hti : i = minF (wearZ c) (freeL g c)) : Does Tryd.prog G 10 [ptr g.lb 0, u8 k, str t, i64 r] [chipR c, logRow g c.cb, logMap g] (fun v rs' => ∃ b pa pc, v = .tuple #[.agg [i64 i, i64 j].toArray, i64 0] ∧ rs' = [chipR (c.prog i j b (putS k g.seq t) pa pc), logRow (Lg.mk g.lb g.mb i (g.seq + 1) g.ret g.clock) c.cb, logMap g]) := by
  refine Does.of Tryd.func10 rfl Tryd.ntmps10 rfl (fun w0 => ?_)
  refine At.keep [(0, _), (1, _), (2, _), (3, _)] (.cons rfl (.cons rfl (.cons rfl (.cons rfl .nil)))) ?_
  refine At.seq ?_
  refine At.region ?_
  refine At.op rfl (op_alloc Tryd.zeroValue34 rfl rfl ?_)
  intro b8
  refine At.op rfl (op_assign rfl rfl ?_)
  refine At.nil ?_
  refine At.then_n ?_
  refine At.seq ?_
  refine At.region ?_
  refine At.op rfl (op_move rfl rfl ?_)
  refine At.op rfl (op_move rfl rfl ?_)
  refine At.op rfl (op_nilCheck rfl rfl ?_)
  refine At.op rfl (op_fieldAddr (o' := 2) rfl Tryd.underlying63 rfl Tryd.sizeOf61 rfl rfl ?_)
  refine At.op rfl (op_load rfl Tryd.isAgg61 (by first | with_reducible exact Pull.p0 | with_reducible exact Pull.p1 | with_reducible exact Pull.p2 | with_reducible exact Pull.p3 | with_reducible exact Pull.p4 | with_reducible exact Pull.p5 | with_reducible exact Pull.p6 | with_reducible exact Pull.p7 | with_reducible exact Pull.p8 | with_reducible exact Pull.p9) rfl rfl ?_)
  refine At.op rfl (op_move rfl rfl ?_)
  refine At.op rfl (op_build (v := frmV k g.seq t) rfl (fun w => run_build w _ _ _ (by kernel_rfl)) rfl ?_)
  refine At.op rfl (op_call1 rfl Tryd.call19 (frame_Put hG k g.seq t (by omega)) rfl ?_)
  rw [putV_ok hk ht]
  refine At.op rfl (op_move rfl rfl ?_)
  refine At.op rfl (op_extractL rfl .zero rfl ?_)
  refine At.op rfl (op_extractL rfl (.succ .zero) rfl ?_)
  refine At.op rfl (op_assign rfl rfl ?_)
  refine At.op rfl (op_assign rfl rfl ?_)
  refine At.nil ?_
  refine At.then_n ?_
  refine At.seq ?_
  refine At.seq ?_
  refine At.keep [(0, _), (3, _), (8, _), (9, _), (10, _), (11, _)] (.cons rfl (.cons rfl (.cons rfl (.cons rfl (.cons rfl (.cons rfl .nil)))))) ?_
  refine At.region ?_
  refine At.op rfl (op_move rfl rfl ?_)
  refine At.op rfl (op_bin rfl rfl (Bin.cast (v' := .bool false) b_ne (congrArg Value.bool (by rw [decide_eq_true rfl]; rfl))) rfl ?_)
  refine At.nil ?_
  refine At.then_n ?_
  refine At.cond_f rfl ?_
  refine At.skip ?_
  refine At.then_n ?_
  refine At.seq ?_
  refine At.seq ?_
  refine At.region ?_
  refine At.op rfl (op_move rfl rfl ?_)
  refine At.op rfl (op_nilCheck rfl rfl ?_)
  refine At.op rfl (op_fieldAddr (o' := 1) rfl Tryd.underlying63 rfl Tryd.sizeOf3 rfl rfl ?_)
  refine At.op rfl (op_load rfl Tryd.isAgg3 (by first | with_reducible exact Pull.p0 | with_reducible exact Pull.p1 | with_reducible exact Pull.p2 | with_reducible exact Pull.p3 | with_reducible exact Pull.p4 | with_reducible exact Pull.p5 | with_reducible exact Pull.p6 | with_reducible exact Pull.p7 | with_reducible exact Pull.p8 | with_reducible exact Pull.p9) rfl rfl ?_)
  refine At.op rfl (op_bin rfl rfl (Bin.cast (v' := .bool true) b_eq (congrArg Value.bool (decide_eq_true hop))) rfl ?_)
  refine At.op rfl (op_move rfl rfl ?_)
  refine At.opk (want := true) rfl rfl rfl rfl rfl ?_
  refine At.opk (want := true) rfl rfl rfl rfl rfl ?_
  refine At.opk (want := true) rfl rfl rfl rfl rfl ?_
  refine At.opk (want := true) rfl rfl rfl rfl rfl ?_
  refine At.opk (want := true) rfl rfl rfl rfl rfl ?_
  refine At.opk (want := true) rfl rfl rfl rfl rfl ?_
  refine At.opk (want := true) rfl rfl rfl rfl rfl ?_
  refine At.op rfl (op_pick_t rfl rfl rfl ?_)
  refine At.nil ?_
  refine At.then_n ?_
  refine At.cond_t rfl ?_
  refine At.seq ?_
  refine At.keep [(0, _), (3, _), (8, _), (9, _), (10, _)] (.cons rfl (.cons rfl (.cons rfl (.cons rfl (.cons rfl .nil))))) ?_
  refine At.region ?_
  refine At.op rfl (op_move rfl rfl ?_)
  refine At.op rfl (op_move rfl rfl ?_)
  refine At.op rfl (op_callR rfl Tryd.call21 (seglog_take_ok c hc g r htk) (.cons (by first | with_reducible exact Pull.p0 | with_reducible exact Pull.p1 | with_reducible exact Pull.p2 | with_reducible exact Pull.p3 | with_reducible exact Pull.p4 | with_reducible exact Pull.p5 | with_reducible exact Pull.p6 | with_reducible exact Pull.p7 | with_reducible exact Pull.p8 | with_reducible exact Pull.p9) (.cons (by first | with_reducible exact Pull.p0 | with_reducible exact Pull.p1 | with_reducible exact Pull.p2 | with_reducible exact Pull.p3 | with_reducible exact Pull.p4 | with_reducible exact Pull.p5 | with_reducible exact Pull.p6 | with_reducible exact Pull.p7 | with_reducible exact Pull.p8 | with_reducible exact Pull.p9) (.cons (by first | with_reducible exact Pull.p0 | with_reducible exact Pull.p1 | with_reducible exact Pull.p2 | with_reducible exact Pull.p3 | with_reducible exact Pull.p4 | with_reducible exact Pull.p5 | with_reducible exact Pull.p6 | with_reducible exact Pull.p7 | with_reducible exact Pull.p8 | with_reducible exact Pull.p9) .nil))) rfl ?_)
  refine At.app3 ?_
  show At _ _ [chipR c, row g.lb [ptr c.cb 0, i64 (takeL g c).op, u64 g.seq, .map (some g.mb)] 63 (0, 0), logMap g, row b8 [i64 0, i64 0] 34 (0, 0)] _
  rw [show (takeL g c).op = (i : Int) by rw [hti]; rfl]
  refine At.op rfl (op_assign rfl rfl ?_)
  refine At.nil ?_
  refine At.then_n ?_
  refine At.seq ?_
  refine At.region ?_
  refine At.op rfl (op_move rfl rfl ?_)
  refine At.op rfl (op_bin rfl rfl (Bin.cast (v' := .bool false) b_ne (congrArg Value.bool (by rw [decide_eq_true rfl]; rfl))) rfl ?_)
  refine At.nil ?_
  refine At.then_n ?_
  refine At.cond_f rfl ?_
  refine At.skip ?_
  refine At.then_n ?_
  refine At.seq ?_
  refine At.drawAl 11 [12] (fun ba => _) (fun ba => [_]) (fun ba => [ptr g.lb 0, ptr g.lb 0, ptr g.lb 1, i64 i, ptr g.lb 0, ptr g.lb 0, ptr g.lb 0, ptr g.lb 1, i64 i, i64 j, .agg [i64 i, i64 j].toArray, ptr ba 0, undef]) (by kernel_rfl) (by decide) (by kernel_rfl) rfl rfl rfl (by kernel_rfl) (fun _ => rfl) (fun _ => rfl) (by
        intro b b' j
        rcases j with _ | j
        · first | exact .inr (.inr rfl) | exact .inl rfl | exact .inr (.inl (by kernel_rfl))
        rcases j with _ | j
        · first | exact .inr (.inr rfl) | exact .inl rfl | exact .inr (.inl (by kernel_rfl))
        rcases j with _ | j
        · first | exact .inr (.inr rfl) | exact .inl rfl | exact .inr (.inl (by kernel_rfl))
        rcases j with _ | j
        · first | exact .inr (.inr rfl) | exact .inl rfl | exact .inr (.inl (by kernel_rfl))
        rcases j with _ | j
        · first | exact .inr (.inr rfl) | exact .inl rfl | exact .inr (.inl (by kernel_rfl))
        rcases j with _ | j
        · first | exact .inr (.inr rfl) | exact .inl rfl | exact .inr (.inl (by kernel_rfl))
        rcases j with _ | j
        · first | exact .inr (.inr rfl) | exact .inl rfl | exact .inr (.inl (by kernel_rfl))
        rcases j with _ | j
        · first | exact .inr (.inr rfl) | exact .inl rfl | exact .inr (.inl (by kernel_rfl))
        rcases j with _ | j
        · first | exact .inr (.inr rfl) | exact .inl rfl | exact .inr (.inl (by kernel_rfl))
        rcases j with _ | j
        · first | exact .inr (.inr rfl) | exact .inl rfl | exact .inr (.inl (by kernel_rfl))
        rcases j with _ | j
        · first | exact .inr (.inr rfl) | exact .inl rfl | exact .inr (.inl (by kernel_rfl))
        rcases j with _ | j
        · first | exact .inr (.inr rfl) | exact .inl rfl | exact .inr (.inl (by kernel_rfl))
        rcases j with _ | j
        · first | exact .inr (.inr rfl) | exact .inl rfl | exact .inr (.inl (by kernel_rfl))
        exact .inr (.inr rfl)) (fun g D K hD hK => op_alloc Tryd.zeroValue34 rfl rfl hK) (fun ba => 
    (.quiet 1 (by kernel_rfl) (by kernel_rfl) (.cons (Step.op rfl (fun D h1 h2 h3 K hK => op_move (mD_base rfl rfl) rfl hK)) (.cons (Step.op rfl (fun D h1 h2 h3 K hK => op_move (mD_base rfl rfl) rfl hK)) .nil))
    (.quiet 1 (by kernel_rfl) (by kernel_rfl) (.cons (Step.op rfl (fun D h1 h2 h3 K hK => op_nilCheck (mD_done 0 (by decide) (pre_at h2 0 rfl rfl) rfl rfl rfl) rfl hK)) (.cons (Step.op rfl (fun D h1 h2 h3 K hK => op_nilCheck (mD_done 0 (by decide) (pre_at h2 0 rfl rfl) rfl rfl rfl) rfl hK)) .nil))
    (.quiet 1 (by kernel_rfl) (by kernel_rfl) (.cons (Step.op rfl (fun D h1 h2 h3 K hK => op_fieldAddr (o' := 1) (mD_done 1 (by decide) (pre_at h2 0 rfl rfl) rfl rfl rfl) Tryd.underlying63 rfl Tryd.sizeOf3 rfl rfl hK)) (.cons (Step.op rfl (fun D h1 h2 h3 K hK => op_fieldAddr (o' := 1) (mD_done 1 (by decide) (pre_at h2 0 rfl rfl) rfl rfl rfl) Tryd.underlying63 rfl Tryd.sizeOf3 rfl rfl hK)) .nil))
    (.quiet 1 (by kernel_rfl) (by kernel_rfl) (.cons (Step.op rfl (fun D h1 h2 h3 K hK => op_load (mD_done 2 (by decide) (pre_at h2 0 rfl rfl) rfl rfl rfl) Tryd.isAgg3 (by first | with_reducible exact Pull.p0 | with_reducible exact Pull.p1 | with_reducible exact Pull.p2 | with_reducible exact Pull.p3 | with_reducible exact Pull.p4 | with_reducible exact Pull.p5 | with_reducible exact Pull.p6 | with_reducible exact Pull.p7 | with_reducible exact Pull.p8 | with_reducible exact Pull.p9) rfl rfl hK)) (.cons (Step.op rfl (fun D h1 h2 h3 K hK => op_load (mD_done 2 (by decide) (pre_at h2 0 rfl rfl) rfl rfl rfl) Tryd.isAgg3 (by first | with_reducible exact Pull.p0 | with_reducible exact Pull.p1 | with_reducible exact Pull.p2 | with_reducible exact Pull.p3 | with_reducible exact Pull.p4 | with_reducible exact Pull.p5 | with_reducible exact Pull.p6 | with_reducible exact Pull.p7 | with_reducible exact Pull.p8 | with_reducible exact Pull.p9) rfl rfl hK)) .nil))
    (.quiet 1 (by kernel_rfl) (by kernel_rfl) (.cons (Step.op rfl (fun D h1 h2 h3 K hK => op_move (mD_base rfl rfl) rfl hK)) (.cons (Step.op rfl (fun D h1 h2 h3 K hK => op_move (mD_base rfl rfl) rfl hK)) .nil))
    (.quiet 1 (by kernel_rfl) (by kernel_rfl) (.cons (Step.op rfl (fun D h1 h2 h3 K hK => op_move (mD_base rfl rfl) rfl hK)) (.cons (Step.op rfl (fun D h1 h2 h3 K hK => op_move (mD_base rfl rfl) rfl hK)) .nil))
    (.quiet 1 (by kernel_rfl) (by kernel_rfl) (.cons (Step.op rfl (fun D h1 h2 h3 K hK => op_nilCheck (mD_done 5 (by decide) (pre_at h2 0 rfl rfl) rfl rfl rfl) rfl hK)) (.cons (Step.op rfl (fun D h1 h2 h3 K hK => op_nilCheck (mD_done 5 (by decide) (pre_at h2 0 rfl rfl) rfl rfl rfl) rfl hK)) .nil))
    (.quiet 1 (by kernel_rfl) (by kernel_rfl) (.cons (Step.op rfl (fun D h1 h2 h3 K hK => op_fieldAddr (o' := 1) (mD_done 6 (by decide) (pre_at h2 0 rfl rfl) rfl rfl rfl) Tryd.underlying63 rfl Tryd.sizeOf3 rfl rfl hK)) (.cons (Step.op rfl (fun D h1 h2 h3 K hK => op_fieldAddr (o' := 1) (mD_done 6 (by decide) (pre_at h2 0 rfl rfl) rfl rfl rfl) Tryd.underlying63 rfl Tryd.sizeOf3 rfl rfl hK)) .nil))
    (.quiet 1 (by kernel_rfl) (by kernel_rfl) (.cons (Step.op rfl (fun D h1 h2 h3 K hK => op_load (mD_done 7 (by decide) (pre_at h2 0 rfl rfl) rfl rfl rfl) Tryd.isAgg3 (by first | with_reducible exact Pull.p0 | with_reducible exact Pull.p1 | with_reducible exact Pull.p2 | with_reducible exact Pull.p3 | with_reducible exact Pull.p4 | with_reducible exact Pull.p5 | with_reducible exact Pull.p6 | with_reducible exact Pull.p7 | with_reducible exact Pull.p8 | with_reducible exact Pull.p9) rfl rfl hK)) (.cons (Step.op rfl (fun D h1 h2 h3 K hK => op_load (mD_done 7 (by decide) (pre_at h2 0 rfl rfl) rfl rfl rfl) Tryd.isAgg3 (by first | with_reducible exact Pull.p0 | with_reducible exact Pull.p1 | with_reducible exact Pull.p2 | with_reducible exact Pull.p3 | with_reducible exact Pull.p4 | with_reducible exact Pull.p5 | with_reducible exact Pull.p6 | with_reducible exact Pull.p7 | with_reducible exact Pull.p8 | with_reducible exact Pull.p9) rfl rfl hK)) .nil))
    (.quiet 1 (by kernel_rfl) (by kernel_rfl) (.cons (Step.op rfl (fun D h1 h2 h3 K hK => op_callQ (evs_cons (mD_done 4 (by decide) (pre_at h2 0 rfl rfl) rfl rfl rfl) (evs_cons (mD_done 8 (by decide) (pre_at h2 1 rfl rfl) rfl rfl rfl) evs_nil)) Tryd.call20 (by have := seglog_next (G := G) c hc (Lg.mk g.lb g.mb i g.seq g.ret g.clock) i hi; rw [hnj] at this; exact this) (.cons (by first | exact Pull.p0 | exact Pull.p1 | exact Pull.p2 | exact Pull.p3 | exact Pull.p4 | exact Pull.p5 | exact Pull.p6 | exact Pull.p7 | exact Pull.p8 | exact Pull.p9) (.cons (by first | exact Pull.p0 | exact Pull.p1 | exact Pull.p2 | exact Pull.p3 | exact Pull.p4 | exact Pull.p5 | exact Pull.p6 | exact Pull.p7 | exact Pull.p8 | exact Pull.p9) .nil)) rfl hK)) (.cons (Step.op rfl (fun D h1 h2 h3 K hK => op_callQ (evs_cons (mD_done 4 (by decide) (pre_at h2 0 rfl rfl) rfl rfl rfl) (evs_cons (mD_done 8 (by decide) (pre_at h2 1 rfl rfl) rfl rfl rfl) evs_nil)) Tryd.call20 (by have := seglog_next (G := G) c hc (Lg.mk g.lb g.mb i g.seq g.ret g.clock) i hi; rw [hnj] at this; exact this) (.cons (by first | exact Pull.p0 | exact Pull.p1 | exact Pull.p2 | exact Pull.p3 | exact Pull.p4 | exact Pull.p5 | exact Pull.p6 | exact Pull.p7 | exact Pull.p8 | exact Pull.p9) (.cons (by first | exact Pull.p0 | exact Pull.p1 | exact Pull.p2 | exact Pull.p3 | exact Pull.p4 | exact Pull.p5 | exact Pull.p6 | exact Pull.p7 | exact Pull.p8 | exact Pull.p9) .nil)) rfl hK)) .nil))
    (.quiet 1 (by kernel_rfl) (by kernel_rfl) (.cons (Step.op rfl (fun D h1 h2 h3 K hK => op_build (v := .agg [i64 i, i64 j].toArray) (evp_cons (mD_done 3 (by decide) (pre_at h2 0 rfl rfl) rfl rfl rfl) (evp_cons (mD_done 9 (by decide) (pre_at h2 1 rfl rfl) rfl rfl rfl) evp_nil)) (fun w => run_build w _ _ _ (by kernel_rfl)) rfl hK)) (.cons (Step.op rfl (fun D h1 h2 h3 K hK => op_build (v := .agg [i64 i, i64 j].toArray) (evp_cons (mD_done 3 (by decide) (pre_at h2 0 rfl rfl) rfl rfl rfl) (evp_cons (mD_done 9 (by decide) (pre_at h2 1 rfl rfl) rfl rfl rfl) evp_nil)) (fun w => run_build w _ _ _ (by kernel_rfl)) rfl hK)) .nil))
    (.skip 
    (.eff 1 rfl (by kernel_rfl) (by kernel_rfl) rfl rfl (Last.op rfl (fun D h2 K hK => op_storeW (mD_done 11 (by decide) (pre_at h2 0 rfl rfl) rfl rfl rfl) (mD_done 10 (by decide) (pre_at h2 1 rfl rfl) rfl rfl rfl) Tryd.sizeOf34 (List.forall_mem_cons.2 ⟨rfl, (List.forall_mem_cons.2 ⟨rfl, (fun _ h => by cases h)⟩)⟩) (by first | with_reducible exact Pull.p0 | with_reducible exact Pull.p1 | with_reducible exact Pull.p2 | with_reducible exact Pull.p3 | with_reducible exact Pull.p4 | with_reducible exact Pull.p5 | with_reducible exact Pull.p6 | with_reducible exact Pull.p7 | with_reducible exact Pull.p8 | with_reducible exact Pull.p9) rfl rfl (by exact hK)))
    .nil)))))))))))))) (fun ba => ?_)
  show At _ _ [row ba [i64 i, i64 j] 34 (0, 0), chipR c, row g.lb [ptr c.cb 0, i64 i, u64 g.seq, .map (some g.mb)] 63 (0, 0), logMap g, row b8 [i64 0, i64 0] 34 (0, 0)] _
  refine At.keep [(0, _), (8, _), (9, _), (10, _), (13, _)] (.cons rfl (.cons rfl (.cons rfl (.cons rfl (.cons rfl .nil))))) ?_
  refine At.then_n ?_
  refine At.seq ?_
  refine At.region ?_
  refine At.op rfl (op_move rfl rfl ?_)
  refine At.op rfl (op_nilCheck rfl rfl ?_)
  refine At.op rfl (op_fieldAddr (o' := 2) rfl Tryd.underlying63 rfl Tryd.sizeOf61 rfl rfl ?_)
  refine At.op rfl (op_load rfl Tryd.isAgg61 (by first | with_reducible exact Pull.p0 | with_reducible exact Pull.p1 | with_reducible exact Pull.p2 | with_reducible exact Pull.p3 | with_reducible exact Pull.p4 | with_reducible exact Pull.p5 | with_reducible exact Pull.p6 | with_reducible exact Pull.p7 | with_reducible exact Pull.p8 | with_reducible exact Pull.p9) rfl rfl ?_)
  refine At.op rfl (op_bin rfl rfl (b64_add _ (1 : UInt64)) rfl ?_)
  refine At.op rfl (op_nilCheck rfl rfl ?_)
  refine At.op rfl (op_fieldAddr (o' := 2) rfl Tryd.underlying63 rfl Tryd.sizeOf61 rfl rfl ?_)
  refine At.op rfl (op_store rfl rfl Tryd.sizeOf61 rfl rfl (by first | with_reducible exact Pull.p0 | with_reducible exact Pull.p1 | with_reducible exact Pull.p2 | with_reducible exact Pull.p3 | with_reducible exact Pull.p4 | with_reducible exact Pull.p5 | with_reducible exact Pull.p6 | with_reducible exact Pull.p7 | with_reducible exact Pull.p8 | with_reducible exact Pull.p9) (.succ (.succ .zero)) rfl ?_)
  refine At.nil ?_
  refine At.then_n ?_
  refine At.seq ?_
  refine At.seq ?_
  refine At.drawX2 (γ := Nat × Option Addr × Nat) (0, none, 0) [9] (fun gh => [[chipR (c.prog i j gh.1 (putS k g.seq t) gh.2.1 gh.2.2), row g.lb [ptr c.cb 0, i64 i, u64 (g.seq + 1), .map (some g.mb)] 63 (0, 0), row ba [i64 i, i64 j] 34 (0, 0), logMap g, row b8 [i64 0, i64 0] 34 (0, 0)]]) (fun gh => [ptr g.lb 0, ptr g.lb 0, ptr g.lb 0, ptr c.cb 0, ptr ba 0, i64 i, ptr ba 1, i64 j, str (putS k g.seq t), i64 0, i64 0]) (by kernel_rfl) (by decide) (by kernel_rfl) (by decide) (by kernel_rfl) (fun _ => rfl) (fun gh => 
    (.quiet 1 (by kernel_rfl) (by kernel_rfl) (.cons (Step.op rfl (fun D h1 h2 h3 K hK => op_move (mD_base rfl rfl) rfl hK)) (.cons (Step.op rfl (fun D h1 h2 h3 K hK => op_move (mD_base rfl rfl) rfl hK)) .nil))
    (.quiet 1 (by kernel_rfl) (by kernel_rfl) (.cons (Step.op rfl (fun D h1 h2 h3 K hK => op_nilCheck (mD_done 0 (by decide) (pre_at h2 0 rfl rfl) rfl rfl rfl) rfl hK)) (.cons (Step.op rfl (fun D h1 h2 h3 K hK => op_nilCheck (mD_done 0 (by decide) (pre_at h2 0 rfl rfl) rfl rfl rfl) rfl hK)) .nil))
    (.quiet 1 (by kernel_rfl) (by kernel_rfl) (.cons (Step.op rfl (fun D h1 h2 h3 K hK => op_fieldAddr (o' := 0) (mD_done 1 (by decide) (pre_at h2 0 rfl rfl) rfl rfl rfl) Tryd.underlying63 rfl Tryd.sizeOf22 rfl rfl hK)) (.cons (Step.op rfl (fun D h1 h2 h3 K hK => op_fieldAddr (o' := 0) (mD_done 1 (by decide) (pre_at h2 0 rfl rfl) rfl rfl rfl) Tryd.underlying63 rfl Tryd.sizeOf22 rfl rfl hK)) .nil))
    (.quiet 0 (by kernel_rfl) (by kernel_rfl) (.cons (Step.op rfl (fun D h1 h2 h3 K hK => op_load (mD_done 2 (by decide) (pre_at h2 0 rfl rfl) rfl rfl rfl) Tryd.isAgg22 (by first | with_reducible exact Pull.p0 | with_reducible exact Pull.p1 | with_reducible exact Pull.p2 | with_reducible exact Pull.p3 | with_reducible exact Pull.p4 | with_reducible exact Pull.p5 | with_reducible exact Pull.p6 | with_reducible exact Pull.p7 | with_reducible exact Pull.p8 | with_reducible exact Pull.p9) rfl rfl hK)) .nil)
    (.quiet 1 (by kernel_rfl) (by kernel_rfl) (.cons (Step.op rfl (fun D h1 h2 h3 K hK => op_fieldAddr (o' := 0) (mD_base rfl rfl) Tryd.underlying34 rfl Tryd.sizeOf3 rfl rfl hK)) (.cons (Step.op rfl (fun D h1 h2 h3 K hK => op_fieldAddr (o' := 0) (mD_base rfl rfl) Tryd.underlying34 rfl Tryd.sizeOf3 rfl rfl hK)) .nil))
    (.quiet 0 (by kernel_rfl) (by kernel_rfl) (.cons (Step.op rfl (fun D h1 h2 h3 K hK => op_load (mD_done 4 (by decide) (pre_at h2 0 rfl rfl) rfl rfl rfl) Tryd.isAgg3 (by first | with_reducible exact Pull.p0 | with_reducible exact Pull.p1 | with_reducible exact Pull.p2 | with_reducible exact Pull.p3 | with_reducible exact Pull.p4 | with_reducible exact Pull.p5 | with_reducible exact Pull.p6 | with_reducible exact Pull.p7 | with_reducible exact Pull.p8 | with_reducible exact Pull.p9) rfl rfl hK)) .nil)
    (.quiet 1 (by kernel_rfl) (by kernel_rfl) (.cons (Step.op rfl (fun D h1 h2 h3 K hK => op_fieldAddr (o' := 1) (mD_base rfl rfl) Tryd.underlying34 rfl Tryd.sizeOf3 rfl rfl hK)) (.cons (Step.op rfl (fun D h1 h2 h3 K hK => op_fieldAddr (o' := 1) (mD_base rfl rfl) Tryd.underlying34 rfl Tryd.sizeOf3 rfl rfl hK)) .nil))
    (.quiet 0 (by kernel_rfl) (by kernel_rfl) (.cons (Step.op rfl (fun D h1 h2 h3 K hK => op_load (mD_done 6 (by decide) (pre_at h2 0 rfl rfl) rfl rfl rfl) Tryd.isAgg3 (by first | with_reducible exact Pull.p0 | with_reducible exact Pull.p1 | with_reducible exact Pull.p2 | with_reducible exact Pull.p3 | with_reducible exact Pull.p4 | with_reducible exact Pull.p5 | with_reducible exact Pull.p6 | with_reducible exact Pull.p7 | with_reducible exact Pull.p8 | with_reducible exact Pull.p9) rfl rfl hK)) .nil)
    (.quiet 0 (by kernel_rfl) (by kernel_rfl) (.cons (Step.op rfl (fun D h1 h2 h3 K hK => op_move (mD_base rfl rfl) rfl hK)) .nil)
    (.skip (by kernel_rfl) 
    (.quiet 1 (by kernel_rfl) (by kernel_rfl) (.cons (Step.op rfl (fun D h1 h2 h3 K hK => op_assign (mD_done 9 (by decide) (pre_at h2 0 rfl rfl) rfl rfl rfl) rfl hK)) (.cons (Step.op rfl (fun D h1 h2 h3 K hK => op_assign (mD_done 9 (by decide) (pre_at h2 0 rfl rfl) rfl rfl rfl) rfl hK)) .nil))
    .nil))))))))))))
    (.cons rfl rfl (fun gh => i64 0) (fun _ => rfl) (fun gh => _) (fun gh => [chipR (c.prog i j gh.1 (putS k g.seq t) gh.2.1 gh.2.2), row g.lb [ptr c.cb 0, i64 i, u64 (g.seq + 1), .map (some g.mb)] 63 (0, 0), row ba [i64 i, i64 j] 34 (0, 0), logMap g, row b8 [i64 0, i64 0] 34 (0, 0)]) (fun _ => rfl) (fun _ => rfl) (fun gh D h2 K hK => op_callF (evs_cons (mD_done 3 (by decide) (pre_at h2 0 rfl rfl) rfl rfl rfl) (evs_cons (mD_done 5 (by decide) (pre_at h2 1 rfl rfl) rfl rfl rfl) (evs_cons (mD_done 7 (by decide) (pre_at h2 2 rfl rfl) rfl rfl rfl) (evs_cons (mD_done 8 (by decide) (pre_at h2 3 rfl rfl) rfl rfl rfl) evs_nil)))) Tryd.call22 (by have := nand_Program (G := G) c hc i j (putS k g.seq t) hi hj (by rw [putS_length k g.seq t ht]; exact Nat.le_refl _) hpast hfree; rw [padS_put ht] at this; exact this) (.cons (by first | with_reducible exact Pull.p0 | with_reducible exact Pull.p1 | with_reducible exact Pull.p2 | with_reducible exact Pull.p3 | with_reducible exact Pull.p4 | with_reducible exact Pull.p5 | with_reducible exact Pull.p6 | with_reducible exact Pull.p7 | with_reducible exact Pull.p8 | with_reducible exact Pull.p9) .nil) rfl (fun v us hu => by obtain ⟨b, pa, pc, rfl, rfl⟩ := hu; exact hK (b, pa, pc) (by
          intro j
          rcases j with _ | j
          · first | exact .inl rfl | exact .inr (by kernel_rfl)
          rcases j with _ | j
          · first | exact .inl rfl | exact .inr (by kernel_rfl)
          rcases j with _ | j
          · first | exact .inl rfl | exact .inr (by kernel_rfl)
          rcases j with _ | j
          · first | exact .inl rfl | exact .inr (by kernel_rfl)
          rcases j with _ | j
          · first | exact .inl rfl | exact .inr (by kernel_rfl)
          rcases j with _ | j
          · first | exact .inl rfl | exact .inr (by kernel_rfl)
          rcases j with _ | j
          · first | exact .inl rfl | exact .inr (by kernel_rfl)
          rcases j with _ | j
          · first | exact .inl rfl | exact .inr (by kernel_rfl)
          rcases j with _ | j
          · first | exact .inl rfl | exact .inr (by kernel_rfl)
          rcases j with _ | j
          · first | exact .inl rfl | exact .inr (by kernel_rfl)
          rcases j with _ | j
          · first | exact .inl rfl | exact .inr (by kernel_rfl)
          exact .inl rfl)))
    .nil) ?_
  rintro ⟨sb, pa, pc⟩
  show At _ _ ([chipR (c.prog i j sb (putS k g.seq t) pa pc), row g.lb [ptr c.cb 0, i64 i, u64 (g.seq + 1), .map (some g.mb)] 63 (0, 0), row ba [i64 i, i64 j] 34 (0, 0), logMap g, row b8 [i64 0, i64 0] 34 (0, 0)]) _
  refine At.keep [(8, _), (9, _), (13, _), (14, _)] (.cons rfl (.cons rfl (.cons rfl (.cons rfl .nil)))) ?_
  refine At.then_n ?_
  refine At.seq ?_
  refine At.region ?_
  refine At.op rfl (op_move rfl rfl ?_)
  refine At.op rfl (op_bin rfl rfl (Bin.cast (v' := .bool false) b_ne (congrArg Value.bool (by rw [decide_eq_true rfl]; rfl))) rfl ?_)
  refine At.nil ?_
  refine At.then_n ?_
  refine At.cond_f rfl ?_
  refine At.skip ?_
  refine At.then_n ?_
  refine At.seq ?_
  refine At.region ?_
  refine At.op rfl (op_loadW rfl Tryd.isAgg34 Tryd.sizeOf34 (by first | with_reducible exact Pull.p0 | with_reducible exact Pull.p1 | with_reducible exact Pull.p2 | with_reducible exact Pull.p3 | with_reducible exact Pull.p4 | with_reducible exact Pull.p5 | with_reducible exact Pull.p6 | with_reducible exact Pull.p7 | with_reducible exact Pull.p8 | with_reducible exact Pull.p9) rfl rfl ?_)
  refine At.op rfl (op_storeW rfl rfl Tryd.sizeOf34 (by repeat' (first | refine List.forall_mem_cons.2 ⟨rfl, ?_⟩ | exact (fun _ h => by cases h))) (by first | with_reducible exact Pull.p0 | with_reducible exact Pull.p1 | with_reducible exact Pull.p2 | with_reducible exact Pull.p3 | with_reducible exact Pull.p4 | with_reducible exact Pull.p5 | with_reducible exact Pull.p6 | with_reducible exact Pull.p7 | with_reducible exact Pull.p8 | with_reducible exact Pull.p9) rfl rfl ?_)
  refine At.op rfl (op_assign rfl rfl ?_)
  refine At.nil ?_
  refine At.then_n ?_
  refine At.ret ?_
  exact At.fin (l := [.cell 8 34, .tmp 9]) _ (.inl rfl) rfl rfl (.agg rfl (by first | with_reducible exact Pull.p0 | with_reducible exact Pull.p1 | with_reducible exact Pull.p2 | with_reducible exact Pull.p3 | with_reducible exact Pull.p4 | with_reducible exact Pull.p5 | with_reducible exact Pull.p6 | with_reducible exact Pull.p7 | with_reducible exact Pull.p8 | with_reducible exact Pull.p9) Tryd.isAgg34 Tryd.sizeOf34 rfl (.tmp rfl .nil)) rfl ⟨sb, pa, pc, rfl, rfl⟩ (.cons (by first | exact Pull.p0 | exact Pull.p1 | exact Pull.p2 | exact Pull.p3 | exact Pull.p4 | exact Pull.p5 | exact Pull.p6 | exact Pull.p7 | exact Pull.p8 | exact Pull.p9) (.cons (by first | exact Pull.p0 | exact Pull.p1 | exact Pull.p2 | exact Pull.p3 | exact Pull.p4 | exact Pull.p5 | exact Pull.p6 | exact Pull.p7 | exact Pull.p8 | exact Pull.p9) (.cons (by first | exact Pull.p0 | exact Pull.p1 | exact Pull.p2 | exact Pull.p3 | exact Pull.p4 | exact Pull.p5 | exact Pull.p6 | exact Pull.p7 | exact Pull.p8 | exact Pull.p9) .nil)))
theorem seglog_Append_take1 (hG : GOK G) (c : Chp) (hc : c.wf) (g : Lg) (k : UInt8) (t : List UInt8) (r : Int) (hk : k ≠ 0) (ht : t.length ≤ 229) (i j : Nat) (i0 : Nat) (hop : g.op = i0) (hi0 : i0 < c.segs) (hn0 : c.next i0 = -1) (hi : i < c.segs) (hj : j < c.pages) (hnj : c.next i = (j : Int)) (hfree : c.at i j = none) (hpast : c.past.length < 1000000) (htk : takeOK g c r = true) (hti : i = minF (wearZ c) (freeL g c)) : Does Tryd.prog G 10 [ptr g.lb 0, u8 k, str t, i64 r] [chipR c, logRow g c.cb, logMap g] (fun v rs' => ∃ b pa pc, v = .tuple #[.agg [i64 i, i64 j].toArray, i64 0] ∧ rs' = [chipR (c.prog i j b (putS k g.seq t) pa pc), logRow (Lg.mk g.lb g.mb i (g.seq + 1) g.ret g.clock) c.cb, logMap g]) := by
  refine Does.of Tryd.func10 rfl Tryd.ntmps10 rfl (fun w0 => ?_)
  refine At.keep [(0, _), (1, _), (2, _), (3, _)] (.cons rfl (.cons rfl (.cons rfl (.cons rfl .nil)))) ?_
  refine At.seq ?_
  refine At.region ?_
  refine At.op rfl (op_alloc Tryd.zeroValue34 rfl rfl ?_)
  intro b8
  refine At.op rfl (op_assign rfl rfl ?_)
  refine At.nil ?_
  refine At.then_n ?_
  refine At.seq ?_
  refine At.region ?_
  refine At.op rfl (op_move rfl rfl ?_)
  refine At.op rfl (op_move rfl rfl ?_)
  refine At.op rfl (op_nilCheck rfl rfl ?_)
  refine At.op rfl (op_fieldAddr (o' := 2) rfl Tryd.underlying63 rfl Tryd.sizeOf61 rfl rfl ?_)
  refine At.op rfl (op_load rfl Tryd.isAgg61 (by first | with_reducible exact Pull.p0 | with_reducible exact Pull.p1 | with_reducible exact Pull.p2 | with_reducible exact Pull.p3 | with_reducible exact Pull.p4 | with_reducible exact Pull.p5 | with_reducible exact Pull.p6 | with_reducible exact Pull.p7 | with_reducible exact Pull.p8 | with_reducible exact Pull.p9) rfl rfl ?_)
  refine At.op rfl (op_move rfl rfl ?_)
  refine At.op rfl (op_build (v := frmV k g.seq t) rfl (fun w => run_build w _ _ _ (by kernel_rfl)) rfl ?_)
  refine At.op rfl (op_call1 rfl Tryd.call19 (frame_Put hG k g.seq t (by omega)) rfl ?_)
  rw [putV_ok hk ht]
  refine At.op rfl (op_move rfl rfl ?_)
  refine At.op rfl (op_extractL rfl .zero rfl ?_)
  refine At.op rfl (op_extractL rfl (.succ .zero) rfl ?_)
  refine At.op rfl (op_assign rfl rfl ?_)
  refine At.op rfl (op_assign rfl rfl ?_)
  refine At.nil ?_
  refine At.then_n ?_
  refine At.seq ?_
  refine At.seq ?_
  refine At.keep [(0, _), (3, _), (8, _), (9, _), (10, _), (11, _)] (.cons rfl (.cons rfl (.cons rfl (.cons rfl (.cons rfl (.cons rfl .nil)))))) ?_
  refine At.region ?_
  refine At.op rfl (op_move rfl rfl ?_)
  refine At.op rfl (op_bin rfl rfl (Bin.cast (v' := .bool false) b_ne (congrArg Value.bool (by rw [decide_eq_true rfl]; rfl))) rfl ?_)
  refine At.nil ?_
  refine At.then_n ?_
  refine At.cond_f rfl ?_
  refine At.skip ?_
  refine At.then_n ?_
  refine At.seq ?_
  refine At.seq ?_
  refine At.region ?_
  refine At.op rfl (op_move rfl rfl ?_)
  refine At.op rfl (op_nilCheck rfl rfl ?_)
  refine At.op rfl (op_fieldAddr (o' := 1) rfl Tryd.underlying63 rfl Tryd.sizeOf3 rfl rfl ?_)
  refine At.op rfl (op_load rfl Tryd.isAgg3 (by first | with_reducible exact Pull.p0 | with_reducible exact Pull.p1 | with_reducible exact Pull.p2 | with_reducible exact Pull.p3 | with_reducible exact Pull.p4 | with_reducible exact Pull.p5 | with_reducible exact Pull.p6 | with_reducible exact Pull.p7 | with_reducible exact Pull.p8 | with_reducible exact Pull.p9) rfl rfl ?_)
  refine At.op rfl (op_bin rfl rfl (Bin.cast (v' := .bool false) b_eq (congrArg Value.bool (decide_eq_false (by omega)))) rfl ?_)
  refine At.op rfl (op_move rfl rfl ?_)
  refine At.opg rfl rfl rfl (op_move rfl rfl ?_)
  refine At.opg rfl rfl rfl (op_move rfl rfl ?_)
  refine At.opg rfl rfl rfl (op_nilCheck rfl rfl ?_)
  refine At.opg rfl rfl rfl (op_fieldAddr (o' := 1) rfl Tryd.underlying63 rfl Tryd.sizeOf3 rfl rfl ?_)
  refine At.opg rfl rfl rfl (op_load rfl Tryd.isAgg3 (by first | with_reducible exact Pull.p0 | with_reducible exact Pull.p1 | with_reducible exact Pull.p2 | with_reducible exact Pull.p3 | with_reducible exact Pull.p4 | with_reducible exact Pull.p5 | with_reducible exact Pull.p6 | with_reducible exact Pull.p7 | with_reducible exact Pull.p8 | with_reducible exact Pull.p9) (show (ptr c.cb 0 :: g.tl)[1]? = some (i64 i0) by rw [← hop]; rfl) rfl ?_)
  refine At.opg rfl rfl rfl (op_callQ rfl Tryd.call20 (by have := seglog_next (G := G) c hc g i0 hi0; rw [hn0] at this; exact this) (.cons (by first | with_reducible exact Pull.p0 | with_reducible exact Pull.p1 | with_reducible exact Pull.p2 | with_reducible exact Pull.p3 | with_reducible exact Pull.p4 | with_reducible exact Pull.p5 | with_reducible exact Pull.p6 | with_reducible exact Pull.p7 | with_reducible exact Pull.p8 | with_reducible exact Pull.p9) (.cons (by first | with_reducible exact Pull.p0 | with_reducible exact Pull.p1 | with_reducible exact Pull.p2 | with_reducible exact Pull.p3 | with_reducible exact Pull.p4 | with_reducible exact Pull.p5 | with_reducible exact Pull.p6 | with_reducible exact Pull.p7 | with_reducible exact Pull.p8 | with_reducible exact Pull.p9) .nil)) rfl ?_)
  refine At.opg rfl rfl rfl (op_bin rfl rfl (Bin.cast (v' := .bool true) b_eq (congrArg Value.bool (decide_eq_true rfl))) rfl ?_)
  refine At.op rfl (op_pick_f rfl rfl rfl ?_)
  refine At.nil ?_
  refine At.then_n ?_
  refine At.cond_t rfl ?_
  refine At.seq ?_
  refine At.keep [(0, _), (3, _), (8, _), (9, _), (10, _)] (.cons rfl (.cons rfl (.cons rfl (.cons rfl (.cons rfl .nil))))) ?_
  refine At.region ?_
  refine At.op rfl (op_move rfl rfl ?_)
  refine At.op rfl (op_move rfl rfl ?_)
  refine At.op rfl (op_callR rfl Tryd.call21 (seglog_take_ok c hc g r htk) (.cons (by first | with_reducible exact Pull.p0 | with_reducible exact Pull.p1 | with_reducible exact Pull.p2 | with_reducible exact Pull.p3 | with_reducible exact Pull.p4 | with_reducible exact Pull.p5 | with_reducible exact Pull.p6 | with_reducible exact Pull.p7 | with_reducible exact Pull.p8 | with_reducible exact Pull.p9) (.cons (by first | with_reducible exact Pull.p0 | with_reducible exact Pull.p1 | with_reducible exact Pull.p2 | with_reducible exact Pull.p3 | with_reducible exact Pull.p4 | with_reducible exact Pull.p5 | with_reducible exact Pull.p6 | with_reducible exact Pull.p7 | with_reducible exact Pull.p8 | with_reducible exact Pull.p9) (.cons (by first | with_reducible exact Pull.p0 | with_reducible exact Pull.p1 | with_reducible exact Pull.p2 | with_reducible exact Pull.p3 | with_reducible exact Pull.p4 | with_reducible exact Pull.p5 | with_reducible exact Pull.p6 | with_reducible exact Pull.p7 | with_reducible exact Pull.p8 | with_reducible exact Pull.p9) .nil))) rfl ?_)
  refine At.app3 ?_
  show At _ _ [chipR c, row g.lb [ptr c.cb 0, i64 (takeL g c).op, u64 g.seq, .map (some g.mb)] 63 (0, 0), logMap g, row b8 [i64 0, i64 0] 34 (0, 0)] _
  rw [show (takeL g c).op = (i : Int) by rw [hti]; rfl]
  refine At.op rfl (op_assign rfl rfl ?_)
  refine At.nil ?_
  refine At.then_n ?_
  refine At.seq ?_
  refine At.region ?_
  refine At.op rfl (op_move rfl rfl ?_)
  refine At.op rfl (op_bin rfl rfl (Bin.cast (v' := .bool false) b_ne (congrArg Value.bool (by rw [decide_eq_true rfl]; rfl))) rfl ?_)
  refine At.nil ?_
  refine At.then_n ?_
  refine At.cond_f rfl ?_
  refine At.skip ?_
  refine At.then_n ?_
  refine At.seq ?_
  refine At.drawAl 11 [12] (fun ba => _) (fun ba => [_]) (fun ba => [ptr g.lb 0, ptr g.lb 0, ptr g.lb 1, i64 i, ptr g.lb 0, ptr g.lb 0, ptr g.lb 0, ptr g.lb 1, i64 i, i64 j, .agg [i64 i, i64 j].toArray, ptr ba 0, undef]) (by kernel_rfl) (by decide) (by kernel_rfl) rfl rfl rfl (by kernel_rfl) (fun _ => rfl) (fun _ => rfl) (by
        intro b b' j
        rcases j with _ | j
        · first | exact .inr (.inr rfl) | exact .inl rfl | exact .inr (.inl (by kernel_rfl))
        rcases j with _ | j
        · first | exact .inr (.inr rfl) | exact .inl rfl | exact .inr (.inl (by kernel_rfl))
        rcases j with _ | j
        · first | exact .inr (.inr rfl) | exact .inl rfl | exact .inr (.inl (by kernel_rfl))
        rcases j with _ | j
        · first | exact .inr (.inr rfl) | exact .inl rfl | exact .inr (.inl (by kernel_rfl))
        rcases j with _ | j
        · first | exact .inr (.inr rfl) | exact .inl rfl | exact .inr (.inl (by kernel_rfl))
        rcases j with _ | j
        · first | exact .inr (.inr rfl) | exact .inl rfl | exact .inr (.inl (by kernel_rfl))
        rcases j with _ | j
        · first | exact .inr (.inr rfl) | exact .inl rfl | exact .inr (.inl (by kernel_rfl))
        rcases j with _ | j
        · first | exact .inr (.inr rfl) | exact .inl rfl | exact .inr (.inl (by kernel_rfl))
        rcases j with _ | j
        · first | exact .inr (.inr rfl) | exact .inl rfl | exact .inr (.inl (by kernel_rfl))
        rcases j with _ | j
        · first | exact .inr (.inr rfl) | exact .inl rfl | exact .inr (.inl (by kernel_rfl))
        rcases j with _ | j
        · first | exact .inr (.inr rfl) | exact .inl rfl | exact .inr (.inl (by kernel_rfl))
        rcases j with _ | j
        · first | exact .inr (.inr rfl) | exact .inl rfl | exact .inr (.inl (by kernel_rfl))
        rcases j with _ | j
        · first | exact .inr (.inr rfl) | exact .inl rfl | exact .inr (.inl (by kernel_rfl))
        exact .inr (.inr rfl)) (fun g D K hD hK => op_alloc Tryd.zeroValue34 rfl rfl hK) (fun ba => 
    (.quiet 1 (by kernel_rfl) (by kernel_rfl) (.cons (Step.op rfl (fun D h1 h2 h3 K hK => op_move (mD_base rfl rfl) rfl hK)) (.cons (Step.op rfl (fun D h1 h2 h3 K hK => op_move (mD_base rfl rfl) rfl hK)) .nil))
    (.quiet 1 (by kernel_rfl) (by kernel_rfl) (.cons (Step.op rfl (fun D h1 h2 h3 K hK => op_nilCheck (mD_done 0 (by decide) (pre_at h2 0 rfl rfl) rfl rfl rfl) rfl hK)) (.cons (Step.op rfl (fun D h1 h2 h3 K hK => op_nilCheck (mD_done 0 (by decide) (pre_at h2 0 rfl rfl) rfl rfl rfl) rfl hK)) .nil))
    (.quiet 1 (by kernel_rfl) (by kernel_rfl) (.cons (Step.op rfl (fun D h1 h2 h3 K hK => op_fieldAddr (o' := 1) (mD_done 1 (by decide) (pre_at h2 0 rfl rfl) rfl rfl rfl) Tryd.underlying63 rfl Tryd.sizeOf3 rfl rfl hK)) (.cons (Step.op rfl (fun D h1 h2 h3 K hK => op_fieldAddr (o' := 1) (mD_done 1 (by decide) (pre_at h2 0 rfl rfl) rfl rfl rfl) Tryd.underlying63 rfl Tryd.sizeOf3 rfl rfl hK)) .nil))
    (.quiet 1 (by kernel_rfl) (by kernel_rfl) (.cons (Step.op rfl (fun D h1 h2 h3 K hK => op_load (mD_done 2 (by decide) (pre_at h2 0 rfl rfl) rfl rfl rfl) Tryd.isAgg3 (by first | with_reducible exact Pull.p0 | with_reducible exact Pull.p1 | with_reducible exact Pull.p2 | with_reducible exact Pull.p3 | with_reducible exact Pull.p4 | with_reducible exact Pull.p5 | with_reducible exact Pull.p6 | with_reducible exact Pull.p7 | with_reducible exact Pull.p8 | with_reducible exact Pull.p9) rfl rfl hK)) (.cons (Step.op rfl (fun D h1 h2 h3 K hK => op_load (mD_done 2 (by decide) (pre_at h2 0 rfl rfl) rfl rfl rfl) Tryd.isAgg3 (by first | with_reducible exact Pull.p0 | with_reducible exact Pull.p1 | with_reducible exact Pull.p2 | with_reducible exact Pull.p3 | with_reducible exact Pull.p4 | with_reducible exact Pull.p5 | with_reducible exact Pull.p6 | with_reducible exact Pull.p7 | with_reducible exact Pull.p8 | with_reducible exact Pull.p9) rfl rfl hK)) .nil))
    (.quiet 1 (by kernel_rfl) (by kernel_rfl) (.cons (Step.op rfl (fun D h1 h2 h3 K hK => op_move (mD_base rfl rfl) rfl hK)) (.cons (Step.op rfl (fun D h1 h2 h3 K hK => op_move (mD_base rfl rfl) rfl hK)) .nil))
    (.quiet 1 (by kernel_rfl) (by kernel_rfl) (.cons (Step.op rfl (fun D h1 h2 h3 K hK => op_move (mD_base rfl rfl) rfl hK)) (.cons (Step.op rfl (fun D h1 h2 h3 K hK => op_move (mD_base rfl rfl) rfl hK)) .nil))
    (.quiet 1 (by kernel_rfl) (by kernel_rfl) (.cons (Step.op rfl (fun D h1 h2 h3 K hK => op_nilCheck (mD_done 5 (by decide) (pre_at h2 0 rfl rfl) rfl rfl rfl) rfl hK)) (.cons (Step.op rfl (fun D h1 h2 h3 K hK => op_nilCheck (mD_done 5 (by decide) (pre_at h2 0 rfl rfl) rfl rfl rfl) rfl hK)) .nil))
    (.quiet 1 (by kernel_rfl) (by kernel_rfl) (.cons (Step.op rfl (fun D h1 h2 h3 K hK => op_fieldAddr (o' := 1) (mD_done 6 (by decide) (pre_at h2 0 rfl rfl) rfl rfl rfl) Tryd.underlying63 rfl Tryd.sizeOf3 rfl rfl hK)) (.cons (Step.op rfl (fun D h1 h2 h3 K hK => op_fieldAddr (o' := 1) (mD_done 6 (by decide) (pre_at h2 0 rfl rfl) rfl rfl rfl) Tryd.underlying63 rfl Tryd.sizeOf3 rfl rfl hK)) .nil))
    (.quiet 1 (by kernel_rfl) (by kernel_rfl) (.cons (Step.op rfl (fun D h1 h2 h3 K hK => op_load (mD_done 7 (by decide) (pre_at h2 0 rfl rfl) rfl rfl rfl) Tryd.isAgg3 (by first | with_reducible exact Pull.p0 | with_reducible exact Pull.p1 | with_reducible exact Pull.p2 | with_reducible exact Pull.p3 | with_reducible exact Pull.p4 | with_reducible exact Pull.p5 | with_reducible exact Pull.p6 | with_reducible exact Pull.p7 | with_reducible exact Pull.p8 | with_reducible exact Pull.p9) rfl rfl hK)) (.cons (Step.op rfl (fun D h1 h2 h3 K hK => op_load (mD_done 7 (by decide) (pre_at h2 0 rfl rfl) rfl rfl rfl) Tryd.isAgg3 (by first | with_reducible exact Pull.p0 | with_reducible exact Pull.p1 | with_reducible exact Pull.p2 | with_reducible exact Pull.p3 | with_reducible exact Pull.p4 | with_reducible exact Pull.p5 | with_reducible exact Pull.p6 | with_reducible exact Pull.p7 | with_reducible exact Pull.p8 | with_reducible exact Pull.p9) rfl rfl hK)) .nil))
    (.quiet 1 (by kernel_rfl) (by kernel_rfl) (.cons (Step.op rfl (fun D h1 h2 h3 K hK => op_callQ (evs_cons (mD_done 4 (by decide) (pre_at h2 0 rfl rfl) rfl rfl rfl) (evs_cons (mD_done 8 (by decide) (pre_at h2 1 rfl rfl) rfl rfl rfl) evs_nil)) Tryd.call20 (by have := seglog_next (G := G) c hc (Lg.mk g.lb g.mb i g.seq g.ret g.clock) i hi; rw [hnj] at this; exact this) (.cons (by first | exact Pull.p0 | exact Pull.p1 | exact Pull.p2 | exact Pull.p3 | exact Pull.p4 | exact Pull.p5 | exact Pull.p6 | exact Pull.p7 | exact Pull.p8 | exact Pull.p9) (.cons (by first | exact Pull.p0 | exact Pull.p1 | exact Pull.p2 | exact Pull.p3 | exact Pull.p4 | exact Pull.p5 | exact Pull.p6 | exact Pull.p7 | exact Pull.p8 | exact Pull.p9) .nil)) rfl hK)) (.cons (Step.op rfl (fun D h1 h2 h3 K hK => op_callQ (evs_cons (mD_done 4 (by decide) (pre_at h2 0 rfl rfl) rfl rfl rfl) (evs_cons (mD_done 8 (by decide) (pre_at h2 1 rfl rfl) rfl rfl rfl) evs_nil)) Tryd.call20 (by have := seglog_next (G := G) c hc (Lg.mk g.lb g.mb i g.seq g.ret g.clock) i hi; rw [hnj] at this; exact this) (.cons (by first | exact Pull.p0 | exact Pull.p1 | exact Pull.p2 | exact Pull.p3 | exact Pull.p4 | exact Pull.p5 | exact Pull.p6 | exact Pull.p7 | exact Pull.p8 | exact Pull.p9) (.cons (by first | exact Pull.p0 | exact Pull.p1 | exact Pull.p2 | exact Pull.p3 | exact Pull.p4 | exact Pull.p5 | exact Pull.p6 | exact Pull.p7 | exact Pull.p8 | exact Pull.p9) .nil)) rfl hK)) .nil))
    (.quiet 1 (by kernel_rfl) (by kernel_rfl) (.cons (Step.op rfl (fun D h1 h2 h3 K hK => op_build (v := .agg [i64 i, i64 j].toArray) (evp_cons (mD_done 3 (by decide) (pre_at h2 0 rfl rfl) rfl rfl rfl) (evp_cons (mD_done 9 (by decide) (pre_at h2 1 rfl rfl) rfl rfl rfl) evp_nil)) (fun w => run_build w _ _ _ (by kernel_rfl)) rfl hK)) (.cons (Step.op rfl (fun D h1 h2 h3 K hK => op_build (v := .agg [i64 i, i64 j].toArray) (evp_cons (mD_done 3 (by decide) (pre_at h2 0 rfl rfl) rfl rfl rfl) (evp_cons (mD_done 9 (by decide) (pre_at h2 1 rfl rfl) rfl rfl rfl) evp_nil)) (fun w => run_build w _ _ _ (by kernel_rfl)) rfl hK)) .nil))
    (.skip 
    (.eff 1 rfl (by kernel_rfl) (by kernel_rfl) rfl rfl (Last.op rfl (fun D h2 K hK => op_storeW (mD_done 11 (by decide) (pre_at h2 0 rfl rfl) rfl rfl rfl) (mD_done 10 (by decide) (pre_at h2 1 rfl rfl) rfl rfl rfl) Tryd.sizeOf34 (List.forall_mem_cons.2 ⟨rfl, (List.forall_mem_cons.2 ⟨rfl, (fun _ h => by cases h)⟩)⟩) (by first | with_reducible exact Pull.p0 | with_reducible exact Pull.p1 | with_reducible exact Pull.p2 | with_reducible exact Pull.p3 | with_reducible exact Pull.p4 | with_reducible exact Pull.p5 | with_reducible exact Pull.p6 | with_reducible exact Pull.p7 | with_reducible exact Pull.p8 | with_reducible exact Pull.p9) rfl rfl (by exact hK)))
    .nil)))))))))))))) (fun ba => ?_)
  show At _ _ [row ba [i64 i, i64 j] 34 (0, 0), chipR c, row g.lb [ptr c.cb 0, i64 i, u64 g.seq, .map (some g.mb)] 63 (0, 0), logMap g, row b8 [i64 0, i64 0] 34 (0, 0)] _
  refine At.keep [(0, _), (8, _), (9, _), (10, _), (13, _)] (.cons rfl (.cons rfl (.cons rfl (.cons rfl (.cons rfl .nil))))) ?_
  refine At.then_n ?_
  refine At.seq ?_
  refine At.region ?_
  refine At.op rfl (op_move rfl rfl ?_)
  refine At.op rfl (op_nilCheck rfl rfl ?_)
  refine At.op rfl (op_fieldAddr (o' := 2) rfl Tryd.underlying63 rfl Tryd.sizeOf61 rfl rfl ?_)
  refine At.op rfl (op_load rfl Tryd.isAgg61 (by first | with_reducible exact Pull.p0 | with_reducible exact Pull.p1 | with_reducible exact Pull.p2 | with_reducible exact Pull.p3 | with_reducible exact Pull.p4 | with_reducible exact Pull.p5 | with_reducible exact Pull.p6 | with_reducible exact Pull.p7 | with_reducible exact Pull.p8 | with_reducible exact Pull.p9) rfl rfl ?_)
  refine At.op rfl (op_bin rfl rfl (b64_add _ (1 : UInt64)) rfl ?_)
  refine At.op rfl (op_nilCheck rfl rfl ?_)
  refine At.op rfl (op_fieldAddr (o' := 2) rfl Tryd.underlying63 rfl Tryd.sizeOf61 rfl rfl ?_)
  refine At.op rfl (op_store rfl rfl Tryd.sizeOf61 rfl rfl (by first | with_reducible exact Pull.p0 | with_reducible exact Pull.p1 | with_reducible exact Pull.p2 | with_reducible exact Pull.p3 | with_reducible exact Pull.p4 | with_reducible exact Pull.p5 | with_reducible exact Pull.p6 | with_reducible exact Pull.p7 | with_reducible exact Pull.p8 | with_reducible exact Pull.p9) (.succ (.succ .zero)) rfl ?_)
  refine At.nil ?_
  refine At.then_n ?_
  refine At.seq ?_
  refine At.seq ?_
  refine At.drawX2 (γ := Nat × Option Addr × Nat) (0, none, 0) [9] (fun gh => [[chipR (c.prog i j gh.1 (putS k g.seq t) gh.2.1 gh.2.2), row g.lb [ptr c.cb 0, i64 i, u64 (g.seq + 1), .map (some g.mb)] 63 (0, 0), row ba [i64 i, i64 j] 34 (0, 0), logMap g, row b8 [i64 0, i64 0] 34 (0, 0)]]) (fun gh => [ptr g.lb 0, ptr g.lb 0, ptr g.lb 0, ptr c.cb 0, ptr ba 0, i64 i, ptr ba 1, i64 j, str (putS k g.seq t), i64 0, i64 0]) (by kernel_rfl) (by decide) (by kernel_rfl) (by decide) (by kernel_rfl) (fun _ => rfl) (fun gh => 
    (.quiet 1 (by kernel_rfl) (by kernel_rfl) (.cons (Step.op rfl (fun D h1 h2 h3 K hK => op_move (mD_base rfl rfl) rfl hK)) (.cons (Step.op rfl (fun D h1 h2 h3 K hK => op_move (mD_base rfl rfl) rfl hK)) .nil))
    (.quiet 1 (by kernel_rfl) (by kernel_rfl) (.cons (Step.op rfl (fun D h1 h2 h3 K hK => op_nilCheck (mD_done 0 (by decide) (pre_at h2 0 rfl rfl) rfl rfl rfl) rfl hK)) (.cons (Step.op rfl (fun D h1 h2 h3 K hK => op_nilCheck (mD_done 0 (by decide) (pre_at h2 0 rfl rfl) rfl rfl rfl) rfl hK)) .nil))
    (.quiet 1 (by kernel_rfl) (by kernel_rfl) (.cons (Step.op rfl (fun D h1 h2 h3 K hK => op_fieldAddr (o' := 0) (mD_done 1 (by decide) (pre_at h2 0 rfl rfl) rfl rfl rfl) Tryd.underlying63 rfl Tryd.sizeOf22 rfl rfl hK)) (.cons (Step.op rfl (fun D h1 h2 h3 K hK => op_fieldAddr (o' := 0) (mD_done 1 (by decide) (pre_at h2 0 rfl rfl) rfl rfl rfl) Tryd.underlying63 rfl Tryd.sizeOf22 rfl rfl hK)) .nil))
    (.quiet 0 (by kernel_rfl) (by kernel_rfl) (.cons (Step.op rfl (fun D h1 h2 h3 K hK => op_load (mD_done 2 (by decide) (pre_at h2 0 rfl rfl) rfl rfl rfl) Tryd.isAgg22 (by first | with_reducible exact Pull.p0 | with_reducible exact Pull.p1 | with_reducible exact Pull.p2 | with_reducible exact Pull.p3 | with_reducible exact Pull.p4 | with_reducible exact Pull.p5 | with_reducible exact Pull.p6 | with_reducible exact Pull.p7 | with_reducible exact Pull.p8 | with_reducible exact Pull.p9) rfl rfl hK)) .nil)
    (.quiet 1 (by kernel_rfl) (by kernel_rfl) (.cons (Step.op rfl (fun D h1 h2 h3 K hK => op_fieldAddr (o' := 0) (mD_base rfl rfl) Tryd.underlying34 rfl Tryd.sizeOf3 rfl rfl hK)) (.cons (Step.op rfl (fun D h1 h2 h3 K hK => op_fieldAddr (o' := 0) (mD_base rfl rfl) Tryd.underlying34 rfl Tryd.sizeOf3 rfl rfl hK)) .nil))
    (.quiet 0 (by kernel_rfl) (by kernel_rfl) (.cons (Step.op rfl (fun D h1 h2 h3 K hK => op_load (mD_done 4 (by decide) (pre_at h2 0 rfl rfl) rfl rfl rfl) Tryd.isAgg3 (by first | with_reducible exact Pull.p0 | with_reducible exact Pull.p1 | with_reducible exact Pull.p2 | with_reducible exact Pull.p3 | with_reducible exact Pull.p4 | with_reducible exact Pull.p5 | with_reducible exact Pull.p6 | with_reducible exact Pull.p7 | with_reducible exact Pull.p8 | with_reducible exact Pull.p9) rfl rfl hK)) .nil)
    (.quiet 1 (by kernel_rfl) (by kernel_rfl) (.cons (Step.op rfl (fun D h1 h2 h3 K hK => op_fieldAddr (o' := 1) (mD_base rfl rfl) Tryd.underlying34 rfl Tryd.sizeOf3 rfl rfl hK)) (.cons (Step.op rfl (fun D h1 h2 h3 K hK => op_fieldAddr (o' := 1) (mD_base rfl rfl) Tryd.underlying34 rfl Tryd.sizeOf3 rfl rfl hK)) .nil))
    (.quiet 0 (by kernel_rfl) (by kernel_rfl) (.cons (Step.op rfl (fun D h1 h2 h3 K hK => op_load (mD_done 6 (by decide) (pre_at h2 0 rfl rfl) rfl rfl rfl) Tryd.isAgg3 (by first | with_reducible exact Pull.p0 | with_reducible exact Pull.p1 | with_reducible exact Pull.p2 | with_reducible exact Pull.p3 | with_reducible exact Pull.p4 | with_reducible exact Pull.p5 | with_reducible exact Pull.p6 | with_reducible exact Pull.p7 | with_reducible exact Pull.p8 | with_reducible exact Pull.p9) rfl rfl hK)) .nil)
    (.quiet 0 (by kernel_rfl) (by kernel_rfl) (.cons (Step.op rfl (fun D h1 h2 h3 K hK => op_move (mD_base rfl rfl) rfl hK)) .nil)
    (.skip (by kernel_rfl) 
    (.quiet 1 (by kernel_rfl) (by kernel_rfl) (.cons (Step.op rfl (fun D h1 h2 h3 K hK => op_assign (mD_done 9 (by decide) (pre_at h2 0 rfl rfl) rfl rfl rfl) rfl hK)) (.cons (Step.op rfl (fun D h1 h2 h3 K hK => op_assign (mD_done 9 (by decide) (pre_at h2 0 rfl rfl) rfl rfl rfl) rfl hK)) .nil))
    .nil))))))))))))
    (.cons rfl rfl (fun gh => i64 0) (fun _ => rfl) (fun gh => _) (fun gh => [chipR (c.prog i j gh.1 (putS k g.seq t) gh.2.1 gh.2.2), row g.lb [ptr c.cb 0, i64 i, u64 (g.seq + 1), .map (some g.mb)] 63 (0, 0), row ba [i64 i, i64 j] 34 (0, 0), logMap g, row b8 [i64 0, i64 0] 34 (0, 0)]) (fun _ => rfl) (fun _ => rfl) (fun gh D h2 K hK => op_callF (evs_cons (mD_done 3 (by decide) (pre_at h2 0 rfl rfl) rfl rfl rfl) (evs_cons (mD_done 5 (by decide) (pre_at h2 1 rfl rfl) rfl rfl rfl) (evs_cons (mD_done 7 (by decide) (pre_at h2 2 rfl rfl) rfl rfl rfl) (evs_cons (mD_done 8 (by decide) (pre_at h2 3 rfl rfl) rfl rfl rfl) evs_nil)))) Tryd.call22 (by have := nand_Program (G := G) c hc i j (putS k g.seq t) hi hj (by rw [putS_length k g.seq t ht]; exact Nat.le_refl _) hpast hfree; rw [padS_put ht] at this; exact this) (.cons (by first | with_reducible exact Pull.p0 | with_reducible exact Pull.p1 | with_reducible exact Pull.p2 | with_reducible exact Pull.p3 | with_reducible exact Pull.p4 | with_reducible exact Pull.p5 | with_reducible exact Pull.p6 | with_reducible exact Pull.p7 | with_reducible exact Pull.p8 | with_reducible exact Pull.p9) .nil) rfl (fun v us hu => by obtain ⟨b, pa, pc, rfl, rfl⟩ := hu; exact hK (b, pa, pc) (by
          intro j
          rcases j with _ | j
          · first | exact .inl rfl | exact .inr (by kernel_rfl)
          rcases j with _ | j
          · first | exact .inl rfl | exact .inr (by kernel_rfl)
          rcases j with _ | j
          · first | exact .inl rfl | exact .inr (by kernel_rfl)
          rcases j with _ | j
          · first | exact .inl rfl | exact .inr (by kernel_rfl)
          rcases j with _ | j
          · first | exact .inl rfl | exact .inr (by kernel_rfl)
          rcases j with _ | j
          · first | exact .inl rfl | exact .inr (by kernel_rfl)
          rcases j with _ | j
          · first | exact .inl rfl | exact .inr (by kernel_rfl)
          rcases j with _ | j
          · first | exact .inl rfl | exact .inr (by kernel_rfl)
          rcases j with _ | j
          · first | exact .inl rfl | exact .inr (by kernel_rfl)
          rcases j with _ | j
          · first | exact .inl rfl | exact .inr (by kernel_rfl)
          rcases j with _ | j
          · first | exact .inl rfl | exact .inr (by kernel_rfl)
          exact .inl rfl)))
    .nil) ?_
  rintro ⟨sb, pa, pc⟩
  show At _ _ ([chipR (c.prog i j sb (putS k g.seq t) pa pc), row g.lb [ptr c.cb 0, i64 i, u64 (g.seq + 1), .map (some g.mb)] 63 (0, 0), row ba [i64 i, i64 j] 34 (0, 0), logMap g, row b8 [i64 0, i64 0] 34 (0, 0)]) _
  refine At.keep [(8, _), (9, _), (13, _), (14, _)] (.cons rfl (.cons rfl (.cons rfl (.cons rfl .nil)))) ?_
  refine At.then_n ?_
  refine At.seq ?_
  refine At.region ?_
  refine At.op rfl (op_move rfl rfl ?_)
  refine At.op rfl (op_bin rfl rfl (Bin.cast (v' := .bool false) b_ne (congrArg Value.bool (by rw [decide_eq_true rfl]; rfl))) rfl ?_)
  refine At.nil ?_
  refine At.then_n ?_
  refine At.cond_f rfl ?_
  refine At.skip ?_
  refine At.then_n ?_
  refine At.seq ?_
  refine At.region ?_
  refine At.op rfl (op_loadW rfl Tryd.isAgg34 Tryd.sizeOf34 (by first | with_reducible exact Pull.p0 | with_reducible exact Pull.p1 | with_reducible exact Pull.p2 | with_reducible exact Pull.p3 | with_reducible exact Pull.p4 | with_reducible exact Pull.p5 | with_reducible exact Pull.p6 | with_reducible exact Pull.p7 | with_reducible exact Pull.p8 | with_reducible exact Pull.p9) rfl rfl ?_)
  refine At.op rfl (op_storeW rfl rfl Tryd.sizeOf34 (by repeat' (first | refine List.forall_mem_cons.2 ⟨rfl, ?_⟩ | exact (fun _ h => by cases h))) (by first | with_reducible exact Pull.p0 | with_reducible exact Pull.p1 | with_reducible exact Pull.p2 | with_reducible exact Pull.p3 | with_reducible exact Pull.p4 | with_reducible exact Pull.p5 | with_reducible exact Pull.p6 | with_reducible exact Pull.p7 | with_reducible exact Pull.p8 | with_reducible exact Pull.p9) rfl rfl ?_)
  refine At.op rfl (op_assign rfl rfl ?_)
  refine At.nil ?_
  refine At.then_n ?_
  refine At.ret ?_
  exact At.fin (l := [.cell 8 34, .tmp 9]) _ (.inl rfl) rfl rfl (.agg rfl (by first | with_reducible exact Pull.p0 | with_reducible exact Pull.p1 | with_reducible exact Pull.p2 | with_reducible exact Pull.p3 | with_reducible exact Pull.p4 | with_reducible exact Pull.p5 | with_reducible exact Pull.p6 | with_reducible exact Pull.p7 | with_reducible exact Pull.p8 | with_reducible exact Pull.p9) Tryd.isAgg34 Tryd.sizeOf34 rfl (.tmp rfl .nil)) rfl ⟨sb, pa, pc, rfl, rfl⟩ (.cons (by first | exact Pull.p0 | exact Pull.p1 | exact Pull.p2 | exact Pull.p3 | exact Pull.p4 | exact Pull.p5 | exact Pull.p6 | exact Pull.p7 | exact Pull.p8 | exact Pull.p9) (.cons (by first | exact Pull.p0 | exact Pull.p1 | exact Pull.p2 | exact Pull.p3 | exact Pull.p4 | exact Pull.p5 | exact Pull.p6 | exact Pull.p7 | exact Pull.p8 | exact Pull.p9) (.cons (by first | exact Pull.p0 | exact Pull.p1 | exact Pull.p2 | exact Pull.p3 | exact Pull.p4 | exact Pull.p5 | exact Pull.p6 | exact Pull.p7 | exact Pull.p8 | exact Pull.p9) .nil)))
theorem seglog_Append_full0 (hG : GOK G) (c : Chp) (hc : c.wf) (g : Lg) (k : UInt8) (t : List UInt8) (r : Int) (hk : k ≠ 0) (ht : t.length ≤ 229) (hop : g.op = -1) (htk : takeOK g c r = false) : Does Tryd.prog G 10 [ptr g.lb 0, u8 k, str t, i64 r] [chipR c, logRow g c.cb, logMap g] (OneR (.tuple #[.agg [i64 0, i64 0].toArray, i64 2]) [chipR c, logRow g c.cb, logMap g]) := by
  refine Does.of Tryd.func10 rfl Tryd.ntmps10 rfl (fun w0 => ?_)
  refine At.keep [(0, _), (1, _), (2, _), (3, _)] (.cons rfl (.cons rfl (.cons rfl (.cons rfl .nil)))) ?_
  refine At.seq ?_
  refine At.region ?_
  refine At.op rfl (op_alloc Tryd.zeroValue34 rfl rfl ?_)
  intro b8
  refine At.op rfl (op_assign rfl rfl ?_)
  refine At.nil ?_
  refine At.then_n ?_
  refine At.seq ?_
  refine At.region ?_
  refine At.op rfl (op_move rfl rfl ?_)
  refine At.op rfl (op_move rfl rfl ?_)
  refine At.op rfl (op_nilCheck rfl rfl ?_)
  refine At.op rfl (op_fieldAddr (o' := 2) rfl Tryd.underlying63 rfl Tryd.sizeOf61 rfl rfl ?_)
  refine At.op rfl (op_load rfl Tryd.isAgg61 (by first | with_reducible exact Pull.p0 | with_reducible exact Pull.p1 | with_reducible exact Pull.p2 | with_reducible exact Pull.p3 | with_reducible exact Pull.p4 | with_reducible exact Pull.p5 | with_reducible exact Pull.p6 | with_reducible exact Pull.p7 | with_reducible exact Pull.p8 | with_reducible exact Pull.p9) rfl rfl ?_)
  refine At.op rfl (op_move rfl rfl ?_)
  refine At.op rfl (op_build (v := frmV k g.seq t) rfl (fun w => run_build w _ _ _ (by kernel_rfl)) rfl ?_)
  refine At.op rfl (op_call1 rfl Tryd.call19 (frame_Put hG k g.seq t (by omega)) rfl ?_)
  rw [putV_ok hk ht]
  refine At.op rfl (op_move rfl rfl ?_)
  refine At.op rfl (op_extractL rfl .zero rfl ?_)
  refine At.op rfl (op_extractL rfl (.succ .zero) rfl ?_)
  refine At.op rfl (op_assign rfl rfl ?_)
  refine At.op rfl (op_assign rfl rfl ?_)
  refine At.nil ?_
  refine At.then_n ?_
  refine At.seq ?_
  refine At.seq ?_
  refine At.keep [(0, _), (3, _), (8, _), (9, _), (10, _), (11, _)] (.cons rfl (.cons rfl (.cons rfl (.cons rfl (.cons rfl (.cons rfl .nil)))))) ?_
  refine At.region ?_
  refine At.op rfl (op_move rfl rfl ?_)
  refine At.op rfl (op_bin rfl rfl (Bin.cast (v' := .bool false) b_ne (congrArg Value.bool (by rw [decide_eq_true rfl]; rfl))) rfl ?_)
  refine At.nil ?_
  refine At.then_n ?_
  refine At.cond_f rfl ?_
  refine At.skip ?_
  refine At.then_n ?_
  refine At.seq ?_
  refine At.seq ?_
  refine At.region ?_
  refine At.op rfl (op_move rfl rfl ?_)
  refine At.op rfl (op_nilCheck rfl rfl ?_)
  refine At.op rfl (op_fieldAddr (o' := 1) rfl Tryd.underlying63 rfl Tryd.sizeOf3 rfl rfl ?_)
  refine At.op rfl (op_load rfl Tryd.isAgg3 (by first | with_reducible exact Pull.p0 | with_reducible exact Pull.p1 | with_reducible exact Pull.p2 | with_reducible exact Pull.p3 | with_reducible exact Pull.p4 | with_reducible exact Pull.p5 | with_reducible exact Pull.p6 | with_reducible exact Pull.p7 | with_reducible exact Pull.p8 | with_reducible exact Pull.p9) rfl rfl ?_)
  refine At.op rfl (op_bin rfl rfl (Bin.cast (v' := .bool true) b_eq (congrArg Value.bool (decide_eq_true hop))) rfl ?_)
  refine At.op rfl (op_move rfl rfl ?_)
  refine At.opk (want := true) rfl rfl rfl rfl rfl ?_
  refine At.opk (want := true) rfl rfl rfl rfl rfl ?_
  refine At.opk (want := true) rfl rfl rfl rfl rfl ?_
  refine At.opk (want := true) rfl rfl rfl rfl rfl ?_
  refine At.opk (want := true) rfl rfl rfl rfl rfl ?_
  refine At.opk (want := true) rfl rfl rfl rfl rfl ?_
  refine At.opk (want := true) rfl rfl rfl rfl rfl ?_
  refine At.op rfl (op_pick_t rfl rfl rfl ?_)
  refine At.nil ?_
  refine At.then_n ?_
  refine At.cond_t rfl ?_
  refine At.seq ?_
  refine At.keep [(0, _), (3, _), (8, _), (9, _), (10, _)] (.cons rfl (.cons rfl (.cons rfl (.cons rfl (.cons rfl .nil))))) ?_
  refine At.region ?_
  refine At.op rfl (op_move rfl rfl ?_)
  refine At.op rfl (op_move rfl rfl ?_)
  refine At.op rfl (op_callR rfl Tryd.call21 (seglog_take_no c hc g r htk) (.cons (by first | with_reducible exact Pull.p0 | with_reducible exact Pull.p1 | with_reducible exact Pull.p2 | with_reducible exact Pull.p3 | with_reducible exact Pull.p4 | with_reducible exact Pull.p5 | with_reducible exact Pull.p6 | with_reducible exact Pull.p7 | with_reducible exact Pull.p8 | with_reducible exact Pull.p9) (.cons (by first | with_reducible exact Pull.p0 | with_reducible exact Pull.p1 | with_reducible exact Pull.p2 | with_reducible exact Pull.p3 | with_reducible exact Pull.p4 | with_reducible exact Pull.p5 | with_reducible exact Pull.p6 | with_reducible exact Pull.p7 | with_reducible exact Pull.p8 | with_reducible exact Pull.p9) (.cons (by first | with_reducible exact Pull.p0 | with_reducible exact Pull.p1 | with_reducible exact Pull.p2 | with_reducible exact Pull.p3 | with_reducible exact Pull.p4 | with_reducible exact Pull.p5 | with_reducible exact Pull.p6 | with_reducible exact Pull.p7 | with_reducible exact Pull.p8 | with_reducible exact Pull.p9) .nil))) rfl ?_)
  refine At.app3 ?_
  refine At.op rfl (op_assign rfl rfl ?_)
  refine At.nil ?_
  refine At.then_n ?_
  refine At.seq ?_
  refine At.region ?_
  refine At.op rfl (op_move rfl rfl ?_)
  refine At.op rfl (op_bin rfl rfl (Bin.cast (v' := .bool true) b_ne (congrArg Value.bool (by rw [decide_eq_false (by decide)]; rfl))) rfl ?_)
  refine At.nil ?_
  refine At.then_n ?_
  refine At.cond_t rfl ?_
  refine At.seq ?_
  refine At.region ?_
  refine At.op rfl (op_build (v := .agg [i64 0, i64 0].toArray) rfl (fun w => run_build w _ _ _ (by kernel_rfl)) rfl ?_)
  refine At.op rfl (op_move rfl rfl ?_)
  refine At.op rfl (op_storeW rfl rfl Tryd.sizeOf34 (by repeat' (first | refine List.forall_mem_cons.2 ⟨rfl, ?_⟩ | exact (fun _ h => by cases h))) (by first | with_reducible exact Pull.p0 | with_reducible exact Pull.p1 | with_reducible exact Pull.p2 | with_reducible exact Pull.p3 | with_reducible exact Pull.p4 | with_reducible exact Pull.p5 | with_reducible exact Pull.p6 | with_reducible exact Pull.p7 | with_reducible exact Pull.p8 | with_reducible exact Pull.p9) rfl rfl ?_)
  refine At.op rfl (op_assign rfl rfl ?_)
  refine At.nil ?_
  refine At.then_n ?_
  refine At.ret ?_
  refine At.then_r ?_
  exact At.fin (l := [.cell 8 34, .tmp 9]) _ (.inl rfl) rfl rfl (.agg rfl (by first | with_reducible exact Pull.p0 | with_reducible exact Pull.p1 | with_reducible exact Pull.p2 | with_reducible exact Pull.p3 | with_reducible exact Pull.p4 | with_reducible exact Pull.p5 | with_reducible exact Pull.p6 | with_reducible exact Pull.p7 | with_reducible exact Pull.p8 | with_reducible exact Pull.p9) Tryd.isAgg34 Tryd.sizeOf34 rfl (.tmp rfl .nil)) rfl ⟨rfl, rfl⟩ (.cons (by first | exact Pull.p0 | exact Pull.p1 | exact Pull.p2 | exact Pull.p3 | exact Pull.p4 | exact Pull.p5 | exact Pull.p6 | exact Pull.p7 | exact Pull.p8 | exact Pull.p9) (.cons (by first | exact Pull.p0 | exact Pull.p1 | exact Pull.p2 | exact Pull.p3 | exact Pull.p4 | exact Pull.p5 | exact Pull.p6 | exact Pull.p7 | exact Pull.p8 | exact Pull.p9) (.cons (by first | exact Pull.p0 | exact Pull.p1 | exact Pull.p2 | exact Pull.p3 | exact Pull.p4 | exact Pull.p5 | exact Pull.p6 | exact Pull.p7 | exact Pull.p8 | exact Pull.p9) .nil)))
theorem seglog_Append_full1 (hG : GOK G) (c : Chp) (hc : c.wf) (g : Lg) (k : UInt8) (t : List UInt8) (r : Int) (hk : k ≠ 0) (ht : t.length ≤ 229) (i0 : Nat) (hop : g.op = i0) (hi0 : i0 < c.segs) (hn0 : c.next i0 = -1) (htk : takeOK g c r = false) : Does Tryd.prog G 10 [ptr g.lb 0, u8 k, str t, i64 r] [chipR c, logRow g c.cb, logMap g] (OneR (.tuple #[.agg [i64 0, i64 0].toArray, i64 2]) [chipR c, logRow g c.cb, logMap g]) := by
  refine Does.of Tryd.func10 rfl Tryd.ntmps10 rfl (fun w0 => ?_)
  refine At.keep [(0, _), (1, _), (2, _), (3, _)] (.cons rfl (.cons rfl (.cons rfl (.cons rfl .nil)))) ?_
  refine At.seq ?_
  refine At.region ?_
  refine At.op rfl (op_alloc Tryd.zeroValue34 rfl rfl ?_)
  intro b8
  refine At.op rfl (op_assign rfl rfl ?_)
  refine At.nil ?_
  refine At.then_n ?_
  refine At.seq ?_
  refine At.region ?_
  refine At.op rfl (op_move rfl rfl ?_)
  refine At.op rfl (op_move rfl rfl ?_)
  refine At.op rfl (op_nilCheck rfl rfl ?_)
  refine At.op rfl (op_fieldAddr (o' := 2) rfl Tryd.underlying63 rfl Tryd.sizeOf61 rfl rfl ?_)
  refine At.op rfl (op_load rfl Tryd.isAgg61 (by first | with_reducible exact Pull.p0 | with_reducible exact Pull.p1 | with_reducible exact Pull.p2 | with_reducible exact Pull.p3 | with_reducible exact Pull.p4 | with_reducible exact Pull.p5 | with_reducible exact Pull.p6 | with_reducible exact Pull.p7 | with_reducible exact Pull.p8 | with_reducible exact Pull.p9) rfl rfl ?_)
  refine At.op rfl (op_move rfl rfl ?_)
  refine At.op rfl (op_build (v := frmV k g.seq t) rfl (fun w => run_build w _ _ _ (by kernel_rfl)) rfl ?_)
  refine At.op rfl (op_call1 rfl Tryd.call19 (frame_Put hG k g.seq t (by omega)) rfl ?_)
  rw [putV_ok hk ht]
  refine At.op rfl (op_move rfl rfl ?_)
  refine At.op rfl (op_extractL rfl .zero rfl ?_)
  refine At.op rfl (op_extractL rfl (.succ .zero) rfl ?_)
  refine At.op rfl (op_assign rfl rfl ?_)
  refine At.op rfl (op_assign rfl rfl ?_)
  refine At.nil ?_
  refine At.then_n ?_
  refine At.seq ?_
  refine At.seq ?_
  refine At.keep [(0, _), (3, _), (8, _), (9, _), (10, _), (11, _)] (.cons rfl (.cons rfl (.cons rfl (.cons rfl (.cons rfl (.cons rfl .nil)))))) ?_
  refine At.region ?_
  refine At.op rfl (op_move rfl rfl ?_)
  refine At.op rfl (op_bin rfl rfl (Bin.cast (v' := .bool false) b_ne (congrArg Value.bool (by rw [decide_eq_true rfl]; rfl))) rfl ?_)
  refine At.nil ?_
  refine At.then_n ?_
  refine At.cond_f rfl ?_
  refine At.skip ?_
  refine At.then_n ?_
  refine At.seq ?_
  refine At.seq ?_
  refine At.region ?_
  refine At.op rfl (op_move rfl rfl ?_)
  refine At.op rfl (op_nilCheck rfl rfl ?_)
  refine At.op rfl (op_fieldAddr (o' := 1) rfl Tryd.underlying63 rfl Tryd.sizeOf3 rfl rfl ?_)
  refine At.op rfl (op_load rfl Tryd.isAgg3 (by first | with_reducible exact Pull.p0 | with_reducible exact Pull.p1 | with_reducible exact Pull.p2 | with_reducible exact Pull.p3 | with_reducible exact Pull.p4 | with_reducible exact Pull.p5 | with_reducible exact Pull.p6 | with_reducible exact Pull.p7 | with_reducible exact Pull.p8 | with_reducible exact Pull.p9) rfl rfl ?_)
  refine At.op rfl (op_bin rfl rfl (Bin.cast (v' := .bool false) b_eq (congrArg Value.bool (decide_eq_false (by omega)))) rfl ?_)
  refine At.op rfl (op_move rfl rfl ?_)
  refine At.opg rfl rfl rfl (op_move rfl rfl ?_)
  refine At.opg rfl rfl rfl (op_move rfl rfl ?_)
  refine At.opg rfl rfl rfl (op_nilCheck rfl rfl ?_)
  refine At.opg rfl rfl rfl (op_fieldAddr (o' := 1) rfl Tryd.underlying63 rfl Tryd.sizeOf3 rfl rfl ?_)
  refine At.opg rfl rfl rfl (op_load rfl Tryd.isAgg3 (by first | with_reducible exact Pull.p0 | with_reducible exact Pull.p1 | with_reducible exact Pull.p2 | with_reducible exact Pull.p3 | with_reducible exact Pull.p4 | with_reducible exact Pull.p5 | with_reducible exact Pull.p6 | with_reducible exact Pull.p7 | with_reducible exact Pull.p8 | with_reducible exact Pull.p9) (show (ptr c.cb 0 :: g.tl)[1]? = some (i64 i0) by rw [← hop]; rfl) rfl ?_)
  refine At.opg rfl rfl rfl (op_callQ rfl Tryd.call20 (by have := seglog_next (G := G) c hc g i0 hi0; rw [hn0] at this; exact this) (.cons (by first | with_reducible exact Pull.p0 | with_reducible exact Pull.p1 | with_reducible exact Pull.p2 | with_reducible exact Pull.p3 | with_reducible exact Pull.p4 | with_reducible exact Pull.p5 | with_reducible exact Pull.p6 | with_reducible exact Pull.p7 | with_reducible exact Pull.p8 | with_reducible exact Pull.p9) (.cons (by first | with_reducible exact Pull.p0 | with_reducible exact Pull.p1 | with_reducible exact Pull.p2 | with_reducible exact Pull.p3 | with_reducible exact Pull.p4 | with_reducible exact Pull.p5 | with_reducible exact Pull.p6 | with_reducible exact Pull.p7 | with_reducible exact Pull.p8 | with_reducible exact Pull.p9) .nil)) rfl ?_)
  refine At.opg rfl rfl rfl (op_bin rfl rfl (Bin.cast (v' := .bool true) b_eq (congrArg Value.bool (decide_eq_true rfl))) rfl ?_)
  refine At.op rfl (op_pick_f rfl rfl rfl ?_)
  refine At.nil ?_
  refine At.then_n ?_
  refine At.cond_t rfl ?_
  refine At.seq ?_
  refine At.keep [(0, _), (3, _), (8, _), (9, _), (10, _)] (.cons rfl (.cons rfl (.cons rfl (.cons rfl (.cons rfl .nil))))) ?_
  refine At.region ?_
  refine At.op rfl (op_move rfl rfl ?_)
  refine At.op rfl (op_move rfl rfl ?_)
  refine At.op rfl (op_callR rfl Tryd.call21 (seglog_take_no c hc g r htk) (.cons (by first | with_reducible exact Pull.p0 | with_reducible exact Pull.p1 | with_reducible exact Pull.p2 | with_reducible exact Pull.p3 | with_reducible exact Pull.p4 | with_reducible exact Pull.p5 | with_reducible exact Pull.p6 | with_reducible exact Pull.p7 | with_reducible exact Pull.p8 | with_reducible exact Pull.p9) (.cons (by first | with_reducible exact Pull.p0 | with_reducible exact Pull.p1 | with_reducible exact Pull.p2 | with_reducible exact Pull.p3 | with_reducible exact Pull.p4 | with_reducible exact Pull.p5 | with_reducible exact Pull.p6 | with_reducible exact Pull.p7 | with_reducible exact Pull.p8 | with_reducible exact Pull.p9) (.cons (by first | with_reducible exact Pull.p0 | with_reducible exact Pull.p1 | with_reducible exact Pull.p2 | with_reducible exact Pull.p3 | with_reducible exact Pull.p4 | with_reducible exact Pull.p5 | with_reducible exact Pull.p6 | with_reducible exact Pull.p7 | with_reducible exact Pull.p8 | with_reducible exact Pull.p9) .nil))) rfl ?_)
  refine At.app3 ?_
  refine At.op rfl (op_assign rfl rfl ?_)
  refine At.nil ?_
  refine At.then_n ?_
  refine At.seq ?_
  refine At.region ?_
  refine At.op rfl (op_move rfl rfl ?_)
  refine At.op rfl (op_bin rfl rfl (Bin.cast (v' := .bool true) b_ne (congrArg Value.bool (by rw [decide_eq_false (by decide)]; rfl))) rfl ?_)
  refine At.nil ?_
  refine At.then_n ?_
  refine At.cond_t rfl ?_
  refine At.seq ?_
  refine At.region ?_
  refine At.op rfl (op_build (v := .agg [i64 0, i64 0].toArray) rfl (fun w => run_build w _ _ _ (by kernel_rfl)) rfl ?_)
  refine At.op rfl (op_move rfl rfl ?_)
  refine At.op rfl (op_storeW rfl rfl Tryd.sizeOf34 (by repeat' (first | refine List.forall_mem_cons.2 ⟨rfl, ?_⟩ | exact (fun _ h => by cases h))) (by first | with_reducible exact Pull.p0 | with_reducible exact Pull.p1 | with_reducible exact Pull.p2 | with_reducible exact Pull.p3 | with_reducible exact Pull.p4 | with_reducible exact Pull.p5 | with_reducible exact Pull.p6 | with_reducible exact Pull.p7 | with_reducible exact Pull.p8 | with_reducible exact Pull.p9) rfl rfl ?_)
  refine At.op rfl (op_assign rfl rfl ?_)
  refine At.nil ?_
  refine At.then_n ?_
  refine At.ret ?_
  refine At.then_r ?_
  exact At.fin (l := [.cell 8 34, .tmp 9]) _ (.inl rfl) rfl rfl (.agg rfl (by first | with_reducible exact Pull.p0 | with_reducible exact Pull.p1 | with_reducible exact Pull.p2 | with_reducible exact Pull.p3 | with_reducible exact Pull.p4 | with_reducible exact Pull.p5 | with_reducible exact Pull.p6 | with_reducible exact Pull.p7 | with_reducible exact Pull.p8 | with_reducible exact Pull.p9) Tryd.isAgg34 Tryd.sizeOf34 rfl (.tmp rfl .nil)) rfl ⟨rfl, rfl⟩ (.cons (by first | exact Pull.p0 | exact Pull.p1 | exact Pull.p2 | exact Pull.p3 | exact Pull.p4 | exact Pull.p5 | exact Pull.p6 | exact Pull.p7 | exact Pull.p8 | exact Pull.p9) (.cons (by first | exact Pull.p0 | exact Pull.p1 | exact Pull.p2 | exact Pull.p3 | exact Pull.p4 | exact Pull.p5 | exact Pull.p6 | exact Pull.p7 | exact Pull.p8 | exact Pull.p9) (.cons (by first | exact Pull.p0 | exact Pull.p1 | exact Pull.p2 | exact Pull.p3 | exact Pull.p4 | exact Pull.p5 | exact Pull.p6 | exact Pull.p7 | exact Pull.p8 | exact Pull.p9) .nil)))
end Go.Proofs.YteckdahgkkmlaaaDoor
end

section
set_option maxRecDepth 20000
set_option linter.unusedVariables false
set_option linter.unusedSimpArgs false
namespace Go.Proofs.YteckdahgkkmlaaaDoor
open Go SL
variable {G : List (Nat × Obj)}
/-! what a log and its chip look like, without addresses and texts -/
structure Ab where
  pages : Nat
  rated : Nat
  l : List (List Bool × Nat × Bool)
  op : Int
  ret : List Int
namespace Ab
def many (a : Ab) (i : Nat) : Nat := ((a.l[i]?).map fun s => s.1.countP id).getD 0
def nxt : List Bool → Nat → Int
  | [], _ => -1
  | true :: l, j => nxt l (j + 1)
  | false :: _, j => j
def next (a : Ab) (i : Nat) : Int := ((a.l[i]?).map fun s => nxt s.1 0).getD (-1)
def wear (a : Ab) (i : Nat) : Nat := ((a.l[i]?).map fun s => s.2.1).getD 0
def bad (a : Ab) (i : Nat) : Bool := ((a.l[i]?).map fun s => s.2.2).getD false
def free (a : Ab) (i : Nat) : Bool := !decide ((i : Int) = a.op) && (decide (a.ret.getD i 0 = 0) && decide (((a.many i : Nat) : Int) = 0))
def freeL (a : Ab) : List Nat := (List.range a.l.length).filter a.free
def takeOK (a : Ab) (r : Int) : Bool := decide ((if r < 0 then 0 else r) < ((a.freeL.length : Nat) : Int))
def appSeg (a : Ab) (r : Int) : Option Nat := bif decide (0 ≤ a.op) && !decide (a.next a.op.toNat = -1) then some a.op.toNat else bif a.takeOK r then some (minF (fun i => (a.wear i : Int)) a.freeL) else none
def room (a : Ab) : Int := (a.freeL.length : Int) * a.pages + (if a.op = -1 then 0 else (a.pages : Int) - a.many a.op.toNat)
def put (a : Ab) (i j : Nat) : Ab := { a with l := a.l.modify i (fun s => (s.1.set j true, s.2)), op := i }
def app (a : Ab) (r : Int) : Ab := match a.appSeg r with
  | none => a
  | some i => a.put i (a.next i).toNat
def canErase (a : Ab) (i : Nat) : Bool := !a.bad i && decide (a.wear i < a.rated)
def erase (a : Ab) (i : Nat) : Ab := bif a.canErase i then { a with l := a.l.modify i (fun s => (List.replicate a.pages false, s.2.1 + 1, s.2.2)), op := if a.op = i then -1 else a.op } else { a with op := if a.op = i then -1 else a.op, ret := a.ret.modify i (· + 1) }
end Ab
def fl (l : List Pg) : List Bool := l.map fun p => p.view.isSome
def abs (g : Lg) (c : Chp) : Ab := ⟨c.pages, c.rated, c.l.map (fun s => (fl s.pg, s.wear, s.bad)), g.op, (List.range c.segs).map (fun i : Nat => iget g.ret i)⟩
theorem abs_len (g : Lg) {c : Chp} (h : c.wf) : (abs g c).l.length = c.segs := by simp [abs, h.len]
theorem abs_many (g : Lg) (c : Chp) (i : Nat) : (abs g c).many i = c.many i := by
  unfold Ab.many Chp.many abs
  cases hx : c.l[i]? with
  | none => simp [hx]
  | some s => simp [hx, fl, pgCount, List.countP_map, Function.comp_def]
theorem nxt_fl : ∀ (l : List Pg) (j : Nat), Ab.nxt (fl l) j = pgNext l j
  | [], _ => rfl
  | p :: l, j => by
    have ih := nxt_fl l (j + 1)
    cases hp : p.view with
    | none => simp [fl, Ab.nxt, pgNext, hp]
    | some t => simp only [fl, List.map_cons, hp, Option.isSome_some, Ab.nxt, pgNext]; exact ih
theorem abs_next (g : Lg) (c : Chp) (i : Nat) : (abs g c).next i = c.next i := by
  unfold Ab.next Chp.next abs
  cases hx : c.l[i]? with
  | none => simp [hx]
  | some s => simp [hx, nxt_fl]
theorem abs_wear (g : Lg) (c : Chp) (i : Nat) : (abs g c).wear i = c.wearAt i := by
  unfold Ab.wear Chp.wearAt abs
  cases hx : c.l[i]? <;> simp [hx]
theorem abs_bad (g : Lg) (c : Chp) (i : Nat) : (abs g c).bad i = c.badAt i := by
  unfold Ab.bad Chp.badAt abs
  cases hx : c.l[i]? <;> simp [hx]
theorem abs_ret (g : Lg) (c : Chp) {i : Nat} (h : i < c.segs) : (abs g c).ret.getD i 0 = iget g.ret i := by simp [abs, h]
theorem abs_free (g : Lg) (c : Chp) {i : Nat} (h : i < c.segs) : (abs g c).free i = isFree g c i := by
  unfold Ab.free isFree
  rw [abs_ret g c h, abs_many]
  rfl
theorem abs_freeL (g : Lg) {c : Chp} (h : c.wf) : (abs g c).freeL = freeL g c := by
  unfold Ab.freeL freeL
  rw [abs_len g h]
  exact List.filter_congr fun i hi => abs_free g c (List.mem_range.1 hi)
theorem abs_takeOK (g : Lg) {c : Chp} (h : c.wf) (r : Int) : (abs g c).takeOK r = takeOK g c r := by
  unfold Ab.takeOK takeOK
  rw [abs_freeL g h]
theorem abs_minF (g : Lg) {c : Chp} (h : c.wf) : minF (fun i => ((abs g c).wear i : Int)) (abs g c).freeL = minF (wearZ c) (freeL g c) := by
  rw [abs_freeL g h]
  congr 1
  funext i
  rw [abs_wear]; rfl
theorem map_modify' {α β : Type} (f : α → β) (u : α → α) (v : β → β) (h : ∀ x, f (u x) = v (f x)) : ∀ (l : List α) (i : Nat), (l.modify i u).map f = (l.map f).modify i v
  | [], _ => by simp
  | x :: l, 0 => by simp [h]
  | x :: l, i + 1 => by simp [map_modify' f u v h l i]
theorem abs_prog (g : Lg) (c : Chp) (i j b : Nat) (t : List UInt8) (pa : Option Addr) (pc lb mb : Nat) (q : UInt64) (cl : Nat) : abs ⟨lb, mb, i, q, g.ret, cl⟩ (c.prog i j b t pa pc) = (abs g c).put i j := by
  unfold abs Ab.put Chp.prog
  simp only
  rw [map_modify' _ _ (fun s => (s.1.set j true, s.2))]
  intro s
  simp [fl, List.map_set, Pg.view]
theorem abs_erased (g : Lg) (c : Chp) (i : Nat) (h : (abs g c).canErase i = true) : abs { g with op := if g.op = i then -1 else g.op } (c.erased i) = (abs g c).erase i := by
  unfold Ab.erase
  rw [h]
  unfold abs Chp.erased
  simp only [cond_true]
  rw [map_modify' _ _ (fun s => (List.replicate c.pages false, s.2.1 + 1, s.2.2))]
  intro s
  simp [fl, Pg.view]
theorem wrap_small {n : Int} (h0 : 0 ≤ n) (h1 : n < 1000000) : IntKind.i64.wrap (n + 1) = n + 1 := wrap_i64 (by omega) (by omega)
theorem abs_retired (g : Lg) (c : Chp) {i : Nat} (hi : i < c.segs) (h : (abs g c).canErase i = false) (h0 : 0 ≤ iget g.ret i) (h1 : iget g.ret i < 1000000) (cl : Nat) : abs { g with op := if g.op = i then -1 else g.op, ret := iput g.ret i (IntKind.i64.wrap (iget g.ret i + 1)) g.clock, clock := cl } c = (abs g c).erase i := by
  unfold Ab.erase
  rw [h]
  unfold abs
  simp only [cond_false]
  congr 1
  apply List.ext_getElem?
  intro k
  rw [List.getElem?_modify, List.getElem?_map, List.getElem?_map]
  by_cases hk : k < c.segs
  · rw [List.getElem?_range hk]
    simp only [Option.map_some, iget_iput]
    by_cases e : i = k
    · subst e; simp [wrap_small h0 h1]
    · have : ¬ ((k : Int) = i) := by omega
      simp [e, this]
  · simp [List.getElem?_eq_none (l := List.range c.segs) (i := k) (by simpa using hk)]
def newAb (segs pages rated : Nat) (bads : List Int) : Ab := ⟨pages, rated, (List.range segs).map (fun i : Nat => (List.replicate pages false, 0, decide ((i : Int) ∈ bads))), -1, List.replicate segs 0⟩
theorem abs_new {g : Lg} {c : Chp} (hw : c.wf) {segs pages rated : Nat} {bads : List Int} (h : c.fresh segs pages rated bads) (h1 : g.op = -1) (h2 : g.ret = []) : abs g c = newAb segs pages rated bads := by
  have hl : c.l.map (fun s => (fl s.pg, s.wear, s.bad)) = (List.range segs).map (fun i : Nat => (List.replicate pages false, 0, decide ((i : Int) ∈ bads))) := by
    apply List.ext_getElem?
    intro k
    rw [List.getElem?_map, List.getElem?_map]
    by_cases hk : k < segs
    · obtain ⟨s, hs, _⟩ := hw.seg (i := k) (by rw [h.fsegs]; exact hk)
      obtain ⟨e1, e2, e3⟩ := h.feach k s hs
      rw [hs, List.getElem?_range hk]
      simp [e1, e2, e3, fl, Pg.view]
    · rw [List.getElem?_eq_none (l := c.l) (i := k) (by rw [hw.len, h.fsegs]; omega), List.getElem?_eq_none (l := List.range segs) (i := k) (by simpa using hk)]
      rfl
  unfold abs newAb
  rw [hl, h.fpages, h.frated, h1, h2, h.fsegs]
  congr 1
  apply List.ext_getElem
  · simp
  · intro k h3 h4; simp [iget]
/-- a log mounted anew -/
def Ab.mount (a : Ab) : Ab := { a with op := -1, ret := List.replicate a.l.length 0 }
theorem abs_mount {g g' : Lg} {c : Chp} (hw : c.wf) (h1 : g'.op = -1) (h2 : g'.ret = []) : abs g' c = (abs g c).mount := by
  unfold abs Ab.mount
  simp only [h1, h2, List.length_map, hw.len]
  congr 1
  apply List.ext_getElem
  · simp
  · intro k h3 h4; simp [iget]
/-- the open segment is one of the chip's -/
def opOK (g : Lg) (c : Chp) : Prop := g.op = -1 ∨ ∃ i : Nat, g.op = i ∧ i < c.segs
theorem opOK_prog {g : Lg} {c : Chp} {i : Nat} (hi : i < c.segs) (j b : Nat) (t : List UInt8) (pa : Option Addr) (pc lb mb : Nat) (q : UInt64) (ret : List IE) (cl : Nat) : opOK ⟨lb, mb, i, q, ret, cl⟩ (c.prog i j b t pa pc) := .inr ⟨i, rfl, hi⟩
theorem opOK_erase {g : Lg} {c c' : Chp} (h : opOK g c) (hs : c'.segs = c.segs) (i : Nat) (ret : List IE) (cl : Nat) : opOK { g with op := if g.op = i then -1 else g.op, ret := ret, clock := cl } c' := by
  by_cases e : g.op = i
  · left; exact if_pos e
  · unfold opOK
    rw [hs]
    simp only [if_neg e]
    exact h
theorem appSeg_spec {g : Lg} {c : Chp} (hc : c.wf) (ho : opOK g c) {r : Int} {i : Nat} (h : (abs g c).appSeg r = some i) : i < c.segs ∧ ∃ j : Nat, c.next i = j ∧ j < c.pages ∧ c.at i j = none ∧
    ((g.op = i) ∨ ((g.op = -1 ∨ ∃ i0 : Nat, g.op = i0 ∧ i0 < c.segs ∧ c.next i0 = -1) ∧ takeOK g c r = true ∧ i = minF (wearZ c) (freeL g c))) := by
  unfold Ab.appSeg at h
  cases h1 : decide (0 ≤ (abs g c).op) && !decide ((abs g c).next (abs g c).op.toNat = -1) with
  | true =>
    rw [h1] at h
    simp only [cond_true, Option.some.injEq] at h
    subst h
    simp only [Bool.and_eq_true, decide_eq_true_eq, Bool.not_eq_true', decide_eq_false_iff_not, abs_next] at h1
    have e : (abs g c).op = g.op := rfl
    rw [e] at h1 ⊢
    rcases ho with ho | ⟨i, ho, hi⟩
    · omega
    · rw [ho] at h1 ⊢
      simp only [Int.toNat_natCast] at h1 ⊢
      rcases c.next_cases i with h2 | ⟨n, h2⟩
      · exact absurd h2 h1.2
      · obtain ⟨h3, h4⟩ := Chp.next_spec hc hi h2
        exact ⟨hi, n, h2, h3, h4, .inl (by first | rfl | trivial)⟩
  | false =>
    rw [h1] at h
    simp only [cond_false] at h
    cases h2 : (abs g c).takeOK r with
    | false => rw [h2] at h; cases h
    | true =>
      rw [h2] at h
      simp only [cond_true, Option.some.injEq] at h
      rw [abs_minF g hc] at h
      rw [abs_takeOK g hc] at h2
      have hne : freeL g c ≠ [] := by
        intro e
        unfold takeOK at h2
        rw [e] at h2
        have := of_decide_eq_true h2
        simp only [List.length_nil] at this
        split at this <;> omega
      have hm := mem_freeL (minF_mem (wearZ c) hne)
      rw [h] at hm
      have hmany : c.many i = 0 := by
        have := hm.2
        simp only [isFree, Bool.and_eq_true, decide_eq_true_eq] at this
        omega
      have hnx := Chp.next_free hc hm.1 hmany
      obtain ⟨h3, h4⟩ := Chp.next_spec hc hm.1 hnx
      refine ⟨hm.1, 0, hnx, h3, h4, .inr ⟨?_, h2, h.symm⟩⟩
      rcases ho with ho | ⟨i0, ho, hi0⟩
      · exact .inl ho
      · right
        refine ⟨i0, ho, hi0, ?_⟩
        have e : (abs g c).op = g.op := rfl
        rw [abs_next, e, ho] at h1
        simp only [Int.toNat_natCast, Bool.and_eq_false_iff, decide_eq_false_iff_not, Bool.not_eq_false', decide_eq_true_eq] at h1
        rcases h1 with h1 | h1
        · omega
        · exact h1
theorem appSeg_none {g : Lg} {c : Chp} (hc : c.wf) (ho : opOK g c) {r : Int} (h : (abs g c).appSeg r = none) : (g.op = -1 ∨ ∃ i0 : Nat, g.op = i0 ∧ i0 < c.segs ∧ c.next i0 = -1) ∧ takeOK g c r = false := by
  unfold Ab.appSeg at h
  cases h1 : decide (0 ≤ (abs g c).op) && !decide ((abs g c).next (abs g c).op.toNat = -1) with
  | true => rw [h1] at h; simp at h
  | false =>
    rw [h1] at h
    simp only [cond_false] at h
    cases h2 : (abs g c).takeOK r with
    | true => rw [h2] at h; simp at h
    | false =>
      rw [abs_takeOK g hc] at h2
      refine ⟨?_, h2⟩
      rcases ho with ho | ⟨i0, ho, hi0⟩
      · exact .inl ho
      · right
        refine ⟨i0, ho, hi0, ?_⟩
        have e : (abs g c).op = g.op := rfl
        rw [abs_next, e, ho] at h1
        simp only [Int.toNat_natCast, Bool.and_eq_false_iff, decide_eq_false_iff_not, Bool.not_eq_false', decide_eq_true_eq] at h1
        rcases h1 with h1 | h1
        · omega
        · exact h1
end Go.Proofs.YteckdahgkkmlaaaDoor
end

section
set_option maxRecDepth 20000
set_option linter.unusedVariables false
set_option linter.unusedSimpArgs false
namespace Go.Proofs.YteckdahgkkmlaaaDoor
open Go SL
variable {G : List (Nat × Obj)}
theorem seglog_Append (hG : GOK G) (c : Chp) (hc : c.wf) (g : Lg) (ho : opOK g c) (k : UInt8) (t : List UInt8) (r : Int) (hk : k ≠ 0) (ht : t.length ≤ 229) (hpast : c.past.length < 1000000) :
    Does Tryd.prog G 10 [ptr g.lb 0, u8 k, str t, i64 r] [chipR c, logRow g c.cb, logMap g] (fun v rs' => match (abs g c).appSeg r with | none => v = .tuple #[.agg [i64 0, i64 0].toArray, i64 2] ∧ rs' = [chipR c, logRow g c.cb, logMap g] | some i => ∃ b pa pc, v = .tuple #[.agg [i64 i, i64 (c.next i).toNat].toArray, i64 0] ∧ rs' = [chipR (c.prog i (c.next i).toNat b (putS k g.seq t) pa pc), logRow (Lg.mk g.lb g.mb i (g.seq + 1) g.ret g.clock) c.cb, logMap g]) := by
  cases h : (abs g c).appSeg r with
  | none =>
    obtain ⟨h1, h2⟩ := appSeg_none hc ho h
    rcases h1 with h1 | ⟨i0, h1, h3, h4⟩
    · exact seglog_Append_full0 hG c hc g k t r hk ht h1 h2
    · exact seglog_Append_full1 hG c hc g k t r hk ht i0 h1 h3 h4 h2
  | some i =>
    obtain ⟨hi, j, h1, h2, h3, h4⟩ := appSeg_spec hc ho h
    have e : (c.next i).toNat = j := by rw [h1]; rfl
    simp only [e]
    rcases h4 with h4 | ⟨h4 | ⟨i0, h4, h5, h6⟩, h7, h8⟩
    · exact seglog_Append_open hG c hc g k t r hk ht i j h4 hi h2 h1 h3 hpast
    · exact seglog_Append_take0 hG c hc g k t r hk ht i j h4 hi h2 h1 h3 hpast h7 h8
    · exact seglog_Append_take1 hG c hc g k t r hk ht i j i0 h4 h5 h6 hi h2 h1 h3 hpast h7 h8
theorem seglog_Room (c : Chp) (hc : c.wf) (g : Lg) (ho : opOK g c) : Does Tryd.prog G 9 [ptr g.lb 0] [chipR c, logRow g c.cb, logMap g] (OneR (i64 (abs g c).room) [chipR c, logRow g c.cb, logMap g]) := by
  unfold Ab.room
  rw [abs_freeL g hc, abs_many]
  rcases ho with ho | ⟨i, ho, hi⟩
  · have := seglog_Room_none (G := G) c hc g ho
    rw [show (abs g c).op = -1 from ho, if_pos rfl, Int.add_zero]
    exact this
  · have := seglog_Room_open (G := G) c hc g i ho
    rw [show (abs g c).op = i from ho, if_neg (by omega), Int.toNat_natCast]
    exact this
end Go.Proofs.YteckdahgkkmlaaaDoor
end

section
set_option maxRecDepth 20000
set_option linter.unusedVariables false
set_option linter.unusedSimpArgs false
namespace Go.Proofs.YteckdahgkkmlaaaDoor
open Go SL
variable {G : List (Nat × Obj)}
/-! steps of a log, seen from afar -/
def iter {α : Type} (f : α → α) : Nat → α → α
  | 0, a => a
  | n + 1, a => f (iter f n a)
theorem app_step {g : Lg} {c : Chp} (hc : c.wf) (ho : opOK g c) {r : Int} {i : Nat} (h : (abs g c).appSeg r = some i) (b : Nat) (t : List UInt8) (ht : t.length ≤ 256) (pa : Option Addr) (pc : Nat) :
    (c.prog i (c.next i).toNat b t pa pc).wf ∧ opOK ⟨g.lb, g.mb, i, g.seq + 1, g.ret, g.clock⟩ (c.prog i (c.next i).toNat b t pa pc) ∧ abs ⟨g.lb, g.mb, i, g.seq + 1, g.ret, g.clock⟩ (c.prog i (c.next i).toNat b t pa pc) = (abs g c).app r ∧ i < c.segs ∧ (c.next i).toNat < c.pages ∧ c.at i (c.next i).toNat = none := by
  obtain ⟨hi, j, h1, h2, h3, _⟩ := appSeg_spec hc ho h
  have e : (c.next i).toNat = j := by rw [h1]; rfl
  rw [e]
  refine ⟨hc.prog hi h2 b t ht pa pc, opOK_prog (g := g) hi j b t pa pc _ _ _ _ _, ?_, hi, h2, h3⟩
  rw [abs_prog]
  unfold Ab.app
  rw [h]
  simp only [abs_next, e]
theorem erase_ok {g : Lg} {c : Chp} {i : Nat} (h : (abs g c).canErase i = true) : c.badAt i = false ∧ c.wearAt i < c.rated := by
  unfold Ab.canErase at h
  rw [abs_bad, abs_wear] at h
  simp only [Bool.and_eq_true, Bool.not_eq_true', decide_eq_true_eq] at h
  exact h
theorem erase_no {g : Lg} {c : Chp} {i : Nat} (h : (abs g c).canErase i = false) : c.badAt i = true ∨ c.rated ≤ c.wearAt i := by
  unfold Ab.canErase at h
  rw [abs_bad, abs_wear] at h
  have hr : (abs g c).rated = c.rated := rfl
  rw [hr] at h
  cases hb : c.badAt i with
  | true => exact .inl rfl
  | false =>
    rw [hb] at h
    simp only [Bool.not_false, Bool.true_and, decide_eq_false_iff_not] at h
    exact .inr (by omega)
theorem erase_step {g : Lg} {c : Chp} (hc : c.wf) (ho : opOK g c) {i : Nat} (h : (abs g c).canErase i = true) :
    (c.erased i).wf ∧ opOK (eraseL g i) (c.erased i) ∧ abs (eraseL g i) (c.erased i) = (abs g c).erase i :=
  ⟨hc.erased i (erase_ok h).2, opOK_erase ho rfl i _ _, abs_erased g c i h⟩
theorem items_none {c : Chp} (h : ∀ i j, c.at i j = none) : c.items = [] := by
  cases hx : c.items with
  | nil => rfl
  | cons a l =>
    have := Chp.items_at (c := c) (a := a) (by rw [hx]; exact List.mem_cons_self ..)
    rw [h] at this; cases this
theorem seq_fresh {c : Chp} {segs pages rated : Nat} {bads : List Int} (h : c.fresh segs pages rated bads) : maxQ c.frames + 1 = 1 := by
  unfold Chp.frames
  rw [items_none (Chp.at_fresh h)]
  rfl
end Go.Proofs.YteckdahgkkmlaaaDoor
end

section
set_option maxRecDepth 20000
set_option linter.unusedVariables false
set_option linter.unusedSimpArgs false
namespace Go.Proofs.YteckdahgkkmlaaaDoor
open Go SL
variable {G : List (Nat × Obj)}
/-! segments are counted -/
theorem filt4 (p q r s : Nat → Bool) : ∀ (l : List Nat), (∀ i ∈ l, (p i).toNat + (q i).toNat + (r i).toNat + (s i).toNat = 1) → (l.filter p).length + (l.filter q).length + (l.filter r).length + (l.filter s).length = l.length
  | [], _ => rfl
  | x :: l, h => by
    have ih := filt4 p q r s l (fun i hi => h i (List.mem_cons_of_mem _ hi))
    have hx := h x (List.mem_cons_self ..)
    simp only [List.filter_cons, List.length_cons]
    cases hp : p x <;> cases hq : q x <;> cases hr : r x <;> cases hs : s x <;> simp_all <;> omega
theorem filt_op (op : Int) : ∀ n : Nat, ((List.range n).filter fun i : Nat => decide ((i : Int) = op)).length = if 0 ≤ op ∧ op < n then 1 else 0
  | 0 => by rw [if_neg (by omega)]; rfl
  | n + 1 => by
    rw [List.range_succ, List.filter_append, List.length_append, filt_op op n]
    by_cases e : (n : Int) = op
    · rw [if_neg (by omega), if_pos (by omega)]; simp [e]
    · by_cases h : 0 ≤ op ∧ op < n
      · rw [if_pos h, if_pos (by omega)]; simp [e]
      · rw [if_neg h, if_neg (by omega)]; simp [e]
theorem seg_count {g : Lg} {c : Chp} (ho : opOK g c) (hr : ∀ i : Nat, i < c.segs → 0 ≤ iget g.ret i) (hz : ∀ i : Nat, g.op = i → iget g.ret i = 0) :
    (freeL g c).length + ((List.range c.segs).filter fun i : Nat => decide ((i : Int) = g.op)).length + ((List.range c.segs).filter (isUsed g c)).length + ((List.range c.segs).filter (isRetired g)).length = c.segs := by
  have := filt4 (isFree g c) (fun i : Nat => decide ((i : Int) = g.op)) (isUsed g c) (isRetired g) (List.range c.segs) (fun i hi => by
    have h0 := hr i (List.mem_range.1 hi)
    have h1 := hz i
    unfold isFree isUsed isRetired
    by_cases e : (i : Int) = g.op
    · have e2 := h1 e.symm
      rw [e] at e2
      simp [e, e2]
    · by_cases e3 : iget g.ret i = 0
      · by_cases e4 : c.many i = 0
        · simp [e, e3, e4]
        · have : 0 < c.many i := Nat.pos_of_ne_zero e4
          simp [e, e3, e4, this]
      · have : 0 < iget g.ret i := by omega
        simp [e, e3, this])
  rw [List.length_range] at this
  exact this
theorem seg_count_no {g : Lg} {c : Chp} (ho : opOK g c) (hr : ∀ i : Nat, i < c.segs → 0 ≤ iget g.ret i) (hz : ∀ i : Nat, g.op = i → iget g.ret i = 0) (h : g.op < 0) :
    (freeL g c).length + ((List.range c.segs).filter (isUsed g c)).length + ((List.range c.segs).filter (isRetired g)).length = c.segs := by
  have := seg_count ho hr hz
  rw [filt_op, if_neg (by omega)] at this
  omega
theorem seg_count_op {g : Lg} {c : Chp} (ho : opOK g c) (hr : ∀ i : Nat, i < c.segs → 0 ≤ iget g.ret i) (hz : ∀ i : Nat, g.op = i → iget g.ret i = 0) (h : 0 ≤ g.op) :
    (freeL g c).length + 1 + ((List.range c.segs).filter (isUsed g c)).length + ((List.range c.segs).filter (isRetired g)).length = c.segs := by
  have := seg_count ho hr hz
  rw [filt_op, if_pos] at this
  · exact this
  · rcases ho with ho | ⟨i, ho, hi⟩ <;> omega
theorem iter_app_ret (r : Int) (a : Ab) : ∀ k, (iter (fun a => a.app r) k a).ret = a.ret
  | 0 => rfl
  | k + 1 => by
    rw [iter, ← iter_app_ret r a k]
    unfold Ab.app
    split <;> rfl
theorem app_none {g : Lg} {c : Chp} {r : Int} (h : (abs g c).appSeg r = none) : (abs g c).app r = abs g c := by
  unfold Ab.app
  rw [h]
theorem ret_retire {g : Lg} {i : Nat} (i' : Nat) (h0 : 0 ≤ iget g.ret i) (h1 : iget g.ret i < 1000000) : iget (retireL g i).ret i' = if i' = i then iget g.ret i + 1 else iget g.ret i' := by
  unfold retireL
  simp only [iget_iput]
  by_cases e : i' = i
  · subst e; simp [wrap_small h0 h1]
  · rw [if_neg (by omega), if_neg e]
/-- a cell is read that lies in what never turns -/
theorem op_loadK {c : Cx} {m : List (Nat × Value)} {rs : List Res} {K : Act → World → Prop} {d t : Nat} {pos : String} {af : Array Edge} {g : Option (Nat × Bool)} {T : TypeId} {x : Operand} {b off : Nat} {v : Value} (hx : ev m x = some (ptr b off)) (ha : ∀ w, (isAgg T).run c.P w = .ok false w)
    (hr : ∀ w : World, (∀ p ∈ c.G, w.heap[p.1]? = some p.2) → w.cell? ⟨b, off, none⟩ = some v) (hn : Nat.blt d c.n = true) (h : At c ((d, v) :: m) rs K) : At c m rs (fun a w => Op1 c.P ⟨some d, .load T x, t, pos, af, g⟩ a w K) :=
  fun a w hs hh => op1_run (v := v) (w' := w) (by intros; simp)
    (run_v (by simp [hs.eval hx, Instr.loadAt, Instr.sureAddr, loadVar, ha, Go.load, Sem.run, hr w hh.good.glob])) (h _ _ (hs.put hn) hh)
/-- a slice of the caller's, that never turns -/
def ArgS (G : List (Nat × Obj)) (ad : Option Addr) (xs : List Value) : Prop := ∀ (j : Nat) (v : Value), xs[j]? = some v → ∃ b off, ad = some ⟨b, off, none⟩ ∧ ∀ w : World, (∀ p ∈ G, w.heap[p.1]? = some p.2) → w.cell? ⟨b, off + j, none⟩ = some v
end Go.Proofs.YteckdahgkkmlaaaDoor
end

section
set_option maxRecDepth 20000
set_option linter.unusedVariables false
set_option linter.unusedSimpArgs false
namespace Go.Proofs.YteckdahgkkmlaaaDoor
open Go SL
variable {G : List (Nat × Obj)}
theorem slices_Index (ad : Option Addr) (cap : Nat) (xs : List Int) (x : Int) (hx : xs.length < 1000000) : Does Tryd.prog G 23 [.slice ad xs.length cap, i64 x] [ownS ad cap (xs.map i64) 3 1] (fun v rs' => ∃ r : Int, v = i64 r ∧ decide (0 ≤ r) = decide (x ∈ xs) ∧ rs' = [ownS ad cap (xs.map i64) 3 1]) := by
  refine Does.of Tryd.func23 rfl Tryd.ntmps23 rfl (fun w0 => ?_)
  refine At.keep [(0, _), (1, _)] (.cons rfl (.cons rfl .nil)) ?_
  refine At.seq ?_
  refine At.region ?_
  refine At.op rfl (op_assign rfl rfl ?_)
  refine At.nil ?_
  refine At.then_n ?_
  refine At.seq ?_
  refine At.seq ?_
  refine At.region ?_
  refine At.op rfl (op_move rfl rfl ?_)
  refine At.op rfl (op_len_slc rfl Tryd.underlying40 rfl ?_)
  refine At.op rfl (op_move rfl rfl ?_)
  refine At.nil ?_
  refine At.then_n ?_
  refine At.block ?_
  refine At.cut (rs' := (fun _ => [ownS ad cap (xs.map i64) 3 1]) (0 : Nat)) (.cons (by first | exact Pull.p0 | exact Pull.p1 | exact Pull.p2 | exact Pull.p3 | exact Pull.p4 | exact Pull.p5 | exact Pull.p6 | exact Pull.p7 | exact Pull.p8 | exact Pull.p9) .nil) ?_
  refine At.keep ((fun k => [(0, .slice ad xs.length cap), (1, i64 x), (7, i64 xs.length), (8, i64 k)]) (0 : Nat)) (.cons rfl (.cons rfl (.cons rfl (.cons rfl .nil)))) ?_
  refine At.loop (σ := Nat) (fun k => k ≤ xs.length ∧ ∀ m, m < k → xs[m]? ≠ some x) (fun k => [(0, .slice ad xs.length cap), (1, i64 x), (7, i64 xs.length), (8, i64 k)]) (fun _ => [ownS ad cap (xs.map i64) 3 1]) (fun k => xs.length - k) (0 : Nat) ⟨Nat.zero_le _, fun m hm => absurd hm (Nat.not_lt_zero m)⟩ ?_
  rintro k ⟨hk, hk2⟩
  refine At.seq ?_
  refine At.region ?_
  refine At.op rfl (op_bin rfl rfl b_lt rfl ?_)
  refine At.nil ?_
  refine At.then_n ?_
  refine At.seq ?_
  refine At.cond_p rfl (fun hlt => ?_) (fun hlt => ?_)
  ·
    obtain ⟨y, hy⟩ : ∃ y, xs[k]? = some y := ⟨_, List.getElem?_eq_getElem (by omega)⟩
    refine At.own_some (by first | with_reducible exact Pull.p0 | with_reducible exact Pull.p1 | with_reducible exact Pull.p2 | with_reducible exact Pull.p3 | with_reducible exact Pull.p4 | with_reducible exact Pull.p5 | with_reducible exact Pull.p6 | with_reducible exact Pull.p7 | with_reducible exact Pull.p8 | with_reducible exact Pull.p9) (by intro e; have := congrArg List.length e; simp at this; subst this; simp at hlt; omega) (fun b hb => ?_)
    subst hb
    refine At.skip ?_
    refine At.then_n ?_
    refine At.seq ?_
    refine At.block ?_
    refine At.seq ?_
    refine At.region ?_
    refine At.op rfl (op_move rfl rfl ?_)
    refine At.op rfl (op_assign rfl rfl ?_)
    refine At.nil ?_
    refine At.then_n ?_
    refine At.seq ?_
    refine At.region ?_
    refine At.op rfl (op_move rfl rfl ?_)
    refine At.op rfl (op_move rfl rfl ?_)
    refine At.op rfl (op_move rfl rfl ?_)
    refine At.op rfl (op_indexS rfl rfl Tryd.underlying40 Tryd.sizeOf3 (by omega) (by omega) rfl ?_)
    refine At.op rfl (op_loadO rfl Tryd.isAgg3 (by first | with_reducible exact Pull.p0 | with_reducible exact Pull.p1 | with_reducible exact Pull.p2 | with_reducible exact Pull.p3 | with_reducible exact Pull.p4 | with_reducible exact Pull.p5 | with_reducible exact Pull.p6 | with_reducible exact Pull.p7 | with_reducible exact Pull.p8 | with_reducible exact Pull.p9) (mapi_get hy) rfl ?_)
    refine At.op rfl (op_bin rfl rfl b_eq rfl ?_)
    refine At.nil ?_
    refine At.then_n ?_
    refine At.cond_p rfl (fun hxy => ?_) (fun hxy => ?_)
    ·
      refine At.seq ?_
      refine At.region ?_
      refine At.op rfl (op_move rfl rfl ?_)
      refine At.op rfl (op_assign rfl rfl ?_)
      refine At.nil ?_
      refine At.then_n ?_
      refine At.ret ?_
      refine At.blk_r ?_
      refine At.then_r ?_
      refine At.then_r ?_
      refine At.blk_r ?_
      refine At.then_r ?_
      refine At.fin1 rfl rfl rfl ⟨(k : Int), rfl, ?_, rfl⟩ (.cons (by first | with_reducible exact Pull.p0 | with_reducible exact Pull.p1 | with_reducible exact Pull.p2 | with_reducible exact Pull.p3 | with_reducible exact Pull.p4 | with_reducible exact Pull.p5 | with_reducible exact Pull.p6 | with_reducible exact Pull.p7 | with_reducible exact Pull.p8 | with_reducible exact Pull.p9) .nil)
      rw [decide_eq_true (by omega), decide_eq_true (by rw [hxy]; exact List.mem_of_getElem? hy)]
    ·
      refine At.skip ?_
      refine At.blk_n ?_
      refine At.then_n ?_
      refine At.region ?_
      refine At.op rfl (op_bin rfl rfl (b_add (by omega) (by omega)) rfl ?_)
      refine At.op rfl (op_move rfl rfl ?_)
      refine At.nil ?_
      refine At.then_n ?_
      exact At.back (k + 1) ⟨by omega, fun m hm => by rcases Nat.lt_succ_iff_lt_or_eq.1 hm with h | h; exact hk2 m h; subst h; rw [hy]; intro e; exact hxy (Option.some.inj e).symm⟩ (by omega) (.cons rfl (.cons rfl (.cons rfl (.cons rfl .nil)))) (.cons (by first | with_reducible exact Pull.p0 | with_reducible exact Pull.p1 | with_reducible exact Pull.p2 | with_reducible exact Pull.p3 | with_reducible exact Pull.p4 | with_reducible exact Pull.p5 | with_reducible exact Pull.p6 | with_reducible exact Pull.p7 | with_reducible exact Pull.p8 | with_reducible exact Pull.p9) .nil)
  ·
    refine At.exit ?_
    refine At.then_e ?_
    refine At.then_e ?_
    refine At.blk_e ?_
    refine At.then_n ?_
    refine At.seq ?_
    refine At.region ?_
    refine At.op rfl (op_assign rfl rfl ?_)
    refine At.nil ?_
    refine At.then_n ?_
    refine At.ret ?_
    refine At.fin1 rfl rfl rfl ⟨-1, rfl, ?_, rfl⟩ (.cons (by first | with_reducible exact Pull.p0 | with_reducible exact Pull.p1 | with_reducible exact Pull.p2 | with_reducible exact Pull.p3 | with_reducible exact Pull.p4 | with_reducible exact Pull.p5 | with_reducible exact Pull.p6 | with_reducible exact Pull.p7 | with_reducible exact Pull.p8 | with_reducible exact Pull.p9) .nil)
    rw [decide_eq_false (by omega), decide_eq_false]
    intro hm
    obtain ⟨m, hm⟩ := List.getElem?_of_mem hm
    exact hk2 m (by have := (List.getElem?_eq_some_iff.1 hm).1; omega) hm
theorem slices_Contains (ad : Option Addr) (cap : Nat) (xs : List Int) (x : Int) (hx : xs.length < 1000000) : Does Tryd.prog G 12 [.slice ad xs.length cap, i64 x] [ownS ad cap (xs.map i64) 3 1] (OneR (.bool (decide (x ∈ xs))) [ownS ad cap (xs.map i64) 3 1]) := by
  refine Does.of Tryd.func12 rfl Tryd.ntmps12 rfl (fun w0 => ?_)
  refine At.keep [(0, _), (1, _)] (.cons rfl (.cons rfl .nil)) ?_
  refine At.seq ?_
  refine At.region ?_
  refine At.op rfl (op_assign rfl rfl ?_)
  refine At.nil ?_
  refine At.then_n ?_
  refine At.seq ?_
  refine At.region ?_
  refine At.op rfl (op_move rfl rfl ?_)
  refine At.op rfl (op_move rfl rfl ?_)
  refine At.op rfl (op_callF rfl Tryd.call23 (slices_Index ad cap xs x hx) (.cons (by first | with_reducible exact Pull.p0 | with_reducible exact Pull.p1 | with_reducible exact Pull.p2 | with_reducible exact Pull.p3 | with_reducible exact Pull.p4 | with_reducible exact Pull.p5 | with_reducible exact Pull.p6 | with_reducible exact Pull.p7 | with_reducible exact Pull.p8 | with_reducible exact Pull.p9) .nil) rfl ?_)
  rintro v _ ⟨r, rfl, hr, rfl⟩
  refine At.app1 ?_
  refine At.op rfl (op_bin rfl rfl b_ge rfl ?_)
  refine At.op rfl (op_assign rfl rfl ?_)
  refine At.nil ?_
  refine At.then_n ?_
  refine At.ret ?_
  exact At.fin1 rfl rfl rfl ⟨by rw [hr], rfl⟩ (.cons (by first | with_reducible exact Pull.p0 | with_reducible exact Pull.p1 | with_reducible exact Pull.p2 | with_reducible exact Pull.p3 | with_reducible exact Pull.p4 | with_reducible exact Pull.p5 | with_reducible exact Pull.p6 | with_reducible exact Pull.p7 | with_reducible exact Pull.p8 | with_reducible exact Pull.p9) .nil)
theorem nand_New (pw segs pages rated : Nat) (ad : Option Addr) (cap : Nat) (bads : List Int) (h1 : 1 ≤ segs ∧ segs ≤ 64) (h2 : 1 ≤ pages ∧ pages ≤ 16) (h3 : rated < 1000000) (hb : bads.length < 1000000) : Does Tryd.prog G 4 [ptr pw 0, i64 segs, i64 pages, i64 rated, .slice ad bads.length cap] [row pw powL 57 (0, 0), ownS ad cap (bads.map i64) 3 1] (fun v rs' => ∃ c : Chp, c.wf ∧ c.fresh segs pages rated bads ∧ v = ptr c.cb 0 ∧ rs' = [chipR c]) := by
  refine Does.of Tryd.func4 rfl Tryd.ntmps4 rfl (fun w0 => ?_)
  refine At.keep [(0, _), (1, _), (2, _), (3, _), (4, _)] (.cons rfl (.cons rfl (.cons rfl (.cons rfl (.cons rfl .nil))))) ?_
  refine At.seq ?_
  refine At.region ?_
  refine At.op rfl (op_assign rfl rfl ?_)
  refine At.nil ?_
  refine At.then_n ?_
  refine At.seq ?_
  refine At.seq ?_
  refine At.region ?_
  refine At.op rfl (op_move rfl rfl ?_)
  refine At.op rfl (op_bin rfl rfl (Bin.cast (v' := .bool false) (b_pnil Tryd.underlying24) rfl) rfl ?_)
  refine At.op rfl (op_move rfl rfl ?_)
  refine At.opg rfl rfl rfl (op_move rfl rfl ?_)
  refine At.opg rfl rfl rfl (op_bin rfl rfl (Bin.cast (v' := .bool false) b_lt (congrArg Value.bool (decide_eq_false (by omega)))) rfl ?_)
  refine At.op rfl (op_pick_f rfl rfl rfl ?_)
  refine At.op rfl (op_move rfl rfl ?_)
  refine At.opg rfl rfl rfl (op_move rfl rfl ?_)
  refine At.opg rfl rfl rfl (op_bin rfl rfl (Bin.cast (v' := .bool false) b_gt (congrArg Value.bool (decide_eq_false (by omega)))) rfl ?_)
  refine At.op rfl (op_pick_f rfl rfl rfl ?_)
  refine At.op rfl (op_move rfl rfl ?_)
  refine At.opg rfl rfl rfl (op_move rfl rfl ?_)
  refine At.opg rfl rfl rfl (op_bin rfl rfl (Bin.cast (v' := .bool false) b_lt (congrArg Value.bool (decide_eq_false (by omega)))) rfl ?_)
  refine At.op rfl (op_pick_f rfl rfl rfl ?_)
  refine At.op rfl (op_move rfl rfl ?_)
  refine At.opg rfl rfl rfl (op_move rfl rfl ?_)
  refine At.opg rfl rfl rfl (op_bin rfl rfl (Bin.cast (v' := .bool false) b_gt (congrArg Value.bool (decide_eq_false (by omega)))) rfl ?_)
  refine At.op rfl (op_pick_f rfl rfl rfl ?_)
  refine At.op rfl (op_move rfl rfl ?_)
  refine At.opg rfl rfl rfl (op_move rfl rfl ?_)
  refine At.opg rfl rfl rfl (op_bin rfl rfl (Bin.cast (v' := .bool false) b_lt (congrArg Value.bool (decide_eq_false (by omega)))) rfl ?_)
  refine At.op rfl (op_pick_f rfl rfl rfl ?_)
  refine At.nil ?_
  refine At.then_n ?_
  refine At.cond_f rfl ?_
  refine At.skip ?_
  refine At.then_n ?_
  refine At.seq ?_
  refine At.keep [(0, _), (1, _), (2, _), (3, _), (4, _), (10, _)] (.cons rfl (.cons rfl (.cons rfl (.cons rfl (.cons rfl (.cons rfl .nil)))))) ?_
  refine At.region ?_
  refine At.op rfl (op_move rfl rfl ?_)
  refine At.op rfl (op_move rfl rfl ?_)
  refine At.op rfl (op_build (v := .agg [i64 segs, i64 pages].toArray) rfl (fun w => run_build w _ _ _ (by kernel_rfl)) rfl ?_)
  refine At.op rfl (op_move rfl rfl ?_)
  refine At.op rfl (op_move rfl rfl ?_)
  refine At.op rfl (op_move rfl rfl ?_)
  refine At.op rfl (op_make rfl Tryd.underlying43 et49 (by omega) (by omega) (by omega) rfl ?_)
  intro lb
  rw [show (madeCells _ (segs * 3)).toList = zeroSegs segs from made_segs segs]
  refine At.same (r' := row lb (zeroSegs segs) 49 (0, 0)) (by first | with_reducible exact Pull.p0 | with_reducible exact Pull.p1 | with_reducible exact Pull.p2 | with_reducible exact Pull.p3 | with_reducible exact Pull.p4 | with_reducible exact Pull.p5 | with_reducible exact Pull.p6 | with_reducible exact Pull.p7 | with_reducible exact Pull.p8 | with_reducible exact Pull.p9) (own_row (by rw [zeroSegs_length])) (fun b hb => ⟨_, rfl, hb.symm⟩) ?_
  refine At.op rfl (op_build (v := .agg [i64 segs, i64 pages, ptr pw 0, i64 rated, slc lb 0 segs segs, nilS, i64 0, i64 0].toArray) rfl (fun w => run_build w _ _ _ (by kernel_rfl)) rfl ?_)
  refine At.op rfl (op_box rfl rfl rfl ?_)
  intro cb
  refine At.pgs0 ?_
  refine At.op rfl (op_assign rfl rfl ?_)
  refine At.nil ?_
  refine At.then_n ?_
  refine At.seq ?_
  refine At.seq ?_
  refine At.keep [(2, _), (4, _), (10, _), (11, _)] (.cons rfl (.cons rfl (.cons rfl (.cons rfl .nil)))) ?_
  refine At.region ?_
  refine At.op rfl (op_move rfl rfl ?_)
  refine At.op rfl (op_nilCheck rfl rfl ?_)
  refine At.op rfl (op_fieldAddr (o' := 4) rfl Tryd.underlying46 rfl Tryd.sizeOf43 rfl rfl ?_)
  refine At.op rfl (op_load rfl Tryd.isAgg43 (by first | with_reducible exact Pull.p0 | with_reducible exact Pull.p1 | with_reducible exact Pull.p2 | with_reducible exact Pull.p3 | with_reducible exact Pull.p4 | with_reducible exact Pull.p5 | with_reducible exact Pull.p6 | with_reducible exact Pull.p7 | with_reducible exact Pull.p8 | with_reducible exact Pull.p9) rfl rfl ?_)
  refine At.op rfl (op_len_slc rfl Tryd.underlying43 rfl ?_)
  refine At.op rfl (op_move rfl rfl ?_)
  refine At.nil ?_
  refine At.then_n ?_
  refine At.block ?_
  refine At.cut (rs' := (fun s => [row cb [i64 segs, i64 pages, ptr pw 0, i64 rated, slc lb 0 segs segs, nilS, i64 0, i64 0] 46 (0, 0), row pw powL 57 (0, 0), row lb (segCells pages (newSegs pages bads 0 s.2) ++ zeroSegs (segs - s.1)) 49 (0, 0), pgsR (newSegs pages bads 0 s.2), ownS ad cap (bads.map i64) 3 1]) ((0, []) : Nat × List Nat)) (.cons (by first | exact Pull.p0 | exact Pull.p1 | exact Pull.p2 | exact Pull.p3 | exact Pull.p4 | exact Pull.p5 | exact Pull.p6 | exact Pull.p7 | exact Pull.p8 | exact Pull.p9) (.cons (by first | exact Pull.p0 | exact Pull.p1 | exact Pull.p2 | exact Pull.p3 | exact Pull.p4 | exact Pull.p5 | exact Pull.p6 | exact Pull.p7 | exact Pull.p8 | exact Pull.p9) (.cons (by first | exact Pull.p0 | exact Pull.p1 | exact Pull.p2 | exact Pull.p3 | exact Pull.p4 | exact Pull.p5 | exact Pull.p6 | exact Pull.p7 | exact Pull.p8 | exact Pull.p9) (.cons (by first | exact Pull.p0 | exact Pull.p1 | exact Pull.p2 | exact Pull.p3 | exact Pull.p4 | exact Pull.p5 | exact Pull.p6 | exact Pull.p7 | exact Pull.p8 | exact Pull.p9) (.cons (by first | exact Pull.p0 | exact Pull.p1 | exact Pull.p2 | exact Pull.p3 | exact Pull.p4 | exact Pull.p5 | exact Pull.p6 | exact Pull.p7 | exact Pull.p8 | exact Pull.p9) .nil))))) ?_
  refine At.keep ((fun s => [(2, i64 pages), (4, .slice ad bads.length cap), (11, ptr cb 0), (48, i64 segs), (49, i64 s.1)]) ((0, []) : Nat × List Nat)) (.cons rfl (.cons rfl (.cons rfl (.cons rfl (.cons rfl .nil))))) ?_
  refine At.loop (σ := Nat × List Nat) (fun s => s.2.length = s.1 ∧ s.1 ≤ segs) (fun s => [(2, i64 pages), (4, .slice ad bads.length cap), (11, ptr cb 0), (48, i64 segs), (49, i64 s.1)]) (fun s => [row cb [i64 segs, i64 pages, ptr pw 0, i64 rated, slc lb 0 segs segs, nilS, i64 0, i64 0] 46 (0, 0), row pw powL 57 (0, 0), row lb (segCells pages (newSegs pages bads 0 s.2) ++ zeroSegs (segs - s.1)) 49 (0, 0), pgsR (newSegs pages bads 0 s.2), ownS ad cap (bads.map i64) 3 1]) (fun s => segs - s.1) ((0, []) : Nat × List Nat) ⟨rfl, Nat.zero_le _⟩ ?_
  rintro ⟨k, pbs⟩ ⟨hl, hk⟩
  dsimp only at hl hk ⊢
  refine At.seq ?_
  refine At.region ?_
  refine At.op rfl (op_bin rfl rfl b_lt rfl ?_)
  refine At.nil ?_
  refine At.then_n ?_
  refine At.seq ?_
  refine At.cond_p rfl (fun hlt => ?_) (fun hlt => ?_)
  ·
    obtain ⟨n, hn⟩ : ∃ n, segs - k = n + 1 := ⟨segs - k - 1, by omega⟩
    rw [hn]
    have hnl : (newSegs pages bads 0 pbs).length = k := by rw [newSegs_length]; exact hl
    refine At.skip ?_
    refine At.then_n ?_
    refine At.seq ?_
    refine At.block ?_
    refine At.seq ?_
    refine At.region ?_
    refine At.op rfl (op_move rfl rfl ?_)
    refine At.op rfl (op_assign rfl rfl ?_)
    refine At.nil ?_
    refine At.then_n ?_
    refine At.seq ?_
    refine At.drawX2 (γ := Nat) 0 [6, 9] (fun g => [[ownS (some ⟨g, 0, none⟩) pages (madeCells (Value.pointer none).cells (pages * 1)).toList 78 1, row cb [i64 segs, i64 pages, ptr pw 0, i64 rated, slc lb 0 segs segs, nilS, i64 0, i64 0] 46 (0, 0), row pw powL 57 (0, 0), row lb (segCells pages (newSegs pages bads 0 pbs) ++ zeroSegs (n + 1)) 49 (0, 0), pgsR (newSegs pages bads 0 pbs), ownS ad cap (bads.map i64) 3 1], [row lb (segCells pages (newSegs pages bads 0 pbs) ++ (slc g 0 pages pages :: i64 0 :: .bool false :: zeroSegs n)) 49 (0, 0), ownS (some ⟨g, 0, none⟩) pages (madeCells (Value.pointer none).cells (pages * 1)).toList 78 1, row cb [i64 segs, i64 pages, ptr pw 0, i64 rated, slc lb 0 segs segs, nilS, i64 0, i64 0] 46 (0, 0), row pw powL 57 (0, 0), pgsR (newSegs pages bads 0 pbs), ownS ad cap (bads.map i64) 3 1]]) (fun g => [ptr cb 0, ptr cb 0, ptr cb 4, slc lb 0 segs segs, i64 k, i64 pages, slc g 0 pages pages, ptr lb (0 + (k : Int).toNat * 3), ptr lb (0 + (k : Int).toNat * 3 + 0), undef]) (by kernel_rfl) (by decide) (by kernel_rfl) (by decide) (by kernel_rfl) (fun _ => rfl) (fun g => 
      (.quiet 1 (by kernel_rfl) (by kernel_rfl) (.cons (Step.op rfl (fun D h1 h2 h3 K hK => op_move (mD_base rfl rfl) rfl hK)) (.cons (Step.op rfl (fun D h1 h2 h3 K hK => op_move (mD_base rfl rfl) rfl hK)) .nil))
      (.quiet 1 (by kernel_rfl) (by kernel_rfl) (.cons (Step.op rfl (fun D h1 h2 h3 K hK => op_nilCheck (mD_done 0 (by decide) (pre_at h2 0 rfl rfl) rfl rfl rfl) rfl hK)) (.cons (Step.op rfl (fun D h1 h2 h3 K hK => op_nilCheck (mD_done 0 (by decide) (pre_at h2 0 rfl rfl) rfl rfl rfl) rfl hK)) .nil))
      (.quiet 1 (by kernel_rfl) (by kernel_rfl) (.cons (Step.op rfl (fun D h1 h2 h3 K hK => op_fieldAddr (o' := 4) (mD_done 1 (by decide) (pre_at h2 0 rfl rfl) rfl rfl rfl) Tryd.underlying46 rfl Tryd.sizeOf43 rfl rfl hK)) (.cons (Step.op rfl (fun D h1 h2 h3 K hK => op_fieldAddr (o' := 4) (mD_done 1 (by decide) (pre_at h2 0 rfl rfl) rfl rfl rfl) Tryd.underlying46 rfl Tryd.sizeOf43 rfl rfl hK)) .nil))
      (.quiet 1 (by kernel_rfl) (by kernel_rfl) (.cons (Step.op rfl (fun D h1 h2 h3 K hK => op_load (mD_done 2 (by decide) (pre_at h2 0 rfl rfl) rfl rfl rfl) Tryd.isAgg43 (by first | with_reducible exact Pull.p0 | with_reducible exact Pull.p1 | with_reducible exact Pull.p2 | with_reducible exact Pull.p3 | with_reducible exact Pull.p4 | with_reducible exact Pull.p5 | with_reducible exact Pull.p6 | with_reducible exact Pull.p7 | with_reducible exact Pull.p8 | with_reducible exact Pull.p9) rfl rfl hK)) (.cons (Step.op rfl (fun D h1 h2 h3 K hK => op_load (mD_done 2 (by decide) (pre_at h2 0 rfl rfl) rfl rfl rfl) Tryd.isAgg43 (by first | with_reducible exact Pull.p0 | with_reducible exact Pull.p1 | with_reducible exact Pull.p2 | with_reducible exact Pull.p3 | with_reducible exact Pull.p4 | with_reducible exact Pull.p5 | with_reducible exact Pull.p6 | with_reducible exact Pull.p7 | with_reducible exact Pull.p8 | with_reducible exact Pull.p9) rfl rfl hK)) .nil))
      (.quiet 1 (by kernel_rfl) (by kernel_rfl) (.cons (Step.op rfl (fun D h1 h2 h3 K hK => op_move (mD_base rfl rfl) rfl hK)) (.cons (Step.op rfl (fun D h1 h2 h3 K hK => op_move (mD_base rfl rfl) rfl hK)) .nil))
      (.quiet 0 (by kernel_rfl) (by kernel_rfl) (.cons (Step.op rfl (fun D h1 h2 h3 K hK => op_move (mD_base rfl rfl) rfl hK)) .nil)
      (.skip (by kernel_rfl) 
      (.quiet 2 (by kernel_rfl) (by kernel_rfl) (.cons (Step.op rfl (fun D h1 h2 h3 K hK => op_indexS (mD_done 3 (by decide) (pre_at h2 0 rfl rfl) rfl rfl rfl) (mD_done 4 (by decide) (pre_at h2 1 rfl rfl) rfl rfl rfl) Tryd.underlying43 Tryd.sizeOf49 (by omega) (by omega) rfl hK)) (.cons (Step.op rfl (fun D h1 h2 h3 K hK => op_indexS (mD_done 3 (by decide) (pre_at h2 0 rfl rfl) rfl rfl rfl) (mD_done 4 (by decide) (pre_at h2 1 rfl rfl) rfl rfl rfl) Tryd.underlying43 Tryd.sizeOf49 (by omega) (by omega) rfl hK)) (.cons (Step.op rfl (fun D h1 h2 h3 K hK => op_indexS (mD_done 3 (by decide) (pre_at h2 0 rfl rfl) rfl rfl rfl) (mD_done 4 (by decide) (pre_at h2 1 rfl rfl) rfl rfl rfl) Tryd.underlying43 Tryd.sizeOf49 (by omega) (by omega) rfl hK)) .nil)))
      (.quiet 1 (by kernel_rfl) (by kernel_rfl) (.cons (Step.op rfl (fun D h1 h2 h3 K hK => op_fieldAddr (mD_done 7 (by decide) (pre_at h2 0 rfl rfl) rfl rfl rfl) Tryd.underlying49 rfl Tryd.sizeOf47 rfl rfl hK)) (.cons (Step.op rfl (fun D h1 h2 h3 K hK => op_fieldAddr (mD_done 7 (by decide) (pre_at h2 0 rfl rfl) rfl rfl rfl) Tryd.underlying49 rfl Tryd.sizeOf47 rfl rfl hK)) .nil))
      (.skip (by kernel_rfl) 
      .nil)))))))))))
      (.cons rfl rfl (fun g => slc g 0 pages pages) (fun _ => rfl) (fun g => _) (fun g => [ownS (some ⟨g, 0, none⟩) pages (madeCells (Value.pointer none).cells (pages * 1)).toList 78 1, row cb [i64 segs, i64 pages, ptr pw 0, i64 rated, slc lb 0 segs segs, nilS, i64 0, i64 0] 46 (0, 0), row pw powL 57 (0, 0), row lb (segCells pages (newSegs pages bads 0 pbs) ++ zeroSegs (n + 1)) 49 (0, 0), pgsR (newSegs pages bads 0 pbs), ownS ad cap (bads.map i64) 3 1]) (fun _ => rfl) (fun _ => rfl) (fun g D h2 K hK => op_make (mD_done 5 (by decide) (pre_at h2 0 rfl rfl) rfl rfl rfl) Tryd.underlying47 et78 (by omega) (by omega) (by omega) rfl (fun b => hK b (by
            intro j
            rcases j with _ | j
            · first | exact .inl rfl | exact .inr (by kernel_rfl)
            rcases j with _ | j
            · first | exact .inl rfl | exact .inr (by kernel_rfl)
            rcases j with _ | j
            · first | exact .inl rfl | exact .inr (by kernel_rfl)
            rcases j with _ | j
            · first | exact .inl rfl | exact .inr (by kernel_rfl)
            rcases j with _ | j
            · first | exact .inl rfl | exact .inr (by kernel_rfl)
            rcases j with _ | j
            · first | exact .inl rfl | exact .inr (by kernel_rfl)
            rcases j with _ | j
            · first | exact .inl rfl | exact .inr (by kernel_rfl)
            rcases j with _ | j
            · first | exact .inl rfl | exact .inr (by kernel_rfl)
            rcases j with _ | j
            · first | exact .inl rfl | exact .inr (by kernel_rfl)
            rcases j with _ | j
            · first | exact .inl rfl | exact .inr (by kernel_rfl)
            exact .inl rfl)))
      (.cons rfl rfl (fun g => undef) (fun _ => rfl) (fun g => [ownS (some ⟨g, 0, none⟩) pages (madeCells (Value.pointer none).cells (pages * 1)).toList 78 1, row cb [i64 segs, i64 pages, ptr pw 0, i64 rated, slc lb 0 segs segs, nilS, i64 0, i64 0] 46 (0, 0), row pw powL 57 (0, 0), row lb (segCells pages (newSegs pages bads 0 pbs) ++ zeroSegs (n + 1)) 49 (0, 0), pgsR (newSegs pages bads 0 pbs), ownS ad cap (bads.map i64) 3 1]) (fun g => [row lb (segCells pages (newSegs pages bads 0 pbs) ++ (slc g 0 pages pages :: i64 0 :: .bool false :: zeroSegs n)) 49 (0, 0), ownS (some ⟨g, 0, none⟩) pages (madeCells (Value.pointer none).cells (pages * 1)).toList 78 1, row cb [i64 segs, i64 pages, ptr pw 0, i64 rated, slc lb 0 segs segs, nilS, i64 0, i64 0] 46 (0, 0), row pw powL 57 (0, 0), pgsR (newSegs pages bads 0 pbs), ownS ad cap (bads.map i64) 3 1]) (fun _ => rfl) (fun _ => rfl) (fun g D h2 K hK => op_store (mD_done 8 (by decide) (pre_at h2 0 rfl rfl) rfl rfl rfl) (mD_done 6 (by decide) (pre_at h2 1 rfl rfl) rfl rfl rfl) Tryd.sizeOf47 rfl rfl (by first | with_reducible exact Pull.p0 | with_reducible exact Pull.p1 | with_reducible exact Pull.p2 | with_reducible exact Pull.p3 | with_reducible exact Pull.p4 | with_reducible exact Pull.p5 | with_reducible exact Pull.p6 | with_reducible exact Pull.p7 | with_reducible exact Pull.p8 | with_reducible exact Pull.p9) (zset0 _ hnl) rfl (by exact hK g (by
            intro j
            rcases j with _ | j
            · first | exact .inl rfl | exact .inr (by kernel_rfl)
            rcases j with _ | j
            · first | exact .inl rfl | exact .inr (by kernel_rfl)
            rcases j with _ | j
            · first | exact .inl rfl | exact .inr (by kernel_rfl)
            rcases j with _ | j
            · first | exact .inl rfl | exact .inr (by kernel_rfl)
            rcases j with _ | j
            · first | exact .inl rfl | exact .inr (by kernel_rfl)
            rcases j with _ | j
            · first | exact .inl rfl | exact .inr (by kernel_rfl)
            rcases j with _ | j
            · first | exact .inl rfl | exact .inr (by kernel_rfl)
            rcases j with _ | j
            · first | exact .inl rfl | exact .inr (by kernel_rfl)
            rcases j with _ | j
            · first | exact .inl rfl | exact .inr (by kernel_rfl)
            rcases j with _ | j
            · first | exact .inl rfl | exact .inr (by kernel_rfl)
            exact .inl rfl)))
      .nil)) ?_
    rintro nb
    show At _ _ ([row lb (segCells pages (newSegs pages bads 0 pbs) ++ (slc nb 0 pages pages :: i64 0 :: .bool false :: zeroSegs n)) 49 (0, 0), ownS (some ⟨nb, 0, none⟩) pages (madeCells (Value.pointer none).cells (pages * 1)).toList 78 1, row cb [i64 segs, i64 pages, ptr pw 0, i64 rated, slc lb 0 segs segs, nilS, i64 0, i64 0] 46 (0, 0), row pw powL 57 (0, 0), pgsR (newSegs pages bads 0 pbs), ownS ad cap (bads.map i64) 3 1]) _
    refine At.keep [(2, _), (4, _), (11, _), (48, _), (49, _), (12, _)] (.cons rfl (.cons rfl (.cons rfl (.cons rfl (.cons rfl (.cons rfl .nil)))))) ?_
    refine At.then_n ?_
    refine At.drawE (rs' := [row lb (segCells pages (newSegs pages bads 0 pbs) ++ (slc nb 0 pages pages :: i64 0 :: .bool (decide ((k : Int) ∈ bads)) :: zeroSegs n)) 49 (0, 0), ownS (some ⟨nb, 0, none⟩) pages (madeCells (Value.pointer none).cells (pages * 1)).toList 78 1, row cb [i64 segs, i64 pages, ptr pw 0, i64 rated, slc lb 0 segs segs, nilS, i64 0, i64 0] 46 (0, 0), row pw powL 57 (0, 0), pgsR (newSegs pages bads 0 pbs), ownS ad cap (bads.map i64) 3 1]) [10] [[row lb (segCells pages (newSegs pages bads 0 pbs) ++ (slc nb 0 pages pages :: i64 0 :: .bool (decide ((k : Int) ∈ bads)) :: zeroSegs n)) 49 (0, 0), ownS (some ⟨nb, 0, none⟩) pages (madeCells (Value.pointer none).cells (pages * 1)).toList 78 1, row cb [i64 segs, i64 pages, ptr pw 0, i64 rated, slc lb 0 segs segs, nilS, i64 0, i64 0] 46 (0, 0), row pw powL 57 (0, 0), pgsR (newSegs pages bads 0 pbs), ownS ad cap (bads.map i64) 3 1]] [_, _, _, _, _, _, _, _, _, _, undef] (by kernel_rfl) (by decide) (by kernel_rfl) (by decide) rfl 
      (.quiet 0 (by kernel_rfl) (by kernel_rfl) (.cons (Step.op rfl (fun D h1 h2 h3 K hK => op_move (mD_base rfl rfl) rfl hK)) .nil)
      (.quiet 0 (by kernel_rfl) (by kernel_rfl) (.cons (Step.op rfl (fun D h1 h2 h3 K hK => op_nilCheck (mD_done 0 (by decide) (pre_at h2 0 rfl rfl) rfl rfl rfl) rfl hK)) .nil)
      (.quiet 0 (by kernel_rfl) (by kernel_rfl) (.cons (Step.op rfl (fun D h1 h2 h3 K hK => op_fieldAddr (o' := 4) (mD_done 1 (by decide) (pre_at h2 0 rfl rfl) rfl rfl rfl) Tryd.underlying46 rfl Tryd.sizeOf43 rfl rfl hK)) .nil)
      (.quiet 0 (by kernel_rfl) (by kernel_rfl) (.cons (Step.op rfl (fun D h1 h2 h3 K hK => op_load (mD_done 2 (by decide) (pre_at h2 0 rfl rfl) rfl rfl rfl) Tryd.isAgg43 (by first | with_reducible exact Pull.p0 | with_reducible exact Pull.p1 | with_reducible exact Pull.p2 | with_reducible exact Pull.p3 | with_reducible exact Pull.p4 | with_reducible exact Pull.p5 | with_reducible exact Pull.p6 | with_reducible exact Pull.p7 | with_reducible exact Pull.p8 | with_reducible exact Pull.p9) rfl rfl hK)) .nil)
      (.quiet 0 (by kernel_rfl) (by kernel_rfl) (.cons (Step.op rfl (fun D h1 h2 h3 K hK => op_move (mD_base rfl rfl) rfl hK)) .nil)
      (.quiet 0 (by kernel_rfl) (by kernel_rfl) (.cons (Step.op rfl (fun D h1 h2 h3 K hK => op_move (mD_base rfl rfl) rfl hK)) .nil)
      (.quiet 0 (by kernel_rfl) (by kernel_rfl) (.cons (Step.op rfl (fun D h1 h2 h3 K hK => op_move (mD_base rfl rfl) rfl hK)) .nil)
      (.quiet 0 (by kernel_rfl) (by kernel_rfl) (.cons (Step.op rfl (fun D h1 h2 h3 K hK => op_callQ (evs_cons (mD_done 5 (by decide) (pre_at h2 0 rfl rfl) rfl rfl rfl) (evs_cons (mD_done 6 (by decide) (pre_at h2 1 rfl rfl) rfl rfl rfl) evs_nil)) Tryd.call12 (slices_Contains ad cap bads k hb) (.cons (by first | with_reducible exact Pull.p0 | with_reducible exact Pull.p1 | with_reducible exact Pull.p2 | with_reducible exact Pull.p3 | with_reducible exact Pull.p4 | with_reducible exact Pull.p5 | with_reducible exact Pull.p6 | with_reducible exact Pull.p7 | with_reducible exact Pull.p8 | with_reducible exact Pull.p9) .nil) rfl hK)) .nil)
      (.quiet 1 (by kernel_rfl) (by kernel_rfl) (.cons (Step.op rfl (fun D h1 h2 h3 K hK => op_indexS (mD_done 3 (by decide) (pre_at h2 0 rfl rfl) rfl rfl rfl) (mD_done 4 (by decide) (pre_at h2 1 rfl rfl) rfl rfl rfl) Tryd.underlying43 Tryd.sizeOf49 (by omega) (by omega) rfl hK)) (.cons (Step.op rfl (fun D h1 h2 h3 K hK => op_indexS (mD_done 3 (by decide) (pre_at h2 0 rfl rfl) rfl rfl rfl) (mD_done 4 (by decide) (pre_at h2 1 rfl rfl) rfl rfl rfl) Tryd.underlying43 Tryd.sizeOf49 (by omega) (by omega) rfl hK)) .nil))
      (.quiet 0 (by kernel_rfl) (by kernel_rfl) (.cons (Step.op rfl (fun D h1 h2 h3 K hK => op_fieldAddr (mD_done 8 (by decide) (pre_at h2 0 rfl rfl) rfl rfl rfl) Tryd.underlying49 rfl Tryd.sizeOf4 rfl rfl hK)) .nil)
      (.eff 0 rfl (by kernel_rfl) (by kernel_rfl) rfl rfl (Last.op rfl (fun D h2 K hK => op_store (mD_done 9 (by decide) (pre_at h2 0 rfl rfl) rfl rfl rfl) (mD_done 7 (by decide) (pre_at h2 1 rfl rfl) rfl rfl rfl) Tryd.sizeOf4 rfl rfl (by first | with_reducible exact Pull.p0 | with_reducible exact Pull.p1 | with_reducible exact Pull.p2 | with_reducible exact Pull.p3 | with_reducible exact Pull.p4 | with_reducible exact Pull.p5 | with_reducible exact Pull.p6 | with_reducible exact Pull.p7 | with_reducible exact Pull.p8 | with_reducible exact Pull.p9) (zset2 _ _ hnl) rfl (by exact hK)))
      .nil))))))))))) ?_
    refine At.keep [(2, _), (4, _), (11, _), (48, _), (49, _)] (.cons rfl (.cons rfl (.cons rfl (.cons rfl (.cons rfl .nil))))) ?_
    refine At.blk_n ?_
    refine At.then_n ?_
    refine At.region ?_
    refine At.op rfl (op_bin rfl rfl (b_add (by omega) (by omega)) rfl ?_)
    refine At.op rfl (op_move rfl rfl ?_)
    refine At.nil ?_
    refine At.then_n ?_
    rw [made_nil]
    refine At.merge (by first | with_reducible exact Pull.p0 | with_reducible exact Pull.p1 | with_reducible exact Pull.p2 | with_reducible exact Pull.p3 | with_reducible exact Pull.p4 | with_reducible exact Pull.p5 | with_reducible exact Pull.p6 | with_reducible exact Pull.p7 | with_reducible exact Pull.p8 | with_reducible exact Pull.p9) (by first | with_reducible exact Pull.p0 | with_reducible exact Pull.p1 | with_reducible exact Pull.p2 | with_reducible exact Pull.p3 | with_reducible exact Pull.p4 | with_reducible exact Pull.p5 | with_reducible exact Pull.p6 | with_reducible exact Pull.p7 | with_reducible exact Pull.p8 | with_reducible exact Pull.p9) (pgs_more 0 (decide ((k : Int) ∈ bads))) (pgs_more_fp 0 _) ?_
    refine At.back (kk := []) (k + 1, pbs ++ [nb]) ⟨by simp [hl], by dsimp only; omega⟩ (by dsimp only; omega) (.cons rfl (.cons rfl (.cons rfl (.cons rfl (.cons rfl .nil))))) ?_
    dsimp only
    rw [newSegs_snoc, segCells_append, List.append_assoc, show segs - (k + 1) = n by omega, Nat.zero_add, hl]
    exact (.cons (by first | exact Pull.p0 | exact Pull.p1 | exact Pull.p2 | exact Pull.p3 | exact Pull.p4 | exact Pull.p5 | exact Pull.p6 | exact Pull.p7 | exact Pull.p8 | exact Pull.p9) (.cons (by first | exact Pull.p0 | exact Pull.p1 | exact Pull.p2 | exact Pull.p3 | exact Pull.p4 | exact Pull.p5 | exact Pull.p6 | exact Pull.p7 | exact Pull.p8 | exact Pull.p9) (.cons (by first | exact Pull.p0 | exact Pull.p1 | exact Pull.p2 | exact Pull.p3 | exact Pull.p4 | exact Pull.p5 | exact Pull.p6 | exact Pull.p7 | exact Pull.p8 | exact Pull.p9) (.cons (by first | exact Pull.p0 | exact Pull.p1 | exact Pull.p2 | exact Pull.p3 | exact Pull.p4 | exact Pull.p5 | exact Pull.p6 | exact Pull.p7 | exact Pull.p8 | exact Pull.p9) (.cons (by first | exact Pull.p0 | exact Pull.p1 | exact Pull.p2 | exact Pull.p3 | exact Pull.p4 | exact Pull.p5 | exact Pull.p6 | exact Pull.p7 | exact Pull.p8 | exact Pull.p9) .nil)))))
  ·
    obtain rfl : k = segs := by omega
    rw [show k - k = 0 from Nat.sub_self _, show zeroSegs 0 = [] from rfl, List.append_nil]
    refine At.exit ?_
    refine At.then_e ?_
    refine At.then_e ?_
    refine At.blk_e ?_
    refine At.then_n ?_
    refine At.seq ?_
    refine At.region ?_
    refine At.op rfl (op_move rfl rfl ?_)
    refine At.op rfl (op_assign rfl rfl ?_)
    refine At.nil ?_
    refine At.then_n ?_
    refine At.ret ?_
    refine At.own0 9 1 ?_
    refine At.unchip (Chp.mk cb pw lb k pages rated (newSegs pages bads 0 pbs) none 0 [] 0 0) (.cons (by first | exact Pull.p0 | exact Pull.p1 | exact Pull.p2 | exact Pull.p3 | exact Pull.p4 | exact Pull.p5 | exact Pull.p6 | exact Pull.p7 | exact Pull.p8 | exact Pull.p9) (.cons (by first | exact Pull.p0 | exact Pull.p1 | exact Pull.p2 | exact Pull.p3 | exact Pull.p4 | exact Pull.p5 | exact Pull.p6 | exact Pull.p7 | exact Pull.p8 | exact Pull.p9) (.cons (by first | exact Pull.p0 | exact Pull.p1 | exact Pull.p2 | exact Pull.p3 | exact Pull.p4 | exact Pull.p5 | exact Pull.p6 | exact Pull.p7 | exact Pull.p8 | exact Pull.p9) (.cons (by first | exact Pull.p0 | exact Pull.p1 | exact Pull.p2 | exact Pull.p3 | exact Pull.p4 | exact Pull.p5 | exact Pull.p6 | exact Pull.p7 | exact Pull.p8 | exact Pull.p9) (.cons (by first | exact Pull.p0 | exact Pull.p1 | exact Pull.p2 | exact Pull.p3 | exact Pull.p4 | exact Pull.p5 | exact Pull.p6 | exact Pull.p7 | exact Pull.p8 | exact Pull.p9) .nil))))) ?_
    exact At.fin1 rfl rfl rfl ⟨_, newChp_wf h1 h2 h3 hl, newChp_fresh, rfl, rfl⟩ (.cons (by first | with_reducible exact Pull.p0 | with_reducible exact Pull.p1 | with_reducible exact Pull.p2 | with_reducible exact Pull.p3 | with_reducible exact Pull.p4 | with_reducible exact Pull.p5 | with_reducible exact Pull.p6 | with_reducible exact Pull.p7 | with_reducible exact Pull.p8 | with_reducible exact Pull.p9) .nil)
end Go.Proofs.YteckdahgkkmlaaaDoor
end

section
set_option maxRecDepth 20000
set_option linter.unusedVariables false
set_option linter.unusedSimpArgs false
namespace Go.Proofs.YteckdahgkkmlaaaDoor
open Go SL
variable {G : List (Nat × Obj)}
theorem law13_shown (hG : GOK G) : Does Tryd.prog G 7 [] [] (One (.bool true)) := by
  refine Does.of Tryd.func7 rfl Tryd.ntmps7 rfl (fun w0 => ?_)
  refine At.keep [] .nil ?_
  refine At.seq ?_
  refine At.region ?_
  refine At.op rfl (op_assign rfl rfl ?_)
  refine At.nil ?_
  refine At.then_n ?_
  refine At.seq ?_
  refine At.region ?_
  refine At.op rfl (op_callF rfl Tryd.call5 nand_NewPower .nil rfl ?_)
  rintro v _ ⟨pw, rfl, rfl⟩
  refine At.app1 ?_
  refine At.own0 3 1 ?_
  refine At.op rfl (op_callF rfl Tryd.call4 (nand_New pw 3 4 9 none 0 [] (by decide) (by decide) (by decide) (by decide)) (.cons (by first | exact Pull.p0 | exact Pull.p1 | exact Pull.p2 | exact Pull.p3 | exact Pull.p4 | exact Pull.p5 | exact Pull.p6 | exact Pull.p7 | exact Pull.p8 | exact Pull.p9) (.cons (by first | exact Pull.p0 | exact Pull.p1 | exact Pull.p2 | exact Pull.p3 | exact Pull.p4 | exact Pull.p5 | exact Pull.p6 | exact Pull.p7 | exact Pull.p8 | exact Pull.p9) .nil)) rfl ?_)
  rintro v _ ⟨c, hc, hfr, rfl, rfl⟩
  refine At.app1 ?_
  refine At.op rfl (op_assign rfl rfl ?_)
  refine At.nil ?_
  refine At.then_n ?_
  refine At.seq ?_
  refine At.region ?_
  refine At.op rfl (op_move rfl rfl ?_)
  refine At.op rfl (op_callF rfl Tryd.call6 (seglog_Mount hG c hc) (.cons (by first | with_reducible exact Pull.p0 | with_reducible exact Pull.p1 | with_reducible exact Pull.p2 | with_reducible exact Pull.p3 | with_reducible exact Pull.p4 | with_reducible exact Pull.p5 | with_reducible exact Pull.p6 | with_reducible exact Pull.p7 | with_reducible exact Pull.p8 | with_reducible exact Pull.p9) .nil) rfl ?_)
  rintro v _ ⟨g, rfl, hop, hret, hseq, rfl⟩
  refine At.app3 ?_
  have habs := abs_new hc hfr hop hret
  have hgo : opOK g c := .inl hop
  have hsq : g.seq = 1 := hseq.trans (seq_fresh hfr)
  refine At.op rfl (op_move rfl rfl ?_)
  refine At.op rfl (op_extractL rfl .zero rfl ?_)
  refine At.op rfl (op_extractL rfl (.succ .zero) rfl ?_)
  refine At.op rfl (op_assign rfl rfl ?_)
  refine At.op rfl (op_assign rfl rfl ?_)
  refine At.nil ?_
  refine At.then_n ?_
  refine At.seq ?_
  refine At.seq ?_
  refine At.region ?_
  refine At.op rfl (op_move rfl rfl ?_)
  refine At.op rfl (op_bin rfl rfl (Bin.cast (v' := .bool false) b_ne (congrArg Value.bool (by rw [decide_eq_true rfl]; rfl))) rfl ?_)
  refine At.op rfl (op_move rfl rfl ?_)
  refine At.opg rfl rfl rfl (op_move rfl rfl ?_)
  refine At.opg rfl rfl rfl (op_bin rfl rfl (Bin.cast (v' := .bool false) (b_pnil Tryd.underlying26) rfl) rfl ?_)
  refine At.op rfl (op_pick_f rfl rfl rfl ?_)
  refine At.op rfl (op_move rfl rfl ?_)
  refine At.opg rfl rfl rfl (op_move rfl rfl ?_)
  refine At.opg rfl rfl rfl (op_callQ rfl Tryd.call9 (by have := seglog_Room (G := G) c hc g hgo; rw [habs] at this; exact this) (.cons (by first | with_reducible exact Pull.p0 | with_reducible exact Pull.p1 | with_reducible exact Pull.p2 | with_reducible exact Pull.p3 | with_reducible exact Pull.p4 | with_reducible exact Pull.p5 | with_reducible exact Pull.p6 | with_reducible exact Pull.p7 | with_reducible exact Pull.p8 | with_reducible exact Pull.p9) (.cons (by first | with_reducible exact Pull.p0 | with_reducible exact Pull.p1 | with_reducible exact Pull.p2 | with_reducible exact Pull.p3 | with_reducible exact Pull.p4 | with_reducible exact Pull.p5 | with_reducible exact Pull.p6 | with_reducible exact Pull.p7 | with_reducible exact Pull.p8 | with_reducible exact Pull.p9) (.cons (by first | with_reducible exact Pull.p0 | with_reducible exact Pull.p1 | with_reducible exact Pull.p2 | with_reducible exact Pull.p3 | with_reducible exact Pull.p4 | with_reducible exact Pull.p5 | with_reducible exact Pull.p6 | with_reducible exact Pull.p7 | with_reducible exact Pull.p8 | with_reducible exact Pull.p9) .nil))) rfl ?_)
  refine At.opg rfl rfl rfl (op_bin rfl rfl (Bin.cast (v' := .bool false) b_ne (congrArg Value.bool (by rw [decide_eq_true (by decide +kernel)]; rfl))) rfl ?_)
  refine At.op rfl (op_pick_f rfl rfl rfl ?_)
  refine At.op rfl (op_move rfl rfl ?_)
  refine At.opg rfl rfl rfl (op_move rfl rfl ?_)
  refine At.opg rfl rfl rfl (op_callQ rfl Tryd.call8 (by have := seglog_Open (G := G) c.cb g; rw [hop] at this; exact this) (.cons (by first | with_reducible exact Pull.p0 | with_reducible exact Pull.p1 | with_reducible exact Pull.p2 | with_reducible exact Pull.p3 | with_reducible exact Pull.p4 | with_reducible exact Pull.p5 | with_reducible exact Pull.p6 | with_reducible exact Pull.p7 | with_reducible exact Pull.p8 | with_reducible exact Pull.p9) .nil) rfl ?_)
  refine At.opg rfl rfl rfl (op_bin rfl rfl (Bin.cast (v' := .bool false) b_ne (congrArg Value.bool (by rw [decide_eq_true rfl]; rfl))) rfl ?_)
  refine At.op rfl (op_pick_f rfl rfl rfl ?_)
  refine At.nil ?_
  refine At.then_n ?_
  refine At.cond_f rfl ?_
  refine At.skip ?_
  refine At.then_n ?_
  refine At.seq ?_
  refine At.keep [(0, _), (2, _)] (.cons rfl (.cons rfl .nil)) ?_
  refine At.region ?_
  refine At.op rfl (op_move rfl rfl ?_)
  refine At.op rfl (op_callF rfl Tryd.call10 (seglog_Append hG c hc g hgo 1 [120] 0 (by decide) (by decide) (by rw [hfr.fpast]; decide)) (.cons (by first | exact Pull.p0 | exact Pull.p1 | exact Pull.p2 | exact Pull.p3 | exact Pull.p4 | exact Pull.p5 | exact Pull.p6 | exact Pull.p7 | exact Pull.p8 | exact Pull.p9) (.cons (by first | exact Pull.p0 | exact Pull.p1 | exact Pull.p2 | exact Pull.p3 | exact Pull.p4 | exact Pull.p5 | exact Pull.p6 | exact Pull.p7 | exact Pull.p8 | exact Pull.p9) (.cons (by first | exact Pull.p0 | exact Pull.p1 | exact Pull.p2 | exact Pull.p3 | exact Pull.p4 | exact Pull.p5 | exact Pull.p6 | exact Pull.p7 | exact Pull.p8 | exact Pull.p9) .nil))) rfl ?_)
  intro v rs2 hp
  have hsome : (abs g c).appSeg 0 = some 0 := by rw [habs]; decide +kernel
  have hn0 : (c.next 0).toNat = 0 := by rw [← abs_next g, habs]; decide +kernel
  rw [hsome] at hp
  simp only [hn0] at hp
  obtain ⟨sb, pa, pc, rfl, rfl⟩ := hp
  have hst := app_step hc hgo hsome sb (putS 1 g.seq [120]) (by rw [putS_length _ _ _ (by decide)]; decide) pa pc
  rw [hn0] at hst
  obtain ⟨hc1, ho1, ha1, hs1, hs2, _⟩ := hst
  rw [habs] at ha1
  have hat1 : (c.prog 0 0 sb (putS 1 g.seq [120]) pa pc).at 0 0 = some (putS 1 g.seq [120]) := by rw [Chp.at_prog hc hs1 hs2]; rfl
  refine At.app3 ?_
  refine At.op rfl (op_move rfl rfl ?_)
  refine At.op rfl (op_extractL rfl .zero rfl ?_)
  refine At.op rfl (op_extractL rfl (.succ .zero) rfl ?_)
  refine At.op rfl (op_alloc Tryd.zeroValue34 rfl rfl ?_)
  intro b4
  refine At.op rfl (op_storeW rfl rfl Tryd.sizeOf34 (by repeat' (first | refine List.forall_mem_cons.2 ⟨rfl, ?_⟩ | exact (fun _ h => by cases h))) (by first | with_reducible exact Pull.p0 | with_reducible exact Pull.p1 | with_reducible exact Pull.p2 | with_reducible exact Pull.p3 | with_reducible exact Pull.p4 | with_reducible exact Pull.p5 | with_reducible exact Pull.p6 | with_reducible exact Pull.p7 | with_reducible exact Pull.p8 | with_reducible exact Pull.p9) rfl rfl ?_)
  refine At.op rfl (op_assign rfl rfl ?_)
  refine At.nil ?_
  refine At.then_n ?_
  refine At.seq ?_
  refine At.region ?_
  refine At.op rfl (op_move rfl rfl ?_)
  refine At.op rfl (op_loadW rfl Tryd.isAgg34 Tryd.sizeOf34 (by first | with_reducible exact Pull.p0 | with_reducible exact Pull.p1 | with_reducible exact Pull.p2 | with_reducible exact Pull.p3 | with_reducible exact Pull.p4 | with_reducible exact Pull.p5 | with_reducible exact Pull.p6 | with_reducible exact Pull.p7 | with_reducible exact Pull.p8 | with_reducible exact Pull.p9) rfl rfl ?_)
  refine At.op rfl (op_callQ rfl Tryd.call15 (by have := seglog_Read_some (G := G) hG (c.prog 0 0 sb (putS 1 g.seq [120]) pa pc) hc1 (Lg.mk g.lb g.mb ((0 : Nat) : Int) (g.seq + 1) g.ret g.clock) 0 0 hs1 hs2 _ hat1; rw [get_put 1 g.seq [120] (by decide) (by decide)] at this; exact this) (.cons (by first | exact Pull.p0 | exact Pull.p1 | exact Pull.p2 | exact Pull.p3 | exact Pull.p4 | exact Pull.p5 | exact Pull.p6 | exact Pull.p7 | exact Pull.p8 | exact Pull.p9) (.cons (by first | exact Pull.p0 | exact Pull.p1 | exact Pull.p2 | exact Pull.p3 | exact Pull.p4 | exact Pull.p5 | exact Pull.p6 | exact Pull.p7 | exact Pull.p8 | exact Pull.p9) .nil)) rfl ?_)
  refine At.op rfl (op_move rfl rfl ?_)
  refine At.op rfl (op_extractL rfl .zero rfl ?_)
  refine At.op rfl (op_extractL rfl (.succ .zero) rfl ?_)
  refine At.op rfl (op_alloc Tryd.zeroValue68 rfl rfl ?_)
  intro b6
  refine At.op rfl (op_storeW rfl rfl Tryd.sizeOf68 (by repeat' (first | refine List.forall_mem_cons.2 ⟨rfl, ?_⟩ | exact (fun _ h => by cases h))) (by first | with_reducible exact Pull.p0 | with_reducible exact Pull.p1 | with_reducible exact Pull.p2 | with_reducible exact Pull.p3 | with_reducible exact Pull.p4 | with_reducible exact Pull.p5 | with_reducible exact Pull.p6 | with_reducible exact Pull.p7 | with_reducible exact Pull.p8 | with_reducible exact Pull.p9) rfl rfl ?_)
  refine At.op rfl (op_assign rfl rfl ?_)
  refine At.nil ?_
  refine At.then_n ?_
  refine At.seq ?_
  refine At.keep [(0, _), (2, _), (5, _), (6, _), (7, _)] (.cons rfl (.cons rfl (.cons rfl (.cons rfl (.cons rfl .nil))))) ?_
  refine At.region ?_
  refine At.op rfl (op_move rfl rfl ?_)
  refine At.op rfl (op_bin rfl rfl (Bin.cast (v' := .bool true) b_eq (congrArg Value.bool (decide_eq_true rfl))) rfl ?_)
  refine At.op rfl (op_move rfl rfl ?_)
  refine At.opg rfl rfl rfl (op_move rfl rfl ?_)
  refine At.opg rfl rfl rfl (op_bin rfl rfl (Bin.cast (v' := .bool true) b_eq (congrArg Value.bool (decide_eq_true rfl))) rfl ?_)
  refine At.op rfl (op_pick_t rfl rfl rfl ?_)
  refine At.op rfl (op_move rfl rfl ?_)
  refine At.opg rfl rfl rfl (op_fieldAddr (o' := 2) rfl Tryd.underlying68 rfl Tryd.sizeOf9 rfl rfl ?_)
  refine At.opg rfl rfl rfl (op_load rfl Tryd.isAgg9 (by first | with_reducible exact Pull.p0 | with_reducible exact Pull.p1 | with_reducible exact Pull.p2 | with_reducible exact Pull.p3 | with_reducible exact Pull.p4 | with_reducible exact Pull.p5 | with_reducible exact Pull.p6 | with_reducible exact Pull.p7 | with_reducible exact Pull.p8 | with_reducible exact Pull.p9) rfl rfl ?_)
  refine At.opg rfl rfl rfl (op_bin rfl rfl (Bin.cast (v' := .bool true) (b_seq (a := [120]) (b := [120])) rfl) rfl ?_)
  refine At.op rfl (op_pick_t rfl rfl rfl ?_)
  refine At.op rfl (op_move rfl rfl ?_)
  refine At.opg rfl rfl rfl (op_fieldAddr (o' := 1) rfl Tryd.underlying68 rfl Tryd.sizeOf61 rfl rfl ?_)
  refine At.opg rfl rfl rfl (op_load rfl Tryd.isAgg61 (by first | with_reducible exact Pull.p0 | with_reducible exact Pull.p1 | with_reducible exact Pull.p2 | with_reducible exact Pull.p3 | with_reducible exact Pull.p4 | with_reducible exact Pull.p5 | with_reducible exact Pull.p6 | with_reducible exact Pull.p7 | with_reducible exact Pull.p8 | with_reducible exact Pull.p9) rfl rfl ?_)
  refine At.opg rfl rfl rfl (op_bin rfl rfl (Bin.cast (v' := .bool true) (b64_eq g.seq 1) (by rw [hsq]; rfl)) rfl ?_)
  refine At.op rfl (op_pick_t rfl rfl rfl ?_)
  refine At.op rfl (op_move rfl rfl ?_)
  refine At.opg rfl rfl rfl (op_move rfl rfl ?_)
  refine At.opg rfl rfl rfl (op_callQ rfl Tryd.call9 (by have := seglog_Room (G := G) (c.prog 0 0 sb (putS 1 g.seq [120]) pa pc) hc1 (Lg.mk g.lb g.mb ((0 : Nat) : Int) (g.seq + 1) g.ret g.clock) ho1; rw [ha1] at this; exact this) (.cons (by first | exact Pull.p0 | exact Pull.p1 | exact Pull.p2 | exact Pull.p3 | exact Pull.p4 | exact Pull.p5 | exact Pull.p6 | exact Pull.p7 | exact Pull.p8 | exact Pull.p9) (.cons (by first | exact Pull.p0 | exact Pull.p1 | exact Pull.p2 | exact Pull.p3 | exact Pull.p4 | exact Pull.p5 | exact Pull.p6 | exact Pull.p7 | exact Pull.p8 | exact Pull.p9) (.cons (by first | exact Pull.p0 | exact Pull.p1 | exact Pull.p2 | exact Pull.p3 | exact Pull.p4 | exact Pull.p5 | exact Pull.p6 | exact Pull.p7 | exact Pull.p8 | exact Pull.p9) .nil))) rfl ?_)
  refine At.opg rfl rfl rfl (op_bin rfl rfl (Bin.cast (v' := .bool true) b_eq (congrArg Value.bool (decide_eq_true (by decide +kernel)))) rfl ?_)
  refine At.op rfl (op_pick_t rfl rfl rfl ?_)
  refine At.op rfl (op_assign rfl rfl ?_)
  refine At.nil ?_
  refine At.then_n ?_
  refine At.ret ?_
  exact At.fin1 rfl rfl rfl ⟨rfl, rfl⟩ .nil
end Go.Proofs.YteckdahgkkmlaaaDoor
end

section
set_option maxRecDepth 20000
set_option linter.unusedVariables false
set_option linter.unusedSimpArgs false
namespace Go.Proofs.YteckdahgkkmlaaaDoor
open Go SL
variable {G : List (Nat × Obj)}
/-! what was appended is read -/
def cutT (s : List UInt8) : List UInt8 := s.take (Int.toNat (if (229 : Int) < (s.length : Int) then 229 else (s.length : Int)))
theorem cutT_length (s : List UInt8) : (cutT s).length ≤ 229 := by
  unfold cutT
  rw [List.length_take]
  split <;> omega
def kdN (n : Nat) : UInt8 := 1 + UInt8.ofNat (n % 3)
theorem kdN_ne (n : Nat) : kdN n ≠ 0 := by
  have h : n % 3 < 3 := Nat.mod_lt _ (by decide)
  unfold kdN
  generalize n % 3 = x at h
  match x, h with
  | 0, _ => decide
  | 1, _ => decide
  | 2, _ => decide
/-- the n-th text's page -/
def pgN (xs : List (List UInt8)) (n : Nat) : List UInt8 := putS (kdN n) (UInt64.ofNat (n + 1)) (cutT (xs.getD n []))
theorem frm_put (k : UInt8) (q : UInt64) (t : List UInt8) (hk : k ≠ 0) (h : t.length ≤ 229) : frm (putS k q t) = some (k, q, t) := by
  have h1 := get_put k q t hk h
  cases hf : frm (putS k q t) with
  | none => rw [getV_none hf] at h1; simp at h1
  | some x =>
    obtain ⟨k', q', t'⟩ := x
    rw [getV_some hf] at h1
    simp only [Value.tuple.injEq, frmV, Array.mk.injEq, List.cons.injEq, Value.agg.injEq, and_true] at h1
    obtain ⟨a1, a2, a3⟩ := h1
    have e1 : k' = k := u8_inj.1 (by simpa [u8] using a1)
    have e2 : q' = q := u64_inj.1 (by simpa [u64] using a2)
    have e3 : t' = t := by simpa [str] using a3
    rw [e1, e2, e3]
theorem mem_items {c : Chp} {i j : Nat} {t : List UInt8} (h : c.at i j = some t) : (⟨i, j, t⟩ : Item) ∈ c.items := by
  unfold Chp.at at h
  cases hs : c.l[i]? with
  | none => rw [hs] at h; cases h
  | some s =>
    rw [hs, Option.bind_some] at h
    cases hp : s.pg[j]? with
    | none => rw [hp] at h; cases h
    | some p =>
      rw [hp, Option.bind_some] at h
      obtain ⟨suf, e⟩ := items_split hs hp h
      rw [e]
      exact List.mem_append_right _ (List.mem_cons_self ..)
theorem maxQ_fold : ∀ (l : List FItem) (m : UInt64), (∀ a ∈ l, a.q ≤ l.foldl (fun m a => if m < a.q then a.q else m) m) ∧ m ≤ l.foldl (fun m a => if m < a.q then a.q else m) m ∧ (l.foldl (fun m a => if m < a.q then a.q else m) m = m ∨ ∃ a ∈ l, a.q = l.foldl (fun m a => if m < a.q then a.q else m) m)
  | [], m => ⟨by simp, UInt64.le_refl _, .inl rfl⟩
  | x :: l, m => by
    rw [List.foldl_cons]
    by_cases h : m < x.q
    · rw [if_pos h]
      obtain ⟨h1, h2, h3⟩ := maxQ_fold l x.q
      refine ⟨fun a ha => ?_, UInt64.le_trans (UInt64.le_of_lt h) h2, ?_⟩
      · rcases List.mem_cons.1 ha with rfl | ha
        · exact h2
        · exact h1 a ha
      · rcases h3 with h3 | ⟨a, ha, h3⟩
        · exact .inr ⟨x, List.mem_cons_self .., h3.symm⟩
        · exact .inr ⟨a, List.mem_cons_of_mem _ ha, h3⟩
    · rw [if_neg h]
      obtain ⟨h1, h2, h3⟩ := maxQ_fold l m
      have hx : x.q ≤ m := UInt64.not_lt.1 h
      refine ⟨fun a ha => ?_, h2, ?_⟩
      · rcases List.mem_cons.1 ha with rfl | ha
        · exact UInt64.le_trans hx h2
        · exact h1 a ha
      · rcases h3 with h3 | ⟨a, ha, h3⟩
        · exact .inl h3
        · exact .inr ⟨a, List.mem_cons_of_mem _ ha, h3⟩
theorem maxQ_eq {l : List FItem} {n : UInt64} (h1 : ∀ a ∈ l, a.q ≤ n) (h2 : n = 0 ∨ ∃ a ∈ l, a.q = n) : maxQ l = n := by
  obtain ⟨h3, h4, h5⟩ := maxQ_fold l 0
  have e : maxQ l = l.foldl (fun m a => if m < a.q then a.q else m) 0 := rfl
  rw [← e] at h3 h4 h5
  apply UInt64.le_antisymm
  · rcases h5 with h5 | ⟨a, ha, h5⟩
    · rw [h5]; exact UInt64.zero_le
    · rw [← h5]; exact h1 a ha
  · rcases h2 with h2 | ⟨a, ha, h2⟩
    · rw [h2]; exact UInt64.zero_le
    · rw [← h2]; exact h3 a ha
/-- a log of n texts -/
def HasN (c : Chp) (xs : List (List UInt8)) (n : Nat) : Prop := ∀ i j, c.at i j = if i < 10 ∧ j < 5 ∧ 5 * i + j < n then some (pgN xs (5 * i + j)) else none
theorem ofNat_le {a b : Nat} (h : a ≤ b) (hb : b < 1000) : UInt64.ofNat a ≤ UInt64.ofNat b := by
  rw [UInt64.le_iff_toNat_le, UInt64.toNat_ofNat', UInt64.toNat_ofNat']; omega
theorem maxQ_has {c : Chp} {xs : List (List UInt8)} {n : Nat} (hn : n ≤ 40) (h : HasN c xs n) : maxQ c.frames + 1 = UInt64.ofNat (n + 1) := by
  have e : maxQ c.frames = UInt64.ofNat n := by
    apply maxQ_eq
    · intro a ha
      obtain ⟨b, hb, hab⟩ := List.mem_filterMap.1 ha
      have h1 := Chp.items_at hb
      rw [h] at h1
      split at h1
      · rename_i hc
        obtain ⟨_, _, hlt⟩ := hc
        unfold toF at hab
        rw [← Option.some.inj h1, pgN, frm_put _ _ _ (kdN_ne _) (cutT_length _)] at hab
        simp only [Option.map_some, Option.some.injEq] at hab
        rw [← hab]
        exact ofNat_le (by omega) (by omega)
      · cases h1
    · rcases n with _ | n
      · exact .inl rfl
      · right
        have h1 := h (n / 5) (n % 5)
        have e1 : 5 * (n / 5) + n % 5 = n := by omega
        rw [if_pos ⟨by omega, by omega, by omega⟩, e1] at h1
        refine ⟨⟨n / 5, n % 5, kdN n, UInt64.ofNat (n + 1), cutT (xs.getD n [])⟩, List.mem_filterMap.2 ⟨_, mem_items h1, ?_⟩, rfl⟩
        unfold toF
        rw [pgN, frm_put _ _ _ (kdN_ne _) (cutT_length _)]
        rfl
  rw [e]
  apply UInt64.toNat_inj.1
  rw [UInt64.toNat_add, UInt64.toNat_ofNat', UInt64.toNat_ofNat']
  show (n % 2 ^ 64 + 1) % 2 ^ 64 = _
  omega
/-- where the texts stand, in cells -/
def locC : Nat → List Value
  | 0 => []
  | n + 1 => locC n ++ [i64 ((n / 5 : Nat) : Int), i64 ((n % 5 : Nat) : Int)]
theorem locC_length : ∀ n, (locC n).length = n * 2
  | 0 => rfl
  | n + 1 => by rw [locC, List.length_append, locC_length n]; simp; omega
theorem locC_get0 {n k : Nat} (h : k < n) : (locC n)[k * 2]? = some (i64 ((k / 5 : Nat) : Int)) := by
  induction n with
  | zero => omega
  | succ n ih =>
    rw [locC]
    by_cases e : k < n
    · rw [List.getElem?_append_left (by rw [locC_length]; omega)]; exact ih e
    · obtain rfl : k = n := by omega
      rw [List.getElem?_append_right (by rw [locC_length]; exact Nat.le_refl _), locC_length, Nat.sub_self]; rfl
theorem locC_get1 {n k : Nat} (h : k < n) : (locC n)[k * 2 + 1]? = some (i64 ((k % 5 : Nat) : Int)) := by
  induction n with
  | zero => omega
  | succ n ih =>
    rw [locC]
    by_cases e : k < n
    · rw [List.getElem?_append_left (by rw [locC_length]; omega)]; exact ih e
    · obtain rfl : k = n := by omega
      rw [List.getElem?_append_right (by rw [locC_length]; omega), locC_length, show k * 2 + 1 - k * 2 = 1 by omega]; rfl
def qA : Ab := newAb 10 5 9 []
theorem q_app : ∀ k, k < 40 → (iter (fun a => a.app 0) k qA).appSeg 0 = some (k / 5) ∧ (iter (fun a => a.app 0) k qA).next (k / 5) = ((k % 5 : Nat) : Int) := by decide +kernel
theorem q_can : ∀ k, k < 41 → ∀ kk, kk < 10 → ((iter (fun a => a.app 0) k qA).mount).canErase kk = true := by decide +kernel
theorem hasN_step {c : Chp} (hc : c.wf) {xs : List (List UInt8)} {k : Nat} (hk : k < 40) (h : HasN c xs k) (h1 : k / 5 < c.segs) (h2 : k % 5 < c.pages) (b : Nat) (pa : Option Addr) (pc : Nat) : HasN (c.prog (k / 5) (k % 5) b (pgN xs k) pa pc) xs (k + 1) := by
  intro i j
  rw [Chp.at_prog hc h1 h2, h i j]
  by_cases e : i = k / 5 ∧ j = k % 5
  · obtain ⟨rfl, rfl⟩ := e
    rw [if_pos ⟨rfl, rfl⟩, if_pos ⟨by omega, by omega, by omega⟩, show 5 * (k / 5) + k % 5 = k by omega]
  · rw [if_neg e]
    by_cases e2 : i < 10 ∧ j < 5 ∧ 5 * i + j < k
    · rw [if_pos e2, if_pos ⟨e2.1, e2.2.1, by omega⟩]
    · rw [if_neg e2, if_neg]
      rintro ⟨h3, h4, h5⟩
      apply e
      have : 5 * i + j = k := by
        rcases Nat.lt_or_ge (5 * i + j) k with h6 | h6
        · exact absurd ⟨h3, h4, h6⟩ e2
        · omega
      omega
theorem hasN_new {c : Chp} {segs pages rated : Nat} {bads : List Int} (h : c.fresh segs pages rated bads) (xs : List (List UInt8)) : HasN c xs 0 := by
  intro i j
  rw [Chp.at_fresh h, if_neg (by omega)]
end Go.Proofs.YteckdahgkkmlaaaDoor
end

