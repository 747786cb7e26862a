/- Walks of the program's functions. -/
import Derived.Test.YteckdahgkkmlaaaGreatDoorSLS2
import Derived.KernelRfl
set_option maxRecDepth 20000
set_option linter.unusedVariables false
set_option linter.unusedSimpArgs false
namespace Go.Proofs.YteckdahgkkmlaaaGreatDoor
open Go SL
variable {G : List (Nat × Obj)}
theorem seglog_Mount (hG : GOK G) (c : Chp) (hc : c.wf) : Does Tryz.prog G 8 [ptr c.cb 0] [chipR c] (fun v rs' => ∃ g : Lg, v = .tuple #[ptr g.lb 0, i64 0] ∧ g.op = -1 ∧ g.ret = [] ∧ g.seq = maxQ c.frames + 1 ∧ rs' = [chipR c, logRow g c.cb, logMap g]) := by
  refine Does.ofM Tryz.func8 rfl Tryz.ntmps8 rfl (fun w0 => ?_)
  refine At.keep [(0, _)] (.cons rfl .nil) ?_
  refine At.seq ?_
  refine At.region ?_
  refine At.op rfl (op_assign rfl rfl ?_)
  refine At.op rfl (op_assign rfl rfl ?_)
  refine At.nil ?_
  refine At.then_n ?_
  refine At.seq ?_
  refine At.seq ?_
  refine At.region ?_
  refine At.op rfl (op_move rfl rfl ?_)
  refine At.op rfl (op_bin rfl rfl (Bin.cast (v' := .bool false) (b_pnil Tryz.underlying22) rfl) rfl ?_)
  refine At.nil ?_
  refine At.then_n ?_
  refine At.cond_f rfl ?_
  refine At.skip ?_
  refine At.then_n ?_
  refine At.seq ?_
  refine At.seq ?_
  refine At.region ?_
  refine At.op rfl (op_move rfl rfl ?_)
  refine At.op rfl (op_callQ rfl Tryz.call19 (nand_Read c hc 0 0 (by have := hc.segs1; omega) (by have := hc.pages1; omega)) (.cons (by first | with_reducible exact Pull.p0 | with_reducible exact Pull.p1 | with_reducible exact Pull.p2 | with_reducible exact Pull.p3 | with_reducible exact Pull.p4 | with_reducible exact Pull.p5 | with_reducible exact Pull.p6 | with_reducible exact Pull.p7 | with_reducible exact Pull.p8 | with_reducible exact Pull.p9) .nil) rfl ?_)
  obtain ⟨ra, rb, hr⟩ := readV_split (c.at 0 0)
  rw [hr]
  refine At.op rfl (op_move rfl rfl ?_)
  refine At.op rfl (op_extractL rfl .zero rfl ?_)
  refine At.op rfl (op_extractL rfl (.succ .zero) rfl ?_)
  refine At.op rfl (op_extractL rfl (.succ (.succ .zero)) rfl ?_)
  refine At.op rfl (op_assign rfl rfl ?_)
  refine At.op rfl (op_assign rfl rfl ?_)
  refine At.op rfl (op_assign rfl rfl ?_)
  refine At.nil ?_
  refine At.then_n ?_
  refine At.seq ?_
  refine At.region ?_
  refine At.op rfl (op_move rfl rfl ?_)
  refine At.op rfl (op_bin rfl rfl (Bin.cast (v' := .bool false) b_ne (congrArg Value.bool (by rw [decide_eq_true rfl]; rfl))) rfl ?_)
  refine At.nil ?_
  refine At.then_n ?_
  refine At.cond_f rfl ?_
  refine At.skip ?_
  refine At.then_n ?_
  refine At.seq ?_
  refine At.keep [(0, _), (2, _), (3, _)] (.cons rfl (.cons rfl (.cons rfl .nil))) ?_
  refine At.region ?_
  refine At.op rfl (op_move rfl rfl ?_)
  refine At.op rfl (op_makeMapI rfl ?_)
  intro r
  refine At.op rfl (op_build (v := .agg [ptr c.cb 0, i64 (-1), u64 0, .map (some r)].toArray) rfl (fun w => run_build w _ _ _ (by kernel_rfl)) rfl ?_)
  refine At.op rfl (op_box rfl rfl rfl ?_)
  intro lg
  refine At.op rfl (op_alloc Tryz.zeroValue26 rfl rfl ?_)
  intro b7
  refine At.op rfl (op_store rfl rfl Tryz.sizeOf26 rfl rfl (by first | with_reducible exact Pull.p0 | with_reducible exact Pull.p1 | with_reducible exact Pull.p2 | with_reducible exact Pull.p3 | with_reducible exact Pull.p4 | with_reducible exact Pull.p5 | with_reducible exact Pull.p6 | with_reducible exact Pull.p7 | with_reducible exact Pull.p8 | with_reducible exact Pull.p9) .zero rfl ?_)
  refine At.nil ?_
  refine At.then_n ?_
  refine At.seq ?_
  refine At.seq ?_
  refine At.region ?_
  refine At.op rfl (op_load rfl Tryz.isAgg26 (by first | with_reducible exact Pull.p0 | with_reducible exact Pull.p1 | with_reducible exact Pull.p2 | with_reducible exact Pull.p3 | with_reducible exact Pull.p4 | with_reducible exact Pull.p5 | with_reducible exact Pull.p6 | with_reducible exact Pull.p7 | with_reducible exact Pull.p8 | with_reducible exact Pull.p9) rfl rfl ?_)
  refine At.op rfl (op_callF rfl Tryz.call20 (seglog_frames lg) .nil rfl ?_)
  rintro v _ ⟨bb, rfl, rfl⟩
  refine At.app1 ?_
  refine At.nil ?_
  refine At.then_n ?_
  refine At.block ?_
  refine At.keep [(7, ptr b7 0), (26, _)] (.cons rfl (.cons rfl .nil)) ?_
  refine At.rangeF (fs := []) (cap := [ptr bb 0]) rfl Tryz.call37 (fun fn tmps l D RC hRC hsz hlk => ⟨[row bb [ptr lg 0] 26 (0, 0), chipR c, row lg [ptr c.cb 0, i64 (-1), u64 0, .map (some r)] 71 (0, 0), row b7 [ptr lg 0] 26 (0, 0)], _, (fun rs1 => ∃ q, q = maxQ c.frames ∧ rs1 = [row bb [ptr lg 0] 26 (0, 0), chipR c, row lg [ptr c.cb 0, i64 (-1), u64 q, .map (some r)] 71 (0, 0), row b7 [ptr lg 0] 26 (0, 0)]), (.cons (by first | exact Pull.p0 | exact Pull.p1 | exact Pull.p2 | exact Pull.p3 | exact Pull.p4 | exact Pull.p5 | exact Pull.p6 | exact Pull.p7 | exact Pull.p8 | exact Pull.p9) (.cons (by first | exact Pull.p0 | exact Pull.p1 | exact Pull.p2 | exact Pull.p3 | exact Pull.p4 | exact Pull.p5 | exact Pull.p6 | exact Pull.p7 | exact Pull.p8 | exact Pull.p9) (.cons (by first | exact Pull.p0 | exact Pull.p1 | exact Pull.p2 | exact Pull.p3 | exact Pull.p4 | exact Pull.p5 | exact Pull.p6 | exact Pull.p7 | exact Pull.p8 | exact Pull.p9) (.cons (by first | exact Pull.p0 | exact Pull.p1 | exact Pull.p2 | exact Pull.p3 | exact Pull.p4 | exact Pull.p5 | exact Pull.p6 | exact Pull.p7 | exact Pull.p8 | exact Pull.p9) .nil)))), ?_, ?_⟩)
  ·
    refine Does.conv (seglog_frames1 hG (σ := UInt64) c hc lg bb (fun q => [i64 (-1), u64 q, .map (some r)]) (fun q => [RC, defR D, row b7 [ptr lg 0] 26 (0, 0)]) _ (fun pre q => q = maxQ pre) 0 rfl ?_) (perm_of_cut (.cons (by first | exact Pull.p0 | exact Pull.p1 | exact Pull.p2 | exact Pull.p3 | exact Pull.p4 | exact Pull.p5 | exact Pull.p6 | exact Pull.p7 | exact Pull.p8 | exact Pull.p9) (.cons (by first | exact Pull.p0 | exact Pull.p1 | exact Pull.p2 | exact Pull.p3 | exact Pull.p4 | exact Pull.p5 | exact Pull.p6 | exact Pull.p7 | exact Pull.p8 | exact Pull.p9) (.cons (by first | exact Pull.p0 | exact Pull.p1 | exact Pull.p2 | exact Pull.p3 | exact Pull.p4 | exact Pull.p5 | exact Pull.p6 | exact Pull.p7 | exact Pull.p8 | exact Pull.p9) (.cons (by first | exact Pull.p0 | exact Pull.p1 | exact Pull.p2 | exact Pull.p3 | exact Pull.p4 | exact Pull.p5 | exact Pull.p6 | exact Pull.p7 | exact Pull.p8 | exact Pull.p9) (.cons (by first | exact Pull.p0 | exact Pull.p1 | exact Pull.p2 | exact Pull.p3 | exact Pull.p4 | exact Pull.p5 | exact Pull.p6 | exact Pull.p7 | exact Pull.p8 | exact Pull.p9) (.cons (by first | exact Pull.p0 | exact Pull.p1 | exact Pull.p2 | exact Pull.p3 | exact Pull.p4 | exact Pull.p5 | exact Pull.p6 | exact Pull.p7 | exact Pull.p8 | exact Pull.p9) .nil))))))) (fun v rs h => by obtain ⟨x1, h1, rfl⟩ := h; exact ⟨_, ⟨_, ⟨x1, h1, rfl⟩, perm_of_cut (.cons (by first | exact Pull.p0 | exact Pull.p1 | exact Pull.p2 | exact Pull.p3 | exact Pull.p4 | exact Pull.p5 | exact Pull.p6 | exact Pull.p7 | exact Pull.p8 | exact Pull.p9) (.cons (by first | exact Pull.p0 | exact Pull.p1 | exact Pull.p2 | exact Pull.p3 | exact Pull.p4 | exact Pull.p5 | exact Pull.p6 | exact Pull.p7 | exact Pull.p8 | exact Pull.p9) (.cons (by first | exact Pull.p0 | exact Pull.p1 | exact Pull.p2 | exact Pull.p3 | exact Pull.p4 | exact Pull.p5 | exact Pull.p6 | exact Pull.p7 | exact Pull.p8 | exact Pull.p9) (.cons (by first | exact Pull.p0 | exact Pull.p1 | exact Pull.p2 | exact Pull.p3 | exact Pull.p4 | exact Pull.p5 | exact Pull.p6 | exact Pull.p7 | exact Pull.p8 | exact Pull.p9) (.cons (by first | exact Pull.p0 | exact Pull.p1 | exact Pull.p2 | exact Pull.p3 | exact Pull.p4 | exact Pull.p5 | exact Pull.p6 | exact Pull.p7 | exact Pull.p8 | exact Pull.p9) (.cons (by first | exact Pull.p0 | exact Pull.p1 | exact Pull.p2 | exact Pull.p3 | exact Pull.p4 | exact Pull.p5 | exact Pull.p6 | exact Pull.p7 | exact Pull.p8 | exact Pull.p9) .nil))))))⟩, List.Perm.refl _⟩)
    rintro pre a q ha1 ha2 s ha3 ha4 hi
    refine CallY.perm (pre := [RC, row lg [ptr c.cb 0, i64 (-1), u64 q, .map (some r)] 71 (0, 0), defR D, row b7 [ptr lg 0] 26 (0, 0)]) ?_ (perm_of_cut (.cons (by first | exact Pull.p0 | exact Pull.p1 | exact Pull.p2 | exact Pull.p3 | exact Pull.p4 | exact Pull.p5 | exact Pull.p6 | exact Pull.p7 | exact Pull.p8 | exact Pull.p9) (.cons (by first | exact Pull.p0 | exact Pull.p1 | exact Pull.p2 | exact Pull.p3 | exact Pull.p4 | exact Pull.p5 | exact Pull.p6 | exact Pull.p7 | exact Pull.p8 | exact Pull.p9) (.cons (by first | exact Pull.p0 | exact Pull.p1 | exact Pull.p2 | exact Pull.p3 | exact Pull.p4 | exact Pull.p5 | exact Pull.p6 | exact Pull.p7 | exact Pull.p8 | exact Pull.p9) (.cons (by first | exact Pull.p0 | exact Pull.p1 | exact Pull.p2 | exact Pull.p3 | exact Pull.p4 | exact Pull.p5 | exact Pull.p6 | exact Pull.p7 | exact Pull.p8 | exact Pull.p9) .nil)))))
    subst hRC
    refine CallY.yield (m := (28, frmV a.k a.q a.t) :: (27, .agg [i64 a.seg, i64 a.page].toArray) :: [(7, ptr b7 0), _]) hsz rfl (zip2_look hsz rfl rfl rfl hlk) (fun w1 => ?_)
    refine At.region ?_
    refine At.op rfl (op_alloc Tryz.zeroValue43 rfl rfl ?_)
    intro b9
    refine At.op rfl (op_storeW rfl rfl Tryz.sizeOf43 (by repeat' (first | refine List.forall_mem_cons.2 ⟨rfl, ?_⟩ | exact (fun _ h => by cases h))) (by first | with_reducible exact Pull.p0 | with_reducible exact Pull.p1 | with_reducible exact Pull.p2 | with_reducible exact Pull.p3 | with_reducible exact Pull.p4 | with_reducible exact Pull.p5 | with_reducible exact Pull.p6 | with_reducible exact Pull.p7 | with_reducible exact Pull.p8 | with_reducible exact Pull.p9) rfl rfl ?_)
    refine At.nil ?_
    refine At.then_n ?_
    refine At.beginR (by first | with_reducible exact Pull.p0 | with_reducible exact Pull.p1 | with_reducible exact Pull.p2 | with_reducible exact Pull.p3 | with_reducible exact Pull.p4 | with_reducible exact Pull.p5 | with_reducible exact Pull.p6 | with_reducible exact Pull.p7 | with_reducible exact Pull.p8 | with_reducible exact Pull.p9) ?_
    refine At.block ?_
    refine At.drawE (rs' := [row lg [ptr c.cb 0, i64 (-1), u64 (if q < a.q then a.q else q), .map (some r)] 71 (0, 0), recR l fn tmps _ _ _ D .busy none, row b9 [u8 a.k, u64 a.q, str a.t] 43 (0, 0), defR D, row b7 [ptr lg 0] 26 (0, 0)]) [10] [[row lg [ptr c.cb 0, i64 (-1), u64 (if q < a.q then a.q else q), .map (some r)] 71 (0, 0), recR l fn tmps _ _ _ D .busy none, row b9 [u8 a.k, u64 a.q, str a.t] 43 (0, 0), defR D, row b7 [ptr lg 0] 26 (0, 0)]] [_, _, _, _, _, _, _, _, _, _, undef] (by kernel_rfl) (by decide) (by kernel_rfl) (by decide) rfl 
      (.quiet 0 (by kernel_rfl) (by kernel_rfl) (.cons (Step.op rfl (fun D h1 h2 h3 K hK => op_load (mD_base rfl rfl) Tryz.isAgg26 (by first | with_reducible exact Pull.p0 | with_reducible exact Pull.p1 | with_reducible exact Pull.p2 | with_reducible exact Pull.p3 | with_reducible exact Pull.p4 | with_reducible exact Pull.p5 | with_reducible exact Pull.p6 | with_reducible exact Pull.p7 | with_reducible exact Pull.p8 | with_reducible exact Pull.p9) rfl rfl hK)) .nil)
      (.quiet 0 (by kernel_rfl) (by kernel_rfl) (.cons (Step.op rfl (fun D h1 h2 h3 K hK => op_load (mD_base rfl rfl) Tryz.isAgg26 (by first | with_reducible exact Pull.p0 | with_reducible exact Pull.p1 | with_reducible exact Pull.p2 | with_reducible exact Pull.p3 | with_reducible exact Pull.p4 | with_reducible exact Pull.p5 | with_reducible exact Pull.p6 | with_reducible exact Pull.p7 | with_reducible exact Pull.p8 | with_reducible exact Pull.p9) rfl rfl hK)) .nil)
      (.quiet 0 (by kernel_rfl) (by kernel_rfl) (.cons (Step.op rfl (fun D h1 h2 h3 K hK => op_nilCheck (mD_done 1 (by decide) (pre_at h2 0 rfl rfl) rfl rfl rfl) rfl hK)) .nil)
      (.quiet 0 (by kernel_rfl) (by kernel_rfl) (.cons (Step.op rfl (fun D h1 h2 h3 K hK => op_fieldAddr (o' := 2) (mD_done 2 (by decide) (pre_at h2 0 rfl rfl) rfl rfl rfl) Tryz.underlying71 rfl Tryz.sizeOf40 rfl rfl hK)) .nil)
      (.quiet 0 (by kernel_rfl) (by kernel_rfl) (.cons (Step.op rfl (fun D h1 h2 h3 K hK => op_load (mD_done 3 (by decide) (pre_at h2 0 rfl rfl) rfl rfl rfl) Tryz.isAgg40 (by first | with_reducible exact Pull.p0 | with_reducible exact Pull.p1 | with_reducible exact Pull.p2 | with_reducible exact Pull.p3 | with_reducible exact Pull.p4 | with_reducible exact Pull.p5 | with_reducible exact Pull.p6 | with_reducible exact Pull.p7 | with_reducible exact Pull.p8 | with_reducible exact Pull.p9) rfl rfl hK)) .nil)
      (.quiet 0 (by kernel_rfl) (by kernel_rfl) (.cons (Step.op rfl (fun D h1 h2 h3 K hK => op_fieldAddr (o' := 1) (mD_base rfl rfl) Tryz.underlying43 rfl Tryz.sizeOf40 rfl rfl hK)) .nil)
      (.quiet 0 (by kernel_rfl) (by kernel_rfl) (.cons (Step.op rfl (fun D h1 h2 h3 K hK => op_load (mD_done 5 (by decide) (pre_at h2 0 rfl rfl) rfl rfl rfl) Tryz.isAgg40 (by first | with_reducible exact Pull.p0 | with_reducible exact Pull.p1 | with_reducible exact Pull.p2 | with_reducible exact Pull.p3 | with_reducible exact Pull.p4 | with_reducible exact Pull.p5 | with_reducible exact Pull.p6 | with_reducible exact Pull.p7 | with_reducible exact Pull.p8 | with_reducible exact Pull.p9) rfl rfl hK)) .nil)
      (.quiet 0 (by kernel_rfl) (by kernel_rfl) (.cons (Step.op rfl (fun D h1 h2 h3 K hK => op_maxU (mD_done 4 (by decide) (pre_at h2 0 rfl rfl) rfl rfl rfl) (mD_done 6 (by decide) (pre_at h2 1 rfl rfl) rfl rfl rfl) rfl hK)) .nil)
      (.quiet 1 (by kernel_rfl) (by kernel_rfl) (.cons (Step.op rfl (fun D h1 h2 h3 K hK => op_nilCheck (mD_done 0 (by decide) (pre_at h2 0 rfl rfl) rfl rfl rfl) rfl hK)) (.cons (Step.op rfl (fun D h1 h2 h3 K hK => op_nilCheck (mD_done 0 (by decide) (pre_at h2 0 rfl rfl) rfl rfl rfl) rfl hK)) .nil))
      (.quiet 0 (by kernel_rfl) (by kernel_rfl) (.cons (Step.op rfl (fun D h1 h2 h3 K hK => op_fieldAddr (o' := 2) (mD_done 8 (by decide) (pre_at h2 0 rfl rfl) rfl rfl rfl) Tryz.underlying71 rfl Tryz.sizeOf40 rfl rfl hK)) .nil)
      (.eff 0 rfl (by kernel_rfl) (by kernel_rfl) rfl rfl (Last.op rfl (fun D h2 K hK => op_store (mD_done 9 (by decide) (pre_at h2 0 rfl rfl) rfl rfl rfl) (mD_done 7 (by decide) (pre_at h2 1 rfl rfl) rfl rfl rfl) Tryz.sizeOf40 rfl rfl (by first | with_reducible exact Pull.p0 | with_reducible exact Pull.p1 | with_reducible exact Pull.p2 | with_reducible exact Pull.p3 | with_reducible exact Pull.p4 | with_reducible exact Pull.p5 | with_reducible exact Pull.p6 | with_reducible exact Pull.p7 | with_reducible exact Pull.p8 | with_reducible exact Pull.p9) (.succ (.succ .zero)) rfl (by exact hK)))
      .nil))))))))))) ?_
    refine At.keep [] .nil ?_
    refine At.blk_n ?_
    have hx : (if q < a.q then a.q else q) = maxQ (pre ++ [a]) := by rw [hi, maxQ, maxQ, List.foldl_append]; rfl
    exact At.endR (by first | with_reducible exact Pull.p0 | with_reducible exact Pull.p1 | with_reducible exact Pull.p2 | with_reducible exact Pull.p3 | with_reducible exact Pull.p4 | with_reducible exact Pull.p5 | with_reducible exact Pull.p6 | with_reducible exact Pull.p7 | with_reducible exact Pull.p8 | with_reducible exact Pull.p9) ⟨_, hx, rfl⟩ (.cons (by first | exact Pull.p0 | exact Pull.p1 | exact Pull.p2 | exact Pull.p3 | exact Pull.p4 | exact Pull.p5 | exact Pull.p6 | exact Pull.p7 | exact Pull.p8 | exact Pull.p9) (.cons (by first | exact Pull.p0 | exact Pull.p1 | exact Pull.p2 | exact Pull.p3 | exact Pull.p4 | exact Pull.p5 | exact Pull.p6 | exact Pull.p7 | exact Pull.p8 | exact Pull.p9) (.cons (by first | exact Pull.p0 | exact Pull.p1 | exact Pull.p2 | exact Pull.p3 | exact Pull.p4 | exact Pull.p5 | exact Pull.p6 | exact Pull.p7 | exact Pull.p8 | exact Pull.p9) (.cons (by first | exact Pull.p0 | exact Pull.p1 | exact Pull.p2 | exact Pull.p3 | exact Pull.p4 | exact Pull.p5 | exact Pull.p6 | exact Pull.p7 | exact Pull.p8 | exact Pull.p9) .nil))))
  ·
    rintro _ ⟨q, hq, rfl⟩
    show At _ _ [defR D, row bb [ptr lg 0] 26 (0, 0), chipR c, row lg [ptr c.cb 0, i64 (-1), u64 q, .map (some r)] 71 (0, 0), row b7 [ptr lg 0] 26 (0, 0), mapI r [] 0] _
    refine At.blk_n ?_
    refine At.then_n ?_
    refine At.seq ?_
    refine At.region ?_
    refine At.op rfl (op_load rfl Tryz.isAgg26 (by first | with_reducible exact Pull.p0 | with_reducible exact Pull.p1 | with_reducible exact Pull.p2 | with_reducible exact Pull.p3 | with_reducible exact Pull.p4 | with_reducible exact Pull.p5 | with_reducible exact Pull.p6 | with_reducible exact Pull.p7 | with_reducible exact Pull.p8 | with_reducible exact Pull.p9) rfl rfl ?_)
    refine At.op rfl (op_nilCheck rfl rfl ?_)
    refine At.op rfl (op_fieldAddr (o' := 2) rfl Tryz.underlying71 rfl Tryz.sizeOf40 rfl rfl ?_)
    refine At.op rfl (op_load rfl Tryz.isAgg40 (by first | with_reducible exact Pull.p0 | with_reducible exact Pull.p1 | with_reducible exact Pull.p2 | with_reducible exact Pull.p3 | with_reducible exact Pull.p4 | with_reducible exact Pull.p5 | with_reducible exact Pull.p6 | with_reducible exact Pull.p7 | with_reducible exact Pull.p8 | with_reducible exact Pull.p9) rfl rfl ?_)
    refine At.op rfl (op_bin rfl rfl (b64_add _ (1 : UInt64)) rfl ?_)
    refine At.op rfl (op_nilCheck rfl rfl ?_)
    refine At.op rfl (op_fieldAddr (o' := 2) rfl Tryz.underlying71 rfl Tryz.sizeOf40 rfl rfl ?_)
    refine At.op rfl (op_store rfl rfl Tryz.sizeOf40 rfl rfl (by first | with_reducible exact Pull.p0 | with_reducible exact Pull.p1 | with_reducible exact Pull.p2 | with_reducible exact Pull.p3 | with_reducible exact Pull.p4 | with_reducible exact Pull.p5 | with_reducible exact Pull.p6 | with_reducible exact Pull.p7 | with_reducible exact Pull.p8 | with_reducible exact Pull.p9) (.succ (.succ .zero)) rfl ?_)
    refine At.nil ?_
    refine At.then_n ?_
    refine At.seq ?_
    refine At.region ?_
    refine At.op rfl (op_load rfl Tryz.isAgg26 (by first | with_reducible exact Pull.p0 | with_reducible exact Pull.p1 | with_reducible exact Pull.p2 | with_reducible exact Pull.p3 | with_reducible exact Pull.p4 | with_reducible exact Pull.p5 | with_reducible exact Pull.p6 | with_reducible exact Pull.p7 | with_reducible exact Pull.p8 | with_reducible exact Pull.p9) rfl rfl ?_)
    refine At.op rfl (op_assign rfl rfl ?_)
    refine At.op rfl (op_assign rfl rfl ?_)
    refine At.nil ?_
    refine At.then_n ?_
    refine At.ret ?_
    exact At.finM (l := [.tmp 2, .tmp 3]) _ (.inl rfl) rfl rfl (by first | with_reducible exact Pull.p0 | with_reducible exact Pull.p1 | with_reducible exact Pull.p2 | with_reducible exact Pull.p3 | with_reducible exact Pull.p4 | with_reducible exact Pull.p5 | with_reducible exact Pull.p6 | with_reducible exact Pull.p7 | with_reducible exact Pull.p8 | with_reducible exact Pull.p9) (.tmp rfl (.tmp rfl .nil)) rfl ⟨⟨lg, r, -1, q + 1, [], 0⟩, rfl, rfl, rfl, by dsimp only; rw [hq], rfl⟩ (.cons (by first | exact Pull.p0 | exact Pull.p1 | exact Pull.p2 | exact Pull.p3 | exact Pull.p4 | exact Pull.p5 | exact Pull.p6 | exact Pull.p7 | exact Pull.p8 | exact Pull.p9) (.cons (by first | exact Pull.p0 | exact Pull.p1 | exact Pull.p2 | exact Pull.p3 | exact Pull.p4 | exact Pull.p5 | exact Pull.p6 | exact Pull.p7 | exact Pull.p8 | exact Pull.p9) (.cons (by first | exact Pull.p0 | exact Pull.p1 | exact Pull.p2 | exact Pull.p3 | exact Pull.p4 | exact Pull.p5 | exact Pull.p6 | exact Pull.p7 | exact Pull.p8 | exact Pull.p9) .nil)))
theorem seglog_those (c : Chp) (hc : c.wf) (g : Lg) (fid : Nat) (fs cap : List Value) (R : List Res) (p : Nat → Bool) (hcall : ∀ a w, (callFunc fid a).run Tryz.prog w = .ok (.enter fid a) w)
    (hf : ∀ i, i < c.segs → Does Tryz.prog G fid (fs ++ [i64 i] ++ cap) (chipR c :: logRow g c.cb :: R) (OneR (.bool (p i)) (chipR c :: logRow g c.cb :: R))) :
    Does Tryz.prog G 26 [ptr g.lb 0, .func (.func fid) fs.toArray cap.toArray] (chipR c :: logRow g c.cb :: R) (fun v rs' => ∃ ad cp, v = .slice ad ((List.range c.segs).filter p).length cp ∧ rs' = ownS ad cp (((List.range c.segs).filter p).map fun n : Nat => i64 n) 3 1 :: (chipR c :: logRow g c.cb :: R)) := by
  refine Does.of Tryz.func26 rfl Tryz.ntmps26 rfl (fun w0 => ?_)
  refine At.keep [(0, _), (1, _)] (.cons rfl (.cons rfl .nil)) ?_
  have hb1 := hc.segs1
  refine At.seq ?_
  refine At.region ?_
  refine At.op rfl (op_assign rfl rfl ?_)
  refine At.nil ?_
  refine At.then_n ?_
  refine At.seq ?_
  refine At.seq ?_
  refine At.region ?_
  refine At.op rfl (op_move rfl rfl ?_)
  refine At.op rfl (op_nilCheck rfl rfl ?_)
  refine At.op rfl (op_fieldAddr (o' := 0) rfl Tryz.underlying71 rfl Tryz.sizeOf22 rfl rfl ?_)
  refine At.op rfl (op_load rfl Tryz.isAgg22 (by first | with_reducible exact Pull.p0 | with_reducible exact Pull.p1 | with_reducible exact Pull.p2 | with_reducible exact Pull.p3 | with_reducible exact Pull.p4 | with_reducible exact Pull.p5 | with_reducible exact Pull.p6 | with_reducible exact Pull.p7 | with_reducible exact Pull.p8 | with_reducible exact Pull.p9) rfl rfl ?_)
  refine At.op rfl (op_nilCheck rfl rfl ?_)
  refine At.op rfl (op_fieldAddr (o' := 0) rfl Tryz.underlying55 rfl Tryz.sizeOf52 rfl rfl ?_)
  refine At.op rfl (op_loadGA (us := [i64 c.segs, i64 c.pages]) (chipR c) rfl Tryz.isAgg52 Tryz.sizeOf52 (by first | with_reducible exact Pull.p0 | with_reducible exact Pull.p1 | with_reducible exact Pull.p2 | with_reducible exact Pull.p3 | with_reducible exact Pull.p4 | with_reducible exact Pull.p5 | with_reducible exact Pull.p6 | with_reducible exact Pull.p7 | with_reducible exact Pull.p8 | with_reducible exact Pull.p9) (chip_size c) rfl rfl ?_)
  refine At.op rfl (op_call1 rfl Tryz.call28 (size_Segs c.segs c.pages) rfl ?_)
  refine At.op rfl (op_move rfl rfl ?_)
  refine At.nil ?_
  refine At.then_n ?_
  refine At.block ?_
  refine At.own0 3 1 ?_
  refine At.keep ((fun s => [(1, .func (.func fid) fs.toArray cap.toArray), (4, .slice s.2.1 ((List.range s.1).filter p).length s.2.2), (13, i64 c.segs), (14, i64 s.1)]) ((0, none, 0) : Nat × Option Addr × Nat)) (.cons rfl (.cons rfl (.cons rfl (.cons rfl .nil)))) ?_
  refine At.loop (σ := Nat × Option Addr × Nat) (fun s => s.1 ≤ c.segs) (fun s => [(1, .func (.func fid) fs.toArray cap.toArray), (4, .slice s.2.1 ((List.range s.1).filter p).length s.2.2), (13, i64 c.segs), (14, i64 s.1)]) (fun s => ownS s.2.1 s.2.2 (((List.range s.1).filter p).map fun n : Nat => i64 n) 3 1 :: (chipR c :: logRow g c.cb :: R)) (fun s => c.segs - s.1) ((0, none, 0) : Nat × Option Addr × Nat) (Nat.zero_le _) ?_
  rintro ⟨k, sd, sc⟩ hk
  dsimp only at hk ⊢
  refine At.seq ?_
  refine At.region ?_
  refine At.op rfl (op_bin rfl rfl b_lt rfl ?_)
  refine At.nil ?_
  refine At.then_n ?_
  refine At.seq ?_
  refine At.cond_p rfl (fun hlt0 => ?_) (fun hlt0 => ?_)
  ·
    have hlt : k < c.segs := by omega
    refine At.skip ?_
    refine At.then_n ?_
    refine At.seq ?_
    refine At.block ?_
    refine At.seq ?_
    refine At.region ?_
    refine At.op rfl (op_move rfl rfl ?_)
    refine At.op rfl (op_assign rfl rfl ?_)
    refine At.nil ?_
    refine At.then_n ?_
    refine At.seq ?_
    refine At.region ?_
    refine At.op rfl (op_move rfl rfl ?_)
    refine At.op rfl (op_move rfl rfl ?_)
    refine At.op rfl (op_callQC (fs := fs) (cap := cap) rfl rfl hcall rfl (hf k hlt) (cut_suf _ [_]) rfl ?_)
    refine At.nil ?_
    refine At.then_n ?_
    refine At.cond rfl (fun hpk => ?_) (fun hpk => ?_)
    ·
      have hfil : (List.range (k + 1)).filter p = (List.range k).filter p ++ [k] := by rw [List.range_succ, List.filter_append]; simp [hpk]
      refine At.region ?_
      refine At.op rfl (op_move rfl rfl ?_)
      refine At.op rfl (op_move rfl rfl ?_)
      refine At.op rfl (op_buildSlice1 [_] rfl rfl Tryz.underlying48 et3 rfl (by decide) (List.forall_mem_cons.2 ⟨rfl, (fun _ h => by cases h)⟩) rfl ?_)
      intro b1
      refine At.op rfl (op_append rfl rfl Tryz.underlying48 et3 (by first | with_reducible exact Pull.p0 | with_reducible exact Pull.p1 | with_reducible exact Pull.p2 | with_reducible exact Pull.p3 | with_reducible exact Pull.p4 | with_reducible exact Pull.p5 | with_reducible exact Pull.p6 | with_reducible exact Pull.p7 | with_reducible exact Pull.p8 | with_reducible exact Pull.p9) (by first | with_reducible exact Pull.p0 | with_reducible exact Pull.p1 | with_reducible exact Pull.p2 | with_reducible exact Pull.p3 | with_reducible exact Pull.p4 | with_reducible exact Pull.p5 | with_reducible exact Pull.p6 | with_reducible exact Pull.p7 | with_reducible exact Pull.p8 | with_reducible exact Pull.p9) (by simp) rfl (by decide) (List.forall_mem_cons.2 ⟨rfl, (fun _ h => by cases h)⟩) (by have := List.length_filter_le p (List.range k); rw [List.length_range] at this; omega) (by have := List.length_filter_le p (List.range k); rw [List.length_range] at this; omega) rfl ?_)
      intro ad cad had
      refine At.op rfl (op_assign rfl rfl ?_)
      refine At.nil ?_
      refine At.blk_n ?_
      refine At.then_n ?_
      refine At.region ?_
      refine At.op rfl (op_bin rfl rfl (b_add (by omega) (by omega)) rfl ?_)
      refine At.op rfl (op_move rfl rfl ?_)
      refine At.nil ?_
      refine At.then_n ?_
      first
        | exact At.back (kk := [_]) (k + 1, ad, cad) (by dsimp only; omega) (by dsimp only; omega) (.cons rfl (.cons (by dsimp only; rw [hfil, List.length_append]; rfl) (.cons rfl (.cons rfl .nil)))) (by rw [hfil]; simp only [List.map_append, List.map_cons, List.map_nil]; exact .cons (by first | exact Pull.p0 | exact Pull.p1 | exact Pull.p2 | exact Pull.p3 | exact Pull.p4 | exact Pull.p5 | exact Pull.p6 | exact Pull.p7 | exact Pull.p8 | exact Pull.p9) (cut_suf _ [_]))
        | exact At.back (kk := []) (k + 1, sd, sc) (by dsimp only; omega) (by dsimp only; omega) (.cons rfl (.cons (by dsimp only; rw [hfil]; rfl) (.cons rfl (.cons rfl .nil)))) (by rw [hfil]; exact cut_all _)
    ·
      have hfil : (List.range (k + 1)).filter p = (List.range k).filter p := by rw [List.range_succ, List.filter_append]; simp [hpk]
      refine At.skip ?_
      refine At.blk_n ?_
      refine At.then_n ?_
      refine At.region ?_
      refine At.op rfl (op_bin rfl rfl (b_add (by omega) (by omega)) rfl ?_)
      refine At.op rfl (op_move rfl rfl ?_)
      refine At.nil ?_
      refine At.then_n ?_
      first
        | exact At.back (kk := [_]) (k + 1, ad, cad) (by dsimp only; omega) (by dsimp only; omega) (.cons rfl (.cons (by dsimp only; rw [hfil, List.length_append]; rfl) (.cons rfl (.cons rfl .nil)))) (by rw [hfil]; simp only [List.map_append, List.map_cons, List.map_nil]; exact .cons (by first | exact Pull.p0 | exact Pull.p1 | exact Pull.p2 | exact Pull.p3 | exact Pull.p4 | exact Pull.p5 | exact Pull.p6 | exact Pull.p7 | exact Pull.p8 | exact Pull.p9) (cut_suf _ [_]))
        | exact At.back (kk := []) (k + 1, sd, sc) (by dsimp only; omega) (by dsimp only; omega) (.cons rfl (.cons (by dsimp only; rw [hfil]; rfl) (.cons rfl (.cons rfl .nil)))) (by rw [hfil]; exact cut_all _)
  ·
    obtain rfl : k = c.segs := by omega
    refine At.exit ?_
    refine At.then_e ?_
    refine At.then_e ?_
    refine At.blk_e ?_
    refine At.then_n ?_
    refine At.seq ?_
    refine At.region ?_
    refine At.op rfl (op_move rfl rfl ?_)
    refine At.op rfl (op_assign rfl rfl ?_)
    refine At.nil ?_
    refine At.then_n ?_
    refine At.ret ?_
    exact At.fin1 rfl rfl rfl ⟨sd, sc, rfl, rfl⟩ (cut_all _)
end Go.Proofs.YteckdahgkkmlaaaGreatDoor
