/- Walks of the program's functions. -/
import Derived.Test.YteckdahgkkmlaaaGreatDoorSLS5
import Derived.KernelRfl
set_option maxRecDepth 20000
set_option linter.unusedVariables false
set_option linter.unusedSimpArgs false
namespace Go.Proofs.YteckdahgkkmlaaaGreatDoor
open Go SL
variable {G : List (Nat × Obj)}
theorem putV_ok {k : UInt8} {q : UInt64} {t : List UInt8} (hk : k ≠ 0) (ht : t.length ≤ 229) : putV k q t = .tuple #[str (putS k q t), i64 0] := by
  unfold putV
  rw [if_neg hk, if_neg (by omega)]
theorem padS_put {k : UInt8} {q : UInt64} {t : List UInt8} (ht : t.length ≤ 229) : padS (putS k q t) = putS k q t := by
  unfold padS
  rw [putS_length k q t ht]
  simp
theorem seglog_Append_open (hG : GOK G) (c : Chp) (hc : c.wf) (g : Lg) (k : UInt8) (t : List UInt8) (r : Int) (hk : k ≠ 0) (ht : t.length ≤ 229) (i j : Nat) (hop : g.op = i) (hi : i < c.segs) (hj : j < c.pages) (hnj : c.next i = (j : Int)) (hfree : c.at i j = none) (hpast : c.past.length < 1000000) : Does Tryz.prog G 10 [ptr g.lb 0, u8 k, str t, i64 r] [chipR c, logRow g c.cb, logMap g] (fun v rs' => ∃ b pa pc, v = .tuple #[.agg [i64 i, i64 j].toArray, i64 0] ∧ rs' = [chipR (c.prog i j b (putS k g.seq t) pa pc), logRow (Lg.mk g.lb g.mb i (g.seq + 1) g.ret g.clock) c.cb, logMap g]) := by
  refine Does.of Tryz.func10 rfl Tryz.ntmps10 rfl (fun w0 => ?_)
  refine At.keep [(0, _), (1, _), (2, _), (3, _)] (.cons rfl (.cons rfl (.cons rfl (.cons rfl .nil)))) ?_
  show At _ _ [chipR c, row g.lb [ptr c.cb 0, i64 g.op, u64 g.seq, .map (some g.mb)] 71 (0, 0), logMap g] _
  rw [hop]
  refine At.seq ?_
  refine At.region ?_
  refine At.op rfl (op_alloc Tryz.zeroValue32 rfl rfl ?_)
  intro b8
  refine At.op rfl (op_assign rfl rfl ?_)
  refine At.nil ?_
  refine At.then_n ?_
  refine At.seq ?_
  refine At.region ?_
  refine At.op rfl (op_move rfl rfl ?_)
  refine At.op rfl (op_move rfl rfl ?_)
  refine At.op rfl (op_nilCheck rfl rfl ?_)
  refine At.op rfl (op_fieldAddr (o' := 2) rfl Tryz.underlying71 rfl Tryz.sizeOf40 rfl rfl ?_)
  refine At.op rfl (op_load rfl Tryz.isAgg40 (by first | with_reducible exact Pull.p0 | with_reducible exact Pull.p1 | with_reducible exact Pull.p2 | with_reducible exact Pull.p3 | with_reducible exact Pull.p4 | with_reducible exact Pull.p5 | with_reducible exact Pull.p6 | with_reducible exact Pull.p7 | with_reducible exact Pull.p8 | with_reducible exact Pull.p9) rfl rfl ?_)
  refine At.op rfl (op_move rfl rfl ?_)
  refine At.op rfl (op_build (v := frmV k g.seq t) rfl (fun w => run_build w _ _ _ (by kernel_rfl)) rfl ?_)
  refine At.op rfl (op_call1 rfl Tryz.call22 (frame_Put hG k g.seq t (by omega)) rfl ?_)
  rw [putV_ok hk ht]
  refine At.op rfl (op_move rfl rfl ?_)
  refine At.op rfl (op_extractL rfl .zero rfl ?_)
  refine At.op rfl (op_extractL rfl (.succ .zero) rfl ?_)
  refine At.op rfl (op_assign rfl rfl ?_)
  refine At.op rfl (op_assign rfl rfl ?_)
  refine At.nil ?_
  refine At.then_n ?_
  refine At.seq ?_
  refine At.seq ?_
  refine At.keep [(0, _), (3, _), (8, _), (9, _), (10, _), (11, _)] (.cons rfl (.cons rfl (.cons rfl (.cons rfl (.cons rfl (.cons rfl .nil)))))) ?_
  refine At.region ?_
  refine At.op rfl (op_move rfl rfl ?_)
  refine At.op rfl (op_bin rfl rfl (Bin.cast (v' := .bool false) b_ne (congrArg Value.bool (by rw [decide_eq_true rfl]; rfl))) rfl ?_)
  refine At.nil ?_
  refine At.then_n ?_
  refine At.cond_f rfl ?_
  refine At.skip ?_
  refine At.then_n ?_
  refine At.seq ?_
  refine At.seq ?_
  refine At.region ?_
  refine At.op rfl (op_move rfl rfl ?_)
  refine At.op rfl (op_nilCheck rfl rfl ?_)
  refine At.op rfl (op_fieldAddr (o' := 1) rfl Tryz.underlying71 rfl Tryz.sizeOf3 rfl rfl ?_)
  refine At.op rfl (op_load rfl Tryz.isAgg3 (by first | with_reducible exact Pull.p0 | with_reducible exact Pull.p1 | with_reducible exact Pull.p2 | with_reducible exact Pull.p3 | with_reducible exact Pull.p4 | with_reducible exact Pull.p5 | with_reducible exact Pull.p6 | with_reducible exact Pull.p7 | with_reducible exact Pull.p8 | with_reducible exact Pull.p9) rfl rfl ?_)
  refine At.op rfl (op_bin rfl rfl (Bin.cast (v' := .bool false) b_eq (congrArg Value.bool (decide_eq_false (by omega)))) rfl ?_)
  refine At.op rfl (op_move rfl rfl ?_)
  refine At.opg rfl rfl rfl (op_move rfl rfl ?_)
  refine At.opg rfl rfl rfl (op_move rfl rfl ?_)
  refine At.opg rfl rfl rfl (op_nilCheck rfl rfl ?_)
  refine At.opg rfl rfl rfl (op_fieldAddr (o' := 1) rfl Tryz.underlying71 rfl Tryz.sizeOf3 rfl rfl ?_)
  refine At.opg rfl rfl rfl (op_load rfl Tryz.isAgg3 (by first | with_reducible exact Pull.p0 | with_reducible exact Pull.p1 | with_reducible exact Pull.p2 | with_reducible exact Pull.p3 | with_reducible exact Pull.p4 | with_reducible exact Pull.p5 | with_reducible exact Pull.p6 | with_reducible exact Pull.p7 | with_reducible exact Pull.p8 | with_reducible exact Pull.p9) rfl rfl ?_)
  refine At.opg rfl rfl rfl (op_callQ rfl Tryz.call23 (by have := seglog_next (G := G) c hc (Lg.mk g.lb g.mb i g.seq g.ret g.clock) i hi; rw [hnj] at this; exact this) (.cons (by first | exact Pull.p0 | exact Pull.p1 | exact Pull.p2 | exact Pull.p3 | exact Pull.p4 | exact Pull.p5 | exact Pull.p6 | exact Pull.p7 | exact Pull.p8 | exact Pull.p9) (.cons (by first | exact Pull.p0 | exact Pull.p1 | exact Pull.p2 | exact Pull.p3 | exact Pull.p4 | exact Pull.p5 | exact Pull.p6 | exact Pull.p7 | exact Pull.p8 | exact Pull.p9) .nil)) rfl ?_)
  refine At.opg rfl rfl rfl (op_bin rfl rfl (Bin.cast (v' := .bool false) b_eq (congrArg Value.bool (decide_eq_false (by omega)))) rfl ?_)
  refine At.op rfl (op_pick_f rfl rfl rfl ?_)
  refine At.nil ?_
  refine At.then_n ?_
  refine At.cond_f rfl ?_
  refine At.skip ?_
  refine At.then_n ?_
  refine At.seq ?_
  refine At.keep [(0, _), (8, _), (9, _), (10, _)] (.cons rfl (.cons rfl (.cons rfl (.cons rfl .nil)))) ?_
  refine At.drawAl 11 [12] (fun ba => _) (fun ba => [_]) (fun ba => [ptr g.lb 0, ptr g.lb 0, ptr g.lb 1, i64 i, ptr g.lb 0, ptr g.lb 0, ptr g.lb 0, ptr g.lb 1, i64 i, i64 j, .agg [i64 i, i64 j].toArray, ptr ba 0, undef]) (by kernel_rfl) (by decide) (by kernel_rfl) rfl rfl rfl (by kernel_rfl) (fun _ => rfl) (fun _ => rfl) (by
        intro b b' j
        rcases j with _ | j
        · first | exact .inr (.inr rfl) | exact .inl rfl | exact .inr (.inl (by kernel_rfl))
        rcases j with _ | j
        · first | exact .inr (.inr rfl) | exact .inl rfl | exact .inr (.inl (by kernel_rfl))
        rcases j with _ | j
        · first | exact .inr (.inr rfl) | exact .inl rfl | exact .inr (.inl (by kernel_rfl))
        rcases j with _ | j
        · first | exact .inr (.inr rfl) | exact .inl rfl | exact .inr (.inl (by kernel_rfl))
        rcases j with _ | j
        · first | exact .inr (.inr rfl) | exact .inl rfl | exact .inr (.inl (by kernel_rfl))
        rcases j with _ | j
        · first | exact .inr (.inr rfl) | exact .inl rfl | exact .inr (.inl (by kernel_rfl))
        rcases j with _ | j
        · first | exact .inr (.inr rfl) | exact .inl rfl | exact .inr (.inl (by kernel_rfl))
        rcases j with _ | j
        · first | exact .inr (.inr rfl) | exact .inl rfl | exact .inr (.inl (by kernel_rfl))
        rcases j with _ | j
        · first | exact .inr (.inr rfl) | exact .inl rfl | exact .inr (.inl (by kernel_rfl))
        rcases j with _ | j
        · first | exact .inr (.inr rfl) | exact .inl rfl | exact .inr (.inl (by kernel_rfl))
        rcases j with _ | j
        · first | exact .inr (.inr rfl) | exact .inl rfl | exact .inr (.inl (by kernel_rfl))
        rcases j with _ | j
        · first | exact .inr (.inr rfl) | exact .inl rfl | exact .inr (.inl (by kernel_rfl))
        rcases j with _ | j
        · first | exact .inr (.inr rfl) | exact .inl rfl | exact .inr (.inl (by kernel_rfl))
        exact .inr (.inr rfl)) (fun g D K hD hK => op_alloc Tryz.zeroValue32 rfl rfl hK) (fun ba => 
    (.quiet 1 (by kernel_rfl) (by kernel_rfl) (.cons (Step.op rfl (fun D h1 h2 h3 K hK => op_move (mD_base rfl rfl) rfl hK)) (.cons (Step.op rfl (fun D h1 h2 h3 K hK => op_move (mD_base rfl rfl) rfl hK)) .nil))
    (.quiet 1 (by kernel_rfl) (by kernel_rfl) (.cons (Step.op rfl (fun D h1 h2 h3 K hK => op_nilCheck (mD_done 0 (by decide) (pre_at h2 0 rfl rfl) rfl rfl rfl) rfl hK)) (.cons (Step.op rfl (fun D h1 h2 h3 K hK => op_nilCheck (mD_done 0 (by decide) (pre_at h2 0 rfl rfl) rfl rfl rfl) rfl hK)) .nil))
    (.quiet 1 (by kernel_rfl) (by kernel_rfl) (.cons (Step.op rfl (fun D h1 h2 h3 K hK => op_fieldAddr (o' := 1) (mD_done 1 (by decide) (pre_at h2 0 rfl rfl) rfl rfl rfl) Tryz.underlying71 rfl Tryz.sizeOf3 rfl rfl hK)) (.cons (Step.op rfl (fun D h1 h2 h3 K hK => op_fieldAddr (o' := 1) (mD_done 1 (by decide) (pre_at h2 0 rfl rfl) rfl rfl rfl) Tryz.underlying71 rfl Tryz.sizeOf3 rfl rfl hK)) .nil))
    (.quiet 1 (by kernel_rfl) (by kernel_rfl) (.cons (Step.op rfl (fun D h1 h2 h3 K hK => op_load (mD_done 2 (by decide) (pre_at h2 0 rfl rfl) rfl rfl rfl) Tryz.isAgg3 (by first | with_reducible exact Pull.p0 | with_reducible exact Pull.p1 | with_reducible exact Pull.p2 | with_reducible exact Pull.p3 | with_reducible exact Pull.p4 | with_reducible exact Pull.p5 | with_reducible exact Pull.p6 | with_reducible exact Pull.p7 | with_reducible exact Pull.p8 | with_reducible exact Pull.p9) rfl rfl hK)) (.cons (Step.op rfl (fun D h1 h2 h3 K hK => op_load (mD_done 2 (by decide) (pre_at h2 0 rfl rfl) rfl rfl rfl) Tryz.isAgg3 (by first | with_reducible exact Pull.p0 | with_reducible exact Pull.p1 | with_reducible exact Pull.p2 | with_reducible exact Pull.p3 | with_reducible exact Pull.p4 | with_reducible exact Pull.p5 | with_reducible exact Pull.p6 | with_reducible exact Pull.p7 | with_reducible exact Pull.p8 | with_reducible exact Pull.p9) rfl rfl hK)) .nil))
    (.quiet 1 (by kernel_rfl) (by kernel_rfl) (.cons (Step.op rfl (fun D h1 h2 h3 K hK => op_move (mD_base rfl rfl) rfl hK)) (.cons (Step.op rfl (fun D h1 h2 h3 K hK => op_move (mD_base rfl rfl) rfl hK)) .nil))
    (.quiet 1 (by kernel_rfl) (by kernel_rfl) (.cons (Step.op rfl (fun D h1 h2 h3 K hK => op_move (mD_base rfl rfl) rfl hK)) (.cons (Step.op rfl (fun D h1 h2 h3 K hK => op_move (mD_base rfl rfl) rfl hK)) .nil))
    (.quiet 1 (by kernel_rfl) (by kernel_rfl) (.cons (Step.op rfl (fun D h1 h2 h3 K hK => op_nilCheck (mD_done 5 (by decide) (pre_at h2 0 rfl rfl) rfl rfl rfl) rfl hK)) (.cons (Step.op rfl (fun D h1 h2 h3 K hK => op_nilCheck (mD_done 5 (by decide) (pre_at h2 0 rfl rfl) rfl rfl rfl) rfl hK)) .nil))
    (.quiet 1 (by kernel_rfl) (by kernel_rfl) (.cons (Step.op rfl (fun D h1 h2 h3 K hK => op_fieldAddr (o' := 1) (mD_done 6 (by decide) (pre_at h2 0 rfl rfl) rfl rfl rfl) Tryz.underlying71 rfl Tryz.sizeOf3 rfl rfl hK)) (.cons (Step.op rfl (fun D h1 h2 h3 K hK => op_fieldAddr (o' := 1) (mD_done 6 (by decide) (pre_at h2 0 rfl rfl) rfl rfl rfl) Tryz.underlying71 rfl Tryz.sizeOf3 rfl rfl hK)) .nil))
    (.quiet 1 (by kernel_rfl) (by kernel_rfl) (.cons (Step.op rfl (fun D h1 h2 h3 K hK => op_load (mD_done 7 (by decide) (pre_at h2 0 rfl rfl) rfl rfl rfl) Tryz.isAgg3 (by first | with_reducible exact Pull.p0 | with_reducible exact Pull.p1 | with_reducible exact Pull.p2 | with_reducible exact Pull.p3 | with_reducible exact Pull.p4 | with_reducible exact Pull.p5 | with_reducible exact Pull.p6 | with_reducible exact Pull.p7 | with_reducible exact Pull.p8 | with_reducible exact Pull.p9) rfl rfl hK)) (.cons (Step.op rfl (fun D h1 h2 h3 K hK => op_load (mD_done 7 (by decide) (pre_at h2 0 rfl rfl) rfl rfl rfl) Tryz.isAgg3 (by first | with_reducible exact Pull.p0 | with_reducible exact Pull.p1 | with_reducible exact Pull.p2 | with_reducible exact Pull.p3 | with_reducible exact Pull.p4 | with_reducible exact Pull.p5 | with_reducible exact Pull.p6 | with_reducible exact Pull.p7 | with_reducible exact Pull.p8 | with_reducible exact Pull.p9) rfl rfl hK)) .nil))
    (.quiet 1 (by kernel_rfl) (by kernel_rfl) (.cons (Step.op rfl (fun D h1 h2 h3 K hK => op_callQ (evs_cons (mD_done 4 (by decide) (pre_at h2 0 rfl rfl) rfl rfl rfl) (evs_cons (mD_done 8 (by decide) (pre_at h2 1 rfl rfl) rfl rfl rfl) evs_nil)) Tryz.call23 (by have := seglog_next (G := G) c hc (Lg.mk g.lb g.mb i g.seq g.ret g.clock) i hi; rw [hnj] at this; exact this) (.cons (by first | exact Pull.p0 | exact Pull.p1 | exact Pull.p2 | exact Pull.p3 | exact Pull.p4 | exact Pull.p5 | exact Pull.p6 | exact Pull.p7 | exact Pull.p8 | exact Pull.p9) (.cons (by first | exact Pull.p0 | exact Pull.p1 | exact Pull.p2 | exact Pull.p3 | exact Pull.p4 | exact Pull.p5 | exact Pull.p6 | exact Pull.p7 | exact Pull.p8 | exact Pull.p9) .nil)) rfl hK)) (.cons (Step.op rfl (fun D h1 h2 h3 K hK => op_callQ (evs_cons (mD_done 4 (by decide) (pre_at h2 0 rfl rfl) rfl rfl rfl) (evs_cons (mD_done 8 (by decide) (pre_at h2 1 rfl rfl) rfl rfl rfl) evs_nil)) Tryz.call23 (by have := seglog_next (G := G) c hc (Lg.mk g.lb g.mb i g.seq g.ret g.clock) i hi; rw [hnj] at this; exact this) (.cons (by first | exact Pull.p0 | exact Pull.p1 | exact Pull.p2 | exact Pull.p3 | exact Pull.p4 | exact Pull.p5 | exact Pull.p6 | exact Pull.p7 | exact Pull.p8 | exact Pull.p9) (.cons (by first | exact Pull.p0 | exact Pull.p1 | exact Pull.p2 | exact Pull.p3 | exact Pull.p4 | exact Pull.p5 | exact Pull.p6 | exact Pull.p7 | exact Pull.p8 | exact Pull.p9) .nil)) rfl hK)) .nil))
    (.quiet 1 (by kernel_rfl) (by kernel_rfl) (.cons (Step.op rfl (fun D h1 h2 h3 K hK => op_build (v := .agg [i64 i, i64 j].toArray) (evp_cons (mD_done 3 (by decide) (pre_at h2 0 rfl rfl) rfl rfl rfl) (evp_cons (mD_done 9 (by decide) (pre_at h2 1 rfl rfl) rfl rfl rfl) evp_nil)) (fun w => run_build w _ _ _ (by kernel_rfl)) rfl hK)) (.cons (Step.op rfl (fun D h1 h2 h3 K hK => op_build (v := .agg [i64 i, i64 j].toArray) (evp_cons (mD_done 3 (by decide) (pre_at h2 0 rfl rfl) rfl rfl rfl) (evp_cons (mD_done 9 (by decide) (pre_at h2 1 rfl rfl) rfl rfl rfl) evp_nil)) (fun w => run_build w _ _ _ (by kernel_rfl)) rfl hK)) .nil))
    (.skip 
    (.eff 1 rfl (by kernel_rfl) (by kernel_rfl) rfl rfl (Last.op rfl (fun D h2 K hK => op_storeW (mD_done 11 (by decide) (pre_at h2 0 rfl rfl) rfl rfl rfl) (mD_done 10 (by decide) (pre_at h2 1 rfl rfl) rfl rfl rfl) Tryz.sizeOf32 (List.forall_mem_cons.2 ⟨rfl, (List.forall_mem_cons.2 ⟨rfl, (fun _ h => by cases h)⟩)⟩) (by first | with_reducible exact Pull.p0 | with_reducible exact Pull.p1 | with_reducible exact Pull.p2 | with_reducible exact Pull.p3 | with_reducible exact Pull.p4 | with_reducible exact Pull.p5 | with_reducible exact Pull.p6 | with_reducible exact Pull.p7 | with_reducible exact Pull.p8 | with_reducible exact Pull.p9) rfl rfl (by exact hK)))
    .nil)))))))))))))) (fun ba => ?_)
  show At _ _ [row ba [i64 i, i64 j] 32 (0, 0), row b8 [i64 0, i64 0] 32 (0, 0), chipR c, row g.lb [ptr c.cb 0, i64 i, u64 g.seq, .map (some g.mb)] 71 (0, 0), logMap g] _
  refine At.keep [(0, _), (8, _), (9, _), (10, _), (13, _)] (.cons rfl (.cons rfl (.cons rfl (.cons rfl (.cons rfl .nil))))) ?_
  refine At.then_n ?_
  refine At.seq ?_
  refine At.region ?_
  refine At.op rfl (op_move rfl rfl ?_)
  refine At.op rfl (op_nilCheck rfl rfl ?_)
  refine At.op rfl (op_fieldAddr (o' := 2) rfl Tryz.underlying71 rfl Tryz.sizeOf40 rfl rfl ?_)
  refine At.op rfl (op_load rfl Tryz.isAgg40 (by first | with_reducible exact Pull.p0 | with_reducible exact Pull.p1 | with_reducible exact Pull.p2 | with_reducible exact Pull.p3 | with_reducible exact Pull.p4 | with_reducible exact Pull.p5 | with_reducible exact Pull.p6 | with_reducible exact Pull.p7 | with_reducible exact Pull.p8 | with_reducible exact Pull.p9) rfl rfl ?_)
  refine At.op rfl (op_bin rfl rfl (b64_add _ (1 : UInt64)) rfl ?_)
  refine At.op rfl (op_nilCheck rfl rfl ?_)
  refine At.op rfl (op_fieldAddr (o' := 2) rfl Tryz.underlying71 rfl Tryz.sizeOf40 rfl rfl ?_)
  refine At.op rfl (op_store rfl rfl Tryz.sizeOf40 rfl rfl (by first | with_reducible exact Pull.p0 | with_reducible exact Pull.p1 | with_reducible exact Pull.p2 | with_reducible exact Pull.p3 | with_reducible exact Pull.p4 | with_reducible exact Pull.p5 | with_reducible exact Pull.p6 | with_reducible exact Pull.p7 | with_reducible exact Pull.p8 | with_reducible exact Pull.p9) (.succ (.succ .zero)) rfl ?_)
  refine At.nil ?_
  refine At.then_n ?_
  refine At.seq ?_
  refine At.seq ?_
  refine At.drawX2 (γ := Nat × Option Addr × Nat) (0, none, 0) [9] (fun gh => [[chipR (c.prog i j gh.1 (putS k g.seq t) gh.2.1 gh.2.2), row g.lb [ptr c.cb 0, i64 i, u64 (g.seq + 1), .map (some g.mb)] 71 (0, 0), row ba [i64 i, i64 j] 32 (0, 0), row b8 [i64 0, i64 0] 32 (0, 0), logMap g]]) (fun gh => [ptr g.lb 0, ptr g.lb 0, ptr g.lb 0, ptr c.cb 0, ptr ba 0, i64 i, ptr ba 1, i64 j, str (putS k g.seq t), i64 0, i64 0]) (by kernel_rfl) (by decide) (by kernel_rfl) (by decide) (by kernel_rfl) (fun _ => rfl) (fun gh => 
    (.quiet 1 (by kernel_rfl) (by kernel_rfl) (.cons (Step.op rfl (fun D h1 h2 h3 K hK => op_move (mD_base rfl rfl) rfl hK)) (.cons (Step.op rfl (fun D h1 h2 h3 K hK => op_move (mD_base rfl rfl) rfl hK)) .nil))
    (.quiet 1 (by kernel_rfl) (by kernel_rfl) (.cons (Step.op rfl (fun D h1 h2 h3 K hK => op_nilCheck (mD_done 0 (by decide) (pre_at h2 0 rfl rfl) rfl rfl rfl) rfl hK)) (.cons (Step.op rfl (fun D h1 h2 h3 K hK => op_nilCheck (mD_done 0 (by decide) (pre_at h2 0 rfl rfl) rfl rfl rfl) rfl hK)) .nil))
    (.quiet 1 (by kernel_rfl) (by kernel_rfl) (.cons (Step.op rfl (fun D h1 h2 h3 K hK => op_fieldAddr (o' := 0) (mD_done 1 (by decide) (pre_at h2 0 rfl rfl) rfl rfl rfl) Tryz.underlying71 rfl Tryz.sizeOf22 rfl rfl hK)) (.cons (Step.op rfl (fun D h1 h2 h3 K hK => op_fieldAddr (o' := 0) (mD_done 1 (by decide) (pre_at h2 0 rfl rfl) rfl rfl rfl) Tryz.underlying71 rfl Tryz.sizeOf22 rfl rfl hK)) .nil))
    (.quiet 0 (by kernel_rfl) (by kernel_rfl) (.cons (Step.op rfl (fun D h1 h2 h3 K hK => op_load (mD_done 2 (by decide) (pre_at h2 0 rfl rfl) rfl rfl rfl) Tryz.isAgg22 (by first | with_reducible exact Pull.p0 | with_reducible exact Pull.p1 | with_reducible exact Pull.p2 | with_reducible exact Pull.p3 | with_reducible exact Pull.p4 | with_reducible exact Pull.p5 | with_reducible exact Pull.p6 | with_reducible exact Pull.p7 | with_reducible exact Pull.p8 | with_reducible exact Pull.p9) rfl rfl hK)) .nil)
    (.quiet 1 (by kernel_rfl) (by kernel_rfl) (.cons (Step.op rfl (fun D h1 h2 h3 K hK => op_fieldAddr (o' := 0) (mD_base rfl rfl) Tryz.underlying32 rfl Tryz.sizeOf3 rfl rfl hK)) (.cons (Step.op rfl (fun D h1 h2 h3 K hK => op_fieldAddr (o' := 0) (mD_base rfl rfl) Tryz.underlying32 rfl Tryz.sizeOf3 rfl rfl hK)) .nil))
    (.quiet 0 (by kernel_rfl) (by kernel_rfl) (.cons (Step.op rfl (fun D h1 h2 h3 K hK => op_load (mD_done 4 (by decide) (pre_at h2 0 rfl rfl) rfl rfl rfl) Tryz.isAgg3 (by first | with_reducible exact Pull.p0 | with_reducible exact Pull.p1 | with_reducible exact Pull.p2 | with_reducible exact Pull.p3 | with_reducible exact Pull.p4 | with_reducible exact Pull.p5 | with_reducible exact Pull.p6 | with_reducible exact Pull.p7 | with_reducible exact Pull.p8 | with_reducible exact Pull.p9) rfl rfl hK)) .nil)
    (.quiet 1 (by kernel_rfl) (by kernel_rfl) (.cons (Step.op rfl (fun D h1 h2 h3 K hK => op_fieldAddr (o' := 1) (mD_base rfl rfl) Tryz.underlying32 rfl Tryz.sizeOf3 rfl rfl hK)) (.cons (Step.op rfl (fun D h1 h2 h3 K hK => op_fieldAddr (o' := 1) (mD_base rfl rfl) Tryz.underlying32 rfl Tryz.sizeOf3 rfl rfl hK)) .nil))
    (.quiet 0 (by kernel_rfl) (by kernel_rfl) (.cons (Step.op rfl (fun D h1 h2 h3 K hK => op_load (mD_done 6 (by decide) (pre_at h2 0 rfl rfl) rfl rfl rfl) Tryz.isAgg3 (by first | with_reducible exact Pull.p0 | with_reducible exact Pull.p1 | with_reducible exact Pull.p2 | with_reducible exact Pull.p3 | with_reducible exact Pull.p4 | with_reducible exact Pull.p5 | with_reducible exact Pull.p6 | with_reducible exact Pull.p7 | with_reducible exact Pull.p8 | with_reducible exact Pull.p9) rfl rfl hK)) .nil)
    (.quiet 0 (by kernel_rfl) (by kernel_rfl) (.cons (Step.op rfl (fun D h1 h2 h3 K hK => op_move (mD_base rfl rfl) rfl hK)) .nil)
    (.skip (by kernel_rfl) 
    (.quiet 1 (by kernel_rfl) (by kernel_rfl) (.cons (Step.op rfl (fun D h1 h2 h3 K hK => op_assign (mD_done 9 (by decide) (pre_at h2 0 rfl rfl) rfl rfl rfl) rfl hK)) (.cons (Step.op rfl (fun D h1 h2 h3 K hK => op_assign (mD_done 9 (by decide) (pre_at h2 0 rfl rfl) rfl rfl rfl) rfl hK)) .nil))
    .nil))))))))))))
    (.cons rfl rfl (fun gh => i64 0) (fun _ => rfl) (fun gh => _) (fun gh => [chipR (c.prog i j gh.1 (putS k g.seq t) gh.2.1 gh.2.2), row g.lb [ptr c.cb 0, i64 i, u64 (g.seq + 1), .map (some g.mb)] 71 (0, 0), row ba [i64 i, i64 j] 32 (0, 0), row b8 [i64 0, i64 0] 32 (0, 0), logMap g]) (fun _ => rfl) (fun _ => rfl) (fun gh D h2 K hK => op_callF (evs_cons (mD_done 3 (by decide) (pre_at h2 0 rfl rfl) rfl rfl rfl) (evs_cons (mD_done 5 (by decide) (pre_at h2 1 rfl rfl) rfl rfl rfl) (evs_cons (mD_done 7 (by decide) (pre_at h2 2 rfl rfl) rfl rfl rfl) (evs_cons (mD_done 8 (by decide) (pre_at h2 3 rfl rfl) rfl rfl rfl) evs_nil)))) Tryz.call25 (by have := nand_Program (G := G) c hc i j (putS k g.seq t) hi hj (by rw [putS_length k g.seq t ht]; exact Nat.le_refl _) hpast hfree; rw [padS_put ht] at this; exact this) (.cons (by first | with_reducible exact Pull.p0 | with_reducible exact Pull.p1 | with_reducible exact Pull.p2 | with_reducible exact Pull.p3 | with_reducible exact Pull.p4 | with_reducible exact Pull.p5 | with_reducible exact Pull.p6 | with_reducible exact Pull.p7 | with_reducible exact Pull.p8 | with_reducible exact Pull.p9) .nil) rfl (fun v us hu => by obtain ⟨b, pa, pc, rfl, rfl⟩ := hu; exact hK (b, pa, pc) (by
          intro j
          rcases j with _ | j
          · first | exact .inl rfl | exact .inr (by kernel_rfl)
          rcases j with _ | j
          · first | exact .inl rfl | exact .inr (by kernel_rfl)
          rcases j with _ | j
          · first | exact .inl rfl | exact .inr (by kernel_rfl)
          rcases j with _ | j
          · first | exact .inl rfl | exact .inr (by kernel_rfl)
          rcases j with _ | j
          · first | exact .inl rfl | exact .inr (by kernel_rfl)
          rcases j with _ | j
          · first | exact .inl rfl | exact .inr (by kernel_rfl)
          rcases j with _ | j
          · first | exact .inl rfl | exact .inr (by kernel_rfl)
          rcases j with _ | j
          · first | exact .inl rfl | exact .inr (by kernel_rfl)
          rcases j with _ | j
          · first | exact .inl rfl | exact .inr (by kernel_rfl)
          rcases j with _ | j
          · first | exact .inl rfl | exact .inr (by kernel_rfl)
          rcases j with _ | j
          · first | exact .inl rfl | exact .inr (by kernel_rfl)
          exact .inl rfl)))
    .nil) ?_
  rintro ⟨sb, pa, pc⟩
  show At _ _ ([chipR (c.prog i j sb (putS k g.seq t) pa pc), row g.lb [ptr c.cb 0, i64 i, u64 (g.seq + 1), .map (some g.mb)] 71 (0, 0), row ba [i64 i, i64 j] 32 (0, 0), row b8 [i64 0, i64 0] 32 (0, 0), logMap g]) _
  refine At.keep [(8, _), (9, _), (13, _), (14, _)] (.cons rfl (.cons rfl (.cons rfl (.cons rfl .nil)))) ?_
  refine At.then_n ?_
  refine At.seq ?_
  refine At.region ?_
  refine At.op rfl (op_move rfl rfl ?_)
  refine At.op rfl (op_bin rfl rfl (Bin.cast (v' := .bool false) b_ne (congrArg Value.bool (by rw [decide_eq_true rfl]; rfl))) rfl ?_)
  refine At.nil ?_
  refine At.then_n ?_
  refine At.cond_f rfl ?_
  refine At.skip ?_
  refine At.then_n ?_
  refine At.seq ?_
  refine At.region ?_
  refine At.op rfl (op_loadW rfl Tryz.isAgg32 Tryz.sizeOf32 (by first | with_reducible exact Pull.p0 | with_reducible exact Pull.p1 | with_reducible exact Pull.p2 | with_reducible exact Pull.p3 | with_reducible exact Pull.p4 | with_reducible exact Pull.p5 | with_reducible exact Pull.p6 | with_reducible exact Pull.p7 | with_reducible exact Pull.p8 | with_reducible exact Pull.p9) rfl rfl ?_)
  refine At.op rfl (op_storeW rfl rfl Tryz.sizeOf32 (by repeat' (first | refine List.forall_mem_cons.2 ⟨rfl, ?_⟩ | exact (fun _ h => by cases h))) (by first | with_reducible exact Pull.p0 | with_reducible exact Pull.p1 | with_reducible exact Pull.p2 | with_reducible exact Pull.p3 | with_reducible exact Pull.p4 | with_reducible exact Pull.p5 | with_reducible exact Pull.p6 | with_reducible exact Pull.p7 | with_reducible exact Pull.p8 | with_reducible exact Pull.p9) rfl rfl ?_)
  refine At.op rfl (op_assign rfl rfl ?_)
  refine At.nil ?_
  refine At.then_n ?_
  refine At.ret ?_
  exact At.fin (l := [.cell 8 32, .tmp 9]) _ (.inl rfl) rfl rfl (.agg rfl (by first | with_reducible exact Pull.p0 | with_reducible exact Pull.p1 | with_reducible exact Pull.p2 | with_reducible exact Pull.p3 | with_reducible exact Pull.p4 | with_reducible exact Pull.p5 | with_reducible exact Pull.p6 | with_reducible exact Pull.p7 | with_reducible exact Pull.p8 | with_reducible exact Pull.p9) Tryz.isAgg32 Tryz.sizeOf32 rfl (.tmp rfl .nil)) rfl ⟨sb, pa, pc, rfl, rfl⟩ (.cons (by first | exact Pull.p0 | exact Pull.p1 | exact Pull.p2 | exact Pull.p3 | exact Pull.p4 | exact Pull.p5 | exact Pull.p6 | exact Pull.p7 | exact Pull.p8 | exact Pull.p9) (.cons (by first | exact Pull.p0 | exact Pull.p1 | exact Pull.p2 | exact Pull.p3 | exact Pull.p4 | exact Pull.p5 | exact Pull.p6 | exact Pull.p7 | exact Pull.p8 | exact Pull.p9) (.cons (by first | exact Pull.p0 | exact Pull.p1 | exact Pull.p2 | exact Pull.p3 | exact Pull.p4 | exact Pull.p5 | exact Pull.p6 | exact Pull.p7 | exact Pull.p8 | exact Pull.p9) .nil)))
theorem seglog_Append_take0 (hG : GOK G) (c : Chp) (hc : c.wf) (g : Lg) (k : UInt8) (t : List UInt8) (r : Int) (hk : k ≠ 0) (ht : t.length ≤ 229) (i j : Nat) (hop : g.op = -1) (hi : i < c.segs) (hj : j < c.pages) (hnj : c.next i = (j : Int)) (hfree : c.at i j = none) (hpast : c.past.length < 1000000) (htk : takeOK g c r = true) (hti : i = minF (wearZ c) (freeL g c)) : Does Tryz.prog G 10 [ptr g.lb 0, u8 k, str t, i64 r] [chipR c, logRow g c.cb, logMap g] (fun v rs' => ∃ b pa pc, v = .tuple #[.agg [i64 i, i64 j].toArray, i64 0] ∧ rs' = [chipR (c.prog i j b (putS k g.seq t) pa pc), logRow (Lg.mk g.lb g.mb i (g.seq + 1) g.ret g.clock) c.cb, logMap g]) := by
  refine Does.of Tryz.func10 rfl Tryz.ntmps10 rfl (fun w0 => ?_)
  refine At.keep [(0, _), (1, _), (2, _), (3, _)] (.cons rfl (.cons rfl (.cons rfl (.cons rfl .nil)))) ?_
  refine At.seq ?_
  refine At.region ?_
  refine At.op rfl (op_alloc Tryz.zeroValue32 rfl rfl ?_)
  intro b8
  refine At.op rfl (op_assign rfl rfl ?_)
  refine At.nil ?_
  refine At.then_n ?_
  refine At.seq ?_
  refine At.region ?_
  refine At.op rfl (op_move rfl rfl ?_)
  refine At.op rfl (op_move rfl rfl ?_)
  refine At.op rfl (op_nilCheck rfl rfl ?_)
  refine At.op rfl (op_fieldAddr (o' := 2) rfl Tryz.underlying71 rfl Tryz.sizeOf40 rfl rfl ?_)
  refine At.op rfl (op_load rfl Tryz.isAgg40 (by first | with_reducible exact Pull.p0 | with_reducible exact Pull.p1 | with_reducible exact Pull.p2 | with_reducible exact Pull.p3 | with_reducible exact Pull.p4 | with_reducible exact Pull.p5 | with_reducible exact Pull.p6 | with_reducible exact Pull.p7 | with_reducible exact Pull.p8 | with_reducible exact Pull.p9) rfl rfl ?_)
  refine At.op rfl (op_move rfl rfl ?_)
  refine At.op rfl (op_build (v := frmV k g.seq t) rfl (fun w => run_build w _ _ _ (by kernel_rfl)) rfl ?_)
  refine At.op rfl (op_call1 rfl Tryz.call22 (frame_Put hG k g.seq t (by omega)) rfl ?_)
  rw [putV_ok hk ht]
  refine At.op rfl (op_move rfl rfl ?_)
  refine At.op rfl (op_extractL rfl .zero rfl ?_)
  refine At.op rfl (op_extractL rfl (.succ .zero) rfl ?_)
  refine At.op rfl (op_assign rfl rfl ?_)
  refine At.op rfl (op_assign rfl rfl ?_)
  refine At.nil ?_
  refine At.then_n ?_
  refine At.seq ?_
  refine At.seq ?_
  refine At.keep [(0, _), (3, _), (8, _), (9, _), (10, _), (11, _)] (.cons rfl (.cons rfl (.cons rfl (.cons rfl (.cons rfl (.cons rfl .nil)))))) ?_
  refine At.region ?_
  refine At.op rfl (op_move rfl rfl ?_)
  refine At.op rfl (op_bin rfl rfl (Bin.cast (v' := .bool false) b_ne (congrArg Value.bool (by rw [decide_eq_true rfl]; rfl))) rfl ?_)
  refine At.nil ?_
  refine At.then_n ?_
  refine At.cond_f rfl ?_
  refine At.skip ?_
  refine At.then_n ?_
  refine At.seq ?_
  refine At.seq ?_
  refine At.region ?_
  refine At.op rfl (op_move rfl rfl ?_)
  refine At.op rfl (op_nilCheck rfl rfl ?_)
  refine At.op rfl (op_fieldAddr (o' := 1) rfl Tryz.underlying71 rfl Tryz.sizeOf3 rfl rfl ?_)
  refine At.op rfl (op_load rfl Tryz.isAgg3 (by first | with_reducible exact Pull.p0 | with_reducible exact Pull.p1 | with_reducible exact Pull.p2 | with_reducible exact Pull.p3 | with_reducible exact Pull.p4 | with_reducible exact Pull.p5 | with_reducible exact Pull.p6 | with_reducible exact Pull.p7 | with_reducible exact Pull.p8 | with_reducible exact Pull.p9) rfl rfl ?_)
  refine At.op rfl (op_bin rfl rfl (Bin.cast (v' := .bool true) b_eq (congrArg Value.bool (decide_eq_true hop))) rfl ?_)
  refine At.op rfl (op_move rfl rfl ?_)
  refine At.opk (want := true) rfl rfl rfl rfl rfl ?_
  refine At.opk (want := true) rfl rfl rfl rfl rfl ?_
  refine At.opk (want := true) rfl rfl rfl rfl rfl ?_
  refine At.opk (want := true) rfl rfl rfl rfl rfl ?_
  refine At.opk (want := true) rfl rfl rfl rfl rfl ?_
  refine At.opk (want := true) rfl rfl rfl rfl rfl ?_
  refine At.opk (want := true) rfl rfl rfl rfl rfl ?_
  refine At.op rfl (op_pick_t rfl rfl rfl ?_)
  refine At.nil ?_
  refine At.then_n ?_
  refine At.cond_t rfl ?_
  refine At.seq ?_
  refine At.keep [(0, _), (3, _), (8, _), (9, _), (10, _)] (.cons rfl (.cons rfl (.cons rfl (.cons rfl (.cons rfl .nil))))) ?_
  refine At.region ?_
  refine At.op rfl (op_move rfl rfl ?_)
  refine At.op rfl (op_move rfl rfl ?_)
  refine At.op rfl (op_callR rfl Tryz.call24 (seglog_take_ok c hc g r htk) (.cons (by first | with_reducible exact Pull.p0 | with_reducible exact Pull.p1 | with_reducible exact Pull.p2 | with_reducible exact Pull.p3 | with_reducible exact Pull.p4 | with_reducible exact Pull.p5 | with_reducible exact Pull.p6 | with_reducible exact Pull.p7 | with_reducible exact Pull.p8 | with_reducible exact Pull.p9) (.cons (by first | with_reducible exact Pull.p0 | with_reducible exact Pull.p1 | with_reducible exact Pull.p2 | with_reducible exact Pull.p3 | with_reducible exact Pull.p4 | with_reducible exact Pull.p5 | with_reducible exact Pull.p6 | with_reducible exact Pull.p7 | with_reducible exact Pull.p8 | with_reducible exact Pull.p9) (.cons (by first | with_reducible exact Pull.p0 | with_reducible exact Pull.p1 | with_reducible exact Pull.p2 | with_reducible exact Pull.p3 | with_reducible exact Pull.p4 | with_reducible exact Pull.p5 | with_reducible exact Pull.p6 | with_reducible exact Pull.p7 | with_reducible exact Pull.p8 | with_reducible exact Pull.p9) .nil))) rfl ?_)
  refine At.app3 ?_
  show At _ _ [chipR c, row g.lb [ptr c.cb 0, i64 (takeL g c).op, u64 g.seq, .map (some g.mb)] 71 (0, 0), logMap g, row b8 [i64 0, i64 0] 32 (0, 0)] _
  rw [show (takeL g c).op = (i : Int) by rw [hti]; rfl]
  refine At.op rfl (op_assign rfl rfl ?_)
  refine At.nil ?_
  refine At.then_n ?_
  refine At.seq ?_
  refine At.region ?_
  refine At.op rfl (op_move rfl rfl ?_)
  refine At.op rfl (op_bin rfl rfl (Bin.cast (v' := .bool false) b_ne (congrArg Value.bool (by rw [decide_eq_true rfl]; rfl))) rfl ?_)
  refine At.nil ?_
  refine At.then_n ?_
  refine At.cond_f rfl ?_
  refine At.skip ?_
  refine At.then_n ?_
  refine At.seq ?_
  refine At.drawAl 11 [12] (fun ba => _) (fun ba => [_]) (fun ba => [ptr g.lb 0, ptr g.lb 0, ptr g.lb 1, i64 i, ptr g.lb 0, ptr g.lb 0, ptr g.lb 0, ptr g.lb 1, i64 i, i64 j, .agg [i64 i, i64 j].toArray, ptr ba 0, undef]) (by kernel_rfl) (by decide) (by kernel_rfl) rfl rfl rfl (by kernel_rfl) (fun _ => rfl) (fun _ => rfl) (by
        intro b b' j
        rcases j with _ | j
        · first | exact .inr (.inr rfl) | exact .inl rfl | exact .inr (.inl (by kernel_rfl))
        rcases j with _ | j
        · first | exact .inr (.inr rfl) | exact .inl rfl | exact .inr (.inl (by kernel_rfl))
        rcases j with _ | j
        · first | exact .inr (.inr rfl) | exact .inl rfl | exact .inr (.inl (by kernel_rfl))
        rcases j with _ | j
        · first | exact .inr (.inr rfl) | exact .inl rfl | exact .inr (.inl (by kernel_rfl))
        rcases j with _ | j
        · first | exact .inr (.inr rfl) | exact .inl rfl | exact .inr (.inl (by kernel_rfl))
        rcases j with _ | j
        · first | exact .inr (.inr rfl) | exact .inl rfl | exact .inr (.inl (by kernel_rfl))
        rcases j with _ | j
        · first | exact .inr (.inr rfl) | exact .inl rfl | exact .inr (.inl (by kernel_rfl))
        rcases j with _ | j
        · first | exact .inr (.inr rfl) | exact .inl rfl | exact .inr (.inl (by kernel_rfl))
        rcases j with _ | j
        · first | exact .inr (.inr rfl) | exact .inl rfl | exact .inr (.inl (by kernel_rfl))
        rcases j with _ | j
        · first | exact .inr (.inr rfl) | exact .inl rfl | exact .inr (.inl (by kernel_rfl))
        rcases j with _ | j
        · first | exact .inr (.inr rfl) | exact .inl rfl | exact .inr (.inl (by kernel_rfl))
        rcases j with _ | j
        · first | exact .inr (.inr rfl) | exact .inl rfl | exact .inr (.inl (by kernel_rfl))
        rcases j with _ | j
        · first | exact .inr (.inr rfl) | exact .inl rfl | exact .inr (.inl (by kernel_rfl))
        exact .inr (.inr rfl)) (fun g D K hD hK => op_alloc Tryz.zeroValue32 rfl rfl hK) (fun ba => 
    (.quiet 1 (by kernel_rfl) (by kernel_rfl) (.cons (Step.op rfl (fun D h1 h2 h3 K hK => op_move (mD_base rfl rfl) rfl hK)) (.cons (Step.op rfl (fun D h1 h2 h3 K hK => op_move (mD_base rfl rfl) rfl hK)) .nil))
    (.quiet 1 (by kernel_rfl) (by kernel_rfl) (.cons (Step.op rfl (fun D h1 h2 h3 K hK => op_nilCheck (mD_done 0 (by decide) (pre_at h2 0 rfl rfl) rfl rfl rfl) rfl hK)) (.cons (Step.op rfl (fun D h1 h2 h3 K hK => op_nilCheck (mD_done 0 (by decide) (pre_at h2 0 rfl rfl) rfl rfl rfl) rfl hK)) .nil))
    (.quiet 1 (by kernel_rfl) (by kernel_rfl) (.cons (Step.op rfl (fun D h1 h2 h3 K hK => op_fieldAddr (o' := 1) (mD_done 1 (by decide) (pre_at h2 0 rfl rfl) rfl rfl rfl) Tryz.underlying71 rfl Tryz.sizeOf3 rfl rfl hK)) (.cons (Step.op rfl (fun D h1 h2 h3 K hK => op_fieldAddr (o' := 1) (mD_done 1 (by decide) (pre_at h2 0 rfl rfl) rfl rfl rfl) Tryz.underlying71 rfl Tryz.sizeOf3 rfl rfl hK)) .nil))
    (.quiet 1 (by kernel_rfl) (by kernel_rfl) (.cons (Step.op rfl (fun D h1 h2 h3 K hK => op_load (mD_done 2 (by decide) (pre_at h2 0 rfl rfl) rfl rfl rfl) Tryz.isAgg3 (by first | with_reducible exact Pull.p0 | with_reducible exact Pull.p1 | with_reducible exact Pull.p2 | with_reducible exact Pull.p3 | with_reducible exact Pull.p4 | with_reducible exact Pull.p5 | with_reducible exact Pull.p6 | with_reducible exact Pull.p7 | with_reducible exact Pull.p8 | with_reducible exact Pull.p9) rfl rfl hK)) (.cons (Step.op rfl (fun D h1 h2 h3 K hK => op_load (mD_done 2 (by decide) (pre_at h2 0 rfl rfl) rfl rfl rfl) Tryz.isAgg3 (by first | with_reducible exact Pull.p0 | with_reducible exact Pull.p1 | with_reducible exact Pull.p2 | with_reducible exact Pull.p3 | with_reducible exact Pull.p4 | with_reducible exact Pull.p5 | with_reducible exact Pull.p6 | with_reducible exact Pull.p7 | with_reducible exact Pull.p8 | with_reducible exact Pull.p9) rfl rfl hK)) .nil))
    (.quiet 1 (by kernel_rfl) (by kernel_rfl) (.cons (Step.op rfl (fun D h1 h2 h3 K hK => op_move (mD_base rfl rfl) rfl hK)) (.cons (Step.op rfl (fun D h1 h2 h3 K hK => op_move (mD_base rfl rfl) rfl hK)) .nil))
    (.quiet 1 (by kernel_rfl) (by kernel_rfl) (.cons (Step.op rfl (fun D h1 h2 h3 K hK => op_move (mD_base rfl rfl) rfl hK)) (.cons (Step.op rfl (fun D h1 h2 h3 K hK => op_move (mD_base rfl rfl) rfl hK)) .nil))
    (.quiet 1 (by kernel_rfl) (by kernel_rfl) (.cons (Step.op rfl (fun D h1 h2 h3 K hK => op_nilCheck (mD_done 5 (by decide) (pre_at h2 0 rfl rfl) rfl rfl rfl) rfl hK)) (.cons (Step.op rfl (fun D h1 h2 h3 K hK => op_nilCheck (mD_done 5 (by decide) (pre_at h2 0 rfl rfl) rfl rfl rfl) rfl hK)) .nil))
    (.quiet 1 (by kernel_rfl) (by kernel_rfl) (.cons (Step.op rfl (fun D h1 h2 h3 K hK => op_fieldAddr (o' := 1) (mD_done 6 (by decide) (pre_at h2 0 rfl rfl) rfl rfl rfl) Tryz.underlying71 rfl Tryz.sizeOf3 rfl rfl hK)) (.cons (Step.op rfl (fun D h1 h2 h3 K hK => op_fieldAddr (o' := 1) (mD_done 6 (by decide) (pre_at h2 0 rfl rfl) rfl rfl rfl) Tryz.underlying71 rfl Tryz.sizeOf3 rfl rfl hK)) .nil))
    (.quiet 1 (by kernel_rfl) (by kernel_rfl) (.cons (Step.op rfl (fun D h1 h2 h3 K hK => op_load (mD_done 7 (by decide) (pre_at h2 0 rfl rfl) rfl rfl rfl) Tryz.isAgg3 (by first | with_reducible exact Pull.p0 | with_reducible exact Pull.p1 | with_reducible exact Pull.p2 | with_reducible exact Pull.p3 | with_reducible exact Pull.p4 | with_reducible exact Pull.p5 | with_reducible exact Pull.p6 | with_reducible exact Pull.p7 | with_reducible exact Pull.p8 | with_reducible exact Pull.p9) rfl rfl hK)) (.cons (Step.op rfl (fun D h1 h2 h3 K hK => op_load (mD_done 7 (by decide) (pre_at h2 0 rfl rfl) rfl rfl rfl) Tryz.isAgg3 (by first | with_reducible exact Pull.p0 | with_reducible exact Pull.p1 | with_reducible exact Pull.p2 | with_reducible exact Pull.p3 | with_reducible exact Pull.p4 | with_reducible exact Pull.p5 | with_reducible exact Pull.p6 | with_reducible exact Pull.p7 | with_reducible exact Pull.p8 | with_reducible exact Pull.p9) rfl rfl hK)) .nil))
    (.quiet 1 (by kernel_rfl) (by kernel_rfl) (.cons (Step.op rfl (fun D h1 h2 h3 K hK => op_callQ (evs_cons (mD_done 4 (by decide) (pre_at h2 0 rfl rfl) rfl rfl rfl) (evs_cons (mD_done 8 (by decide) (pre_at h2 1 rfl rfl) rfl rfl rfl) evs_nil)) Tryz.call23 (by have := seglog_next (G := G) c hc (Lg.mk g.lb g.mb i g.seq g.ret g.clock) i hi; rw [hnj] at this; exact this) (.cons (by first | exact Pull.p0 | exact Pull.p1 | exact Pull.p2 | exact Pull.p3 | exact Pull.p4 | exact Pull.p5 | exact Pull.p6 | exact Pull.p7 | exact Pull.p8 | exact Pull.p9) (.cons (by first | exact Pull.p0 | exact Pull.p1 | exact Pull.p2 | exact Pull.p3 | exact Pull.p4 | exact Pull.p5 | exact Pull.p6 | exact Pull.p7 | exact Pull.p8 | exact Pull.p9) .nil)) rfl hK)) (.cons (Step.op rfl (fun D h1 h2 h3 K hK => op_callQ (evs_cons (mD_done 4 (by decide) (pre_at h2 0 rfl rfl) rfl rfl rfl) (evs_cons (mD_done 8 (by decide) (pre_at h2 1 rfl rfl) rfl rfl rfl) evs_nil)) Tryz.call23 (by have := seglog_next (G := G) c hc (Lg.mk g.lb g.mb i g.seq g.ret g.clock) i hi; rw [hnj] at this; exact this) (.cons (by first | exact Pull.p0 | exact Pull.p1 | exact Pull.p2 | exact Pull.p3 | exact Pull.p4 | exact Pull.p5 | exact Pull.p6 | exact Pull.p7 | exact Pull.p8 | exact Pull.p9) (.cons (by first | exact Pull.p0 | exact Pull.p1 | exact Pull.p2 | exact Pull.p3 | exact Pull.p4 | exact Pull.p5 | exact Pull.p6 | exact Pull.p7 | exact Pull.p8 | exact Pull.p9) .nil)) rfl hK)) .nil))
    (.quiet 1 (by kernel_rfl) (by kernel_rfl) (.cons (Step.op rfl (fun D h1 h2 h3 K hK => op_build (v := .agg [i64 i, i64 j].toArray) (evp_cons (mD_done 3 (by decide) (pre_at h2 0 rfl rfl) rfl rfl rfl) (evp_cons (mD_done 9 (by decide) (pre_at h2 1 rfl rfl) rfl rfl rfl) evp_nil)) (fun w => run_build w _ _ _ (by kernel_rfl)) rfl hK)) (.cons (Step.op rfl (fun D h1 h2 h3 K hK => op_build (v := .agg [i64 i, i64 j].toArray) (evp_cons (mD_done 3 (by decide) (pre_at h2 0 rfl rfl) rfl rfl rfl) (evp_cons (mD_done 9 (by decide) (pre_at h2 1 rfl rfl) rfl rfl rfl) evp_nil)) (fun w => run_build w _ _ _ (by kernel_rfl)) rfl hK)) .nil))
    (.skip 
    (.eff 1 rfl (by kernel_rfl) (by kernel_rfl) rfl rfl (Last.op rfl (fun D h2 K hK => op_storeW (mD_done 11 (by decide) (pre_at h2 0 rfl rfl) rfl rfl rfl) (mD_done 10 (by decide) (pre_at h2 1 rfl rfl) rfl rfl rfl) Tryz.sizeOf32 (List.forall_mem_cons.2 ⟨rfl, (List.forall_mem_cons.2 ⟨rfl, (fun _ h => by cases h)⟩)⟩) (by first | with_reducible exact Pull.p0 | with_reducible exact Pull.p1 | with_reducible exact Pull.p2 | with_reducible exact Pull.p3 | with_reducible exact Pull.p4 | with_reducible exact Pull.p5 | with_reducible exact Pull.p6 | with_reducible exact Pull.p7 | with_reducible exact Pull.p8 | with_reducible exact Pull.p9) rfl rfl (by exact hK)))
    .nil)))))))))))))) (fun ba => ?_)
  show At _ _ [row ba [i64 i, i64 j] 32 (0, 0), chipR c, row g.lb [ptr c.cb 0, i64 i, u64 g.seq, .map (some g.mb)] 71 (0, 0), logMap g, row b8 [i64 0, i64 0] 32 (0, 0)] _
  refine At.keep [(0, _), (8, _), (9, _), (10, _), (13, _)] (.cons rfl (.cons rfl (.cons rfl (.cons rfl (.cons rfl .nil))))) ?_
  refine At.then_n ?_
  refine At.seq ?_
  refine At.region ?_
  refine At.op rfl (op_move rfl rfl ?_)
  refine At.op rfl (op_nilCheck rfl rfl ?_)
  refine At.op rfl (op_fieldAddr (o' := 2) rfl Tryz.underlying71 rfl Tryz.sizeOf40 rfl rfl ?_)
  refine At.op rfl (op_load rfl Tryz.isAgg40 (by first | with_reducible exact Pull.p0 | with_reducible exact Pull.p1 | with_reducible exact Pull.p2 | with_reducible exact Pull.p3 | with_reducible exact Pull.p4 | with_reducible exact Pull.p5 | with_reducible exact Pull.p6 | with_reducible exact Pull.p7 | with_reducible exact Pull.p8 | with_reducible exact Pull.p9) rfl rfl ?_)
  refine At.op rfl (op_bin rfl rfl (b64_add _ (1 : UInt64)) rfl ?_)
  refine At.op rfl (op_nilCheck rfl rfl ?_)
  refine At.op rfl (op_fieldAddr (o' := 2) rfl Tryz.underlying71 rfl Tryz.sizeOf40 rfl rfl ?_)
  refine At.op rfl (op_store rfl rfl Tryz.sizeOf40 rfl rfl (by first | with_reducible exact Pull.p0 | with_reducible exact Pull.p1 | with_reducible exact Pull.p2 | with_reducible exact Pull.p3 | with_reducible exact Pull.p4 | with_reducible exact Pull.p5 | with_reducible exact Pull.p6 | with_reducible exact Pull.p7 | with_reducible exact Pull.p8 | with_reducible exact Pull.p9) (.succ (.succ .zero)) rfl ?_)
  refine At.nil ?_
  refine At.then_n ?_
  refine At.seq ?_
  refine At.seq ?_
  refine At.drawX2 (γ := Nat × Option Addr × Nat) (0, none, 0) [9] (fun gh => [[chipR (c.prog i j gh.1 (putS k g.seq t) gh.2.1 gh.2.2), row g.lb [ptr c.cb 0, i64 i, u64 (g.seq + 1), .map (some g.mb)] 71 (0, 0), row ba [i64 i, i64 j] 32 (0, 0), logMap g, row b8 [i64 0, i64 0] 32 (0, 0)]]) (fun gh => [ptr g.lb 0, ptr g.lb 0, ptr g.lb 0, ptr c.cb 0, ptr ba 0, i64 i, ptr ba 1, i64 j, str (putS k g.seq t), i64 0, i64 0]) (by kernel_rfl) (by decide) (by kernel_rfl) (by decide) (by kernel_rfl) (fun _ => rfl) (fun gh => 
    (.quiet 1 (by kernel_rfl) (by kernel_rfl) (.cons (Step.op rfl (fun D h1 h2 h3 K hK => op_move (mD_base rfl rfl) rfl hK)) (.cons (Step.op rfl (fun D h1 h2 h3 K hK => op_move (mD_base rfl rfl) rfl hK)) .nil))
    (.quiet 1 (by kernel_rfl) (by kernel_rfl) (.cons (Step.op rfl (fun D h1 h2 h3 K hK => op_nilCheck (mD_done 0 (by decide) (pre_at h2 0 rfl rfl) rfl rfl rfl) rfl hK)) (.cons (Step.op rfl (fun D h1 h2 h3 K hK => op_nilCheck (mD_done 0 (by decide) (pre_at h2 0 rfl rfl) rfl rfl rfl) rfl hK)) .nil))
    (.quiet 1 (by kernel_rfl) (by kernel_rfl) (.cons (Step.op rfl (fun D h1 h2 h3 K hK => op_fieldAddr (o' := 0) (mD_done 1 (by decide) (pre_at h2 0 rfl rfl) rfl rfl rfl) Tryz.underlying71 rfl Tryz.sizeOf22 rfl rfl hK)) (.cons (Step.op rfl (fun D h1 h2 h3 K hK => op_fieldAddr (o' := 0) (mD_done 1 (by decide) (pre_at h2 0 rfl rfl) rfl rfl rfl) Tryz.underlying71 rfl Tryz.sizeOf22 rfl rfl hK)) .nil))
    (.quiet 0 (by kernel_rfl) (by kernel_rfl) (.cons (Step.op rfl (fun D h1 h2 h3 K hK => op_load (mD_done 2 (by decide) (pre_at h2 0 rfl rfl) rfl rfl rfl) Tryz.isAgg22 (by first | with_reducible exact Pull.p0 | with_reducible exact Pull.p1 | with_reducible exact Pull.p2 | with_reducible exact Pull.p3 | with_reducible exact Pull.p4 | with_reducible exact Pull.p5 | with_reducible exact Pull.p6 | with_reducible exact Pull.p7 | with_reducible exact Pull.p8 | with_reducible exact Pull.p9) rfl rfl hK)) .nil)
    (.quiet 1 (by kernel_rfl) (by kernel_rfl) (.cons (Step.op rfl (fun D h1 h2 h3 K hK => op_fieldAddr (o' := 0) (mD_base rfl rfl) Tryz.underlying32 rfl Tryz.sizeOf3 rfl rfl hK)) (.cons (Step.op rfl (fun D h1 h2 h3 K hK => op_fieldAddr (o' := 0) (mD_base rfl rfl) Tryz.underlying32 rfl Tryz.sizeOf3 rfl rfl hK)) .nil))
    (.quiet 0 (by kernel_rfl) (by kernel_rfl) (.cons (Step.op rfl (fun D h1 h2 h3 K hK => op_load (mD_done 4 (by decide) (pre_at h2 0 rfl rfl) rfl rfl rfl) Tryz.isAgg3 (by first | with_reducible exact Pull.p0 | with_reducible exact Pull.p1 | with_reducible exact Pull.p2 | with_reducible exact Pull.p3 | with_reducible exact Pull.p4 | with_reducible exact Pull.p5 | with_reducible exact Pull.p6 | with_reducible exact Pull.p7 | with_reducible exact Pull.p8 | with_reducible exact Pull.p9) rfl rfl hK)) .nil)
    (.quiet 1 (by kernel_rfl) (by kernel_rfl) (.cons (Step.op rfl (fun D h1 h2 h3 K hK => op_fieldAddr (o' := 1) (mD_base rfl rfl) Tryz.underlying32 rfl Tryz.sizeOf3 rfl rfl hK)) (.cons (Step.op rfl (fun D h1 h2 h3 K hK => op_fieldAddr (o' := 1) (mD_base rfl rfl) Tryz.underlying32 rfl Tryz.sizeOf3 rfl rfl hK)) .nil))
    (.quiet 0 (by kernel_rfl) (by kernel_rfl) (.cons (Step.op rfl (fun D h1 h2 h3 K hK => op_load (mD_done 6 (by decide) (pre_at h2 0 rfl rfl) rfl rfl rfl) Tryz.isAgg3 (by first | with_reducible exact Pull.p0 | with_reducible exact Pull.p1 | with_reducible exact Pull.p2 | with_reducible exact Pull.p3 | with_reducible exact Pull.p4 | with_reducible exact Pull.p5 | with_reducible exact Pull.p6 | with_reducible exact Pull.p7 | with_reducible exact Pull.p8 | with_reducible exact Pull.p9) rfl rfl hK)) .nil)
    (.quiet 0 (by kernel_rfl) (by kernel_rfl) (.cons (Step.op rfl (fun D h1 h2 h3 K hK => op_move (mD_base rfl rfl) rfl hK)) .nil)
    (.skip (by kernel_rfl) 
    (.quiet 1 (by kernel_rfl) (by kernel_rfl) (.cons (Step.op rfl (fun D h1 h2 h3 K hK => op_assign (mD_done 9 (by decide) (pre_at h2 0 rfl rfl) rfl rfl rfl) rfl hK)) (.cons (Step.op rfl (fun D h1 h2 h3 K hK => op_assign (mD_done 9 (by decide) (pre_at h2 0 rfl rfl) rfl rfl rfl) rfl hK)) .nil))
    .nil))))))))))))
    (.cons rfl rfl (fun gh => i64 0) (fun _ => rfl) (fun gh => _) (fun gh => [chipR (c.prog i j gh.1 (putS k g.seq t) gh.2.1 gh.2.2), row g.lb [ptr c.cb 0, i64 i, u64 (g.seq + 1), .map (some g.mb)] 71 (0, 0), row ba [i64 i, i64 j] 32 (0, 0), logMap g, row b8 [i64 0, i64 0] 32 (0, 0)]) (fun _ => rfl) (fun _ => rfl) (fun gh D h2 K hK => op_callF (evs_cons (mD_done 3 (by decide) (pre_at h2 0 rfl rfl) rfl rfl rfl) (evs_cons (mD_done 5 (by decide) (pre_at h2 1 rfl rfl) rfl rfl rfl) (evs_cons (mD_done 7 (by decide) (pre_at h2 2 rfl rfl) rfl rfl rfl) (evs_cons (mD_done 8 (by decide) (pre_at h2 3 rfl rfl) rfl rfl rfl) evs_nil)))) Tryz.call25 (by have := nand_Program (G := G) c hc i j (putS k g.seq t) hi hj (by rw [putS_length k g.seq t ht]; exact Nat.le_refl _) hpast hfree; rw [padS_put ht] at this; exact this) (.cons (by first | with_reducible exact Pull.p0 | with_reducible exact Pull.p1 | with_reducible exact Pull.p2 | with_reducible exact Pull.p3 | with_reducible exact Pull.p4 | with_reducible exact Pull.p5 | with_reducible exact Pull.p6 | with_reducible exact Pull.p7 | with_reducible exact Pull.p8 | with_reducible exact Pull.p9) .nil) rfl (fun v us hu => by obtain ⟨b, pa, pc, rfl, rfl⟩ := hu; exact hK (b, pa, pc) (by
          intro j
          rcases j with _ | j
          · first | exact .inl rfl | exact .inr (by kernel_rfl)
          rcases j with _ | j
          · first | exact .inl rfl | exact .inr (by kernel_rfl)
          rcases j with _ | j
          · first | exact .inl rfl | exact .inr (by kernel_rfl)
          rcases j with _ | j
          · first | exact .inl rfl | exact .inr (by kernel_rfl)
          rcases j with _ | j
          · first | exact .inl rfl | exact .inr (by kernel_rfl)
          rcases j with _ | j
          · first | exact .inl rfl | exact .inr (by kernel_rfl)
          rcases j with _ | j
          · first | exact .inl rfl | exact .inr (by kernel_rfl)
          rcases j with _ | j
          · first | exact .inl rfl | exact .inr (by kernel_rfl)
          rcases j with _ | j
          · first | exact .inl rfl | exact .inr (by kernel_rfl)
          rcases j with _ | j
          · first | exact .inl rfl | exact .inr (by kernel_rfl)
          rcases j with _ | j
          · first | exact .inl rfl | exact .inr (by kernel_rfl)
          exact .inl rfl)))
    .nil) ?_
  rintro ⟨sb, pa, pc⟩
  show At _ _ ([chipR (c.prog i j sb (putS k g.seq t) pa pc), row g.lb [ptr c.cb 0, i64 i, u64 (g.seq + 1), .map (some g.mb)] 71 (0, 0), row ba [i64 i, i64 j] 32 (0, 0), logMap g, row b8 [i64 0, i64 0] 32 (0, 0)]) _
  refine At.keep [(8, _), (9, _), (13, _), (14, _)] (.cons rfl (.cons rfl (.cons rfl (.cons rfl .nil)))) ?_
  refine At.then_n ?_
  refine At.seq ?_
  refine At.region ?_
  refine At.op rfl (op_move rfl rfl ?_)
  refine At.op rfl (op_bin rfl rfl (Bin.cast (v' := .bool false) b_ne (congrArg Value.bool (by rw [decide_eq_true rfl]; rfl))) rfl ?_)
  refine At.nil ?_
  refine At.then_n ?_
  refine At.cond_f rfl ?_
  refine At.skip ?_
  refine At.then_n ?_
  refine At.seq ?_
  refine At.region ?_
  refine At.op rfl (op_loadW rfl Tryz.isAgg32 Tryz.sizeOf32 (by first | with_reducible exact Pull.p0 | with_reducible exact Pull.p1 | with_reducible exact Pull.p2 | with_reducible exact Pull.p3 | with_reducible exact Pull.p4 | with_reducible exact Pull.p5 | with_reducible exact Pull.p6 | with_reducible exact Pull.p7 | with_reducible exact Pull.p8 | with_reducible exact Pull.p9) rfl rfl ?_)
  refine At.op rfl (op_storeW rfl rfl Tryz.sizeOf32 (by repeat' (first | refine List.forall_mem_cons.2 ⟨rfl, ?_⟩ | exact (fun _ h => by cases h))) (by first | with_reducible exact Pull.p0 | with_reducible exact Pull.p1 | with_reducible exact Pull.p2 | with_reducible exact Pull.p3 | with_reducible exact Pull.p4 | with_reducible exact Pull.p5 | with_reducible exact Pull.p6 | with_reducible exact Pull.p7 | with_reducible exact Pull.p8 | with_reducible exact Pull.p9) rfl rfl ?_)
  refine At.op rfl (op_assign rfl rfl ?_)
  refine At.nil ?_
  refine At.then_n ?_
  refine At.ret ?_
  exact At.fin (l := [.cell 8 32, .tmp 9]) _ (.inl rfl) rfl rfl (.agg rfl (by first | with_reducible exact Pull.p0 | with_reducible exact Pull.p1 | with_reducible exact Pull.p2 | with_reducible exact Pull.p3 | with_reducible exact Pull.p4 | with_reducible exact Pull.p5 | with_reducible exact Pull.p6 | with_reducible exact Pull.p7 | with_reducible exact Pull.p8 | with_reducible exact Pull.p9) Tryz.isAgg32 Tryz.sizeOf32 rfl (.tmp rfl .nil)) rfl ⟨sb, pa, pc, rfl, rfl⟩ (.cons (by first | exact Pull.p0 | exact Pull.p1 | exact Pull.p2 | exact Pull.p3 | exact Pull.p4 | exact Pull.p5 | exact Pull.p6 | exact Pull.p7 | exact Pull.p8 | exact Pull.p9) (.cons (by first | exact Pull.p0 | exact Pull.p1 | exact Pull.p2 | exact Pull.p3 | exact Pull.p4 | exact Pull.p5 | exact Pull.p6 | exact Pull.p7 | exact Pull.p8 | exact Pull.p9) (.cons (by first | exact Pull.p0 | exact Pull.p1 | exact Pull.p2 | exact Pull.p3 | exact Pull.p4 | exact Pull.p5 | exact Pull.p6 | exact Pull.p7 | exact Pull.p8 | exact Pull.p9) .nil)))
theorem seglog_Append_take1 (hG : GOK G) (c : Chp) (hc : c.wf) (g : Lg) (k : UInt8) (t : List UInt8) (r : Int) (hk : k ≠ 0) (ht : t.length ≤ 229) (i j : Nat) (i0 : Nat) (hop : g.op = i0) (hi0 : i0 < c.segs) (hn0 : c.next i0 = -1) (hi : i < c.segs) (hj : j < c.pages) (hnj : c.next i = (j : Int)) (hfree : c.at i j = none) (hpast : c.past.length < 1000000) (htk : takeOK g c r = true) (hti : i = minF (wearZ c) (freeL g c)) : Does Tryz.prog G 10 [ptr g.lb 0, u8 k, str t, i64 r] [chipR c, logRow g c.cb, logMap g] (fun v rs' => ∃ b pa pc, v = .tuple #[.agg [i64 i, i64 j].toArray, i64 0] ∧ rs' = [chipR (c.prog i j b (putS k g.seq t) pa pc), logRow (Lg.mk g.lb g.mb i (g.seq + 1) g.ret g.clock) c.cb, logMap g]) := by
  refine Does.of Tryz.func10 rfl Tryz.ntmps10 rfl (fun w0 => ?_)
  refine At.keep [(0, _), (1, _), (2, _), (3, _)] (.cons rfl (.cons rfl (.cons rfl (.cons rfl .nil)))) ?_
  refine At.seq ?_
  refine At.region ?_
  refine At.op rfl (op_alloc Tryz.zeroValue32 rfl rfl ?_)
  intro b8
  refine At.op rfl (op_assign rfl rfl ?_)
  refine At.nil ?_
  refine At.then_n ?_
  refine At.seq ?_
  refine At.region ?_
  refine At.op rfl (op_move rfl rfl ?_)
  refine At.op rfl (op_move rfl rfl ?_)
  refine At.op rfl (op_nilCheck rfl rfl ?_)
  refine At.op rfl (op_fieldAddr (o' := 2) rfl Tryz.underlying71 rfl Tryz.sizeOf40 rfl rfl ?_)
  refine At.op rfl (op_load rfl Tryz.isAgg40 (by first | with_reducible exact Pull.p0 | with_reducible exact Pull.p1 | with_reducible exact Pull.p2 | with_reducible exact Pull.p3 | with_reducible exact Pull.p4 | with_reducible exact Pull.p5 | with_reducible exact Pull.p6 | with_reducible exact Pull.p7 | with_reducible exact Pull.p8 | with_reducible exact Pull.p9) rfl rfl ?_)
  refine At.op rfl (op_move rfl rfl ?_)
  refine At.op rfl (op_build (v := frmV k g.seq t) rfl (fun w => run_build w _ _ _ (by kernel_rfl)) rfl ?_)
  refine At.op rfl (op_call1 rfl Tryz.call22 (frame_Put hG k g.seq t (by omega)) rfl ?_)
  rw [putV_ok hk ht]
  refine At.op rfl (op_move rfl rfl ?_)
  refine At.op rfl (op_extractL rfl .zero rfl ?_)
  refine At.op rfl (op_extractL rfl (.succ .zero) rfl ?_)
  refine At.op rfl (op_assign rfl rfl ?_)
  refine At.op rfl (op_assign rfl rfl ?_)
  refine At.nil ?_
  refine At.then_n ?_
  refine At.seq ?_
  refine At.seq ?_
  refine At.keep [(0, _), (3, _), (8, _), (9, _), (10, _), (11, _)] (.cons rfl (.cons rfl (.cons rfl (.cons rfl (.cons rfl (.cons rfl .nil)))))) ?_
  refine At.region ?_
  refine At.op rfl (op_move rfl rfl ?_)
  refine At.op rfl (op_bin rfl rfl (Bin.cast (v' := .bool false) b_ne (congrArg Value.bool (by rw [decide_eq_true rfl]; rfl))) rfl ?_)
  refine At.nil ?_
  refine At.then_n ?_
  refine At.cond_f rfl ?_
  refine At.skip ?_
  refine At.then_n ?_
  refine At.seq ?_
  refine At.seq ?_
  refine At.region ?_
  refine At.op rfl (op_move rfl rfl ?_)
  refine At.op rfl (op_nilCheck rfl rfl ?_)
  refine At.op rfl (op_fieldAddr (o' := 1) rfl Tryz.underlying71 rfl Tryz.sizeOf3 rfl rfl ?_)
  refine At.op rfl (op_load rfl Tryz.isAgg3 (by first | with_reducible exact Pull.p0 | with_reducible exact Pull.p1 | with_reducible exact Pull.p2 | with_reducible exact Pull.p3 | with_reducible exact Pull.p4 | with_reducible exact Pull.p5 | with_reducible exact Pull.p6 | with_reducible exact Pull.p7 | with_reducible exact Pull.p8 | with_reducible exact Pull.p9) rfl rfl ?_)
  refine At.op rfl (op_bin rfl rfl (Bin.cast (v' := .bool false) b_eq (congrArg Value.bool (decide_eq_false (by omega)))) rfl ?_)
  refine At.op rfl (op_move rfl rfl ?_)
  refine At.opg rfl rfl rfl (op_move rfl rfl ?_)
  refine At.opg rfl rfl rfl (op_move rfl rfl ?_)
  refine At.opg rfl rfl rfl (op_nilCheck rfl rfl ?_)
  refine At.opg rfl rfl rfl (op_fieldAddr (o' := 1) rfl Tryz.underlying71 rfl Tryz.sizeOf3 rfl rfl ?_)
  refine At.opg rfl rfl rfl (op_load rfl Tryz.isAgg3 (by first | with_reducible exact Pull.p0 | with_reducible exact Pull.p1 | with_reducible exact Pull.p2 | with_reducible exact Pull.p3 | with_reducible exact Pull.p4 | with_reducible exact Pull.p5 | with_reducible exact Pull.p6 | with_reducible exact Pull.p7 | with_reducible exact Pull.p8 | with_reducible exact Pull.p9) (show (ptr c.cb 0 :: g.tl)[1]? = some (i64 i0) by rw [← hop]; rfl) rfl ?_)
  refine At.opg rfl rfl rfl (op_callQ rfl Tryz.call23 (by have := seglog_next (G := G) c hc g i0 hi0; rw [hn0] at this; exact this) (.cons (by first | with_reducible exact Pull.p0 | with_reducible exact Pull.p1 | with_reducible exact Pull.p2 | with_reducible exact Pull.p3 | with_reducible exact Pull.p4 | with_reducible exact Pull.p5 | with_reducible exact Pull.p6 | with_reducible exact Pull.p7 | with_reducible exact Pull.p8 | with_reducible exact Pull.p9) (.cons (by first | with_reducible exact Pull.p0 | with_reducible exact Pull.p1 | with_reducible exact Pull.p2 | with_reducible exact Pull.p3 | with_reducible exact Pull.p4 | with_reducible exact Pull.p5 | with_reducible exact Pull.p6 | with_reducible exact Pull.p7 | with_reducible exact Pull.p8 | with_reducible exact Pull.p9) .nil)) rfl ?_)
  refine At.opg rfl rfl rfl (op_bin rfl rfl (Bin.cast (v' := .bool true) b_eq (congrArg Value.bool (decide_eq_true rfl))) rfl ?_)
  refine At.op rfl (op_pick_f rfl rfl rfl ?_)
  refine At.nil ?_
  refine At.then_n ?_
  refine At.cond_t rfl ?_
  refine At.seq ?_
  refine At.keep [(0, _), (3, _), (8, _), (9, _), (10, _)] (.cons rfl (.cons rfl (.cons rfl (.cons rfl (.cons rfl .nil))))) ?_
  refine At.region ?_
  refine At.op rfl (op_move rfl rfl ?_)
  refine At.op rfl (op_move rfl rfl ?_)
  refine At.op rfl (op_callR rfl Tryz.call24 (seglog_take_ok c hc g r htk) (.cons (by first | with_reducible exact Pull.p0 | with_reducible exact Pull.p1 | with_reducible exact Pull.p2 | with_reducible exact Pull.p3 | with_reducible exact Pull.p4 | with_reducible exact Pull.p5 | with_reducible exact Pull.p6 | with_reducible exact Pull.p7 | with_reducible exact Pull.p8 | with_reducible exact Pull.p9) (.cons (by first | with_reducible exact Pull.p0 | with_reducible exact Pull.p1 | with_reducible exact Pull.p2 | with_reducible exact Pull.p3 | with_reducible exact Pull.p4 | with_reducible exact Pull.p5 | with_reducible exact Pull.p6 | with_reducible exact Pull.p7 | with_reducible exact Pull.p8 | with_reducible exact Pull.p9) (.cons (by first | with_reducible exact Pull.p0 | with_reducible exact Pull.p1 | with_reducible exact Pull.p2 | with_reducible exact Pull.p3 | with_reducible exact Pull.p4 | with_reducible exact Pull.p5 | with_reducible exact Pull.p6 | with_reducible exact Pull.p7 | with_reducible exact Pull.p8 | with_reducible exact Pull.p9) .nil))) rfl ?_)
  refine At.app3 ?_
  show At _ _ [chipR c, row g.lb [ptr c.cb 0, i64 (takeL g c).op, u64 g.seq, .map (some g.mb)] 71 (0, 0), logMap g, row b8 [i64 0, i64 0] 32 (0, 0)] _
  rw [show (takeL g c).op = (i : Int) by rw [hti]; rfl]
  refine At.op rfl (op_assign rfl rfl ?_)
  refine At.nil ?_
  refine At.then_n ?_
  refine At.seq ?_
  refine At.region ?_
  refine At.op rfl (op_move rfl rfl ?_)
  refine At.op rfl (op_bin rfl rfl (Bin.cast (v' := .bool false) b_ne (congrArg Value.bool (by rw [decide_eq_true rfl]; rfl))) rfl ?_)
  refine At.nil ?_
  refine At.then_n ?_
  refine At.cond_f rfl ?_
  refine At.skip ?_
  refine At.then_n ?_
  refine At.seq ?_
  refine At.drawAl 11 [12] (fun ba => _) (fun ba => [_]) (fun ba => [ptr g.lb 0, ptr g.lb 0, ptr g.lb 1, i64 i, ptr g.lb 0, ptr g.lb 0, ptr g.lb 0, ptr g.lb 1, i64 i, i64 j, .agg [i64 i, i64 j].toArray, ptr ba 0, undef]) (by kernel_rfl) (by decide) (by kernel_rfl) rfl rfl rfl (by kernel_rfl) (fun _ => rfl) (fun _ => rfl) (by
        intro b b' j
        rcases j with _ | j
        · first | exact .inr (.inr rfl) | exact .inl rfl | exact .inr (.inl (by kernel_rfl))
        rcases j with _ | j
        · first | exact .inr (.inr rfl) | exact .inl rfl | exact .inr (.inl (by kernel_rfl))
        rcases j with _ | j
        · first | exact .inr (.inr rfl) | exact .inl rfl | exact .inr (.inl (by kernel_rfl))
        rcases j with _ | j
        · first | exact .inr (.inr rfl) | exact .inl rfl | exact .inr (.inl (by kernel_rfl))
        rcases j with _ | j
        · first | exact .inr (.inr rfl) | exact .inl rfl | exact .inr (.inl (by kernel_rfl))
        rcases j with _ | j
        · first | exact .inr (.inr rfl) | exact .inl rfl | exact .inr (.inl (by kernel_rfl))
        rcases j with _ | j
        · first | exact .inr (.inr rfl) | exact .inl rfl | exact .inr (.inl (by kernel_rfl))
        rcases j with _ | j
        · first | exact .inr (.inr rfl) | exact .inl rfl | exact .inr (.inl (by kernel_rfl))
        rcases j with _ | j
        · first | exact .inr (.inr rfl) | exact .inl rfl | exact .inr (.inl (by kernel_rfl))
        rcases j with _ | j
        · first | exact .inr (.inr rfl) | exact .inl rfl | exact .inr (.inl (by kernel_rfl))
        rcases j with _ | j
        · first | exact .inr (.inr rfl) | exact .inl rfl | exact .inr (.inl (by kernel_rfl))
        rcases j with _ | j
        · first | exact .inr (.inr rfl) | exact .inl rfl | exact .inr (.inl (by kernel_rfl))
        rcases j with _ | j
        · first | exact .inr (.inr rfl) | exact .inl rfl | exact .inr (.inl (by kernel_rfl))
        exact .inr (.inr rfl)) (fun g D K hD hK => op_alloc Tryz.zeroValue32 rfl rfl hK) (fun ba => 
    (.quiet 1 (by kernel_rfl) (by kernel_rfl) (.cons (Step.op rfl (fun D h1 h2 h3 K hK => op_move (mD_base rfl rfl) rfl hK)) (.cons (Step.op rfl (fun D h1 h2 h3 K hK => op_move (mD_base rfl rfl) rfl hK)) .nil))
    (.quiet 1 (by kernel_rfl) (by kernel_rfl) (.cons (Step.op rfl (fun D h1 h2 h3 K hK => op_nilCheck (mD_done 0 (by decide) (pre_at h2 0 rfl rfl) rfl rfl rfl) rfl hK)) (.cons (Step.op rfl (fun D h1 h2 h3 K hK => op_nilCheck (mD_done 0 (by decide) (pre_at h2 0 rfl rfl) rfl rfl rfl) rfl hK)) .nil))
    (.quiet 1 (by kernel_rfl) (by kernel_rfl) (.cons (Step.op rfl (fun D h1 h2 h3 K hK => op_fieldAddr (o' := 1) (mD_done 1 (by decide) (pre_at h2 0 rfl rfl) rfl rfl rfl) Tryz.underlying71 rfl Tryz.sizeOf3 rfl rfl hK)) (.cons (Step.op rfl (fun D h1 h2 h3 K hK => op_fieldAddr (o' := 1) (mD_done 1 (by decide) (pre_at h2 0 rfl rfl) rfl rfl rfl) Tryz.underlying71 rfl Tryz.sizeOf3 rfl rfl hK)) .nil))
    (.quiet 1 (by kernel_rfl) (by kernel_rfl) (.cons (Step.op rfl (fun D h1 h2 h3 K hK => op_load (mD_done 2 (by decide) (pre_at h2 0 rfl rfl) rfl rfl rfl) Tryz.isAgg3 (by first | with_reducible exact Pull.p0 | with_reducible exact Pull.p1 | with_reducible exact Pull.p2 | with_reducible exact Pull.p3 | with_reducible exact Pull.p4 | with_reducible exact Pull.p5 | with_reducible exact Pull.p6 | with_reducible exact Pull.p7 | with_reducible exact Pull.p8 | with_reducible exact Pull.p9) rfl rfl hK)) (.cons (Step.op rfl (fun D h1 h2 h3 K hK => op_load (mD_done 2 (by decide) (pre_at h2 0 rfl rfl) rfl rfl rfl) Tryz.isAgg3 (by first | with_reducible exact Pull.p0 | with_reducible exact Pull.p1 | with_reducible exact Pull.p2 | with_reducible exact Pull.p3 | with_reducible exact Pull.p4 | with_reducible exact Pull.p5 | with_reducible exact Pull.p6 | with_reducible exact Pull.p7 | with_reducible exact Pull.p8 | with_reducible exact Pull.p9) rfl rfl hK)) .nil))
    (.quiet 1 (by kernel_rfl) (by kernel_rfl) (.cons (Step.op rfl (fun D h1 h2 h3 K hK => op_move (mD_base rfl rfl) rfl hK)) (.cons (Step.op rfl (fun D h1 h2 h3 K hK => op_move (mD_base rfl rfl) rfl hK)) .nil))
    (.quiet 1 (by kernel_rfl) (by kernel_rfl) (.cons (Step.op rfl (fun D h1 h2 h3 K hK => op_move (mD_base rfl rfl) rfl hK)) (.cons (Step.op rfl (fun D h1 h2 h3 K hK => op_move (mD_base rfl rfl) rfl hK)) .nil))
    (.quiet 1 (by kernel_rfl) (by kernel_rfl) (.cons (Step.op rfl (fun D h1 h2 h3 K hK => op_nilCheck (mD_done 5 (by decide) (pre_at h2 0 rfl rfl) rfl rfl rfl) rfl hK)) (.cons (Step.op rfl (fun D h1 h2 h3 K hK => op_nilCheck (mD_done 5 (by decide) (pre_at h2 0 rfl rfl) rfl rfl rfl) rfl hK)) .nil))
    (.quiet 1 (by kernel_rfl) (by kernel_rfl) (.cons (Step.op rfl (fun D h1 h2 h3 K hK => op_fieldAddr (o' := 1) (mD_done 6 (by decide) (pre_at h2 0 rfl rfl) rfl rfl rfl) Tryz.underlying71 rfl Tryz.sizeOf3 rfl rfl hK)) (.cons (Step.op rfl (fun D h1 h2 h3 K hK => op_fieldAddr (o' := 1) (mD_done 6 (by decide) (pre_at h2 0 rfl rfl) rfl rfl rfl) Tryz.underlying71 rfl Tryz.sizeOf3 rfl rfl hK)) .nil))
    (.quiet 1 (by kernel_rfl) (by kernel_rfl) (.cons (Step.op rfl (fun D h1 h2 h3 K hK => op_load (mD_done 7 (by decide) (pre_at h2 0 rfl rfl) rfl rfl rfl) Tryz.isAgg3 (by first | with_reducible exact Pull.p0 | with_reducible exact Pull.p1 | with_reducible exact Pull.p2 | with_reducible exact Pull.p3 | with_reducible exact Pull.p4 | with_reducible exact Pull.p5 | with_reducible exact Pull.p6 | with_reducible exact Pull.p7 | with_reducible exact Pull.p8 | with_reducible exact Pull.p9) rfl rfl hK)) (.cons (Step.op rfl (fun D h1 h2 h3 K hK => op_load (mD_done 7 (by decide) (pre_at h2 0 rfl rfl) rfl rfl rfl) Tryz.isAgg3 (by first | with_reducible exact Pull.p0 | with_reducible exact Pull.p1 | with_reducible exact Pull.p2 | with_reducible exact Pull.p3 | with_reducible exact Pull.p4 | with_reducible exact Pull.p5 | with_reducible exact Pull.p6 | with_reducible exact Pull.p7 | with_reducible exact Pull.p8 | with_reducible exact Pull.p9) rfl rfl hK)) .nil))
    (.quiet 1 (by kernel_rfl) (by kernel_rfl) (.cons (Step.op rfl (fun D h1 h2 h3 K hK => op_callQ (evs_cons (mD_done 4 (by decide) (pre_at h2 0 rfl rfl) rfl rfl rfl) (evs_cons (mD_done 8 (by decide) (pre_at h2 1 rfl rfl) rfl rfl rfl) evs_nil)) Tryz.call23 (by have := seglog_next (G := G) c hc (Lg.mk g.lb g.mb i g.seq g.ret g.clock) i hi; rw [hnj] at this; exact this) (.cons (by first | exact Pull.p0 | exact Pull.p1 | exact Pull.p2 | exact Pull.p3 | exact Pull.p4 | exact Pull.p5 | exact Pull.p6 | exact Pull.p7 | exact Pull.p8 | exact Pull.p9) (.cons (by first | exact Pull.p0 | exact Pull.p1 | exact Pull.p2 | exact Pull.p3 | exact Pull.p4 | exact Pull.p5 | exact Pull.p6 | exact Pull.p7 | exact Pull.p8 | exact Pull.p9) .nil)) rfl hK)) (.cons (Step.op rfl (fun D h1 h2 h3 K hK => op_callQ (evs_cons (mD_done 4 (by decide) (pre_at h2 0 rfl rfl) rfl rfl rfl) (evs_cons (mD_done 8 (by decide) (pre_at h2 1 rfl rfl) rfl rfl rfl) evs_nil)) Tryz.call23 (by have := seglog_next (G := G) c hc (Lg.mk g.lb g.mb i g.seq g.ret g.clock) i hi; rw [hnj] at this; exact this) (.cons (by first | exact Pull.p0 | exact Pull.p1 | exact Pull.p2 | exact Pull.p3 | exact Pull.p4 | exact Pull.p5 | exact Pull.p6 | exact Pull.p7 | exact Pull.p8 | exact Pull.p9) (.cons (by first | exact Pull.p0 | exact Pull.p1 | exact Pull.p2 | exact Pull.p3 | exact Pull.p4 | exact Pull.p5 | exact Pull.p6 | exact Pull.p7 | exact Pull.p8 | exact Pull.p9) .nil)) rfl hK)) .nil))
    (.quiet 1 (by kernel_rfl) (by kernel_rfl) (.cons (Step.op rfl (fun D h1 h2 h3 K hK => op_build (v := .agg [i64 i, i64 j].toArray) (evp_cons (mD_done 3 (by decide) (pre_at h2 0 rfl rfl) rfl rfl rfl) (evp_cons (mD_done 9 (by decide) (pre_at h2 1 rfl rfl) rfl rfl rfl) evp_nil)) (fun w => run_build w _ _ _ (by kernel_rfl)) rfl hK)) (.cons (Step.op rfl (fun D h1 h2 h3 K hK => op_build (v := .agg [i64 i, i64 j].toArray) (evp_cons (mD_done 3 (by decide) (pre_at h2 0 rfl rfl) rfl rfl rfl) (evp_cons (mD_done 9 (by decide) (pre_at h2 1 rfl rfl) rfl rfl rfl) evp_nil)) (fun w => run_build w _ _ _ (by kernel_rfl)) rfl hK)) .nil))
    (.skip 
    (.eff 1 rfl (by kernel_rfl) (by kernel_rfl) rfl rfl (Last.op rfl (fun D h2 K hK => op_storeW (mD_done 11 (by decide) (pre_at h2 0 rfl rfl) rfl rfl rfl) (mD_done 10 (by decide) (pre_at h2 1 rfl rfl) rfl rfl rfl) Tryz.sizeOf32 (List.forall_mem_cons.2 ⟨rfl, (List.forall_mem_cons.2 ⟨rfl, (fun _ h => by cases h)⟩)⟩) (by first | with_reducible exact Pull.p0 | with_reducible exact Pull.p1 | with_reducible exact Pull.p2 | with_reducible exact Pull.p3 | with_reducible exact Pull.p4 | with_reducible exact Pull.p5 | with_reducible exact Pull.p6 | with_reducible exact Pull.p7 | with_reducible exact Pull.p8 | with_reducible exact Pull.p9) rfl rfl (by exact hK)))
    .nil)))))))))))))) (fun ba => ?_)
  show At _ _ [row ba [i64 i, i64 j] 32 (0, 0), chipR c, row g.lb [ptr c.cb 0, i64 i, u64 g.seq, .map (some g.mb)] 71 (0, 0), logMap g, row b8 [i64 0, i64 0] 32 (0, 0)] _
  refine At.keep [(0, _), (8, _), (9, _), (10, _), (13, _)] (.cons rfl (.cons rfl (.cons rfl (.cons rfl (.cons rfl .nil))))) ?_
  refine At.then_n ?_
  refine At.seq ?_
  refine At.region ?_
  refine At.op rfl (op_move rfl rfl ?_)
  refine At.op rfl (op_nilCheck rfl rfl ?_)
  refine At.op rfl (op_fieldAddr (o' := 2) rfl Tryz.underlying71 rfl Tryz.sizeOf40 rfl rfl ?_)
  refine At.op rfl (op_load rfl Tryz.isAgg40 (by first | with_reducible exact Pull.p0 | with_reducible exact Pull.p1 | with_reducible exact Pull.p2 | with_reducible exact Pull.p3 | with_reducible exact Pull.p4 | with_reducible exact Pull.p5 | with_reducible exact Pull.p6 | with_reducible exact Pull.p7 | with_reducible exact Pull.p8 | with_reducible exact Pull.p9) rfl rfl ?_)
  refine At.op rfl (op_bin rfl rfl (b64_add _ (1 : UInt64)) rfl ?_)
  refine At.op rfl (op_nilCheck rfl rfl ?_)
  refine At.op rfl (op_fieldAddr (o' := 2) rfl Tryz.underlying71 rfl Tryz.sizeOf40 rfl rfl ?_)
  refine At.op rfl (op_store rfl rfl Tryz.sizeOf40 rfl rfl (by first | with_reducible exact Pull.p0 | with_reducible exact Pull.p1 | with_reducible exact Pull.p2 | with_reducible exact Pull.p3 | with_reducible exact Pull.p4 | with_reducible exact Pull.p5 | with_reducible exact Pull.p6 | with_reducible exact Pull.p7 | with_reducible exact Pull.p8 | with_reducible exact Pull.p9) (.succ (.succ .zero)) rfl ?_)
  refine At.nil ?_
  refine At.then_n ?_
  refine At.seq ?_
  refine At.seq ?_
  refine At.drawX2 (γ := Nat × Option Addr × Nat) (0, none, 0) [9] (fun gh => [[chipR (c.prog i j gh.1 (putS k g.seq t) gh.2.1 gh.2.2), row g.lb [ptr c.cb 0, i64 i, u64 (g.seq + 1), .map (some g.mb)] 71 (0, 0), row ba [i64 i, i64 j] 32 (0, 0), logMap g, row b8 [i64 0, i64 0] 32 (0, 0)]]) (fun gh => [ptr g.lb 0, ptr g.lb 0, ptr g.lb 0, ptr c.cb 0, ptr ba 0, i64 i, ptr ba 1, i64 j, str (putS k g.seq t), i64 0, i64 0]) (by kernel_rfl) (by decide) (by kernel_rfl) (by decide) (by kernel_rfl) (fun _ => rfl) (fun gh => 
    (.quiet 1 (by kernel_rfl) (by kernel_rfl) (.cons (Step.op rfl (fun D h1 h2 h3 K hK => op_move (mD_base rfl rfl) rfl hK)) (.cons (Step.op rfl (fun D h1 h2 h3 K hK => op_move (mD_base rfl rfl) rfl hK)) .nil))
    (.quiet 1 (by kernel_rfl) (by kernel_rfl) (.cons (Step.op rfl (fun D h1 h2 h3 K hK => op_nilCheck (mD_done 0 (by decide) (pre_at h2 0 rfl rfl) rfl rfl rfl) rfl hK)) (.cons (Step.op rfl (fun D h1 h2 h3 K hK => op_nilCheck (mD_done 0 (by decide) (pre_at h2 0 rfl rfl) rfl rfl rfl) rfl hK)) .nil))
    (.quiet 1 (by kernel_rfl) (by kernel_rfl) (.cons (Step.op rfl (fun D h1 h2 h3 K hK => op_fieldAddr (o' := 0) (mD_done 1 (by decide) (pre_at h2 0 rfl rfl) rfl rfl rfl) Tryz.underlying71 rfl Tryz.sizeOf22 rfl rfl hK)) (.cons (Step.op rfl (fun D h1 h2 h3 K hK => op_fieldAddr (o' := 0) (mD_done 1 (by decide) (pre_at h2 0 rfl rfl) rfl rfl rfl) Tryz.underlying71 rfl Tryz.sizeOf22 rfl rfl hK)) .nil))
    (.quiet 0 (by kernel_rfl) (by kernel_rfl) (.cons (Step.op rfl (fun D h1 h2 h3 K hK => op_load (mD_done 2 (by decide) (pre_at h2 0 rfl rfl) rfl rfl rfl) Tryz.isAgg22 (by first | with_reducible exact Pull.p0 | with_reducible exact Pull.p1 | with_reducible exact Pull.p2 | with_reducible exact Pull.p3 | with_reducible exact Pull.p4 | with_reducible exact Pull.p5 | with_reducible exact Pull.p6 | with_reducible exact Pull.p7 | with_reducible exact Pull.p8 | with_reducible exact Pull.p9) rfl rfl hK)) .nil)
    (.quiet 1 (by kernel_rfl) (by kernel_rfl) (.cons (Step.op rfl (fun D h1 h2 h3 K hK => op_fieldAddr (o' := 0) (mD_base rfl rfl) Tryz.underlying32 rfl Tryz.sizeOf3 rfl rfl hK)) (.cons (Step.op rfl (fun D h1 h2 h3 K hK => op_fieldAddr (o' := 0) (mD_base rfl rfl) Tryz.underlying32 rfl Tryz.sizeOf3 rfl rfl hK)) .nil))
    (.quiet 0 (by kernel_rfl) (by kernel_rfl) (.cons (Step.op rfl (fun D h1 h2 h3 K hK => op_load (mD_done 4 (by decide) (pre_at h2 0 rfl rfl) rfl rfl rfl) Tryz.isAgg3 (by first | with_reducible exact Pull.p0 | with_reducible exact Pull.p1 | with_reducible exact Pull.p2 | with_reducible exact Pull.p3 | with_reducible exact Pull.p4 | with_reducible exact Pull.p5 | with_reducible exact Pull.p6 | with_reducible exact Pull.p7 | with_reducible exact Pull.p8 | with_reducible exact Pull.p9) rfl rfl hK)) .nil)
    (.quiet 1 (by kernel_rfl) (by kernel_rfl) (.cons (Step.op rfl (fun D h1 h2 h3 K hK => op_fieldAddr (o' := 1) (mD_base rfl rfl) Tryz.underlying32 rfl Tryz.sizeOf3 rfl rfl hK)) (.cons (Step.op rfl (fun D h1 h2 h3 K hK => op_fieldAddr (o' := 1) (mD_base rfl rfl) Tryz.underlying32 rfl Tryz.sizeOf3 rfl rfl hK)) .nil))
    (.quiet 0 (by kernel_rfl) (by kernel_rfl) (.cons (Step.op rfl (fun D h1 h2 h3 K hK => op_load (mD_done 6 (by decide) (pre_at h2 0 rfl rfl) rfl rfl rfl) Tryz.isAgg3 (by first | with_reducible exact Pull.p0 | with_reducible exact Pull.p1 | with_reducible exact Pull.p2 | with_reducible exact Pull.p3 | with_reducible exact Pull.p4 | with_reducible exact Pull.p5 | with_reducible exact Pull.p6 | with_reducible exact Pull.p7 | with_reducible exact Pull.p8 | with_reducible exact Pull.p9) rfl rfl hK)) .nil)
    (.quiet 0 (by kernel_rfl) (by kernel_rfl) (.cons (Step.op rfl (fun D h1 h2 h3 K hK => op_move (mD_base rfl rfl) rfl hK)) .nil)
    (.skip (by kernel_rfl) 
    (.quiet 1 (by kernel_rfl) (by kernel_rfl) (.cons (Step.op rfl (fun D h1 h2 h3 K hK => op_assign (mD_done 9 (by decide) (pre_at h2 0 rfl rfl) rfl rfl rfl) rfl hK)) (.cons (Step.op rfl (fun D h1 h2 h3 K hK => op_assign (mD_done 9 (by decide) (pre_at h2 0 rfl rfl) rfl rfl rfl) rfl hK)) .nil))
    .nil))))))))))))
    (.cons rfl rfl (fun gh => i64 0) (fun _ => rfl) (fun gh => _) (fun gh => [chipR (c.prog i j gh.1 (putS k g.seq t) gh.2.1 gh.2.2), row g.lb [ptr c.cb 0, i64 i, u64 (g.seq + 1), .map (some g.mb)] 71 (0, 0), row ba [i64 i, i64 j] 32 (0, 0), logMap g, row b8 [i64 0, i64 0] 32 (0, 0)]) (fun _ => rfl) (fun _ => rfl) (fun gh D h2 K hK => op_callF (evs_cons (mD_done 3 (by decide) (pre_at h2 0 rfl rfl) rfl rfl rfl) (evs_cons (mD_done 5 (by decide) (pre_at h2 1 rfl rfl) rfl rfl rfl) (evs_cons (mD_done 7 (by decide) (pre_at h2 2 rfl rfl) rfl rfl rfl) (evs_cons (mD_done 8 (by decide) (pre_at h2 3 rfl rfl) rfl rfl rfl) evs_nil)))) Tryz.call25 (by have := nand_Program (G := G) c hc i j (putS k g.seq t) hi hj (by rw [putS_length k g.seq t ht]; exact Nat.le_refl _) hpast hfree; rw [padS_put ht] at this; exact this) (.cons (by first | with_reducible exact Pull.p0 | with_reducible exact Pull.p1 | with_reducible exact Pull.p2 | with_reducible exact Pull.p3 | with_reducible exact Pull.p4 | with_reducible exact Pull.p5 | with_reducible exact Pull.p6 | with_reducible exact Pull.p7 | with_reducible exact Pull.p8 | with_reducible exact Pull.p9) .nil) rfl (fun v us hu => by obtain ⟨b, pa, pc, rfl, rfl⟩ := hu; exact hK (b, pa, pc) (by
          intro j
          rcases j with _ | j
          · first | exact .inl rfl | exact .inr (by kernel_rfl)
          rcases j with _ | j
          · first | exact .inl rfl | exact .inr (by kernel_rfl)
          rcases j with _ | j
          · first | exact .inl rfl | exact .inr (by kernel_rfl)
          rcases j with _ | j
          · first | exact .inl rfl | exact .inr (by kernel_rfl)
          rcases j with _ | j
          · first | exact .inl rfl | exact .inr (by kernel_rfl)
          rcases j with _ | j
          · first | exact .inl rfl | exact .inr (by kernel_rfl)
          rcases j with _ | j
          · first | exact .inl rfl | exact .inr (by kernel_rfl)
          rcases j with _ | j
          · first | exact .inl rfl | exact .inr (by kernel_rfl)
          rcases j with _ | j
          · first | exact .inl rfl | exact .inr (by kernel_rfl)
          rcases j with _ | j
          · first | exact .inl rfl | exact .inr (by kernel_rfl)
          rcases j with _ | j
          · first | exact .inl rfl | exact .inr (by kernel_rfl)
          exact .inl rfl)))
    .nil) ?_
  rintro ⟨sb, pa, pc⟩
  show At _ _ ([chipR (c.prog i j sb (putS k g.seq t) pa pc), row g.lb [ptr c.cb 0, i64 i, u64 (g.seq + 1), .map (some g.mb)] 71 (0, 0), row ba [i64 i, i64 j] 32 (0, 0), logMap g, row b8 [i64 0, i64 0] 32 (0, 0)]) _
  refine At.keep [(8, _), (9, _), (13, _), (14, _)] (.cons rfl (.cons rfl (.cons rfl (.cons rfl .nil)))) ?_
  refine At.then_n ?_
  refine At.seq ?_
  refine At.region ?_
  refine At.op rfl (op_move rfl rfl ?_)
  refine At.op rfl (op_bin rfl rfl (Bin.cast (v' := .bool false) b_ne (congrArg Value.bool (by rw [decide_eq_true rfl]; rfl))) rfl ?_)
  refine At.nil ?_
  refine At.then_n ?_
  refine At.cond_f rfl ?_
  refine At.skip ?_
  refine At.then_n ?_
  refine At.seq ?_
  refine At.region ?_
  refine At.op rfl (op_loadW rfl Tryz.isAgg32 Tryz.sizeOf32 (by first | with_reducible exact Pull.p0 | with_reducible exact Pull.p1 | with_reducible exact Pull.p2 | with_reducible exact Pull.p3 | with_reducible exact Pull.p4 | with_reducible exact Pull.p5 | with_reducible exact Pull.p6 | with_reducible exact Pull.p7 | with_reducible exact Pull.p8 | with_reducible exact Pull.p9) rfl rfl ?_)
  refine At.op rfl (op_storeW rfl rfl Tryz.sizeOf32 (by repeat' (first | refine List.forall_mem_cons.2 ⟨rfl, ?_⟩ | exact (fun _ h => by cases h))) (by first | with_reducible exact Pull.p0 | with_reducible exact Pull.p1 | with_reducible exact Pull.p2 | with_reducible exact Pull.p3 | with_reducible exact Pull.p4 | with_reducible exact Pull.p5 | with_reducible exact Pull.p6 | with_reducible exact Pull.p7 | with_reducible exact Pull.p8 | with_reducible exact Pull.p9) rfl rfl ?_)
  refine At.op rfl (op_assign rfl rfl ?_)
  refine At.nil ?_
  refine At.then_n ?_
  refine At.ret ?_
  exact At.fin (l := [.cell 8 32, .tmp 9]) _ (.inl rfl) rfl rfl (.agg rfl (by first | with_reducible exact Pull.p0 | with_reducible exact Pull.p1 | with_reducible exact Pull.p2 | with_reducible exact Pull.p3 | with_reducible exact Pull.p4 | with_reducible exact Pull.p5 | with_reducible exact Pull.p6 | with_reducible exact Pull.p7 | with_reducible exact Pull.p8 | with_reducible exact Pull.p9) Tryz.isAgg32 Tryz.sizeOf32 rfl (.tmp rfl .nil)) rfl ⟨sb, pa, pc, rfl, rfl⟩ (.cons (by first | exact Pull.p0 | exact Pull.p1 | exact Pull.p2 | exact Pull.p3 | exact Pull.p4 | exact Pull.p5 | exact Pull.p6 | exact Pull.p7 | exact Pull.p8 | exact Pull.p9) (.cons (by first | exact Pull.p0 | exact Pull.p1 | exact Pull.p2 | exact Pull.p3 | exact Pull.p4 | exact Pull.p5 | exact Pull.p6 | exact Pull.p7 | exact Pull.p8 | exact Pull.p9) (.cons (by first | exact Pull.p0 | exact Pull.p1 | exact Pull.p2 | exact Pull.p3 | exact Pull.p4 | exact Pull.p5 | exact Pull.p6 | exact Pull.p7 | exact Pull.p8 | exact Pull.p9) .nil)))
theorem seglog_Append_full0 (hG : GOK G) (c : Chp) (hc : c.wf) (g : Lg) (k : UInt8) (t : List UInt8) (r : Int) (hk : k ≠ 0) (ht : t.length ≤ 229) (hop : g.op = -1) (htk : takeOK g c r = false) : Does Tryz.prog G 10 [ptr g.lb 0, u8 k, str t, i64 r] [chipR c, logRow g c.cb, logMap g] (OneR (.tuple #[.agg [i64 0, i64 0].toArray, i64 2]) [chipR c, logRow g c.cb, logMap g]) := by
  refine Does.of Tryz.func10 rfl Tryz.ntmps10 rfl (fun w0 => ?_)
  refine At.keep [(0, _), (1, _), (2, _), (3, _)] (.cons rfl (.cons rfl (.cons rfl (.cons rfl .nil)))) ?_
  refine At.seq ?_
  refine At.region ?_
  refine At.op rfl (op_alloc Tryz.zeroValue32 rfl rfl ?_)
  intro b8
  refine At.op rfl (op_assign rfl rfl ?_)
  refine At.nil ?_
  refine At.then_n ?_
  refine At.seq ?_
  refine At.region ?_
  refine At.op rfl (op_move rfl rfl ?_)
  refine At.op rfl (op_move rfl rfl ?_)
  refine At.op rfl (op_nilCheck rfl rfl ?_)
  refine At.op rfl (op_fieldAddr (o' := 2) rfl Tryz.underlying71 rfl Tryz.sizeOf40 rfl rfl ?_)
  refine At.op rfl (op_load rfl Tryz.isAgg40 (by first | with_reducible exact Pull.p0 | with_reducible exact Pull.p1 | with_reducible exact Pull.p2 | with_reducible exact Pull.p3 | with_reducible exact Pull.p4 | with_reducible exact Pull.p5 | with_reducible exact Pull.p6 | with_reducible exact Pull.p7 | with_reducible exact Pull.p8 | with_reducible exact Pull.p9) rfl rfl ?_)
  refine At.op rfl (op_move rfl rfl ?_)
  refine At.op rfl (op_build (v := frmV k g.seq t) rfl (fun w => run_build w _ _ _ (by kernel_rfl)) rfl ?_)
  refine At.op rfl (op_call1 rfl Tryz.call22 (frame_Put hG k g.seq t (by omega)) rfl ?_)
  rw [putV_ok hk ht]
  refine At.op rfl (op_move rfl rfl ?_)
  refine At.op rfl (op_extractL rfl .zero rfl ?_)
  refine At.op rfl (op_extractL rfl (.succ .zero) rfl ?_)
  refine At.op rfl (op_assign rfl rfl ?_)
  refine At.op rfl (op_assign rfl rfl ?_)
  refine At.nil ?_
  refine At.then_n ?_
  refine At.seq ?_
  refine At.seq ?_
  refine At.keep [(0, _), (3, _), (8, _), (9, _), (10, _), (11, _)] (.cons rfl (.cons rfl (.cons rfl (.cons rfl (.cons rfl (.cons rfl .nil)))))) ?_
  refine At.region ?_
  refine At.op rfl (op_move rfl rfl ?_)
  refine At.op rfl (op_bin rfl rfl (Bin.cast (v' := .bool false) b_ne (congrArg Value.bool (by rw [decide_eq_true rfl]; rfl))) rfl ?_)
  refine At.nil ?_
  refine At.then_n ?_
  refine At.cond_f rfl ?_
  refine At.skip ?_
  refine At.then_n ?_
  refine At.seq ?_
  refine At.seq ?_
  refine At.region ?_
  refine At.op rfl (op_move rfl rfl ?_)
  refine At.op rfl (op_nilCheck rfl rfl ?_)
  refine At.op rfl (op_fieldAddr (o' := 1) rfl Tryz.underlying71 rfl Tryz.sizeOf3 rfl rfl ?_)
  refine At.op rfl (op_load rfl Tryz.isAgg3 (by first | with_reducible exact Pull.p0 | with_reducible exact Pull.p1 | with_reducible exact Pull.p2 | with_reducible exact Pull.p3 | with_reducible exact Pull.p4 | with_reducible exact Pull.p5 | with_reducible exact Pull.p6 | with_reducible exact Pull.p7 | with_reducible exact Pull.p8 | with_reducible exact Pull.p9) rfl rfl ?_)
  refine At.op rfl (op_bin rfl rfl (Bin.cast (v' := .bool true) b_eq (congrArg Value.bool (decide_eq_true hop))) rfl ?_)
  refine At.op rfl (op_move rfl rfl ?_)
  refine At.opk (want := true) rfl rfl rfl rfl rfl ?_
  refine At.opk (want := true) rfl rfl rfl rfl rfl ?_
  refine At.opk (want := true) rfl rfl rfl rfl rfl ?_
  refine At.opk (want := true) rfl rfl rfl rfl rfl ?_
  refine At.opk (want := true) rfl rfl rfl rfl rfl ?_
  refine At.opk (want := true) rfl rfl rfl rfl rfl ?_
  refine At.opk (want := true) rfl rfl rfl rfl rfl ?_
  refine At.op rfl (op_pick_t rfl rfl rfl ?_)
  refine At.nil ?_
  refine At.then_n ?_
  refine At.cond_t rfl ?_
  refine At.seq ?_
  refine At.keep [(0, _), (3, _), (8, _), (9, _), (10, _)] (.cons rfl (.cons rfl (.cons rfl (.cons rfl (.cons rfl .nil))))) ?_
  refine At.region ?_
  refine At.op rfl (op_move rfl rfl ?_)
  refine At.op rfl (op_move rfl rfl ?_)
  refine At.op rfl (op_callR rfl Tryz.call24 (seglog_take_no c hc g r htk) (.cons (by first | with_reducible exact Pull.p0 | with_reducible exact Pull.p1 | with_reducible exact Pull.p2 | with_reducible exact Pull.p3 | with_reducible exact Pull.p4 | with_reducible exact Pull.p5 | with_reducible exact Pull.p6 | with_reducible exact Pull.p7 | with_reducible exact Pull.p8 | with_reducible exact Pull.p9) (.cons (by first | with_reducible exact Pull.p0 | with_reducible exact Pull.p1 | with_reducible exact Pull.p2 | with_reducible exact Pull.p3 | with_reducible exact Pull.p4 | with_reducible exact Pull.p5 | with_reducible exact Pull.p6 | with_reducible exact Pull.p7 | with_reducible exact Pull.p8 | with_reducible exact Pull.p9) (.cons (by first | with_reducible exact Pull.p0 | with_reducible exact Pull.p1 | with_reducible exact Pull.p2 | with_reducible exact Pull.p3 | with_reducible exact Pull.p4 | with_reducible exact Pull.p5 | with_reducible exact Pull.p6 | with_reducible exact Pull.p7 | with_reducible exact Pull.p8 | with_reducible exact Pull.p9) .nil))) rfl ?_)
  refine At.app3 ?_
  refine At.op rfl (op_assign rfl rfl ?_)
  refine At.nil ?_
  refine At.then_n ?_
  refine At.seq ?_
  refine At.region ?_
  refine At.op rfl (op_move rfl rfl ?_)
  refine At.op rfl (op_bin rfl rfl (Bin.cast (v' := .bool true) b_ne (congrArg Value.bool (by rw [decide_eq_false (by decide)]; rfl))) rfl ?_)
  refine At.nil ?_
  refine At.then_n ?_
  refine At.cond_t rfl ?_
  refine At.seq ?_
  refine At.region ?_
  refine At.op rfl (op_build (v := .agg [i64 0, i64 0].toArray) rfl (fun w => run_build w _ _ _ (by kernel_rfl)) rfl ?_)
  refine At.op rfl (op_move rfl rfl ?_)
  refine At.op rfl (op_storeW rfl rfl Tryz.sizeOf32 (by repeat' (first | refine List.forall_mem_cons.2 ⟨rfl, ?_⟩ | exact (fun _ h => by cases h))) (by first | with_reducible exact Pull.p0 | with_reducible exact Pull.p1 | with_reducible exact Pull.p2 | with_reducible exact Pull.p3 | with_reducible exact Pull.p4 | with_reducible exact Pull.p5 | with_reducible exact Pull.p6 | with_reducible exact Pull.p7 | with_reducible exact Pull.p8 | with_reducible exact Pull.p9) rfl rfl ?_)
  refine At.op rfl (op_assign rfl rfl ?_)
  refine At.nil ?_
  refine At.then_n ?_
  refine At.ret ?_
  refine At.then_r ?_
  exact At.fin (l := [.cell 8 32, .tmp 9]) _ (.inl rfl) rfl rfl (.agg rfl (by first | with_reducible exact Pull.p0 | with_reducible exact Pull.p1 | with_reducible exact Pull.p2 | with_reducible exact Pull.p3 | with_reducible exact Pull.p4 | with_reducible exact Pull.p5 | with_reducible exact Pull.p6 | with_reducible exact Pull.p7 | with_reducible exact Pull.p8 | with_reducible exact Pull.p9) Tryz.isAgg32 Tryz.sizeOf32 rfl (.tmp rfl .nil)) rfl ⟨rfl, rfl⟩ (.cons (by first | exact Pull.p0 | exact Pull.p1 | exact Pull.p2 | exact Pull.p3 | exact Pull.p4 | exact Pull.p5 | exact Pull.p6 | exact Pull.p7 | exact Pull.p8 | exact Pull.p9) (.cons (by first | exact Pull.p0 | exact Pull.p1 | exact Pull.p2 | exact Pull.p3 | exact Pull.p4 | exact Pull.p5 | exact Pull.p6 | exact Pull.p7 | exact Pull.p8 | exact Pull.p9) (.cons (by first | exact Pull.p0 | exact Pull.p1 | exact Pull.p2 | exact Pull.p3 | exact Pull.p4 | exact Pull.p5 | exact Pull.p6 | exact Pull.p7 | exact Pull.p8 | exact Pull.p9) .nil)))
theorem seglog_Append_full1 (hG : GOK G) (c : Chp) (hc : c.wf) (g : Lg) (k : UInt8) (t : List UInt8) (r : Int) (hk : k ≠ 0) (ht : t.length ≤ 229) (i0 : Nat) (hop : g.op = i0) (hi0 : i0 < c.segs) (hn0 : c.next i0 = -1) (htk : takeOK g c r = false) : Does Tryz.prog G 10 [ptr g.lb 0, u8 k, str t, i64 r] [chipR c, logRow g c.cb, logMap g] (OneR (.tuple #[.agg [i64 0, i64 0].toArray, i64 2]) [chipR c, logRow g c.cb, logMap g]) := by
  refine Does.of Tryz.func10 rfl Tryz.ntmps10 rfl (fun w0 => ?_)
  refine At.keep [(0, _), (1, _), (2, _), (3, _)] (.cons rfl (.cons rfl (.cons rfl (.cons rfl .nil)))) ?_
  refine At.seq ?_
  refine At.region ?_
  refine At.op rfl (op_alloc Tryz.zeroValue32 rfl rfl ?_)
  intro b8
  refine At.op rfl (op_assign rfl rfl ?_)
  refine At.nil ?_
  refine At.then_n ?_
  refine At.seq ?_
  refine At.region ?_
  refine At.op rfl (op_move rfl rfl ?_)
  refine At.op rfl (op_move rfl rfl ?_)
  refine At.op rfl (op_nilCheck rfl rfl ?_)
  refine At.op rfl (op_fieldAddr (o' := 2) rfl Tryz.underlying71 rfl Tryz.sizeOf40 rfl rfl ?_)
  refine At.op rfl (op_load rfl Tryz.isAgg40 (by first | with_reducible exact Pull.p0 | with_reducible exact Pull.p1 | with_reducible exact Pull.p2 | with_reducible exact Pull.p3 | with_reducible exact Pull.p4 | with_reducible exact Pull.p5 | with_reducible exact Pull.p6 | with_reducible exact Pull.p7 | with_reducible exact Pull.p8 | with_reducible exact Pull.p9) rfl rfl ?_)
  refine At.op rfl (op_move rfl rfl ?_)
  refine At.op rfl (op_build (v := frmV k g.seq t) rfl (fun w => run_build w _ _ _ (by kernel_rfl)) rfl ?_)
  refine At.op rfl (op_call1 rfl Tryz.call22 (frame_Put hG k g.seq t (by omega)) rfl ?_)
  rw [putV_ok hk ht]
  refine At.op rfl (op_move rfl rfl ?_)
  refine At.op rfl (op_extractL rfl .zero rfl ?_)
  refine At.op rfl (op_extractL rfl (.succ .zero) rfl ?_)
  refine At.op rfl (op_assign rfl rfl ?_)
  refine At.op rfl (op_assign rfl rfl ?_)
  refine At.nil ?_
  refine At.then_n ?_
  refine At.seq ?_
  refine At.seq ?_
  refine At.keep [(0, _), (3, _), (8, _), (9, _), (10, _), (11, _)] (.cons rfl (.cons rfl (.cons rfl (.cons rfl (.cons rfl (.cons rfl .nil)))))) ?_
  refine At.region ?_
  refine At.op rfl (op_move rfl rfl ?_)
  refine At.op rfl (op_bin rfl rfl (Bin.cast (v' := .bool false) b_ne (congrArg Value.bool (by rw [decide_eq_true rfl]; rfl))) rfl ?_)
  refine At.nil ?_
  refine At.then_n ?_
  refine At.cond_f rfl ?_
  refine At.skip ?_
  refine At.then_n ?_
  refine At.seq ?_
  refine At.seq ?_
  refine At.region ?_
  refine At.op rfl (op_move rfl rfl ?_)
  refine At.op rfl (op_nilCheck rfl rfl ?_)
  refine At.op rfl (op_fieldAddr (o' := 1) rfl Tryz.underlying71 rfl Tryz.sizeOf3 rfl rfl ?_)
  refine At.op rfl (op_load rfl Tryz.isAgg3 (by first | with_reducible exact Pull.p0 | with_reducible exact Pull.p1 | with_reducible exact Pull.p2 | with_reducible exact Pull.p3 | with_reducible exact Pull.p4 | with_reducible exact Pull.p5 | with_reducible exact Pull.p6 | with_reducible exact Pull.p7 | with_reducible exact Pull.p8 | with_reducible exact Pull.p9) rfl rfl ?_)
  refine At.op rfl (op_bin rfl rfl (Bin.cast (v' := .bool false) b_eq (congrArg Value.bool (decide_eq_false (by omega)))) rfl ?_)
  refine At.op rfl (op_move rfl rfl ?_)
  refine At.opg rfl rfl rfl (op_move rfl rfl ?_)
  refine At.opg rfl rfl rfl (op_move rfl rfl ?_)
  refine At.opg rfl rfl rfl (op_nilCheck rfl rfl ?_)
  refine At.opg rfl rfl rfl (op_fieldAddr (o' := 1) rfl Tryz.underlying71 rfl Tryz.sizeOf3 rfl rfl ?_)
  refine At.opg rfl rfl rfl (op_load rfl Tryz.isAgg3 (by first | with_reducible exact Pull.p0 | with_reducible exact Pull.p1 | with_reducible exact Pull.p2 | with_reducible exact Pull.p3 | with_reducible exact Pull.p4 | with_reducible exact Pull.p5 | with_reducible exact Pull.p6 | with_reducible exact Pull.p7 | with_reducible exact Pull.p8 | with_reducible exact Pull.p9) (show (ptr c.cb 0 :: g.tl)[1]? = some (i64 i0) by rw [← hop]; rfl) rfl ?_)
  refine At.opg rfl rfl rfl (op_callQ rfl Tryz.call23 (by have := seglog_next (G := G) c hc g i0 hi0; rw [hn0] at this; exact this) (.cons (by first | with_reducible exact Pull.p0 | with_reducible exact Pull.p1 | with_reducible exact Pull.p2 | with_reducible exact Pull.p3 | with_reducible exact Pull.p4 | with_reducible exact Pull.p5 | with_reducible exact Pull.p6 | with_reducible exact Pull.p7 | with_reducible exact Pull.p8 | with_reducible exact Pull.p9) (.cons (by first | with_reducible exact Pull.p0 | with_reducible exact Pull.p1 | with_reducible exact Pull.p2 | with_reducible exact Pull.p3 | with_reducible exact Pull.p4 | with_reducible exact Pull.p5 | with_reducible exact Pull.p6 | with_reducible exact Pull.p7 | with_reducible exact Pull.p8 | with_reducible exact Pull.p9) .nil)) rfl ?_)
  refine At.opg rfl rfl rfl (op_bin rfl rfl (Bin.cast (v' := .bool true) b_eq (congrArg Value.bool (decide_eq_true rfl))) rfl ?_)
  refine At.op rfl (op_pick_f rfl rfl rfl ?_)
  refine At.nil ?_
  refine At.then_n ?_
  refine At.cond_t rfl ?_
  refine At.seq ?_
  refine At.keep [(0, _), (3, _), (8, _), (9, _), (10, _)] (.cons rfl (.cons rfl (.cons rfl (.cons rfl (.cons rfl .nil))))) ?_
  refine At.region ?_
  refine At.op rfl (op_move rfl rfl ?_)
  refine At.op rfl (op_move rfl rfl ?_)
  refine At.op rfl (op_callR rfl Tryz.call24 (seglog_take_no c hc g r htk) (.cons (by first | with_reducible exact Pull.p0 | with_reducible exact Pull.p1 | with_reducible exact Pull.p2 | with_reducible exact Pull.p3 | with_reducible exact Pull.p4 | with_reducible exact Pull.p5 | with_reducible exact Pull.p6 | with_reducible exact Pull.p7 | with_reducible exact Pull.p8 | with_reducible exact Pull.p9) (.cons (by first | with_reducible exact Pull.p0 | with_reducible exact Pull.p1 | with_reducible exact Pull.p2 | with_reducible exact Pull.p3 | with_reducible exact Pull.p4 | with_reducible exact Pull.p5 | with_reducible exact Pull.p6 | with_reducible exact Pull.p7 | with_reducible exact Pull.p8 | with_reducible exact Pull.p9) (.cons (by first | with_reducible exact Pull.p0 | with_reducible exact Pull.p1 | with_reducible exact Pull.p2 | with_reducible exact Pull.p3 | with_reducible exact Pull.p4 | with_reducible exact Pull.p5 | with_reducible exact Pull.p6 | with_reducible exact Pull.p7 | with_reducible exact Pull.p8 | with_reducible exact Pull.p9) .nil))) rfl ?_)
  refine At.app3 ?_
  refine At.op rfl (op_assign rfl rfl ?_)
  refine At.nil ?_
  refine At.then_n ?_
  refine At.seq ?_
  refine At.region ?_
  refine At.op rfl (op_move rfl rfl ?_)
  refine At.op rfl (op_bin rfl rfl (Bin.cast (v' := .bool true) b_ne (congrArg Value.bool (by rw [decide_eq_false (by decide)]; rfl))) rfl ?_)
  refine At.nil ?_
  refine At.then_n ?_
  refine At.cond_t rfl ?_
  refine At.seq ?_
  refine At.region ?_
  refine At.op rfl (op_build (v := .agg [i64 0, i64 0].toArray) rfl (fun w => run_build w _ _ _ (by kernel_rfl)) rfl ?_)
  refine At.op rfl (op_move rfl rfl ?_)
  refine At.op rfl (op_storeW rfl rfl Tryz.sizeOf32 (by repeat' (first | refine List.forall_mem_cons.2 ⟨rfl, ?_⟩ | exact (fun _ h => by cases h))) (by first | with_reducible exact Pull.p0 | with_reducible exact Pull.p1 | with_reducible exact Pull.p2 | with_reducible exact Pull.p3 | with_reducible exact Pull.p4 | with_reducible exact Pull.p5 | with_reducible exact Pull.p6 | with_reducible exact Pull.p7 | with_reducible exact Pull.p8 | with_reducible exact Pull.p9) rfl rfl ?_)
  refine At.op rfl (op_assign rfl rfl ?_)
  refine At.nil ?_
  refine At.then_n ?_
  refine At.ret ?_
  refine At.then_r ?_
  exact At.fin (l := [.cell 8 32, .tmp 9]) _ (.inl rfl) rfl rfl (.agg rfl (by first | with_reducible exact Pull.p0 | with_reducible exact Pull.p1 | with_reducible exact Pull.p2 | with_reducible exact Pull.p3 | with_reducible exact Pull.p4 | with_reducible exact Pull.p5 | with_reducible exact Pull.p6 | with_reducible exact Pull.p7 | with_reducible exact Pull.p8 | with_reducible exact Pull.p9) Tryz.isAgg32 Tryz.sizeOf32 rfl (.tmp rfl .nil)) rfl ⟨rfl, rfl⟩ (.cons (by first | exact Pull.p0 | exact Pull.p1 | exact Pull.p2 | exact Pull.p3 | exact Pull.p4 | exact Pull.p5 | exact Pull.p6 | exact Pull.p7 | exact Pull.p8 | exact Pull.p9) (.cons (by first | exact Pull.p0 | exact Pull.p1 | exact Pull.p2 | exact Pull.p3 | exact Pull.p4 | exact Pull.p5 | exact Pull.p6 | exact Pull.p7 | exact Pull.p8 | exact Pull.p9) (.cons (by first | exact Pull.p0 | exact Pull.p1 | exact Pull.p2 | exact Pull.p3 | exact Pull.p4 | exact Pull.p5 | exact Pull.p6 | exact Pull.p7 | exact Pull.p8 | exact Pull.p9) .nil)))
end Go.Proofs.YteckdahgkkmlaaaGreatDoor
