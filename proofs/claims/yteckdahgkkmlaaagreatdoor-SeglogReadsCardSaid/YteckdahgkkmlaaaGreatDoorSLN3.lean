/- Walks of the program's functions. -/
import Derived.Test.YteckdahgkkmlaaaGreatDoorSLN2
import Derived.KernelRfl
set_option maxRecDepth 20000
set_option linter.unusedVariables false
set_option linter.unusedSimpArgs false
namespace Go.Proofs.YteckdahgkkmlaaaGreatDoor
open Go SL
variable {G : List (Nat × Obj)}
theorem nand_Program1 (c : Chp) (h : c.wf) (i j sb c1 c3 c4 : Nat) (t : List UInt8) (hpast : c.past.length < 1000000) (s : Sg) (p : Pg) (hs : c.l[i]? = some s) (hp : s.pg[j]? = some p) (hi : i < c.segs) (hj : j < c.pages) : Does Tryz.prog G 48 [.bool true, ptr c1 0, ptr sb 0, ptr c3 0, ptr c4 0] [row c.cb c.row0 55 (0, 0), row c.pw powL 66 (0, 0), row c.lb (segCells c.pages c.l) 58 (0, 0), pgsR (c.l), ownS c.pa c.pc (c.past.map str) 9 1, row c1 [ptr c.cb 0] 22 (0, 0), row sb [str t] 9 (0, 0), row c3 [i64 i] 3 (0, 0), row c4 [i64 j] 3 (0, 0)] (fun _ rs' => ∃ ad cp, rs' = [row c.cb [i64 c.segs, i64 c.pages, ptr c.pw 0, i64 c.rated, slc c.lb 0 c.segs c.segs, .slice ad (c.past.length + 1) cp, i64 (IntKind.i64.wrap (c.pr + 1)), i64 c.er] 55 (0, 0), row c.pw powL 66 (0, 0), row c.lb (segCells c.pages c.l) 58 (0, 0), pgsR (c.l.set i { s with pg := s.pg.set j (.out sb) }), ownS ad cp (c.past.map str ++ [str t]) 9 1, row sb [str t] 9 (0, 0)]) := by
  refine Does.of Tryz.func48 rfl Tryz.ntmps48 rfl (fun w0 => ?_)
  refine At.keep [(0, _), (1, _), (2, _), (3, _), (4, _)] (.cons rfl (.cons rfl (.cons rfl (.cons rfl (.cons rfl .nil))))) ?_
  refine At.seq ?_
  refine At.seq ?_
  refine At.region ?_
  refine At.op rfl (op_load rfl Tryz.isAgg22 (by first | with_reducible exact Pull.p0 | with_reducible exact Pull.p1 | with_reducible exact Pull.p2 | with_reducible exact Pull.p3 | with_reducible exact Pull.p4 | with_reducible exact Pull.p5 | with_reducible exact Pull.p6 | with_reducible exact Pull.p7 | with_reducible exact Pull.p8 | with_reducible exact Pull.p9) rfl rfl ?_)
  refine At.op rfl (op_nilCheck rfl rfl ?_)
  refine At.op rfl (op_fieldAddr (o' := 2) rfl Tryz.underlying55 rfl Tryz.sizeOf24 rfl rfl ?_)
  refine At.op rfl (op_load rfl Tryz.isAgg24 (by first | with_reducible exact Pull.p0 | with_reducible exact Pull.p1 | with_reducible exact Pull.p2 | with_reducible exact Pull.p3 | with_reducible exact Pull.p4 | with_reducible exact Pull.p5 | with_reducible exact Pull.p6 | with_reducible exact Pull.p7 | with_reducible exact Pull.p8 | with_reducible exact Pull.p9) rfl rfl ?_)
  refine At.op rfl (op_callQ rfl Tryz.call49 (power_Kept c.pw) (.cons (by first | with_reducible exact Pull.p0 | with_reducible exact Pull.p1 | with_reducible exact Pull.p2 | with_reducible exact Pull.p3 | with_reducible exact Pull.p4 | with_reducible exact Pull.p5 | with_reducible exact Pull.p6 | with_reducible exact Pull.p7 | with_reducible exact Pull.p8 | with_reducible exact Pull.p9) .nil) rfl ?_)
  refine At.op rfl (op_move rfl rfl ?_)
  refine At.op rfl (op_extractL rfl .zero rfl ?_)
  refine At.op rfl (op_extractL rfl (.succ .zero) rfl ?_)
  refine At.op rfl (op_assign rfl rfl ?_)
  refine At.op rfl (op_assign rfl rfl ?_)
  refine At.nil ?_
  refine At.then_n ?_
  refine At.seq ?_
  refine At.region ?_
  refine At.op rfl (op_move rfl rfl ?_)
  refine At.op rfl (op_not rfl rfl ?_)
  refine At.nil ?_
  refine At.then_n ?_
  refine At.cond_f rfl ?_
  refine At.skip ?_
  refine At.then_n ?_
  refine At.seq ?_
  refine At.keep [(1, _), (2, _), (3, _), (4, _)] (.cons rfl (.cons rfl (.cons rfl (.cons rfl .nil)))) ?_
  refine At.drawL _ [_, _, _, _, _, _, _, _, _, _, undef] (by kernel_rfl) (by decide) (by kernel_rfl) (by kernel_rfl) 
    (.cons (Step.op rfl (fun D h1 h2 h3 K hK => op_load (mD_base rfl rfl) Tryz.isAgg22 (by first | with_reducible exact Pull.p0 | with_reducible exact Pull.p1 | with_reducible exact Pull.p2 | with_reducible exact Pull.p3 | with_reducible exact Pull.p4 | with_reducible exact Pull.p5 | with_reducible exact Pull.p6 | with_reducible exact Pull.p7 | with_reducible exact Pull.p8 | with_reducible exact Pull.p9) rfl rfl hK))
    (.cons (Step.op rfl (fun D h1 h2 h3 K hK => op_nilCheck (mD_done 0 (by decide) (pre_at h2 0 rfl rfl) rfl rfl rfl) rfl hK))
    (.cons (Step.op rfl (fun D h1 h2 h3 K hK => op_fieldAddr (o' := 4) (mD_done 1 (by decide) (pre_at h2 0 rfl rfl) rfl rfl rfl) Tryz.underlying55 rfl Tryz.sizeOf53 rfl rfl hK))
    (.cons (Step.op rfl (fun D h1 h2 h3 K hK => op_load (mD_done 2 (by decide) (pre_at h2 0 rfl rfl) rfl rfl rfl) Tryz.isAgg53 (by first | with_reducible exact Pull.p0 | with_reducible exact Pull.p1 | with_reducible exact Pull.p2 | with_reducible exact Pull.p3 | with_reducible exact Pull.p4 | with_reducible exact Pull.p5 | with_reducible exact Pull.p6 | with_reducible exact Pull.p7 | with_reducible exact Pull.p8 | with_reducible exact Pull.p9) rfl rfl hK))
    (.cons (Step.op rfl (fun D h1 h2 h3 K hK => op_load (mD_base rfl rfl) Tryz.isAgg3 (by first | with_reducible exact Pull.p0 | with_reducible exact Pull.p1 | with_reducible exact Pull.p2 | with_reducible exact Pull.p3 | with_reducible exact Pull.p4 | with_reducible exact Pull.p5 | with_reducible exact Pull.p6 | with_reducible exact Pull.p7 | with_reducible exact Pull.p8 | with_reducible exact Pull.p9) rfl rfl hK))
    (.cons (Step.op rfl (fun D h1 h2 h3 K hK => op_indexS (mD_done 3 (by decide) (pre_at h2 0 rfl rfl) rfl rfl rfl) (mD_done 4 (by decide) (pre_at h2 1 rfl rfl) rfl rfl rfl) Tryz.underlying53 Tryz.sizeOf58 (by omega) (by omega) rfl hK))
    (.cons (Step.op rfl (fun D h1 h2 h3 K hK => op_fieldAddr (mD_done 5 (by decide) (pre_at h2 0 rfl rfl) rfl rfl rfl) Tryz.underlying58 rfl Tryz.sizeOf56 rfl rfl hK))
    (.cons (Step.op rfl (fun D h1 h2 h3 K hK => op_load (mD_done 6 (by decide) (pre_at h2 0 rfl rfl) rfl rfl rfl) Tryz.isAgg56 (by first | with_reducible exact Pull.p0 | with_reducible exact Pull.p1 | with_reducible exact Pull.p2 | with_reducible exact Pull.p3 | with_reducible exact Pull.p4 | with_reducible exact Pull.p5 | with_reducible exact Pull.p6 | with_reducible exact Pull.p7 | with_reducible exact Pull.p8 | with_reducible exact Pull.p9) (seg_get0 hs) rfl hK))
    (.cons (Step.op rfl (fun D h1 h2 h3 K hK => op_load (mD_base rfl rfl) Tryz.isAgg3 (by first | with_reducible exact Pull.p0 | with_reducible exact Pull.p1 | with_reducible exact Pull.p2 | with_reducible exact Pull.p3 | with_reducible exact Pull.p4 | with_reducible exact Pull.p5 | with_reducible exact Pull.p6 | with_reducible exact Pull.p7 | with_reducible exact Pull.p8 | with_reducible exact Pull.p9) rfl rfl hK))
    (.cons (Step.op rfl (fun D h1 h2 h3 K hK => op_indexS (mD_done 7 (by decide) (pre_at h2 0 rfl rfl) rfl rfl rfl) (mD_done 8 (by decide) (pre_at h2 1 rfl rfl) rfl rfl rfl) Tryz.underlying56 Tryz.sizeOf84 (by omega) (by omega) rfl hK))
    (.last (Last.op rfl (fun D h2 K hK => op_storeG (pgsR c.l) (pgsR (c.l.set i { s with pg := s.pg.set j (.out sb) })) (mD_done 9 (by decide) (pre_at h2 0 rfl rfl) rfl rfl rfl) (mD_base rfl rfl) Tryz.sizeOf84 rfl rfl (by first | with_reducible exact Pull.p0 | with_reducible exact Pull.p1 | with_reducible exact Pull.p2 | with_reducible exact Pull.p3 | with_reducible exact Pull.p4 | with_reducible exact Pull.p5 | with_reducible exact Pull.p6 | with_reducible exact Pull.p7 | with_reducible exact Pull.p8 | with_reducible exact Pull.p9) (fun w hw => by simpa using pgs_put hw hs hp sb) (pgs_fp hs) (pgs_put_fp hs sb) (by exact hK)))
    ))))))))))) ?_
  refine At.keep [(1, _), (2, _)] (.cons rfl (.cons rfl .nil)) ?_
  refine At.then_n ?_
  refine At.seq ?_
  refine At.drawX2 (γ := Nat × Option Addr × Nat) (0, none, 0) [6, 7, 10] (fun g => [[row g.1 [str t] 9 (0, 0), pgsR (c.l.set i { s with pg := s.pg.set j (.out sb) }), row c.cb [i64 c.segs, i64 c.pages, ptr c.pw 0, i64 c.rated, slc c.lb 0 c.segs c.segs, .slice c.pa c.past.length c.pc, i64 c.pr, i64 c.er] 55 (0, 0), row c.pw powL 66 (0, 0), row c.lb (segCells c.pages c.l) 58 (0, 0), ownS c.pa c.pc (c.past.map str) 9 1, row c1 [ptr c.cb 0] 22 (0, 0), row sb [str t] 9 (0, 0), row c3 [i64 i] 3 (0, 0), row c4 [i64 j] 3 (0, 0)], [ownS g.2.1 g.2.2 (c.past.map str ++ [str t]) 9 1, row g.1 [str t] 9 (0, 0), pgsR (c.l.set i { s with pg := s.pg.set j (.out sb) }), row c.cb [i64 c.segs, i64 c.pages, ptr c.pw 0, i64 c.rated, slc c.lb 0 c.segs c.segs, .slice c.pa c.past.length c.pc, i64 c.pr, i64 c.er] 55 (0, 0), row c.pw powL 66 (0, 0), row c.lb (segCells c.pages c.l) 58 (0, 0), row c1 [ptr c.cb 0] 22 (0, 0), row sb [str t] 9 (0, 0), row c3 [i64 i] 3 (0, 0), row c4 [i64 j] 3 (0, 0)], [row c.cb [i64 c.segs, i64 c.pages, ptr c.pw 0, i64 c.rated, slc c.lb 0 c.segs c.segs, .slice g.2.1 (c.past.length + 1) g.2.2, i64 c.pr, i64 c.er] 55 (0, 0), ownS g.2.1 g.2.2 (c.past.map str ++ [str t]) 9 1, row g.1 [str t] 9 (0, 0), pgsR (c.l.set i { s with pg := s.pg.set j (.out sb) }), row c.pw powL 66 (0, 0), row c.lb (segCells c.pages c.l) 58 (0, 0), row c1 [ptr c.cb 0] 22 (0, 0), row sb [str t] 9 (0, 0), row c3 [i64 i] 3 (0, 0), row c4 [i64 j] 3 (0, 0)]]) (fun g => [ptr c.cb 0, ptr c.cb 0, ptr c.cb 0, ptr c.cb 5, .slice c.pa c.past.length c.pc, str t, slc g.1 0 1 1, .slice g.2.1 (c.past.length + 1) g.2.2, ptr c.cb 0, ptr c.cb 5, undef]) (by kernel_rfl) (by decide) (by kernel_rfl) (by decide) (by kernel_rfl) (fun _ => rfl) (fun g => 
    (.quiet 2 (by kernel_rfl) (by kernel_rfl) (.cons (Step.op rfl (fun D h1 h2 h3 K hK => op_load (mD_base rfl rfl) Tryz.isAgg22 (by first | with_reducible exact Pull.p0 | with_reducible exact Pull.p1 | with_reducible exact Pull.p2 | with_reducible exact Pull.p3 | with_reducible exact Pull.p4 | with_reducible exact Pull.p5 | with_reducible exact Pull.p6 | with_reducible exact Pull.p7 | with_reducible exact Pull.p8 | with_reducible exact Pull.p9) rfl rfl hK)) (.cons (Step.op rfl (fun D h1 h2 h3 K hK => op_load (mD_base rfl rfl) Tryz.isAgg22 (by first | with_reducible exact Pull.p0 | with_reducible exact Pull.p1 | with_reducible exact Pull.p2 | with_reducible exact Pull.p3 | with_reducible exact Pull.p4 | with_reducible exact Pull.p5 | with_reducible exact Pull.p6 | with_reducible exact Pull.p7 | with_reducible exact Pull.p8 | with_reducible exact Pull.p9) rfl rfl hK)) (.cons (Step.op rfl (fun D h1 h2 h3 K hK => op_load (mD_base rfl rfl) Tryz.isAgg22 (by first | with_reducible exact Pull.p0 | with_reducible exact Pull.p1 | with_reducible exact Pull.p2 | with_reducible exact Pull.p3 | with_reducible exact Pull.p4 | with_reducible exact Pull.p5 | with_reducible exact Pull.p6 | with_reducible exact Pull.p7 | with_reducible exact Pull.p8 | with_reducible exact Pull.p9) rfl rfl hK)) .nil)))
    (.quiet 2 (by kernel_rfl) (by kernel_rfl) (.cons (Step.op rfl (fun D h1 h2 h3 K hK => op_load (mD_base rfl rfl) Tryz.isAgg22 (by first | with_reducible exact Pull.p0 | with_reducible exact Pull.p1 | with_reducible exact Pull.p2 | with_reducible exact Pull.p3 | with_reducible exact Pull.p4 | with_reducible exact Pull.p5 | with_reducible exact Pull.p6 | with_reducible exact Pull.p7 | with_reducible exact Pull.p8 | with_reducible exact Pull.p9) rfl rfl hK)) (.cons (Step.op rfl (fun D h1 h2 h3 K hK => op_load (mD_base rfl rfl) Tryz.isAgg22 (by first | with_reducible exact Pull.p0 | with_reducible exact Pull.p1 | with_reducible exact Pull.p2 | with_reducible exact Pull.p3 | with_reducible exact Pull.p4 | with_reducible exact Pull.p5 | with_reducible exact Pull.p6 | with_reducible exact Pull.p7 | with_reducible exact Pull.p8 | with_reducible exact Pull.p9) rfl rfl hK)) (.cons (Step.op rfl (fun D h1 h2 h3 K hK => op_load (mD_base rfl rfl) Tryz.isAgg22 (by first | with_reducible exact Pull.p0 | with_reducible exact Pull.p1 | with_reducible exact Pull.p2 | with_reducible exact Pull.p3 | with_reducible exact Pull.p4 | with_reducible exact Pull.p5 | with_reducible exact Pull.p6 | with_reducible exact Pull.p7 | with_reducible exact Pull.p8 | with_reducible exact Pull.p9) rfl rfl hK)) .nil)))
    (.quiet 2 (by kernel_rfl) (by kernel_rfl) (.cons (Step.op rfl (fun D h1 h2 h3 K hK => op_nilCheck (mD_done 1 (by decide) (pre_at h2 0 rfl rfl) rfl rfl rfl) rfl hK)) (.cons (Step.op rfl (fun D h1 h2 h3 K hK => op_nilCheck (mD_done 1 (by decide) (pre_at h2 0 rfl rfl) rfl rfl rfl) rfl hK)) (.cons (Step.op rfl (fun D h1 h2 h3 K hK => op_nilCheck (mD_done 1 (by decide) (pre_at h2 0 rfl rfl) rfl rfl rfl) rfl hK)) .nil)))
    (.quiet 2 (by kernel_rfl) (by kernel_rfl) (.cons (Step.op rfl (fun D h1 h2 h3 K hK => op_fieldAddr (o' := 5) (mD_done 2 (by decide) (pre_at h2 0 rfl rfl) rfl rfl rfl) Tryz.underlying55 rfl Tryz.sizeOf38 rfl rfl hK)) (.cons (Step.op rfl (fun D h1 h2 h3 K hK => op_fieldAddr (o' := 5) (mD_done 2 (by decide) (pre_at h2 0 rfl rfl) rfl rfl rfl) Tryz.underlying55 rfl Tryz.sizeOf38 rfl rfl hK)) (.cons (Step.op rfl (fun D h1 h2 h3 K hK => op_fieldAddr (o' := 5) (mD_done 2 (by decide) (pre_at h2 0 rfl rfl) rfl rfl rfl) Tryz.underlying55 rfl Tryz.sizeOf38 rfl rfl hK)) .nil)))
    (.quiet 1 (by kernel_rfl) (by kernel_rfl) (.cons (Step.op rfl (fun D h1 h2 h3 K hK => op_load (mD_done 3 (by decide) (pre_at h2 0 rfl rfl) rfl rfl rfl) Tryz.isAgg38 (by first | with_reducible exact Pull.p0 | with_reducible exact Pull.p1 | with_reducible exact Pull.p2 | with_reducible exact Pull.p3 | with_reducible exact Pull.p4 | with_reducible exact Pull.p5 | with_reducible exact Pull.p6 | with_reducible exact Pull.p7 | with_reducible exact Pull.p8 | with_reducible exact Pull.p9) rfl rfl hK)) (.cons (Step.op rfl (fun D h1 h2 h3 K hK => op_load (mD_done 3 (by decide) (pre_at h2 0 rfl rfl) rfl rfl rfl) Tryz.isAgg38 (by first | with_reducible exact Pull.p0 | with_reducible exact Pull.p1 | with_reducible exact Pull.p2 | with_reducible exact Pull.p3 | with_reducible exact Pull.p4 | with_reducible exact Pull.p5 | with_reducible exact Pull.p6 | with_reducible exact Pull.p7 | with_reducible exact Pull.p8 | with_reducible exact Pull.p9) rfl rfl hK)) .nil))
    (.quiet 0 (by kernel_rfl) (by kernel_rfl) (.cons (Step.op rfl (fun D h1 h2 h3 K hK => op_load (mD_base rfl rfl) Tryz.isAgg9 (by first | with_reducible exact Pull.p0 | with_reducible exact Pull.p1 | with_reducible exact Pull.p2 | with_reducible exact Pull.p3 | with_reducible exact Pull.p4 | with_reducible exact Pull.p5 | with_reducible exact Pull.p6 | with_reducible exact Pull.p7 | with_reducible exact Pull.p8 | with_reducible exact Pull.p9) rfl rfl hK)) .nil)
    (.skip (by kernel_rfl) 
    (.skip (by kernel_rfl) 
    (.quiet 3 (by kernel_rfl) (by kernel_rfl) (.cons (Step.op rfl (fun D h1 h2 h3 K hK => op_nilCheck (mD_done 0 (by decide) (pre_at h2 0 rfl rfl) rfl rfl rfl) rfl hK)) (.cons (Step.op rfl (fun D h1 h2 h3 K hK => op_nilCheck (mD_done 0 (by decide) (pre_at h2 0 rfl rfl) rfl rfl rfl) rfl hK)) (.cons (Step.op rfl (fun D h1 h2 h3 K hK => op_nilCheck (mD_done 0 (by decide) (pre_at h2 0 rfl rfl) rfl rfl rfl) rfl hK)) (.cons (Step.op rfl (fun D h1 h2 h3 K hK => op_nilCheck (mD_done 0 (by decide) (pre_at h2 0 rfl rfl) rfl rfl rfl) rfl hK)) .nil))))
    (.quiet 2 (by kernel_rfl) (by kernel_rfl) (.cons (Step.op rfl (fun D h1 h2 h3 K hK => op_fieldAddr (o' := 5) (mD_done 8 (by decide) (pre_at h2 0 rfl rfl) rfl rfl rfl) Tryz.underlying55 rfl Tryz.sizeOf38 rfl rfl hK)) (.cons (Step.op rfl (fun D h1 h2 h3 K hK => op_fieldAddr (o' := 5) (mD_done 8 (by decide) (pre_at h2 0 rfl rfl) rfl rfl rfl) Tryz.underlying55 rfl Tryz.sizeOf38 rfl rfl hK)) (.cons (Step.op rfl (fun D h1 h2 h3 K hK => op_fieldAddr (o' := 5) (mD_done 8 (by decide) (pre_at h2 0 rfl rfl) rfl rfl rfl) Tryz.underlying55 rfl Tryz.sizeOf38 rfl rfl hK)) .nil)))
    (.skip (by kernel_rfl) 
    .nil))))))))))))
    (.cons rfl rfl (fun g => slc g.1 0 1 1) (fun _ => rfl) (fun g => _) (fun g => [row g.1 [str t] 9 (0, 0), pgsR (c.l.set i { s with pg := s.pg.set j (.out sb) }), row c.cb [i64 c.segs, i64 c.pages, ptr c.pw 0, i64 c.rated, slc c.lb 0 c.segs c.segs, .slice c.pa c.past.length c.pc, i64 c.pr, i64 c.er] 55 (0, 0), row c.pw powL 66 (0, 0), row c.lb (segCells c.pages c.l) 58 (0, 0), ownS c.pa c.pc (c.past.map str) 9 1, row c1 [ptr c.cb 0] 22 (0, 0), row sb [str t] 9 (0, 0), row c3 [i64 i] 3 (0, 0), row c4 [i64 j] 3 (0, 0)]) (fun _ => rfl) (fun _ => rfl) (fun g D h2 K hK => op_buildSlice1 [_] (evp_cons (mD_done 5 (by decide) (pre_at h2 0 rfl rfl) rfl rfl rfl) evp_nil) rfl Tryz.underlying38 et9 rfl (by decide) (List.forall_mem_cons.2 ⟨rfl, (fun _ h => by cases h)⟩) rfl (fun b => hK (b, g.2) (by
          intro j
          rcases j with _ | j
          · first | exact .inl rfl | exact .inr (by kernel_rfl)
          rcases j with _ | j
          · first | exact .inl rfl | exact .inr (by kernel_rfl)
          rcases j with _ | j
          · first | exact .inl rfl | exact .inr (by kernel_rfl)
          rcases j with _ | j
          · first | exact .inl rfl | exact .inr (by kernel_rfl)
          rcases j with _ | j
          · first | exact .inl rfl | exact .inr (by kernel_rfl)
          rcases j with _ | j
          · first | exact .inl rfl | exact .inr (by kernel_rfl)
          rcases j with _ | j
          · first | exact .inl rfl | exact .inr (by kernel_rfl)
          rcases j with _ | j
          · first | exact .inl rfl | exact .inr (by kernel_rfl)
          rcases j with _ | j
          · first | exact .inl rfl | exact .inr (by kernel_rfl)
          rcases j with _ | j
          · first | exact .inl rfl | exact .inr (by kernel_rfl)
          rcases j with _ | j
          · first | exact .inl rfl | exact .inr (by kernel_rfl)
          exact .inl rfl)))
    (.cons rfl rfl (fun g => .slice g.2.1 (c.past.length + 1) g.2.2) (fun _ => rfl) (fun g => [row g.1 [str t] 9 (0, 0), pgsR (c.l.set i { s with pg := s.pg.set j (.out sb) }), row c.cb [i64 c.segs, i64 c.pages, ptr c.pw 0, i64 c.rated, slc c.lb 0 c.segs c.segs, .slice c.pa c.past.length c.pc, i64 c.pr, i64 c.er] 55 (0, 0), row c.pw powL 66 (0, 0), row c.lb (segCells c.pages c.l) 58 (0, 0), ownS c.pa c.pc (c.past.map str) 9 1, row c1 [ptr c.cb 0] 22 (0, 0), row sb [str t] 9 (0, 0), row c3 [i64 i] 3 (0, 0), row c4 [i64 j] 3 (0, 0)]) (fun g => [ownS g.2.1 g.2.2 (c.past.map str ++ [str t]) 9 1, row g.1 [str t] 9 (0, 0), pgsR (c.l.set i { s with pg := s.pg.set j (.out sb) }), row c.cb [i64 c.segs, i64 c.pages, ptr c.pw 0, i64 c.rated, slc c.lb 0 c.segs c.segs, .slice c.pa c.past.length c.pc, i64 c.pr, i64 c.er] 55 (0, 0), row c.pw powL 66 (0, 0), row c.lb (segCells c.pages c.l) 58 (0, 0), row c1 [ptr c.cb 0] 22 (0, 0), row sb [str t] 9 (0, 0), row c3 [i64 i] 3 (0, 0), row c4 [i64 j] 3 (0, 0)]) (fun _ => rfl) (fun _ => rfl) (fun g D h2 K hK => op_append (mD_done 4 (by decide) (pre_at h2 0 rfl rfl) rfl rfl rfl) (mD_done 6 (by decide) (pre_at h2 1 rfl rfl) rfl rfl rfl) Tryz.underlying38 et9 (by first | with_reducible exact Pull.p0 | with_reducible exact Pull.p1 | with_reducible exact Pull.p2 | with_reducible exact Pull.p3 | with_reducible exact Pull.p4 | with_reducible exact Pull.p5 | with_reducible exact Pull.p6 | with_reducible exact Pull.p7 | with_reducible exact Pull.p8 | with_reducible exact Pull.p9) (by first | with_reducible exact Pull.p0 | with_reducible exact Pull.p1 | with_reducible exact Pull.p2 | with_reducible exact Pull.p3 | with_reducible exact Pull.p4 | with_reducible exact Pull.p5 | with_reducible exact Pull.p6 | with_reducible exact Pull.p7 | with_reducible exact Pull.p8 | with_reducible exact Pull.p9) (by simp) rfl (by decide) (List.forall_mem_cons.2 ⟨rfl, (fun _ h => by cases h)⟩) (by omega) (by omega) rfl (fun ad cp _ => (by exact hK (g.1, ad, cp) (by
          intro j
          rcases j with _ | j
          · first | exact .inl rfl | exact .inr (by kernel_rfl)
          rcases j with _ | j
          · first | exact .inl rfl | exact .inr (by kernel_rfl)
          rcases j with _ | j
          · first | exact .inl rfl | exact .inr (by kernel_rfl)
          rcases j with _ | j
          · first | exact .inl rfl | exact .inr (by kernel_rfl)
          rcases j with _ | j
          · first | exact .inl rfl | exact .inr (by kernel_rfl)
          rcases j with _ | j
          · first | exact .inl rfl | exact .inr (by kernel_rfl)
          rcases j with _ | j
          · first | exact .inl rfl | exact .inr (by kernel_rfl)
          rcases j with _ | j
          · first | exact .inl rfl | exact .inr (by kernel_rfl)
          rcases j with _ | j
          · first | exact .inl rfl | exact .inr (by kernel_rfl)
          rcases j with _ | j
          · first | exact .inl rfl | exact .inr (by kernel_rfl)
          rcases j with _ | j
          · first | exact .inl rfl | exact .inr (by kernel_rfl)
          exact .inl rfl))))
    (.cons rfl rfl (fun g => undef) (fun _ => rfl) (fun g => [ownS g.2.1 g.2.2 (c.past.map str ++ [str t]) 9 1, row g.1 [str t] 9 (0, 0), pgsR (c.l.set i { s with pg := s.pg.set j (.out sb) }), row c.cb [i64 c.segs, i64 c.pages, ptr c.pw 0, i64 c.rated, slc c.lb 0 c.segs c.segs, .slice c.pa c.past.length c.pc, i64 c.pr, i64 c.er] 55 (0, 0), row c.pw powL 66 (0, 0), row c.lb (segCells c.pages c.l) 58 (0, 0), row c1 [ptr c.cb 0] 22 (0, 0), row sb [str t] 9 (0, 0), row c3 [i64 i] 3 (0, 0), row c4 [i64 j] 3 (0, 0)]) (fun g => [row c.cb [i64 c.segs, i64 c.pages, ptr c.pw 0, i64 c.rated, slc c.lb 0 c.segs c.segs, .slice g.2.1 (c.past.length + 1) g.2.2, i64 c.pr, i64 c.er] 55 (0, 0), ownS g.2.1 g.2.2 (c.past.map str ++ [str t]) 9 1, row g.1 [str t] 9 (0, 0), pgsR (c.l.set i { s with pg := s.pg.set j (.out sb) }), row c.pw powL 66 (0, 0), row c.lb (segCells c.pages c.l) 58 (0, 0), row c1 [ptr c.cb 0] 22 (0, 0), row sb [str t] 9 (0, 0), row c3 [i64 i] 3 (0, 0), row c4 [i64 j] 3 (0, 0)]) (fun _ => rfl) (fun _ => rfl) (fun g D h2 K hK => op_store (mD_done 9 (by decide) (pre_at h2 0 rfl rfl) rfl rfl rfl) (mD_done 7 (by decide) (pre_at h2 1 rfl rfl) rfl rfl rfl) Tryz.sizeOf38 rfl rfl (by first | with_reducible exact Pull.p0 | with_reducible exact Pull.p1 | with_reducible exact Pull.p2 | with_reducible exact Pull.p3 | with_reducible exact Pull.p4 | with_reducible exact Pull.p5 | with_reducible exact Pull.p6 | with_reducible exact Pull.p7 | with_reducible exact Pull.p8 | with_reducible exact Pull.p9) (.succ (.succ (.succ (.succ (.succ .zero))))) rfl (by exact hK g (by
          intro j
          rcases j with _ | j
          · first | exact .inl rfl | exact .inr (by kernel_rfl)
          rcases j with _ | j
          · first | exact .inl rfl | exact .inr (by kernel_rfl)
          rcases j with _ | j
          · first | exact .inl rfl | exact .inr (by kernel_rfl)
          rcases j with _ | j
          · first | exact .inl rfl | exact .inr (by kernel_rfl)
          rcases j with _ | j
          · first | exact .inl rfl | exact .inr (by kernel_rfl)
          rcases j with _ | j
          · first | exact .inl rfl | exact .inr (by kernel_rfl)
          rcases j with _ | j
          · first | exact .inl rfl | exact .inr (by kernel_rfl)
          rcases j with _ | j
          · first | exact .inl rfl | exact .inr (by kernel_rfl)
          rcases j with _ | j
          · first | exact .inl rfl | exact .inr (by kernel_rfl)
          rcases j with _ | j
          · first | exact .inl rfl | exact .inr (by kernel_rfl)
          rcases j with _ | j
          · first | exact .inl rfl | exact .inr (by kernel_rfl)
          exact .inl rfl)))
    .nil))) ?_
  rintro ⟨nb, ad, cp⟩
  show At _ _ ([row c.cb [i64 c.segs, i64 c.pages, ptr c.pw 0, i64 c.rated, slc c.lb 0 c.segs c.segs, .slice ad (c.past.length + 1) cp, i64 c.pr, i64 c.er] 55 (0, 0), ownS ad cp (c.past.map str ++ [str t]) 9 1, row nb [str t] 9 (0, 0), pgsR (c.l.set i { s with pg := s.pg.set j (.out sb) }), row c.pw powL 66 (0, 0), row c.lb (segCells c.pages c.l) 58 (0, 0), row c1 [ptr c.cb 0] 22 (0, 0), row sb [str t] 9 (0, 0), row c3 [i64 i] 3 (0, 0), row c4 [i64 j] 3 (0, 0)]) _
  refine At.keep [(1, _)] (.cons rfl .nil) ?_
  refine At.then_n ?_
  refine At.region ?_
  refine At.op rfl (op_load rfl Tryz.isAgg22 (by first | with_reducible exact Pull.p0 | with_reducible exact Pull.p1 | with_reducible exact Pull.p2 | with_reducible exact Pull.p3 | with_reducible exact Pull.p4 | with_reducible exact Pull.p5 | with_reducible exact Pull.p6 | with_reducible exact Pull.p7 | with_reducible exact Pull.p8 | with_reducible exact Pull.p9) rfl rfl ?_)
  refine At.op rfl (op_nilCheck rfl rfl ?_)
  refine At.op rfl (op_fieldAddr (o' := 6) rfl Tryz.underlying55 rfl Tryz.sizeOf3 rfl rfl ?_)
  refine At.op rfl (op_load rfl Tryz.isAgg3 (by first | with_reducible exact Pull.p0 | with_reducible exact Pull.p1 | with_reducible exact Pull.p2 | with_reducible exact Pull.p3 | with_reducible exact Pull.p4 | with_reducible exact Pull.p5 | with_reducible exact Pull.p6 | with_reducible exact Pull.p7 | with_reducible exact Pull.p8 | with_reducible exact Pull.p9) rfl rfl ?_)
  refine At.op rfl (op_bin rfl rfl bk_add rfl ?_)
  refine At.op rfl (op_nilCheck rfl rfl ?_)
  refine At.op rfl (op_fieldAddr (o' := 6) rfl Tryz.underlying55 rfl Tryz.sizeOf3 rfl rfl ?_)
  refine At.op rfl (op_store rfl rfl Tryz.sizeOf3 rfl rfl (by first | with_reducible exact Pull.p0 | with_reducible exact Pull.p1 | with_reducible exact Pull.p2 | with_reducible exact Pull.p3 | with_reducible exact Pull.p4 | with_reducible exact Pull.p5 | with_reducible exact Pull.p6 | with_reducible exact Pull.p7 | with_reducible exact Pull.p8 | with_reducible exact Pull.p9) (.succ (.succ (.succ (.succ (.succ (.succ .zero)))))) rfl ?_)
  refine At.nil ?_
  exact At.fin0 _ (.inr rfl) rfl rfl ⟨ad, cp, rfl⟩ (.cons (by first | exact Pull.p0 | exact Pull.p1 | exact Pull.p2 | exact Pull.p3 | exact Pull.p4 | exact Pull.p5 | exact Pull.p6 | exact Pull.p7 | exact Pull.p8 | exact Pull.p9) (.cons (by first | exact Pull.p0 | exact Pull.p1 | exact Pull.p2 | exact Pull.p3 | exact Pull.p4 | exact Pull.p5 | exact Pull.p6 | exact Pull.p7 | exact Pull.p8 | exact Pull.p9) (.cons (by first | exact Pull.p0 | exact Pull.p1 | exact Pull.p2 | exact Pull.p3 | exact Pull.p4 | exact Pull.p5 | exact Pull.p6 | exact Pull.p7 | exact Pull.p8 | exact Pull.p9) (.cons (by first | exact Pull.p0 | exact Pull.p1 | exact Pull.p2 | exact Pull.p3 | exact Pull.p4 | exact Pull.p5 | exact Pull.p6 | exact Pull.p7 | exact Pull.p8 | exact Pull.p9) (.cons (by first | exact Pull.p0 | exact Pull.p1 | exact Pull.p2 | exact Pull.p3 | exact Pull.p4 | exact Pull.p5 | exact Pull.p6 | exact Pull.p7 | exact Pull.p8 | exact Pull.p9) (.cons (by first | exact Pull.p0 | exact Pull.p1 | exact Pull.p2 | exact Pull.p3 | exact Pull.p4 | exact Pull.p5 | exact Pull.p6 | exact Pull.p7 | exact Pull.p8 | exact Pull.p9) .nil))))))
end Go.Proofs.YteckdahgkkmlaaaGreatDoor
