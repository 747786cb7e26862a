/- Walks of the program's functions. -/
import Derived.Test.YteckdahgkkmlaaaGreatDoorSLN1
import Derived.KernelRfl
set_option maxRecDepth 20000
set_option linter.unusedVariables false
set_option linter.unusedSimpArgs false
namespace Go.Proofs.YteckdahgkkmlaaaGreatDoor
open Go SL
variable {G : List (Nat × Obj)}
theorem slices_Index (ad : Option Addr) (cap : Nat) (xs : List Int) (x : Int) (hx : xs.length < 1000000) : Does Tryz.prog G 34 [.slice ad xs.length cap, i64 x] [ownS ad cap (xs.map i64) 3 1] (fun v rs' => ∃ r : Int, v = i64 r ∧ decide (0 ≤ r) = decide (x ∈ xs) ∧ rs' = [ownS ad cap (xs.map i64) 3 1]) := by
  refine Does.of Tryz.func34 rfl Tryz.ntmps34 rfl (fun w0 => ?_)
  refine At.keep [(0, _), (1, _)] (.cons rfl (.cons rfl .nil)) ?_
  refine At.seq ?_
  refine At.region ?_
  refine At.op rfl (op_assign rfl rfl ?_)
  refine At.nil ?_
  refine At.then_n ?_
  refine At.seq ?_
  refine At.seq ?_
  refine At.region ?_
  refine At.op rfl (op_move rfl rfl ?_)
  refine At.op rfl (op_len_slc rfl Tryz.underlying48 rfl ?_)
  refine At.op rfl (op_move rfl rfl ?_)
  refine At.nil ?_
  refine At.then_n ?_
  refine At.block ?_
  refine At.cut (rs' := (fun _ => [ownS ad cap (xs.map i64) 3 1]) (0 : Nat)) (.cons (by first | exact Pull.p0 | exact Pull.p1 | exact Pull.p2 | exact Pull.p3 | exact Pull.p4 | exact Pull.p5 | exact Pull.p6 | exact Pull.p7 | exact Pull.p8 | exact Pull.p9) .nil) ?_
  refine At.keep ((fun k => [(0, .slice ad xs.length cap), (1, i64 x), (7, i64 xs.length), (8, i64 k)]) (0 : Nat)) (.cons rfl (.cons rfl (.cons rfl (.cons rfl .nil)))) ?_
  refine At.loop (σ := Nat) (fun k => k ≤ xs.length ∧ ∀ m, m < k → xs[m]? ≠ some x) (fun k => [(0, .slice ad xs.length cap), (1, i64 x), (7, i64 xs.length), (8, i64 k)]) (fun _ => [ownS ad cap (xs.map i64) 3 1]) (fun k => xs.length - k) (0 : Nat) ⟨Nat.zero_le _, fun m hm => absurd hm (Nat.not_lt_zero m)⟩ ?_
  rintro k ⟨hk, hk2⟩
  refine At.seq ?_
  refine At.region ?_
  refine At.op rfl (op_bin rfl rfl b_lt rfl ?_)
  refine At.nil ?_
  refine At.then_n ?_
  refine At.seq ?_
  refine At.cond_p rfl (fun hlt => ?_) (fun hlt => ?_)
  ·
    obtain ⟨y, hy⟩ : ∃ y, xs[k]? = some y := ⟨_, List.getElem?_eq_getElem (by omega)⟩
    refine At.own_some (by first | with_reducible exact Pull.p0 | with_reducible exact Pull.p1 | with_reducible exact Pull.p2 | with_reducible exact Pull.p3 | with_reducible exact Pull.p4 | with_reducible exact Pull.p5 | with_reducible exact Pull.p6 | with_reducible exact Pull.p7 | with_reducible exact Pull.p8 | with_reducible exact Pull.p9) (by intro e; have := congrArg List.length e; simp at this; subst this; simp at hlt; omega) (fun b hb => ?_)
    subst hb
    refine At.skip ?_
    refine At.then_n ?_
    refine At.seq ?_
    refine At.block ?_
    refine At.seq ?_
    refine At.region ?_
    refine At.op rfl (op_move rfl rfl ?_)
    refine At.op rfl (op_assign rfl rfl ?_)
    refine At.nil ?_
    refine At.then_n ?_
    refine At.seq ?_
    refine At.region ?_
    refine At.op rfl (op_move rfl rfl ?_)
    refine At.op rfl (op_move rfl rfl ?_)
    refine At.op rfl (op_move rfl rfl ?_)
    refine At.op rfl (op_indexS rfl rfl Tryz.underlying48 Tryz.sizeOf3 (by omega) (by omega) rfl ?_)
    refine At.op rfl (op_loadO rfl Tryz.isAgg3 (by first | with_reducible exact Pull.p0 | with_reducible exact Pull.p1 | with_reducible exact Pull.p2 | with_reducible exact Pull.p3 | with_reducible exact Pull.p4 | with_reducible exact Pull.p5 | with_reducible exact Pull.p6 | with_reducible exact Pull.p7 | with_reducible exact Pull.p8 | with_reducible exact Pull.p9) (mapi_get hy) rfl ?_)
    refine At.op rfl (op_bin rfl rfl b_eq rfl ?_)
    refine At.nil ?_
    refine At.then_n ?_
    refine At.cond_p rfl (fun hxy => ?_) (fun hxy => ?_)
    ·
      refine At.seq ?_
      refine At.region ?_
      refine At.op rfl (op_move rfl rfl ?_)
      refine At.op rfl (op_assign rfl rfl ?_)
      refine At.nil ?_
      refine At.then_n ?_
      refine At.ret ?_
      refine At.blk_r ?_
      refine At.then_r ?_
      refine At.then_r ?_
      refine At.blk_r ?_
      refine At.then_r ?_
      refine At.fin1 rfl rfl rfl ⟨(k : Int), rfl, ?_, rfl⟩ (.cons (by first | with_reducible exact Pull.p0 | with_reducible exact Pull.p1 | with_reducible exact Pull.p2 | with_reducible exact Pull.p3 | with_reducible exact Pull.p4 | with_reducible exact Pull.p5 | with_reducible exact Pull.p6 | with_reducible exact Pull.p7 | with_reducible exact Pull.p8 | with_reducible exact Pull.p9) .nil)
      rw [decide_eq_true (by omega), decide_eq_true (by rw [hxy]; exact List.mem_of_getElem? hy)]
    ·
      refine At.skip ?_
      refine At.blk_n ?_
      refine At.then_n ?_
      refine At.region ?_
      refine At.op rfl (op_bin rfl rfl (b_add (by omega) (by omega)) rfl ?_)
      refine At.op rfl (op_move rfl rfl ?_)
      refine At.nil ?_
      refine At.then_n ?_
      exact At.back (k + 1) ⟨by omega, fun m hm => by rcases Nat.lt_succ_iff_lt_or_eq.1 hm with h | h; exact hk2 m h; subst h; rw [hy]; intro e; exact hxy (Option.some.inj e).symm⟩ (by omega) (.cons rfl (.cons rfl (.cons rfl (.cons rfl .nil)))) (.cons (by first | with_reducible exact Pull.p0 | with_reducible exact Pull.p1 | with_reducible exact Pull.p2 | with_reducible exact Pull.p3 | with_reducible exact Pull.p4 | with_reducible exact Pull.p5 | with_reducible exact Pull.p6 | with_reducible exact Pull.p7 | with_reducible exact Pull.p8 | with_reducible exact Pull.p9) .nil)
  ·
    refine At.exit ?_
    refine At.then_e ?_
    refine At.then_e ?_
    refine At.blk_e ?_
    refine At.then_n ?_
    refine At.seq ?_
    refine At.region ?_
    refine At.op rfl (op_assign rfl rfl ?_)
    refine At.nil ?_
    refine At.then_n ?_
    refine At.ret ?_
    refine At.fin1 rfl rfl rfl ⟨-1, rfl, ?_, rfl⟩ (.cons (by first | with_reducible exact Pull.p0 | with_reducible exact Pull.p1 | with_reducible exact Pull.p2 | with_reducible exact Pull.p3 | with_reducible exact Pull.p4 | with_reducible exact Pull.p5 | with_reducible exact Pull.p6 | with_reducible exact Pull.p7 | with_reducible exact Pull.p8 | with_reducible exact Pull.p9) .nil)
    rw [decide_eq_false (by omega), decide_eq_false]
    intro hm
    obtain ⟨m, hm⟩ := List.getElem?_of_mem hm
    exact hk2 m (by have := (List.getElem?_eq_some_iff.1 hm).1; omega) hm
theorem slices_Contains (ad : Option Addr) (cap : Nat) (xs : List Int) (x : Int) (hx : xs.length < 1000000) : Does Tryz.prog G 18 [.slice ad xs.length cap, i64 x] [ownS ad cap (xs.map i64) 3 1] (OneR (.bool (decide (x ∈ xs))) [ownS ad cap (xs.map i64) 3 1]) := by
  refine Does.of Tryz.func18 rfl Tryz.ntmps18 rfl (fun w0 => ?_)
  refine At.keep [(0, _), (1, _)] (.cons rfl (.cons rfl .nil)) ?_
  refine At.seq ?_
  refine At.region ?_
  refine At.op rfl (op_assign rfl rfl ?_)
  refine At.nil ?_
  refine At.then_n ?_
  refine At.seq ?_
  refine At.region ?_
  refine At.op rfl (op_move rfl rfl ?_)
  refine At.op rfl (op_move rfl rfl ?_)
  refine At.op rfl (op_callF rfl Tryz.call34 (slices_Index ad cap xs x hx) (.cons (by first | with_reducible exact Pull.p0 | with_reducible exact Pull.p1 | with_reducible exact Pull.p2 | with_reducible exact Pull.p3 | with_reducible exact Pull.p4 | with_reducible exact Pull.p5 | with_reducible exact Pull.p6 | with_reducible exact Pull.p7 | with_reducible exact Pull.p8 | with_reducible exact Pull.p9) .nil) rfl ?_)
  rintro v _ ⟨r, rfl, hr, rfl⟩
  refine At.app1 ?_
  refine At.op rfl (op_bin rfl rfl b_ge rfl ?_)
  refine At.op rfl (op_assign rfl rfl ?_)
  refine At.nil ?_
  refine At.then_n ?_
  refine At.ret ?_
  exact At.fin1 rfl rfl rfl ⟨by rw [hr], rfl⟩ (.cons (by first | with_reducible exact Pull.p0 | with_reducible exact Pull.p1 | with_reducible exact Pull.p2 | with_reducible exact Pull.p3 | with_reducible exact Pull.p4 | with_reducible exact Pull.p5 | with_reducible exact Pull.p6 | with_reducible exact Pull.p7 | with_reducible exact Pull.p8 | with_reducible exact Pull.p9) .nil)
theorem nand_New (pw segs pages rated : Nat) (ad : Option Addr) (cap : Nat) (bads : List Int) (h1 : 1 ≤ segs ∧ segs ≤ 64) (h2 : 1 ≤ pages ∧ pages ≤ 16) (h3 : rated < 1000000) (hb : bads.length < 1000000) : Does Tryz.prog G 6 [ptr pw 0, i64 segs, i64 pages, i64 rated, .slice ad bads.length cap] [row pw powL 66 (0, 0), ownS ad cap (bads.map i64) 3 1] (fun v rs' => ∃ c : Chp, c.wf ∧ c.fresh segs pages rated bads ∧ v = ptr c.cb 0 ∧ rs' = [chipR c]) := by
  refine Does.of Tryz.func6 rfl Tryz.ntmps6 rfl (fun w0 => ?_)
  refine At.keep [(0, _), (1, _), (2, _), (3, _), (4, _)] (.cons rfl (.cons rfl (.cons rfl (.cons rfl (.cons rfl .nil))))) ?_
  refine At.seq ?_
  refine At.region ?_
  refine At.op rfl (op_assign rfl rfl ?_)
  refine At.nil ?_
  refine At.then_n ?_
  refine At.seq ?_
  refine At.seq ?_
  refine At.region ?_
  refine At.op rfl (op_move rfl rfl ?_)
  refine At.op rfl (op_bin rfl rfl (Bin.cast (v' := .bool false) (b_pnil Tryz.underlying24) rfl) rfl ?_)
  refine At.op rfl (op_move rfl rfl ?_)
  refine At.opg rfl rfl rfl (op_move rfl rfl ?_)
  refine At.opg rfl rfl rfl (op_bin rfl rfl (Bin.cast (v' := .bool false) b_lt (congrArg Value.bool (decide_eq_false (by omega)))) rfl ?_)
  refine At.op rfl (op_pick_f rfl rfl rfl ?_)
  refine At.op rfl (op_move rfl rfl ?_)
  refine At.opg rfl rfl rfl (op_move rfl rfl ?_)
  refine At.opg rfl rfl rfl (op_bin rfl rfl (Bin.cast (v' := .bool false) b_gt (congrArg Value.bool (decide_eq_false (by omega)))) rfl ?_)
  refine At.op rfl (op_pick_f rfl rfl rfl ?_)
  refine At.op rfl (op_move rfl rfl ?_)
  refine At.opg rfl rfl rfl (op_move rfl rfl ?_)
  refine At.opg rfl rfl rfl (op_bin rfl rfl (Bin.cast (v' := .bool false) b_lt (congrArg Value.bool (decide_eq_false (by omega)))) rfl ?_)
  refine At.op rfl (op_pick_f rfl rfl rfl ?_)
  refine At.op rfl (op_move rfl rfl ?_)
  refine At.opg rfl rfl rfl (op_move rfl rfl ?_)
  refine At.opg rfl rfl rfl (op_bin rfl rfl (Bin.cast (v' := .bool false) b_gt (congrArg Value.bool (decide_eq_false (by omega)))) rfl ?_)
  refine At.op rfl (op_pick_f rfl rfl rfl ?_)
  refine At.op rfl (op_move rfl rfl ?_)
  refine At.opg rfl rfl rfl (op_move rfl rfl ?_)
  refine At.opg rfl rfl rfl (op_bin rfl rfl (Bin.cast (v' := .bool false) b_lt (congrArg Value.bool (decide_eq_false (by omega)))) rfl ?_)
  refine At.op rfl (op_pick_f rfl rfl rfl ?_)
  refine At.nil ?_
  refine At.then_n ?_
  refine At.cond_f rfl ?_
  refine At.skip ?_
  refine At.then_n ?_
  refine At.seq ?_
  refine At.keep [(0, _), (1, _), (2, _), (3, _), (4, _), (10, _)] (.cons rfl (.cons rfl (.cons rfl (.cons rfl (.cons rfl (.cons rfl .nil)))))) ?_
  refine At.region ?_
  refine At.op rfl (op_move rfl rfl ?_)
  refine At.op rfl (op_move rfl rfl ?_)
  refine At.op rfl (op_build (v := .agg [i64 segs, i64 pages].toArray) rfl (fun w => run_build w _ _ _ (by kernel_rfl)) rfl ?_)
  refine At.op rfl (op_move rfl rfl ?_)
  refine At.op rfl (op_move rfl rfl ?_)
  refine At.op rfl (op_move rfl rfl ?_)
  refine At.op rfl (op_make rfl Tryz.underlying53 et58 (by omega) (by omega) (by omega) rfl ?_)
  intro lb
  rw [show (madeCells _ (segs * 3)).toList = zeroSegs segs from made_segs segs]
  refine At.same (r' := row lb (zeroSegs segs) 58 (0, 0)) (by first | with_reducible exact Pull.p0 | with_reducible exact Pull.p1 | with_reducible exact Pull.p2 | with_reducible exact Pull.p3 | with_reducible exact Pull.p4 | with_reducible exact Pull.p5 | with_reducible exact Pull.p6 | with_reducible exact Pull.p7 | with_reducible exact Pull.p8 | with_reducible exact Pull.p9) (own_row (by rw [zeroSegs_length])) (fun b hb => ⟨_, rfl, hb.symm⟩) ?_
  refine At.op rfl (op_build (v := .agg [i64 segs, i64 pages, ptr pw 0, i64 rated, slc lb 0 segs segs, nilS, i64 0, i64 0].toArray) rfl (fun w => run_build w _ _ _ (by kernel_rfl)) rfl ?_)
  refine At.op rfl (op_box rfl rfl rfl ?_)
  intro cb
  refine At.pgs0 ?_
  refine At.op rfl (op_assign rfl rfl ?_)
  refine At.nil ?_
  refine At.then_n ?_
  refine At.seq ?_
  refine At.seq ?_
  refine At.keep [(2, _), (4, _), (10, _), (11, _)] (.cons rfl (.cons rfl (.cons rfl (.cons rfl .nil)))) ?_
  refine At.region ?_
  refine At.op rfl (op_move rfl rfl ?_)
  refine At.op rfl (op_nilCheck rfl rfl ?_)
  refine At.op rfl (op_fieldAddr (o' := 4) rfl Tryz.underlying55 rfl Tryz.sizeOf53 rfl rfl ?_)
  refine At.op rfl (op_load rfl Tryz.isAgg53 (by first | with_reducible exact Pull.p0 | with_reducible exact Pull.p1 | with_reducible exact Pull.p2 | with_reducible exact Pull.p3 | with_reducible exact Pull.p4 | with_reducible exact Pull.p5 | with_reducible exact Pull.p6 | with_reducible exact Pull.p7 | with_reducible exact Pull.p8 | with_reducible exact Pull.p9) rfl rfl ?_)
  refine At.op rfl (op_len_slc rfl Tryz.underlying53 rfl ?_)
  refine At.op rfl (op_move rfl rfl ?_)
  refine At.nil ?_
  refine At.then_n ?_
  refine At.block ?_
  refine At.cut (rs' := (fun s => [row cb [i64 segs, i64 pages, ptr pw 0, i64 rated, slc lb 0 segs segs, nilS, i64 0, i64 0] 55 (0, 0), row pw powL 66 (0, 0), row lb (segCells pages (newSegs pages bads 0 s.2) ++ zeroSegs (segs - s.1)) 58 (0, 0), pgsR (newSegs pages bads 0 s.2), ownS ad cap (bads.map i64) 3 1]) ((0, []) : Nat × List Nat)) (.cons (by first | exact Pull.p0 | exact Pull.p1 | exact Pull.p2 | exact Pull.p3 | exact Pull.p4 | exact Pull.p5 | exact Pull.p6 | exact Pull.p7 | exact Pull.p8 | exact Pull.p9) (.cons (by first | exact Pull.p0 | exact Pull.p1 | exact Pull.p2 | exact Pull.p3 | exact Pull.p4 | exact Pull.p5 | exact Pull.p6 | exact Pull.p7 | exact Pull.p8 | exact Pull.p9) (.cons (by first | exact Pull.p0 | exact Pull.p1 | exact Pull.p2 | exact Pull.p3 | exact Pull.p4 | exact Pull.p5 | exact Pull.p6 | exact Pull.p7 | exact Pull.p8 | exact Pull.p9) (.cons (by first | exact Pull.p0 | exact Pull.p1 | exact Pull.p2 | exact Pull.p3 | exact Pull.p4 | exact Pull.p5 | exact Pull.p6 | exact Pull.p7 | exact Pull.p8 | exact Pull.p9) (.cons (by first | exact Pull.p0 | exact Pull.p1 | exact Pull.p2 | exact Pull.p3 | exact Pull.p4 | exact Pull.p5 | exact Pull.p6 | exact Pull.p7 | exact Pull.p8 | exact Pull.p9) .nil))))) ?_
  refine At.keep ((fun s => [(2, i64 pages), (4, .slice ad bads.length cap), (11, ptr cb 0), (48, i64 segs), (49, i64 s.1)]) ((0, []) : Nat × List Nat)) (.cons rfl (.cons rfl (.cons rfl (.cons rfl (.cons rfl .nil))))) ?_
  refine At.loop (σ := Nat × List Nat) (fun s => s.2.length = s.1 ∧ s.1 ≤ segs) (fun s => [(2, i64 pages), (4, .slice ad bads.length cap), (11, ptr cb 0), (48, i64 segs), (49, i64 s.1)]) (fun s => [row cb [i64 segs, i64 pages, ptr pw 0, i64 rated, slc lb 0 segs segs, nilS, i64 0, i64 0] 55 (0, 0), row pw powL 66 (0, 0), row lb (segCells pages (newSegs pages bads 0 s.2) ++ zeroSegs (segs - s.1)) 58 (0, 0), pgsR (newSegs pages bads 0 s.2), ownS ad cap (bads.map i64) 3 1]) (fun s => segs - s.1) ((0, []) : Nat × List Nat) ⟨rfl, Nat.zero_le _⟩ ?_
  rintro ⟨k, pbs⟩ ⟨hl, hk⟩
  dsimp only at hl hk ⊢
  refine At.seq ?_
  refine At.region ?_
  refine At.op rfl (op_bin rfl rfl b_lt rfl ?_)
  refine At.nil ?_
  refine At.then_n ?_
  refine At.seq ?_
  refine At.cond_p rfl (fun hlt => ?_) (fun hlt => ?_)
  ·
    obtain ⟨n, hn⟩ : ∃ n, segs - k = n + 1 := ⟨segs - k - 1, by omega⟩
    rw [hn]
    have hnl : (newSegs pages bads 0 pbs).length = k := by rw [newSegs_length]; exact hl
    refine At.skip ?_
    refine At.then_n ?_
    refine At.seq ?_
    refine At.block ?_
    refine At.seq ?_
    refine At.region ?_
    refine At.op rfl (op_move rfl rfl ?_)
    refine At.op rfl (op_assign rfl rfl ?_)
    refine At.nil ?_
    refine At.then_n ?_
    refine At.seq ?_
    refine At.drawX2 (γ := Nat) 0 [6, 9] (fun g => [[ownS (some ⟨g, 0, none⟩) pages (madeCells (Value.pointer none).cells (pages * 1)).toList 84 1, row cb [i64 segs, i64 pages, ptr pw 0, i64 rated, slc lb 0 segs segs, nilS, i64 0, i64 0] 55 (0, 0), row pw powL 66 (0, 0), row lb (segCells pages (newSegs pages bads 0 pbs) ++ zeroSegs (n + 1)) 58 (0, 0), pgsR (newSegs pages bads 0 pbs), ownS ad cap (bads.map i64) 3 1], [row lb (segCells pages (newSegs pages bads 0 pbs) ++ (slc g 0 pages pages :: i64 0 :: .bool false :: zeroSegs n)) 58 (0, 0), ownS (some ⟨g, 0, none⟩) pages (madeCells (Value.pointer none).cells (pages * 1)).toList 84 1, row cb [i64 segs, i64 pages, ptr pw 0, i64 rated, slc lb 0 segs segs, nilS, i64 0, i64 0] 55 (0, 0), row pw powL 66 (0, 0), pgsR (newSegs pages bads 0 pbs), ownS ad cap (bads.map i64) 3 1]]) (fun g => [ptr cb 0, ptr cb 0, ptr cb 4, slc lb 0 segs segs, i64 k, i64 pages, slc g 0 pages pages, ptr lb (0 + (k : Int).toNat * 3), ptr lb (0 + (k : Int).toNat * 3 + 0), undef]) (by kernel_rfl) (by decide) (by kernel_rfl) (by decide) (by kernel_rfl) (fun _ => rfl) (fun g => 
      (.quiet 1 (by kernel_rfl) (by kernel_rfl) (.cons (Step.op rfl (fun D h1 h2 h3 K hK => op_move (mD_base rfl rfl) rfl hK)) (.cons (Step.op rfl (fun D h1 h2 h3 K hK => op_move (mD_base rfl rfl) rfl hK)) .nil))
      (.quiet 1 (by kernel_rfl) (by kernel_rfl) (.cons (Step.op rfl (fun D h1 h2 h3 K hK => op_nilCheck (mD_done 0 (by decide) (pre_at h2 0 rfl rfl) rfl rfl rfl) rfl hK)) (.cons (Step.op rfl (fun D h1 h2 h3 K hK => op_nilCheck (mD_done 0 (by decide) (pre_at h2 0 rfl rfl) rfl rfl rfl) rfl hK)) .nil))
      (.quiet 1 (by kernel_rfl) (by kernel_rfl) (.cons (Step.op rfl (fun D h1 h2 h3 K hK => op_fieldAddr (o' := 4) (mD_done 1 (by decide) (pre_at h2 0 rfl rfl) rfl rfl rfl) Tryz.underlying55 rfl Tryz.sizeOf53 rfl rfl hK)) (.cons (Step.op rfl (fun D h1 h2 h3 K hK => op_fieldAddr (o' := 4) (mD_done 1 (by decide) (pre_at h2 0 rfl rfl) rfl rfl rfl) Tryz.underlying55 rfl Tryz.sizeOf53 rfl rfl hK)) .nil))
      (.quiet 1 (by kernel_rfl) (by kernel_rfl) (.cons (Step.op rfl (fun D h1 h2 h3 K hK => op_load (mD_done 2 (by decide) (pre_at h2 0 rfl rfl) rfl rfl rfl) Tryz.isAgg53 (by first | with_reducible exact Pull.p0 | with_reducible exact Pull.p1 | with_reducible exact Pull.p2 | with_reducible exact Pull.p3 | with_reducible exact Pull.p4 | with_reducible exact Pull.p5 | with_reducible exact Pull.p6 | with_reducible exact Pull.p7 | with_reducible exact Pull.p8 | with_reducible exact Pull.p9) rfl rfl hK)) (.cons (Step.op rfl (fun D h1 h2 h3 K hK => op_load (mD_done 2 (by decide) (pre_at h2 0 rfl rfl) rfl rfl rfl) Tryz.isAgg53 (by first | with_reducible exact Pull.p0 | with_reducible exact Pull.p1 | with_reducible exact Pull.p2 | with_reducible exact Pull.p3 | with_reducible exact Pull.p4 | with_reducible exact Pull.p5 | with_reducible exact Pull.p6 | with_reducible exact Pull.p7 | with_reducible exact Pull.p8 | with_reducible exact Pull.p9) rfl rfl hK)) .nil))
      (.quiet 1 (by kernel_rfl) (by kernel_rfl) (.cons (Step.op rfl (fun D h1 h2 h3 K hK => op_move (mD_base rfl rfl) rfl hK)) (.cons (Step.op rfl (fun D h1 h2 h3 K hK => op_move (mD_base rfl rfl) rfl hK)) .nil))
      (.quiet 0 (by kernel_rfl) (by kernel_rfl) (.cons (Step.op rfl (fun D h1 h2 h3 K hK => op_move (mD_base rfl rfl) rfl hK)) .nil)
      (.skip (by kernel_rfl) 
      (.quiet 2 (by kernel_rfl) (by kernel_rfl) (.cons (Step.op rfl (fun D h1 h2 h3 K hK => op_indexS (mD_done 3 (by decide) (pre_at h2 0 rfl rfl) rfl rfl rfl) (mD_done 4 (by decide) (pre_at h2 1 rfl rfl) rfl rfl rfl) Tryz.underlying53 Tryz.sizeOf58 (by omega) (by omega) rfl hK)) (.cons (Step.op rfl (fun D h1 h2 h3 K hK => op_indexS (mD_done 3 (by decide) (pre_at h2 0 rfl rfl) rfl rfl rfl) (mD_done 4 (by decide) (pre_at h2 1 rfl rfl) rfl rfl rfl) Tryz.underlying53 Tryz.sizeOf58 (by omega) (by omega) rfl hK)) (.cons (Step.op rfl (fun D h1 h2 h3 K hK => op_indexS (mD_done 3 (by decide) (pre_at h2 0 rfl rfl) rfl rfl rfl) (mD_done 4 (by decide) (pre_at h2 1 rfl rfl) rfl rfl rfl) Tryz.underlying53 Tryz.sizeOf58 (by omega) (by omega) rfl hK)) .nil)))
      (.quiet 1 (by kernel_rfl) (by kernel_rfl) (.cons (Step.op rfl (fun D h1 h2 h3 K hK => op_fieldAddr (mD_done 7 (by decide) (pre_at h2 0 rfl rfl) rfl rfl rfl) Tryz.underlying58 rfl Tryz.sizeOf56 rfl rfl hK)) (.cons (Step.op rfl (fun D h1 h2 h3 K hK => op_fieldAddr (mD_done 7 (by decide) (pre_at h2 0 rfl rfl) rfl rfl rfl) Tryz.underlying58 rfl Tryz.sizeOf56 rfl rfl hK)) .nil))
      (.skip (by kernel_rfl) 
      .nil)))))))))))
      (.cons rfl rfl (fun g => slc g 0 pages pages) (fun _ => rfl) (fun g => _) (fun g => [ownS (some ⟨g, 0, none⟩) pages (madeCells (Value.pointer none).cells (pages * 1)).toList 84 1, row cb [i64 segs, i64 pages, ptr pw 0, i64 rated, slc lb 0 segs segs, nilS, i64 0, i64 0] 55 (0, 0), row pw powL 66 (0, 0), row lb (segCells pages (newSegs pages bads 0 pbs) ++ zeroSegs (n + 1)) 58 (0, 0), pgsR (newSegs pages bads 0 pbs), ownS ad cap (bads.map i64) 3 1]) (fun _ => rfl) (fun _ => rfl) (fun g D h2 K hK => op_make (mD_done 5 (by decide) (pre_at h2 0 rfl rfl) rfl rfl rfl) Tryz.underlying56 et84 (by omega) (by omega) (by omega) rfl (fun b => hK b (by
            intro j
            rcases j with _ | j
            · first | exact .inl rfl | exact .inr (by kernel_rfl)
            rcases j with _ | j
            · first | exact .inl rfl | exact .inr (by kernel_rfl)
            rcases j with _ | j
            · first | exact .inl rfl | exact .inr (by kernel_rfl)
            rcases j with _ | j
            · first | exact .inl rfl | exact .inr (by kernel_rfl)
            rcases j with _ | j
            · first | exact .inl rfl | exact .inr (by kernel_rfl)
            rcases j with _ | j
            · first | exact .inl rfl | exact .inr (by kernel_rfl)
            rcases j with _ | j
            · first | exact .inl rfl | exact .inr (by kernel_rfl)
            rcases j with _ | j
            · first | exact .inl rfl | exact .inr (by kernel_rfl)
            rcases j with _ | j
            · first | exact .inl rfl | exact .inr (by kernel_rfl)
            rcases j with _ | j
            · first | exact .inl rfl | exact .inr (by kernel_rfl)
            exact .inl rfl)))
      (.cons rfl rfl (fun g => undef) (fun _ => rfl) (fun g => [ownS (some ⟨g, 0, none⟩) pages (madeCells (Value.pointer none).cells (pages * 1)).toList 84 1, row cb [i64 segs, i64 pages, ptr pw 0, i64 rated, slc lb 0 segs segs, nilS, i64 0, i64 0] 55 (0, 0), row pw powL 66 (0, 0), row lb (segCells pages (newSegs pages bads 0 pbs) ++ zeroSegs (n + 1)) 58 (0, 0), pgsR (newSegs pages bads 0 pbs), ownS ad cap (bads.map i64) 3 1]) (fun g => [row lb (segCells pages (newSegs pages bads 0 pbs) ++ (slc g 0 pages pages :: i64 0 :: .bool false :: zeroSegs n)) 58 (0, 0), ownS (some ⟨g, 0, none⟩) pages (madeCells (Value.pointer none).cells (pages * 1)).toList 84 1, row cb [i64 segs, i64 pages, ptr pw 0, i64 rated, slc lb 0 segs segs, nilS, i64 0, i64 0] 55 (0, 0), row pw powL 66 (0, 0), pgsR (newSegs pages bads 0 pbs), ownS ad cap (bads.map i64) 3 1]) (fun _ => rfl) (fun _ => rfl) (fun g D h2 K hK => op_store (mD_done 8 (by decide) (pre_at h2 0 rfl rfl) rfl rfl rfl) (mD_done 6 (by decide) (pre_at h2 1 rfl rfl) rfl rfl rfl) Tryz.sizeOf56 rfl rfl (by first | with_reducible exact Pull.p0 | with_reducible exact Pull.p1 | with_reducible exact Pull.p2 | with_reducible exact Pull.p3 | with_reducible exact Pull.p4 | with_reducible exact Pull.p5 | with_reducible exact Pull.p6 | with_reducible exact Pull.p7 | with_reducible exact Pull.p8 | with_reducible exact Pull.p9) (zset0 _ hnl) rfl (by exact hK g (by
            intro j
            rcases j with _ | j
            · first | exact .inl rfl | exact .inr (by kernel_rfl)
            rcases j with _ | j
            · first | exact .inl rfl | exact .inr (by kernel_rfl)
            rcases j with _ | j
            · first | exact .inl rfl | exact .inr (by kernel_rfl)
            rcases j with _ | j
            · first | exact .inl rfl | exact .inr (by kernel_rfl)
            rcases j with _ | j
            · first | exact .inl rfl | exact .inr (by kernel_rfl)
            rcases j with _ | j
            · first | exact .inl rfl | exact .inr (by kernel_rfl)
            rcases j with _ | j
            · first | exact .inl rfl | exact .inr (by kernel_rfl)
            rcases j with _ | j
            · first | exact .inl rfl | exact .inr (by kernel_rfl)
            rcases j with _ | j
            · first | exact .inl rfl | exact .inr (by kernel_rfl)
            rcases j with _ | j
            · first | exact .inl rfl | exact .inr (by kernel_rfl)
            exact .inl rfl)))
      .nil)) ?_
    rintro nb
    show At _ _ ([row lb (segCells pages (newSegs pages bads 0 pbs) ++ (slc nb 0 pages pages :: i64 0 :: .bool false :: zeroSegs n)) 58 (0, 0), ownS (some ⟨nb, 0, none⟩) pages (madeCells (Value.pointer none).cells (pages * 1)).toList 84 1, row cb [i64 segs, i64 pages, ptr pw 0, i64 rated, slc lb 0 segs segs, nilS, i64 0, i64 0] 55 (0, 0), row pw powL 66 (0, 0), pgsR (newSegs pages bads 0 pbs), ownS ad cap (bads.map i64) 3 1]) _
    refine At.keep [(2, _), (4, _), (11, _), (48, _), (49, _), (12, _)] (.cons rfl (.cons rfl (.cons rfl (.cons rfl (.cons rfl (.cons rfl .nil)))))) ?_
    refine At.then_n ?_
    refine At.drawE (rs' := [row lb (segCells pages (newSegs pages bads 0 pbs) ++ (slc nb 0 pages pages :: i64 0 :: .bool (decide ((k : Int) ∈ bads)) :: zeroSegs n)) 58 (0, 0), ownS (some ⟨nb, 0, none⟩) pages (madeCells (Value.pointer none).cells (pages * 1)).toList 84 1, row cb [i64 segs, i64 pages, ptr pw 0, i64 rated, slc lb 0 segs segs, nilS, i64 0, i64 0] 55 (0, 0), row pw powL 66 (0, 0), pgsR (newSegs pages bads 0 pbs), ownS ad cap (bads.map i64) 3 1]) [10] [[row lb (segCells pages (newSegs pages bads 0 pbs) ++ (slc nb 0 pages pages :: i64 0 :: .bool (decide ((k : Int) ∈ bads)) :: zeroSegs n)) 58 (0, 0), ownS (some ⟨nb, 0, none⟩) pages (madeCells (Value.pointer none).cells (pages * 1)).toList 84 1, row cb [i64 segs, i64 pages, ptr pw 0, i64 rated, slc lb 0 segs segs, nilS, i64 0, i64 0] 55 (0, 0), row pw powL 66 (0, 0), pgsR (newSegs pages bads 0 pbs), ownS ad cap (bads.map i64) 3 1]] [_, _, _, _, _, _, _, _, _, _, undef] (by kernel_rfl) (by decide) (by kernel_rfl) (by decide) rfl 
      (.quiet 0 (by kernel_rfl) (by kernel_rfl) (.cons (Step.op rfl (fun D h1 h2 h3 K hK => op_move (mD_base rfl rfl) rfl hK)) .nil)
      (.quiet 0 (by kernel_rfl) (by kernel_rfl) (.cons (Step.op rfl (fun D h1 h2 h3 K hK => op_nilCheck (mD_done 0 (by decide) (pre_at h2 0 rfl rfl) rfl rfl rfl) rfl hK)) .nil)
      (.quiet 0 (by kernel_rfl) (by kernel_rfl) (.cons (Step.op rfl (fun D h1 h2 h3 K hK => op_fieldAddr (o' := 4) (mD_done 1 (by decide) (pre_at h2 0 rfl rfl) rfl rfl rfl) Tryz.underlying55 rfl Tryz.sizeOf53 rfl rfl hK)) .nil)
      (.quiet 0 (by kernel_rfl) (by kernel_rfl) (.cons (Step.op rfl (fun D h1 h2 h3 K hK => op_load (mD_done 2 (by decide) (pre_at h2 0 rfl rfl) rfl rfl rfl) Tryz.isAgg53 (by first | with_reducible exact Pull.p0 | with_reducible exact Pull.p1 | with_reducible exact Pull.p2 | with_reducible exact Pull.p3 | with_reducible exact Pull.p4 | with_reducible exact Pull.p5 | with_reducible exact Pull.p6 | with_reducible exact Pull.p7 | with_reducible exact Pull.p8 | with_reducible exact Pull.p9) rfl rfl hK)) .nil)
      (.quiet 0 (by kernel_rfl) (by kernel_rfl) (.cons (Step.op rfl (fun D h1 h2 h3 K hK => op_move (mD_base rfl rfl) rfl hK)) .nil)
      (.quiet 0 (by kernel_rfl) (by kernel_rfl) (.cons (Step.op rfl (fun D h1 h2 h3 K hK => op_move (mD_base rfl rfl) rfl hK)) .nil)
      (.quiet 0 (by kernel_rfl) (by kernel_rfl) (.cons (Step.op rfl (fun D h1 h2 h3 K hK => op_move (mD_base rfl rfl) rfl hK)) .nil)
      (.quiet 0 (by kernel_rfl) (by kernel_rfl) (.cons (Step.op rfl (fun D h1 h2 h3 K hK => op_callQ (evs_cons (mD_done 5 (by decide) (pre_at h2 0 rfl rfl) rfl rfl rfl) (evs_cons (mD_done 6 (by decide) (pre_at h2 1 rfl rfl) rfl rfl rfl) evs_nil)) Tryz.call18 (slices_Contains ad cap bads k hb) (.cons (by first | with_reducible exact Pull.p0 | with_reducible exact Pull.p1 | with_reducible exact Pull.p2 | with_reducible exact Pull.p3 | with_reducible exact Pull.p4 | with_reducible exact Pull.p5 | with_reducible exact Pull.p6 | with_reducible exact Pull.p7 | with_reducible exact Pull.p8 | with_reducible exact Pull.p9) .nil) rfl hK)) .nil)
      (.quiet 1 (by kernel_rfl) (by kernel_rfl) (.cons (Step.op rfl (fun D h1 h2 h3 K hK => op_indexS (mD_done 3 (by decide) (pre_at h2 0 rfl rfl) rfl rfl rfl) (mD_done 4 (by decide) (pre_at h2 1 rfl rfl) rfl rfl rfl) Tryz.underlying53 Tryz.sizeOf58 (by omega) (by omega) rfl hK)) (.cons (Step.op rfl (fun D h1 h2 h3 K hK => op_indexS (mD_done 3 (by decide) (pre_at h2 0 rfl rfl) rfl rfl rfl) (mD_done 4 (by decide) (pre_at h2 1 rfl rfl) rfl rfl rfl) Tryz.underlying53 Tryz.sizeOf58 (by omega) (by omega) rfl hK)) .nil))
      (.quiet 0 (by kernel_rfl) (by kernel_rfl) (.cons (Step.op rfl (fun D h1 h2 h3 K hK => op_fieldAddr (mD_done 8 (by decide) (pre_at h2 0 rfl rfl) rfl rfl rfl) Tryz.underlying58 rfl Tryz.sizeOf4 rfl rfl hK)) .nil)
      (.eff 0 rfl (by kernel_rfl) (by kernel_rfl) rfl rfl (Last.op rfl (fun D h2 K hK => op_store (mD_done 9 (by decide) (pre_at h2 0 rfl rfl) rfl rfl rfl) (mD_done 7 (by decide) (pre_at h2 1 rfl rfl) rfl rfl rfl) Tryz.sizeOf4 rfl rfl (by first | with_reducible exact Pull.p0 | with_reducible exact Pull.p1 | with_reducible exact Pull.p2 | with_reducible exact Pull.p3 | with_reducible exact Pull.p4 | with_reducible exact Pull.p5 | with_reducible exact Pull.p6 | with_reducible exact Pull.p7 | with_reducible exact Pull.p8 | with_reducible exact Pull.p9) (zset2 _ _ hnl) rfl (by exact hK)))
      .nil))))))))))) ?_
    refine At.keep [(2, _), (4, _), (11, _), (48, _), (49, _)] (.cons rfl (.cons rfl (.cons rfl (.cons rfl (.cons rfl .nil))))) ?_
    refine At.blk_n ?_
    refine At.then_n ?_
    refine At.region ?_
    refine At.op rfl (op_bin rfl rfl (b_add (by omega) (by omega)) rfl ?_)
    refine At.op rfl (op_move rfl rfl ?_)
    refine At.nil ?_
    refine At.then_n ?_
    rw [made_nil]
    refine At.merge (by first | with_reducible exact Pull.p0 | with_reducible exact Pull.p1 | with_reducible exact Pull.p2 | with_reducible exact Pull.p3 | with_reducible exact Pull.p4 | with_reducible exact Pull.p5 | with_reducible exact Pull.p6 | with_reducible exact Pull.p7 | with_reducible exact Pull.p8 | with_reducible exact Pull.p9) (by first | with_reducible exact Pull.p0 | with_reducible exact Pull.p1 | with_reducible exact Pull.p2 | with_reducible exact Pull.p3 | with_reducible exact Pull.p4 | with_reducible exact Pull.p5 | with_reducible exact Pull.p6 | with_reducible exact Pull.p7 | with_reducible exact Pull.p8 | with_reducible exact Pull.p9) (pgs_more 0 (decide ((k : Int) ∈ bads))) (pgs_more_fp 0 _) ?_
    refine At.back (kk := []) (k + 1, pbs ++ [nb]) ⟨by simp [hl], by dsimp only; omega⟩ (by dsimp only; omega) (.cons rfl (.cons rfl (.cons rfl (.cons rfl (.cons rfl .nil))))) ?_
    dsimp only
    rw [newSegs_snoc, segCells_append, List.append_assoc, show segs - (k + 1) = n by omega, Nat.zero_add, hl]
    exact (.cons (by first | exact Pull.p0 | exact Pull.p1 | exact Pull.p2 | exact Pull.p3 | exact Pull.p4 | exact Pull.p5 | exact Pull.p6 | exact Pull.p7 | exact Pull.p8 | exact Pull.p9) (.cons (by first | exact Pull.p0 | exact Pull.p1 | exact Pull.p2 | exact Pull.p3 | exact Pull.p4 | exact Pull.p5 | exact Pull.p6 | exact Pull.p7 | exact Pull.p8 | exact Pull.p9) (.cons (by first | exact Pull.p0 | exact Pull.p1 | exact Pull.p2 | exact Pull.p3 | exact Pull.p4 | exact Pull.p5 | exact Pull.p6 | exact Pull.p7 | exact Pull.p8 | exact Pull.p9) (.cons (by first | exact Pull.p0 | exact Pull.p1 | exact Pull.p2 | exact Pull.p3 | exact Pull.p4 | exact Pull.p5 | exact Pull.p6 | exact Pull.p7 | exact Pull.p8 | exact Pull.p9) (.cons (by first | exact Pull.p0 | exact Pull.p1 | exact Pull.p2 | exact Pull.p3 | exact Pull.p4 | exact Pull.p5 | exact Pull.p6 | exact Pull.p7 | exact Pull.p8 | exact Pull.p9) .nil)))))
  ·
    obtain rfl : k = segs := by omega
    rw [show k - k = 0 from Nat.sub_self _, show zeroSegs 0 = [] from rfl, List.append_nil]
    refine At.exit ?_
    refine At.then_e ?_
    refine At.then_e ?_
    refine At.blk_e ?_
    refine At.then_n ?_
    refine At.seq ?_
    refine At.region ?_
    refine At.op rfl (op_move rfl rfl ?_)
    refine At.op rfl (op_assign rfl rfl ?_)
    refine At.nil ?_
    refine At.then_n ?_
    refine At.ret ?_
    refine At.own0 9 1 ?_
    refine At.unchip (Chp.mk cb pw lb k pages rated (newSegs pages bads 0 pbs) none 0 [] 0 0) (.cons (by first | exact Pull.p0 | exact Pull.p1 | exact Pull.p2 | exact Pull.p3 | exact Pull.p4 | exact Pull.p5 | exact Pull.p6 | exact Pull.p7 | exact Pull.p8 | exact Pull.p9) (.cons (by first | exact Pull.p0 | exact Pull.p1 | exact Pull.p2 | exact Pull.p3 | exact Pull.p4 | exact Pull.p5 | exact Pull.p6 | exact Pull.p7 | exact Pull.p8 | exact Pull.p9) (.cons (by first | exact Pull.p0 | exact Pull.p1 | exact Pull.p2 | exact Pull.p3 | exact Pull.p4 | exact Pull.p5 | exact Pull.p6 | exact Pull.p7 | exact Pull.p8 | exact Pull.p9) (.cons (by first | exact Pull.p0 | exact Pull.p1 | exact Pull.p2 | exact Pull.p3 | exact Pull.p4 | exact Pull.p5 | exact Pull.p6 | exact Pull.p7 | exact Pull.p8 | exact Pull.p9) (.cons (by first | exact Pull.p0 | exact Pull.p1 | exact Pull.p2 | exact Pull.p3 | exact Pull.p4 | exact Pull.p5 | exact Pull.p6 | exact Pull.p7 | exact Pull.p8 | exact Pull.p9) .nil))))) ?_
    exact At.fin1 rfl rfl rfl ⟨_, newChp_wf h1 h2 h3 hl, newChp_fresh, rfl, rfl⟩ (.cons (by first | with_reducible exact Pull.p0 | with_reducible exact Pull.p1 | with_reducible exact Pull.p2 | with_reducible exact Pull.p3 | with_reducible exact Pull.p4 | with_reducible exact Pull.p5 | with_reducible exact Pull.p6 | with_reducible exact Pull.p7 | with_reducible exact Pull.p8 | with_reducible exact Pull.p9) .nil)
end Go.Proofs.YteckdahgkkmlaaaGreatDoor
