/- Walks of the program's functions. -/
import Derived.Test.YteckdahgkkmlaaaGreatDoorSLL1
import Derived.Test.YteckdahgkkmlaaaGreatDoorSLC5
import Derived.KernelRfl
set_option maxRecDepth 20000
set_option linter.unusedVariables false
set_option linter.unusedSimpArgs false
namespace Go.Proofs.YteckdahgkkmlaaaGreatDoor
open Go SL
variable {G : List (Nat × Obj)}
theorem loc_cells {w : World} {b cp n k : Nat} (h : k < n) (hw : (ownS (some ⟨b, 0, none⟩) cp (locC n) 32 2).holds w) (j : Nat) (v : Value) (hj : [i64 (k / 5 : Nat), i64 (k % 5 : Nat)][j]? = some v) : w.cell? ⟨b, 0 + ((k : Nat) : Int).toNat * 2 + j, none⟩ = some v := by
  rw [Nat.zero_add, Int.toNat_natCast]
  rcases j with _ | _ | j
  · cases hj; exact ownS_cell hw (locC_get0 h)
  · cases hj; exact ownS_cell hw (locC_get1 h)
  · simp at hj
theorem seq_next (k : Nat) : UInt64.ofNat (k + 1) + 1 = UInt64.ofNat (k + 1 + 1) := by
  apply UInt64.toNat_inj.1
  rw [UInt64.toNat_add, UInt64.toNat_ofNat', UInt64.toNat_ofNat']
  show ((k + 1) % 2 ^ 64 + 1) % 2 ^ 64 = _
  omega
theorem law13_SeglogReads (hG : GOK G) (q : UInt8) (ad : Option Addr) (cp : Nat) (xs : List (List UInt8)) (hxs : ArgS G ad (xs.map str)) : Does Tryz.prog G 4 [.slice ad xs.length cp, u8 q] [] (One (.bool true)) := by
  refine Does.of Tryz.func4 rfl Tryz.ntmps4 rfl (fun w0 => ?_)
  refine At.keep [(0, _), (1, _)] (.cons rfl (.cons rfl .nil)) ?_
  obtain ⟨kk, hkk0⟩ : ∃ x, x = q.toNat % 10 := ⟨_, rfl⟩
  have hkk : kk < 10 := by omega
  have hq := q.toNat_lt
  refine At.seq ?_
  refine At.region ?_
  refine At.op rfl (op_assign rfl rfl ?_)
  refine At.nil ?_
  refine At.then_n ?_
  refine At.seq ?_
  refine At.seq ?_
  refine At.region ?_
  refine At.op rfl (op_move rfl rfl ?_)
  refine At.op rfl (op_len_slc rfl Tryz.underlying38 rfl ?_)
  refine At.op rfl (op_bin rfl rfl b_gt rfl ?_)
  refine At.op rfl (op_move rfl rfl ?_)
  refine At.dsplit (i := 23) rfl (fun hlong => ?_) (fun hlong => ?_)
  ·
    refine At.opk (want := true) rfl rfl rfl rfl rfl ?_
    refine At.opk (want := true) rfl rfl rfl rfl rfl ?_
    refine At.op rfl (op_pick_t rfl rfl rfl ?_)
    refine At.nil ?_
    refine At.then_n ?_
    refine At.cond_t rfl ?_
    refine At.seq ?_
    refine At.region ?_
    refine At.op rfl (op_call1 rfl Tryz.call9 (law13_shown hG) rfl ?_)
    refine At.op rfl (op_assign rfl rfl ?_)
    refine At.nil ?_
    refine At.then_n ?_
    refine At.ret ?_
    refine At.then_r ?_
    exact At.fin1 rfl rfl rfl ⟨rfl, rfl⟩ .nil
  ·
    refine At.opg rfl rfl rfl (op_call1 rfl Tryz.call9 (law13_shown hG) rfl ?_)
    refine At.opg rfl rfl rfl (op_not rfl rfl ?_)
    refine At.op rfl (op_pick_f rfl rfl rfl ?_)
    refine At.nil ?_
    refine At.then_n ?_
    refine At.cond_f rfl ?_
    refine At.skip ?_
    refine At.then_n ?_
    refine At.seq ?_
    refine At.region ?_
    refine At.op rfl (op_callF rfl Tryz.call7 nand_NewPower .nil rfl ?_)
    rintro v _ ⟨pw, rfl, rfl⟩
    refine At.app1 ?_
    refine At.own0 3 1 ?_
    refine At.op rfl (op_callF rfl Tryz.call6 (nand_New pw 10 5 9 none 0 [] (by decide) (by decide) (by decide) (by decide)) (.cons (by first | exact Pull.p0 | exact Pull.p1 | exact Pull.p2 | exact Pull.p3 | exact Pull.p4 | exact Pull.p5 | exact Pull.p6 | exact Pull.p7 | exact Pull.p8 | exact Pull.p9) (.cons (by first | exact Pull.p0 | exact Pull.p1 | exact Pull.p2 | exact Pull.p3 | exact Pull.p4 | exact Pull.p5 | exact Pull.p6 | exact Pull.p7 | exact Pull.p8 | exact Pull.p9) .nil)) rfl ?_)
    rintro v _ ⟨c, hc, hfr, rfl, rfl⟩
    refine At.app1 ?_
    refine At.op rfl (op_assign rfl rfl ?_)
    refine At.nil ?_
    refine At.then_n ?_
    refine At.seq ?_
    refine At.region ?_
    refine At.op rfl (op_move rfl rfl ?_)
    refine At.op rfl (op_callF rfl Tryz.call8 (seglog_Mount hG c hc) (.cons (by first | with_reducible exact Pull.p0 | with_reducible exact Pull.p1 | with_reducible exact Pull.p2 | with_reducible exact Pull.p3 | with_reducible exact Pull.p4 | with_reducible exact Pull.p5 | with_reducible exact Pull.p6 | with_reducible exact Pull.p7 | with_reducible exact Pull.p8 | with_reducible exact Pull.p9) .nil) rfl ?_)
    rintro v _ ⟨g, rfl, hop, hret, hseq, rfl⟩
    refine At.app3 ?_
    have habs := abs_new hc hfr hop hret
    have hgo : opOK g c := .inl hop
    have hsq : g.seq = 1 := hseq.trans (seq_fresh hfr)
    refine At.op rfl (op_move rfl rfl ?_)
    refine At.op rfl (op_extractL rfl .zero rfl ?_)
    refine At.op rfl (op_extractL rfl (.succ .zero) rfl ?_)
    refine At.op rfl (op_assign rfl rfl ?_)
    refine At.op rfl (op_assign rfl rfl ?_)
    refine At.nil ?_
    refine At.then_n ?_
    refine At.seq ?_
    refine At.seq ?_
    refine At.keep [(0, _), (1, _), (4, _), (5, _), (6, _), (7, _)] (.cons rfl (.cons rfl (.cons rfl (.cons rfl (.cons rfl (.cons rfl .nil)))))) ?_
    refine At.region ?_
    refine At.op rfl (op_move rfl rfl ?_)
    refine At.op rfl (op_bin rfl rfl (Bin.cast (v' := .bool false) b_ne (congrArg Value.bool (by rw [decide_eq_true rfl]; rfl))) rfl ?_)
    refine At.op rfl (op_move rfl rfl ?_)
    refine At.opg rfl rfl rfl (op_move rfl rfl ?_)
    refine At.opg rfl rfl rfl (op_bin rfl rfl (Bin.cast (v' := .bool false) (b_pnil Tryz.underlying26) rfl) rfl ?_)
    refine At.op rfl (op_pick_f rfl rfl rfl ?_)
    refine At.nil ?_
    refine At.then_n ?_
    refine At.cond_f rfl ?_
    refine At.skip ?_
    refine At.then_n ?_
    refine At.seq ?_
    refine At.region ?_
    refine At.op rfl (op_buildSlice0 Tryz.underlying39 et32 rfl ?_)
    intro b7
    refine At.row_own (by first | with_reducible exact Pull.p0 | with_reducible exact Pull.p1 | with_reducible exact Pull.p2 | with_reducible exact Pull.p3 | with_reducible exact Pull.p4 | with_reducible exact Pull.p5 | with_reducible exact Pull.p6 | with_reducible exact Pull.p7 | with_reducible exact Pull.p8 | with_reducible exact Pull.p9) (n := 0) (sz := 2) (by rfl) (by decide) ?_
    refine At.op rfl (op_assign rfl rfl ?_)
    refine At.nil ?_
    refine At.then_n ?_
    refine At.seq ?_
    refine At.seq ?_
    refine At.region ?_
    refine At.op rfl (op_assign rfl rfl ?_)
    refine At.nil ?_
    refine At.then_n ?_
    refine At.block ?_
    refine At.cut (rs' := (fun s => [chipR s.2.1, logRow s.2.2.1 s.2.1.cb, logMap s.2.2.1, ownS s.2.2.2.1 s.2.2.2.2 (locC s.1) 32 2]) ((0, c, g, some ⟨b7, 0, none⟩, 0) : Nat × Chp × Lg × Option Addr × Nat)) (.cons (by first | exact Pull.p0 | exact Pull.p1 | exact Pull.p2 | exact Pull.p3 | exact Pull.p4 | exact Pull.p5 | exact Pull.p6 | exact Pull.p7 | exact Pull.p8 | exact Pull.p9) (.cons (by first | exact Pull.p0 | exact Pull.p1 | exact Pull.p2 | exact Pull.p3 | exact Pull.p4 | exact Pull.p5 | exact Pull.p6 | exact Pull.p7 | exact Pull.p8 | exact Pull.p9) (.cons (by first | exact Pull.p0 | exact Pull.p1 | exact Pull.p2 | exact Pull.p3 | exact Pull.p4 | exact Pull.p5 | exact Pull.p6 | exact Pull.p7 | exact Pull.p8 | exact Pull.p9) (.cons (by first | exact Pull.p0 | exact Pull.p1 | exact Pull.p2 | exact Pull.p3 | exact Pull.p4 | exact Pull.p5 | exact Pull.p6 | exact Pull.p7 | exact Pull.p8 | exact Pull.p9) .nil)))) ?_
    refine At.keep ((fun s => [(0, .slice ad xs.length cp), (1, u8 q), (5, ptr s.2.1.cb 0), (6, ptr s.2.2.1.lb 0), (8, .slice s.2.2.2.1 s.1 s.2.2.2.2), (9, i64 s.1)]) ((0, c, g, some ⟨b7, 0, none⟩, 0) : Nat × Chp × Lg × Option Addr × Nat)) (.cons rfl (.cons rfl (.cons rfl (.cons rfl (.cons rfl (.cons rfl .nil)))))) ?_
    refine At.loop (σ := Nat × Chp × Lg × Option Addr × Nat) (fun s => s.1 ≤ xs.length ∧ s.2.1.wf ∧ opOK s.2.2.1 s.2.1 ∧ abs s.2.2.1 s.2.1 = iter (fun a => a.app 0) s.1 qA ∧ s.2.1.past.length = s.1 ∧ s.2.1.segs = 10 ∧ s.2.1.pages = 5 ∧ s.2.2.1.seq = UInt64.ofNat (s.1 + 1) ∧ HasN s.2.1 xs s.1) (fun s => [(0, .slice ad xs.length cp), (1, u8 q), (5, ptr s.2.1.cb 0), (6, ptr s.2.2.1.lb 0), (8, .slice s.2.2.2.1 s.1 s.2.2.2.2), (9, i64 s.1)]) (fun s => [chipR s.2.1, logRow s.2.2.1 s.2.1.cb, logMap s.2.2.1, ownS s.2.2.2.1 s.2.2.2.2 (locC s.1) 32 2]) (fun s => xs.length - s.1) ((0, c, g, some ⟨b7, 0, none⟩, 0) : Nat × Chp × Lg × Option Addr × Nat) ⟨Nat.zero_le _, hc, hgo, habs, by simp [hfr.fpast], hfr.fsegs, hfr.fpages, hsq, hasN_new hfr xs⟩ ?_
    rintro ⟨k, c, g, wd, wc⟩ ⟨hk, hc, ho, ha, hpl, hsg, hpgs, hsq, hhas⟩
    dsimp only at hk hc ho ha hpl hsg hpgs hsq hhas ⊢
    refine At.seq ?_
    refine At.seq ?_
    refine At.region ?_
    refine At.op rfl (op_move rfl rfl ?_)
    refine At.op rfl (op_move rfl rfl ?_)
    refine At.op rfl (op_len_slc rfl Tryz.underlying38 rfl ?_)
    refine At.op rfl (op_bin rfl rfl b_lt rfl ?_)
    refine At.nil ?_
    refine At.then_n ?_
    refine At.cond_p rfl (fun hlt0 => ?_) (fun hlt0 => ?_)
    ·
      have hk40 : k < 40 := by omega
      obtain ⟨x, hx⟩ : ∃ x, xs[k]? = some x := ⟨_, List.getElem?_eq_getElem (by omega)⟩
      have hgx : xs.getD k [] = x := by simp [hx]
      obtain ⟨eb, eo, rfl, hcell⟩ := hxs k (str x) (by rw [List.getElem?_map, hx]; rfl)
      have hi : (abs g c).appSeg 0 = some (k / 5) := by rw [ha]; exact (q_app k hk40).1
      have hn5 : (c.next (k / 5)).toNat = k % 5 := by rw [← abs_next g, ha, (q_app k hk40).2]; rfl
      have hpg : putS (kdN k) g.seq (cutT x) = pgN xs k := by rw [pgN, hgx, hsq]
      refine At.skip ?_
      refine At.then_n ?_
      refine At.seq ?_
      refine At.block ?_
      refine At.seq ?_
      refine At.drawG (γ := Nat × Nat × Option Addr × Nat) (0, 0, none, 0) (fun D gh => bif D 21 then (row gh.1 [i64 (k / 5 : Nat), i64 (k % 5 : Nat)] 32 (0, 0) :: [chipR (c.prog (k / 5) (k % 5) gh.2.1 (pgN xs k) gh.2.2.1 gh.2.2.2), logRow (Lg.mk g.lb g.mb ((k / 5 : Nat) : Int) (g.seq + 1) g.ret g.clock) c.cb, logMap g, ownS wd wc (locC k) 32 2]) else bif D 20 then (row gh.1 [i64 0, i64 0] 32 (0, 0) :: (bif D 16 then [chipR (c.prog (k / 5) (k % 5) gh.2.1 (pgN xs k) gh.2.2.1 gh.2.2.2), logRow (Lg.mk g.lb g.mb ((k / 5 : Nat) : Int) (g.seq + 1) g.ret g.clock) c.cb, logMap g, ownS wd wc (locC k) 32 2] else [chipR c, logRow g c.cb, logMap g, ownS wd wc (locC k) 32 2])) else (bif D 16 then [chipR (c.prog (k / 5) (k % 5) gh.2.1 (pgN xs k) gh.2.2.1 gh.2.2.2), logRow (Lg.mk g.lb g.mb ((k / 5 : Nat) : Int) (g.seq + 1) g.ret g.clock) c.cb, logMap g, ownS wd wc (locC k) 32 2] else [chipR c, logRow g c.cb, logMap g, ownS wd wc (locC k) 32 2])) (fun gh => [ptr g.lb 0, i64 k, i64 (k % 3 : Nat), u8 (UInt8.ofNat (k % 3)), u8 (kdN k), slc eb eo xs.length cp, i64 k, ptr eb (eo + ((k : Nat) : Int).toNat * 1), str x, slc eb eo xs.length cp, i64 k, ptr eb (eo + ((k : Nat) : Int).toNat * 1), str x, i64 x.length, i64 (if (229 : Int) < (x.length : Int) then 229 else (x.length : Int)), str (cutT x), .tuple #[.agg [i64 (k / 5 : Nat), i64 (k % 5 : Nat)].toArray, i64 0], .tuple #[.agg [i64 (k / 5 : Nat), i64 (k % 5 : Nat)].toArray, i64 0], .agg [i64 (k / 5 : Nat), i64 (k % 5 : Nat)].toArray, i64 0, ptr gh.1 0, undef, i64 0]) (by kernel_rfl) (by decide) (by kernel_rfl) (fun _ => rfl) rfl 
        (.quiet (fun gh => ptr g.lb 0) (fun _ => rfl) (fun _ _ => rfl) (fun gh r => Step.op rfl (fun D h1 h2 h3 K hK => op_move (mD_base rfl rfl) rfl hK))
        (.quiet (fun gh => i64 k) (fun _ => rfl) (fun _ _ => rfl) (fun gh r => Step.op rfl (fun D h1 h2 h3 K hK => op_move (mD_base rfl rfl) rfl hK))
        (.quiet (fun gh => i64 (k % 3 : Nat)) (fun _ => rfl) (fun _ _ => rfl) (fun gh r => Step.op rfl (fun D h1 h2 h3 K hK => op_bin (mD_done 1 (by decide) (pre_at h2 0 rfl rfl) rfl rfl rfl) rfl (Bin.cast (v' := i64 (k % 3 : Nat)) (b_rem (by omega) (by decide)) (congrArg (Value.int .i64) (by omega))) rfl hK))
        (.quiet (fun gh => u8 (UInt8.ofNat (k % 3))) (fun _ => rfl) (fun _ _ => rfl) (fun gh r => Step.op rfl (fun D h1 h2 h3 K hK => op_conv (mD_done 2 (by decide) (pre_at h2 0 rfl rfl) rfl rfl rfl) (cv_i64_u8 Tryz.underlying3 Tryz.underlying5 (k % 3)) rfl hK))
        (.quiet (fun gh => u8 (kdN k)) (fun _ => rfl) (fun _ _ => rfl) (fun gh r => Step.op rfl (fun D h1 h2 h3 K hK => op_bin rfl (mD_done 3 (by decide) (pre_at h2 0 rfl rfl) rfl rfl rfl) (b8_add (1 : UInt8) _) rfl hK))
        (.quiet (fun gh => slc eb eo xs.length cp) (fun _ => rfl) (fun _ _ => rfl) (fun gh r => Step.op rfl (fun D h1 h2 h3 K hK => op_move (mD_base rfl rfl) rfl hK))
        (.quiet (fun gh => i64 k) (fun _ => rfl) (fun _ _ => rfl) (fun gh r => Step.op rfl (fun D h1 h2 h3 K hK => op_move (mD_base rfl rfl) rfl hK))
        (.quiet (fun gh => ptr eb (eo + ((k : Nat) : Int).toNat * 1)) (fun _ => rfl) (fun _ _ => rfl) (fun gh r => Step.op rfl (fun D h1 h2 h3 K hK => op_indexS (mD_done 5 (by decide) (pre_at h2 0 rfl rfl) rfl rfl rfl) (mD_done 6 (by decide) (pre_at h2 1 rfl rfl) rfl rfl rfl) Tryz.underlying38 Tryz.sizeOf9 (by omega) (by omega) rfl hK))
        (.quiet (fun gh => str x) (fun _ => rfl) (fun _ _ => rfl) (fun gh r => Step.op rfl (fun D h1 h2 h3 K hK => op_loadK (mD_done 7 (by decide) (pre_at h2 0 rfl rfl) rfl rfl rfl) Tryz.isAgg9 (fun w hw => by simpa using hcell w hw) rfl hK))
        (.quiet (fun gh => slc eb eo xs.length cp) (fun _ => rfl) (fun _ _ => rfl) (fun gh r => Step.op rfl (fun D h1 h2 h3 K hK => op_move (mD_base rfl rfl) rfl hK))
        (.quiet (fun gh => i64 k) (fun _ => rfl) (fun _ _ => rfl) (fun gh r => Step.op rfl (fun D h1 h2 h3 K hK => op_move (mD_base rfl rfl) rfl hK))
        (.quiet (fun gh => ptr eb (eo + ((k : Nat) : Int).toNat * 1)) (fun _ => rfl) (fun _ _ => rfl) (fun gh r => Step.op rfl (fun D h1 h2 h3 K hK => op_indexS (mD_done 9 (by decide) (pre_at h2 0 rfl rfl) rfl rfl rfl) (mD_done 10 (by decide) (pre_at h2 1 rfl rfl) rfl rfl rfl) Tryz.underlying38 Tryz.sizeOf9 (by omega) (by omega) rfl hK))
        (.quiet (fun gh => str x) (fun _ => rfl) (fun _ _ => rfl) (fun gh r => Step.op rfl (fun D h1 h2 h3 K hK => op_loadK (mD_done 11 (by decide) (pre_at h2 0 rfl rfl) rfl rfl rfl) Tryz.isAgg9 (fun w hw => by simpa using hcell w hw) rfl hK))
        (.quiet (fun gh => i64 x.length) (fun _ => rfl) (fun _ _ => rfl) (fun gh r => Step.op rfl (fun D h1 h2 h3 K hK => op_len_str (mD_done 12 (by decide) (pre_at h2 0 rfl rfl) rfl rfl rfl) Tryz.underlying9 rfl hK))
        (.quiet (fun gh => i64 (if (229 : Int) < (x.length : Int) then 229 else (x.length : Int))) (fun _ => rfl) (fun _ _ => rfl) (fun gh r => Step.op rfl (fun D h1 h2 h3 K hK => op_min (mD_done 13 (by decide) (pre_at h2 0 rfl rfl) rfl rfl rfl) rfl rfl hK))
        (.quiet (fun gh => str (cutT x)) (fun _ => rfl) (fun _ _ => rfl) (fun gh r => Step.op rfl (fun D h1 h2 h3 K hK => op_sl_str_hi (mD_done 8 (by decide) (pre_at h2 0 rfl rfl) rfl rfl rfl) (mD_done 14 (by decide) (pre_at h2 1 rfl rfl) rfl rfl rfl) Tryz.underlying9 (by split <;> omega) (by split <;> omega) rfl hK))
        (.eff rfl (fun gh D h1 h2 h3 K hK => by
            have e21 : D 21 = false := not_yet h3 (q := 21) rfl 2 rfl rfl h1
            cases e20 : D 20 with
            | false =>
              simp only [e21, e20, h1, cond_false, cond_true]
              refine op_callF (evs_cons (mD_done 0 (by decide) (pre_at h2 0 rfl rfl) rfl rfl rfl) (evs_cons (mD_done 4 (by decide) (pre_at h2 1 rfl rfl) rfl rfl rfl) (evs_cons (mD_done 15 (by decide) (pre_at h2 2 rfl rfl) rfl rfl rfl) (evs_cons rfl evs_nil)))) Tryz.call10 (by have := seglog_Append (G := G) hG c hc g ho (kdN k) (cutT x) 0 (kdN_ne k) (cutT_length x) (by omega); rw [hi] at this; simp only [hn5] at this; exact this) (.cons (by first | exact Pull.p0 | exact Pull.p1 | exact Pull.p2 | exact Pull.p3 | exact Pull.p4 | exact Pull.p5 | exact Pull.p6 | exact Pull.p7 | exact Pull.p8 | exact Pull.p9) (.cons (by first | exact Pull.p0 | exact Pull.p1 | exact Pull.p2 | exact Pull.p3 | exact Pull.p4 | exact Pull.p5 | exact Pull.p6 | exact Pull.p7 | exact Pull.p8 | exact Pull.p9) (.cons (by first | exact Pull.p0 | exact Pull.p1 | exact Pull.p2 | exact Pull.p3 | exact Pull.p4 | exact Pull.p5 | exact Pull.p6 | exact Pull.p7 | exact Pull.p8 | exact Pull.p9) .nil))) rfl (fun v us hu => ?_)
              obtain ⟨sb, pa, pc, rfl, rfl⟩ := hu
              have h := hK (gh.1, sb, pa, pc) (by
                intro j hj
                rcases j with _ | j
                · first | exact rfl | exact absurd hj (by rw [h1]; decide)
                rcases j with _ | j
                · first | exact rfl | exact absurd hj (by rw [h1]; decide)
                rcases j with _ | j
                · first | exact rfl | exact absurd hj (by rw [h1]; decide)
                rcases j with _ | j
                · first | exact rfl | exact absurd hj (by rw [h1]; decide)
                rcases j with _ | j
                · first | exact rfl | exact absurd hj (by rw [h1]; decide)
                rcases j with _ | j
                · first | exact rfl | exact absurd hj (by rw [h1]; decide)
                rcases j with _ | j
                · first | exact rfl | exact absurd hj (by rw [h1]; decide)
                rcases j with _ | j
                · first | exact rfl | exact absurd hj (by rw [h1]; decide)
                rcases j with _ | j
                · first | exact rfl | exact absurd hj (by rw [h1]; decide)
                rcases j with _ | j
                · first | exact rfl | exact absurd hj (by rw [h1]; decide)
                rcases j with _ | j
                · first | exact rfl | exact absurd hj (by rw [h1]; decide)
                rcases j with _ | j
                · first | exact rfl | exact absurd hj (by rw [h1]; decide)
                rcases j with _ | j
                · first | exact rfl | exact absurd hj (by rw [h1]; decide)
                rcases j with _ | j
                · first | exact rfl | exact absurd hj (by rw [h1]; decide)
                rcases j with _ | j
                · first | exact rfl | exact absurd hj (by rw [h1]; decide)
                rcases j with _ | j
                · first | exact rfl | exact absurd hj (by rw [h1]; decide)
                rcases j with _ | j
                · first | exact rfl | exact absurd hj (by rw [h1]; decide)
                rcases j with _ | j
                · first | exact rfl | exact absurd hj (by rw [h1]; decide)
                rcases j with _ | j
                · first | exact rfl | exact absurd hj (by rw [h1]; decide)
                rcases j with _ | j
                · first | exact rfl | exact absurd hj (by rw [h1]; decide)
                rcases j with _ | j
                · first | exact rfl | exact absurd hj (by rw [h1]; decide)
                rcases j with _ | j
                · first | exact rfl | exact absurd hj (by rw [h1]; decide)
                rcases j with _ | j
                · first | exact rfl | exact absurd hj (by rw [h1]; decide)
                exact rfl) _ rfl
              simp only at h
              have u1 : upd D 16 21 = false := e21
              have u2 : upd D 16 20 = false := e20
              have u3 : upd D 16 16 = true := rfl
              simp only [u1, u2, u3, cond_false, cond_true] at h
              rw [hpg]
              exact At.cut (.cons (by first | exact Pull.p0 | exact Pull.p1 | exact Pull.p2 | exact Pull.p3 | exact Pull.p4 | exact Pull.p5 | exact Pull.p6 | exact Pull.p7 | exact Pull.p8 | exact Pull.p9) (.cons (by first | exact Pull.p0 | exact Pull.p1 | exact Pull.p2 | exact Pull.p3 | exact Pull.p4 | exact Pull.p5 | exact Pull.p6 | exact Pull.p7 | exact Pull.p8 | exact Pull.p9) (.cons (by first | exact Pull.p0 | exact Pull.p1 | exact Pull.p2 | exact Pull.p3 | exact Pull.p4 | exact Pull.p5 | exact Pull.p6 | exact Pull.p7 | exact Pull.p8 | exact Pull.p9) (.cons (by first | exact Pull.p0 | exact Pull.p1 | exact Pull.p2 | exact Pull.p3 | exact Pull.p4 | exact Pull.p5 | exact Pull.p6 | exact Pull.p7 | exact Pull.p8 | exact Pull.p9) .nil)))) h
            | true =>
              simp only [e21, e20, h1, cond_false, cond_true]
              refine op_callF (evs_cons (mD_done 0 (by decide) (pre_at h2 0 rfl rfl) rfl rfl rfl) (evs_cons (mD_done 4 (by decide) (pre_at h2 1 rfl rfl) rfl rfl rfl) (evs_cons (mD_done 15 (by decide) (pre_at h2 2 rfl rfl) rfl rfl rfl) (evs_cons rfl evs_nil)))) Tryz.call10 (by have := seglog_Append (G := G) hG c hc g ho (kdN k) (cutT x) 0 (kdN_ne k) (cutT_length x) (by omega); rw [hi] at this; simp only [hn5] at this; exact this) (.cons (by first | exact Pull.p0 | exact Pull.p1 | exact Pull.p2 | exact Pull.p3 | exact Pull.p4 | exact Pull.p5 | exact Pull.p6 | exact Pull.p7 | exact Pull.p8 | exact Pull.p9) (.cons (by first | exact Pull.p0 | exact Pull.p1 | exact Pull.p2 | exact Pull.p3 | exact Pull.p4 | exact Pull.p5 | exact Pull.p6 | exact Pull.p7 | exact Pull.p8 | exact Pull.p9) (.cons (by first | exact Pull.p0 | exact Pull.p1 | exact Pull.p2 | exact Pull.p3 | exact Pull.p4 | exact Pull.p5 | exact Pull.p6 | exact Pull.p7 | exact Pull.p8 | exact Pull.p9) .nil))) rfl (fun v us hu => ?_)
              obtain ⟨sb, pa, pc, rfl, rfl⟩ := hu
              have h := hK (gh.1, sb, pa, pc) (by
                intro j hj
                rcases j with _ | j
                · first | exact rfl | exact absurd hj (by rw [h1]; decide)
                rcases j with _ | j
                · first | exact rfl | exact absurd hj (by rw [h1]; decide)
                rcases j with _ | j
                · first | exact rfl | exact absurd hj (by rw [h1]; decide)
                rcases j with _ | j
                · first | exact rfl | exact absurd hj (by rw [h1]; decide)
                rcases j with _ | j
                · first | exact rfl | exact absurd hj (by rw [h1]; decide)
                rcases j with _ | j
                · first | exact rfl | exact absurd hj (by rw [h1]; decide)
                rcases j with _ | j
                · first | exact rfl | exact absurd hj (by rw [h1]; decide)
                rcases j with _ | j
                · first | exact rfl | exact absurd hj (by rw [h1]; decide)
                rcases j with _ | j
                · first | exact rfl | exact absurd hj (by rw [h1]; decide)
                rcases j with _ | j
                · first | exact rfl | exact absurd hj (by rw [h1]; decide)
                rcases j with _ | j
                · first | exact rfl | exact absurd hj (by rw [h1]; decide)
                rcases j with _ | j
                · first | exact rfl | exact absurd hj (by rw [h1]; decide)
                rcases j with _ | j
                · first | exact rfl | exact absurd hj (by rw [h1]; decide)
                rcases j with _ | j
                · first | exact rfl | exact absurd hj (by rw [h1]; decide)
                rcases j with _ | j
                · first | exact rfl | exact absurd hj (by rw [h1]; decide)
                rcases j with _ | j
                · first | exact rfl | exact absurd hj (by rw [h1]; decide)
                rcases j with _ | j
                · first | exact rfl | exact absurd hj (by rw [h1]; decide)
                rcases j with _ | j
                · first | exact rfl | exact absurd hj (by rw [h1]; decide)
                rcases j with _ | j
                · first | exact rfl | exact absurd hj (by rw [h1]; decide)
                rcases j with _ | j
                · first | exact rfl | exact absurd hj (by rw [h1]; decide)
                rcases j with _ | j
                · first | exact rfl | exact absurd hj (by rw [h1]; decide)
                rcases j with _ | j
                · first | exact rfl | exact absurd hj (by rw [h1]; decide)
                rcases j with _ | j
                · first | exact rfl | exact absurd hj (by rw [h1]; decide)
                exact rfl) _ rfl
              simp only at h
              have u1 : upd D 16 21 = false := e21
              have u2 : upd D 16 20 = true := e20
              have u3 : upd D 16 16 = true := rfl
              simp only [u1, u2, u3, cond_false, cond_true] at h
              rw [hpg]
              exact At.cut (.cons (by first | exact Pull.p0 | exact Pull.p1 | exact Pull.p2 | exact Pull.p3 | exact Pull.p4 | exact Pull.p5 | exact Pull.p6 | exact Pull.p7 | exact Pull.p8 | exact Pull.p9) (.cons (by first | exact Pull.p0 | exact Pull.p1 | exact Pull.p2 | exact Pull.p3 | exact Pull.p4 | exact Pull.p5 | exact Pull.p6 | exact Pull.p7 | exact Pull.p8 | exact Pull.p9) (.cons (by first | exact Pull.p0 | exact Pull.p1 | exact Pull.p2 | exact Pull.p3 | exact Pull.p4 | exact Pull.p5 | exact Pull.p6 | exact Pull.p7 | exact Pull.p8 | exact Pull.p9) (.cons (by first | exact Pull.p0 | exact Pull.p1 | exact Pull.p2 | exact Pull.p3 | exact Pull.p4 | exact Pull.p5 | exact Pull.p6 | exact Pull.p7 | exact Pull.p8 | exact Pull.p9) (.cons (by first | exact Pull.p0 | exact Pull.p1 | exact Pull.p2 | exact Pull.p3 | exact Pull.p4 | exact Pull.p5 | exact Pull.p6 | exact Pull.p7 | exact Pull.p8 | exact Pull.p9) .nil))))) h
          )
        (.quiet (fun gh => .tuple #[.agg [i64 (k / 5 : Nat), i64 (k % 5 : Nat)].toArray, i64 0]) (fun _ => rfl) (fun _ _ => rfl) (fun gh r => Step.op rfl (fun D h1 h2 h3 K hK => op_move (mD_done 16 (by decide) (pre_at h2 0 rfl rfl) rfl rfl rfl) rfl hK))
        (.quiet (fun gh => .agg [i64 (k / 5 : Nat), i64 (k % 5 : Nat)].toArray) (fun _ => rfl) (fun _ _ => rfl) (fun gh r => Step.op rfl (fun D h1 h2 h3 K hK => op_extractL (mD_done 17 (by decide) (pre_at h2 0 rfl rfl) rfl rfl rfl) .zero rfl hK))
        (.quiet (fun gh => i64 0) (fun _ => rfl) (fun _ _ => rfl) (fun gh r => Step.op rfl (fun D h1 h2 h3 K hK => op_extractL (mD_done 17 (by decide) (pre_at h2 0 rfl rfl) rfl rfl rfl) (.succ .zero) rfl hK))
        (.eff rfl (fun gh D h1 h2 h3 K hK => by
            have e21 : D 21 = false := not_yet h3 (q := 21) rfl 0 rfl rfl h1
            simp only [e21, h1, cond_false]
            refine op_alloc (cs := [i64 0, i64 0]) Tryz.zeroValue32 rfl rfl (fun b => ?_)
            have h := hK (b, gh.2) (by
                intro j hj
                rcases j with _ | j
                · first | exact rfl | exact absurd hj (by rw [h1]; decide)
                rcases j with _ | j
                · first | exact rfl | exact absurd hj (by rw [h1]; decide)
                rcases j with _ | j
                · first | exact rfl | exact absurd hj (by rw [h1]; decide)
                rcases j with _ | j
                · first | exact rfl | exact absurd hj (by rw [h1]; decide)
                rcases j with _ | j
                · first | exact rfl | exact absurd hj (by rw [h1]; decide)
                rcases j with _ | j
                · first | exact rfl | exact absurd hj (by rw [h1]; decide)
                rcases j with _ | j
                · first | exact rfl | exact absurd hj (by rw [h1]; decide)
                rcases j with _ | j
                · first | exact rfl | exact absurd hj (by rw [h1]; decide)
                rcases j with _ | j
                · first | exact rfl | exact absurd hj (by rw [h1]; decide)
                rcases j with _ | j
                · first | exact rfl | exact absurd hj (by rw [h1]; decide)
                rcases j with _ | j
                · first | exact rfl | exact absurd hj (by rw [h1]; decide)
                rcases j with _ | j
                · first | exact rfl | exact absurd hj (by rw [h1]; decide)
                rcases j with _ | j
                · first | exact rfl | exact absurd hj (by rw [h1]; decide)
                rcases j with _ | j
                · first | exact rfl | exact absurd hj (by rw [h1]; decide)
                rcases j with _ | j
                · first | exact rfl | exact absurd hj (by rw [h1]; decide)
                rcases j with _ | j
                · first | exact rfl | exact absurd hj (by rw [h1]; decide)
                rcases j with _ | j
                · first | exact rfl | exact absurd hj (by rw [h1]; decide)
                rcases j with _ | j
                · first | exact rfl | exact absurd hj (by rw [h1]; decide)
                rcases j with _ | j
                · first | exact rfl | exact absurd hj (by rw [h1]; decide)
                rcases j with _ | j
                · first | exact rfl | exact absurd hj (by rw [h1]; decide)
                rcases j with _ | j
                · first | exact rfl | exact absurd hj (by rw [h1]; decide)
                rcases j with _ | j
                · first | exact rfl | exact absurd hj (by rw [h1]; decide)
                rcases j with _ | j
                · first | exact rfl | exact absurd hj (by rw [h1]; decide)
                exact rfl) (ptr b 0) rfl
            simp only at h
            have u1 : upd D 20 21 = false := e21
            have u2 : upd D 20 20 = true := rfl
            have u3 : upd D 20 16 = D 16 := rfl
            simp only [u1, u2, u3, cond_false, cond_true] at h
            exact h
          )
        (.eff rfl (fun gh D h1 h2 h3 K hK => by
            have e20 : D 20 = true := pre_at h2 0 rfl rfl
            have e16 : D 16 = true := pre_at h2 2 rfl rfl
            simp only [h1, e20, e16, cond_false, cond_true]
            refine op_storeW (mD_done 20 (by decide) (pre_at h2 0 rfl rfl) rfl rfl rfl) (mD_done 18 (by decide) (pre_at h2 1 rfl rfl) rfl rfl rfl) Tryz.sizeOf32 (List.forall_mem_cons.2 ⟨rfl, (List.forall_mem_cons.2 ⟨rfl, (fun _ h => by cases h)⟩)⟩) (by first | with_reducible exact Pull.p0 | with_reducible exact Pull.p1 | with_reducible exact Pull.p2 | with_reducible exact Pull.p3 | with_reducible exact Pull.p4 | with_reducible exact Pull.p5 | with_reducible exact Pull.p6 | with_reducible exact Pull.p7 | with_reducible exact Pull.p8 | with_reducible exact Pull.p9) rfl rfl ?_
            have h := hK gh (fun _ _ => rfl) undef rfl
            have u1 : upd D 21 21 = true := rfl
            simp only [u1, cond_true] at h
            exact h
          )
        (.quiet (fun gh => i64 0) (fun _ => rfl) (fun _ _ => rfl) (fun gh r => Step.op rfl (fun D h1 h2 h3 K hK => op_assign (mD_done 19 (by decide) (pre_at h2 0 rfl rfl) rfl rfl rfl) rfl hK))
        GSteps.nil))))))))))))))))))))))) ?_
      rintro ⟨ba, sb, pa, pc⟩
      show At _ _ (row ba [i64 (k / 5 : Nat), i64 (k % 5 : Nat)] 32 (0, 0) :: [chipR (c.prog (k / 5) (k % 5) (ba, sb, pa, pc).2.1 (pgN xs k) (ba, sb, pa, pc).2.2.1 (ba, sb, pa, pc).2.2.2), logRow (Lg.mk g.lb g.mb ((k / 5 : Nat) : Int) (g.seq + 1) g.ret g.clock) c.cb, logMap g, ownS wd wc (locC k) 32 2]) _
      obtain ⟨hc1, ho1, ha1, hs1, hs2, hs3⟩ := app_step hc ho hi sb (pgN xs k) (by rw [pgN, putS_length _ _ _ (cutT_length _)]; exact Nat.le_refl _) pa pc
      rw [hn5] at hc1 ho1 ha1 hs2 hs3
      have hh1 := hasN_step hc hk40 hhas hs1 hs2 sb pa pc
      refine At.keep [(0, _), (1, _), (5, _), (6, _), (8, _), (9, _), (10, _), (11, _)] (.cons rfl (.cons rfl (.cons rfl (.cons rfl (.cons rfl (.cons rfl (.cons rfl (.cons rfl .nil)))))))) ?_
      refine At.then_n ?_
      refine At.seq ?_
      refine At.seq ?_
      refine At.region ?_
      refine At.op rfl (op_move rfl rfl ?_)
      refine At.op rfl (op_bin rfl rfl (Bin.cast (v' := .bool false) b_ne (congrArg Value.bool (by rw [decide_eq_true rfl]; rfl))) rfl ?_)
      refine At.nil ?_
      refine At.then_n ?_
      refine At.cond_f rfl ?_
      refine At.skip ?_
      refine At.then_n ?_
      refine At.region ?_
      refine At.op rfl (op_move rfl rfl ?_)
      refine At.op rfl (op_loadW rfl Tryz.isAgg32 Tryz.sizeOf32 (by first | with_reducible exact Pull.p0 | with_reducible exact Pull.p1 | with_reducible exact Pull.p2 | with_reducible exact Pull.p3 | with_reducible exact Pull.p4 | with_reducible exact Pull.p5 | with_reducible exact Pull.p6 | with_reducible exact Pull.p7 | with_reducible exact Pull.p8 | with_reducible exact Pull.p9) rfl rfl ?_)
      refine At.op rfl (op_buildSlice2 rfl Tryz.underlying39 et32 rfl ?_)
      intro b14
      refine At.op rfl (op_append rfl rfl Tryz.underlying39 et32 (by first | with_reducible exact Pull.p0 | with_reducible exact Pull.p1 | with_reducible exact Pull.p2 | with_reducible exact Pull.p3 | with_reducible exact Pull.p4 | with_reducible exact Pull.p5 | with_reducible exact Pull.p6 | with_reducible exact Pull.p7 | with_reducible exact Pull.p8 | with_reducible exact Pull.p9) (by first | with_reducible exact Pull.p0 | with_reducible exact Pull.p1 | with_reducible exact Pull.p2 | with_reducible exact Pull.p3 | with_reducible exact Pull.p4 | with_reducible exact Pull.p5 | with_reducible exact Pull.p6 | with_reducible exact Pull.p7 | with_reducible exact Pull.p8 | with_reducible exact Pull.p9) (by rw [locC_length]) rfl (by decide) (List.forall_mem_cons.2 ⟨rfl, (List.forall_mem_cons.2 ⟨rfl, (fun _ h => by cases h)⟩)⟩) (by omega) (by omega) rfl ?_)
      intro wa cwa hwa
      refine At.op rfl (op_assign rfl rfl ?_)
      refine At.nil ?_
      refine At.blk_n ?_
      refine At.then_n ?_
      refine At.region ?_
      refine At.op rfl (op_move rfl rfl ?_)
      refine At.op rfl (op_bin rfl rfl (b_add (by omega) (by omega)) rfl ?_)
      refine At.op rfl (op_assign rfl rfl ?_)
      refine At.nil ?_
      refine At.then_n ?_
      exact At.back (k + 1, (c.prog (k / 5) (k % 5) (ba, sb, pa, pc).2.1 (pgN xs k) (ba, sb, pa, pc).2.2.1 (ba, sb, pa, pc).2.2.2), (Lg.mk g.lb g.mb ((k / 5 : Nat) : Int) (g.seq + 1) g.ret g.clock), wa, cwa) ⟨by dsimp only; omega, hc1, ho1, by rw [ha1, ha]; rfl, by simp [Chp.prog, hpl], hsg, hpgs, by dsimp only; rw [hsq]; exact seq_next k, hh1⟩ (by dsimp only; omega) (.cons rfl (.cons rfl (.cons rfl (.cons rfl (.cons rfl (.cons rfl .nil)))))) (.cons (by first | exact Pull.p0 | exact Pull.p1 | exact Pull.p2 | exact Pull.p3 | exact Pull.p4 | exact Pull.p5 | exact Pull.p6 | exact Pull.p7 | exact Pull.p8 | exact Pull.p9) (.cons (by first | exact Pull.p0 | exact Pull.p1 | exact Pull.p2 | exact Pull.p3 | exact Pull.p4 | exact Pull.p5 | exact Pull.p6 | exact Pull.p7 | exact Pull.p8 | exact Pull.p9) (.cons (by first | exact Pull.p0 | exact Pull.p1 | exact Pull.p2 | exact Pull.p3 | exact Pull.p4 | exact Pull.p5 | exact Pull.p6 | exact Pull.p7 | exact Pull.p8 | exact Pull.p9) (.cons (by first | exact Pull.p0 | exact Pull.p1 | exact Pull.p2 | exact Pull.p3 | exact Pull.p4 | exact Pull.p5 | exact Pull.p6 | exact Pull.p7 | exact Pull.p8 | exact Pull.p9) .nil))))
    ·
      obtain rfl : k = xs.length := by omega
      have hle40 : xs.length ≤ 40 := by omega
      refine At.exit ?_
      refine At.then_e ?_
      refine At.then_e ?_
      refine At.blk_e ?_
      refine At.then_n ?_
      refine At.seq ?_
      refine At.region ?_
      refine At.op rfl (op_move rfl rfl ?_)
      refine At.op rfl (op_callF rfl Tryz.call8 (seglog_Mount hG c hc) (.cons (by first | with_reducible exact Pull.p0 | with_reducible exact Pull.p1 | with_reducible exact Pull.p2 | with_reducible exact Pull.p3 | with_reducible exact Pull.p4 | with_reducible exact Pull.p5 | with_reducible exact Pull.p6 | with_reducible exact Pull.p7 | with_reducible exact Pull.p8 | with_reducible exact Pull.p9) .nil) rfl ?_)
      rintro v _ ⟨g2, rfl, hop2, hret2, hseq2, rfl⟩
      refine At.app3 ?_
      have ho2 : opOK g2 c := .inl hop2
      have hsq2 : g2.seq = g.seq := by rw [hseq2, maxQ_has (by omega) hhas, hsq]
      refine At.op rfl (op_move rfl rfl ?_)
      refine At.op rfl (op_extractL rfl .zero rfl ?_)
      refine At.op rfl (op_extractL rfl (.succ .zero) rfl ?_)
      refine At.op rfl (op_assign rfl rfl ?_)
      refine At.op rfl (op_assign rfl rfl ?_)
      refine At.nil ?_
      refine At.then_n ?_
      refine At.seq ?_
      refine At.seq ?_
      refine At.region ?_
      refine At.op rfl (op_move rfl rfl ?_)
      refine At.op rfl (op_bin rfl rfl (Bin.cast (v' := .bool false) b_ne (congrArg Value.bool (by rw [decide_eq_true rfl]; rfl))) rfl ?_)
      refine At.op rfl (op_move rfl rfl ?_)
      refine At.opg rfl rfl rfl (op_move rfl rfl ?_)
      refine At.opg rfl rfl rfl (op_bin rfl rfl (Bin.cast (v' := .bool false) (b_pnil Tryz.underlying26) rfl) rfl ?_)
      refine At.op rfl (op_pick_f rfl rfl rfl ?_)
      refine At.op rfl (op_move rfl rfl ?_)
      refine At.opg rfl rfl rfl (op_move rfl rfl ?_)
      refine At.opg rfl rfl rfl (op_callQ rfl Tryz.call14 (by have := seglog_Seq (G := G) c.cb g2; rw [hsq2] at this; exact this) (.cons (by first | with_reducible exact Pull.p0 | with_reducible exact Pull.p1 | with_reducible exact Pull.p2 | with_reducible exact Pull.p3 | with_reducible exact Pull.p4 | with_reducible exact Pull.p5 | with_reducible exact Pull.p6 | with_reducible exact Pull.p7 | with_reducible exact Pull.p8 | with_reducible exact Pull.p9) .nil) rfl ?_)
      refine At.opg rfl rfl rfl (op_move rfl rfl ?_)
      refine At.opg rfl rfl rfl (op_callQ rfl Tryz.call14 (seglog_Seq c.cb g) (.cons (by first | with_reducible exact Pull.p0 | with_reducible exact Pull.p1 | with_reducible exact Pull.p2 | with_reducible exact Pull.p3 | with_reducible exact Pull.p4 | with_reducible exact Pull.p5 | with_reducible exact Pull.p6 | with_reducible exact Pull.p7 | with_reducible exact Pull.p8 | with_reducible exact Pull.p9) .nil) rfl ?_)
      refine At.opg rfl rfl rfl (op_bin rfl rfl (Bin.cast (v' := .bool false) (b64_ne _ _) (by simp)) rfl ?_)
      refine At.op rfl (op_pick_f rfl rfl rfl ?_)
      refine At.nil ?_
      refine At.then_n ?_
      refine At.cond_f rfl ?_
      refine At.skip ?_
      refine At.then_n ?_
      refine At.seq ?_
      refine At.keep [(0, _), (1, _), (8, _), (12, _)] (.cons rfl (.cons rfl (.cons rfl (.cons rfl .nil)))) ?_
      refine At.region ?_
      refine At.op rfl (op_move rfl rfl ?_)
      refine At.op rfl (op_conv rfl (cv_u8_i64 Tryz.underlying5 Tryz.underlying3 _) rfl ?_)
      refine At.op rfl (op_bin rfl rfl (Bin.cast (v' := i64 (kk : Nat)) (b_rem (by omega) (by decide)) (congrArg (Value.int .i64) (by omega))) rfl ?_)
      refine At.op rfl (op_assign rfl rfl ?_)
      refine At.nil ?_
      refine At.then_n ?_
      refine At.seq ?_
      refine At.region ?_
      refine At.op rfl (op_move rfl rfl ?_)
      refine At.op rfl (op_move rfl rfl ?_)
      have hce : (abs g2 c).canErase kk = true := by rw [abs_mount (g := g) hc hop2 hret2, ha]; exact q_can _ (by omega) kk hkk
      refine At.op rfl (op_callR rfl Tryz.call12 (seglog_Erase_ok c hc g2 kk (by omega) (erase_ok hce).1 (erase_ok hce).2) (.cons (by first | with_reducible exact Pull.p0 | with_reducible exact Pull.p1 | with_reducible exact Pull.p2 | with_reducible exact Pull.p3 | with_reducible exact Pull.p4 | with_reducible exact Pull.p5 | with_reducible exact Pull.p6 | with_reducible exact Pull.p7 | with_reducible exact Pull.p8 | with_reducible exact Pull.p9) (.cons (by first | with_reducible exact Pull.p0 | with_reducible exact Pull.p1 | with_reducible exact Pull.p2 | with_reducible exact Pull.p3 | with_reducible exact Pull.p4 | with_reducible exact Pull.p5 | with_reducible exact Pull.p6 | with_reducible exact Pull.p7 | with_reducible exact Pull.p8 | with_reducible exact Pull.p9) (.cons (by first | with_reducible exact Pull.p0 | with_reducible exact Pull.p1 | with_reducible exact Pull.p2 | with_reducible exact Pull.p3 | with_reducible exact Pull.p4 | with_reducible exact Pull.p5 | with_reducible exact Pull.p6 | with_reducible exact Pull.p7 | with_reducible exact Pull.p8 | with_reducible exact Pull.p9) .nil))) rfl ?_)
      refine At.app3 ?_
      have hc2 := (erase_step hc ho2 hce).1
      refine At.op rfl (op_assign rfl rfl ?_)
      refine At.nil ?_
      refine At.then_n ?_
      refine At.seq ?_
      refine At.region ?_
      refine At.op rfl (op_assign rfl rfl ?_)
      refine At.nil ?_
      refine At.then_n ?_
      refine At.seq ?_
      refine At.seq ?_
      refine At.region ?_
      refine At.op rfl (op_assign rfl rfl ?_)
      refine At.nil ?_
      refine At.then_n ?_
      refine At.block ?_
      refine At.cut (rs' := (fun s => [chipR (c.erased kk), logRow (eraseL g2 kk) c.cb, ownS wd wc (locC xs.length) 32 2]) ((0, 0) : Nat × UInt64)) (.cons (by first | exact Pull.p0 | exact Pull.p1 | exact Pull.p2 | exact Pull.p3 | exact Pull.p4 | exact Pull.p5 | exact Pull.p6 | exact Pull.p7 | exact Pull.p8 | exact Pull.p9) (.cons (by first | exact Pull.p0 | exact Pull.p1 | exact Pull.p2 | exact Pull.p3 | exact Pull.p4 | exact Pull.p5 | exact Pull.p6 | exact Pull.p7 | exact Pull.p8 | exact Pull.p9) (.cons (by first | exact Pull.p0 | exact Pull.p1 | exact Pull.p2 | exact Pull.p3 | exact Pull.p4 | exact Pull.p5 | exact Pull.p6 | exact Pull.p7 | exact Pull.p8 | exact Pull.p9) .nil))) ?_
      refine At.keep ((fun s => [(0, .slice ad xs.length cp), (8, .slice wd xs.length wc), (12, ptr g2.lb 0), (14, i64 kk), (15, i64 0), (16, u64 s.2), (17, i64 s.1)]) ((0, 0) : Nat × UInt64)) (.cons rfl (.cons rfl (.cons rfl (.cons rfl (.cons rfl (.cons rfl (.cons rfl .nil))))))) ?_
      refine At.loop (σ := Nat × UInt64) (fun s => s.1 ≤ xs.length ∧ s.2.toNat ≤ s.1) (fun s => [(0, .slice ad xs.length cp), (8, .slice wd xs.length wc), (12, ptr g2.lb 0), (14, i64 kk), (15, i64 0), (16, u64 s.2), (17, i64 s.1)]) (fun s => [chipR (c.erased kk), logRow (eraseL g2 kk) c.cb, ownS wd wc (locC xs.length) 32 2]) (fun s => xs.length - s.1) ((0, 0) : Nat × UInt64) ⟨Nat.zero_le _, Nat.le_refl _⟩ ?_
      rintro ⟨k, last⟩ ⟨hk, hla⟩
      dsimp only at hk hla ⊢
      refine At.seq ?_
      refine At.seq ?_
      refine At.region ?_
      refine At.op rfl (op_move rfl rfl ?_)
      refine At.op rfl (op_move rfl rfl ?_)
      refine At.op rfl (op_len_slc rfl Tryz.underlying38 rfl ?_)
      refine At.op rfl (op_bin rfl rfl b_lt rfl ?_)
      refine At.nil ?_
      refine At.then_n ?_
      refine At.cond_p rfl (fun hlt1 => ?_) (fun hlt1 => ?_)
      ·
        have hkl : k < xs.length := by omega
        obtain ⟨x, hx⟩ : ∃ x, xs[k]? = some x := ⟨_, List.getElem?_eq_getElem (by omega)⟩
        have hgx : xs.getD k [] = x := by simp [hx]
        obtain ⟨eb, eo, rfl, hcell⟩ := hxs k (str x) (by rw [List.getElem?_map, hx]; rfl)
        refine At.own_some (by first | with_reducible exact Pull.p0 | with_reducible exact Pull.p1 | with_reducible exact Pull.p2 | with_reducible exact Pull.p3 | with_reducible exact Pull.p4 | with_reducible exact Pull.p5 | with_reducible exact Pull.p6 | with_reducible exact Pull.p7 | with_reducible exact Pull.p8 | with_reducible exact Pull.p9) (by intro e; have := congrArg List.length e; rw [locC_length] at this; simp at this; omega) (fun wb hwb => ?_)
        subst hwb
        refine At.skip ?_
        refine At.then_n ?_
        refine At.seq ?_
        refine At.block ?_
        refine At.seq ?_
        refine At.region ?_
        refine At.op rfl (op_move rfl rfl ?_)
        refine At.op rfl (op_move rfl rfl ?_)
        refine At.op rfl (op_move rfl rfl ?_)
        refine At.op rfl (op_indexS rfl rfl Tryz.underlying39 Tryz.sizeOf32 (by omega) (by omega) rfl ?_)
        refine At.op rfl (op_loadGA (us := [i64 (k / 5 : Nat), i64 (k % 5 : Nat)]) (ownS (some ⟨wb, 0, none⟩) wc (locC xs.length) 32 2) rfl Tryz.isAgg32 Tryz.sizeOf32 (by first | exact Pull.p0 | exact Pull.p1 | exact Pull.p2 | exact Pull.p3 | exact Pull.p4 | exact Pull.p5 | exact Pull.p6 | exact Pull.p7 | exact Pull.p8 | exact Pull.p9) (fun w hw => loc_cells hkl hw) rfl rfl ?_)
        by_cases hflag : k / 5 = kk
        ·
          refine At.op rfl (op_callQ rfl Tryz.call15 (seglog_Read_none (G := G) hG (c.erased kk) hc2 (eraseL g2 kk) (k / 5) (k % 5) (by show _ < c.segs; omega) (by show _ < c.pages; omega) (by rw [Chp.at_erased, if_pos hflag])) (.cons (by first | exact Pull.p0 | exact Pull.p1 | exact Pull.p2 | exact Pull.p3 | exact Pull.p4 | exact Pull.p5 | exact Pull.p6 | exact Pull.p7 | exact Pull.p8 | exact Pull.p9) (.cons (by first | exact Pull.p0 | exact Pull.p1 | exact Pull.p2 | exact Pull.p3 | exact Pull.p4 | exact Pull.p5 | exact Pull.p6 | exact Pull.p7 | exact Pull.p8 | exact Pull.p9) .nil)) rfl ?_)
          refine At.op rfl (op_move rfl rfl ?_)
          refine At.op rfl (op_extractL rfl .zero rfl ?_)
          refine At.op rfl (op_extractL rfl (.succ .zero) rfl ?_)
          refine At.op rfl (op_alloc Tryz.zeroValue43 rfl rfl ?_)
          intro b24
          refine At.op rfl (op_storeW rfl rfl Tryz.sizeOf43 (List.forall_mem_cons.2 ⟨rfl, (List.forall_mem_cons.2 ⟨rfl, (List.forall_mem_cons.2 ⟨rfl, (fun _ h => by cases h)⟩)⟩)⟩) (by first | with_reducible exact Pull.p0 | with_reducible exact Pull.p1 | with_reducible exact Pull.p2 | with_reducible exact Pull.p3 | with_reducible exact Pull.p4 | with_reducible exact Pull.p5 | with_reducible exact Pull.p6 | with_reducible exact Pull.p7 | with_reducible exact Pull.p8 | with_reducible exact Pull.p9) rfl rfl ?_)
          refine At.op rfl (op_assign rfl rfl ?_)
          refine At.nil ?_
          refine At.then_n ?_
          refine At.seq ?_
          refine At.seq ?_
          refine At.keep [(0, _), (8, _), (12, _), (14, _), (15, _), (16, _), (17, _), (18, _), (19, _)] (.cons rfl (.cons rfl (.cons rfl (.cons rfl (.cons rfl (.cons rfl (.cons rfl (.cons rfl (.cons rfl .nil))))))))) ?_
          refine At.region ?_
          refine At.op rfl (op_move rfl rfl ?_)
          refine At.op rfl (op_move rfl rfl ?_)
          refine At.op rfl (op_indexS rfl rfl Tryz.underlying39 Tryz.sizeOf32 (by omega) (by omega) rfl ?_)
          refine At.op rfl (op_fieldAddr rfl Tryz.underlying32 rfl Tryz.sizeOf3 rfl rfl ?_)
          refine At.op rfl (op_loadO rfl Tryz.isAgg3 (by first | with_reducible exact Pull.p0 | with_reducible exact Pull.p1 | with_reducible exact Pull.p2 | with_reducible exact Pull.p3 | with_reducible exact Pull.p4 | with_reducible exact Pull.p5 | with_reducible exact Pull.p6 | with_reducible exact Pull.p7 | with_reducible exact Pull.p8 | with_reducible exact Pull.p9) (by simpa using locC_get0 hkl) rfl ?_)
          refine At.op rfl (op_move rfl rfl ?_)
          refine At.op rfl (op_bin rfl rfl (Bin.cast (v' := .bool true) b_eq (congrArg Value.bool (decide_eq_true (by omega)))) rfl ?_)
          refine At.nil ?_
          refine At.then_n ?_
          refine At.cond_t rfl ?_
          refine At.seq ?_
          refine At.seq ?_
          refine At.region ?_
          refine At.op rfl (op_move rfl rfl ?_)
          refine At.op rfl (op_bin rfl rfl (Bin.cast (v' := .bool false) b_ne (congrArg Value.bool (by rw [decide_eq_true rfl]; rfl))) rfl ?_)
          refine At.nil ?_
          refine At.then_n ?_
          refine At.cond_f rfl ?_
          refine At.skip ?_
          refine At.then_n ?_
          refine At.exit ?_
          refine At.then_e ?_
          refine At.blk_e ?_
          refine At.then_n ?_
          refine At.region ?_
          refine At.op rfl (op_move rfl rfl ?_)
          refine At.op rfl (op_bin rfl rfl (b_add (by omega) (by omega)) rfl ?_)
          refine At.op rfl (op_assign rfl rfl ?_)
          refine At.nil ?_
          refine At.then_n ?_
          first
            | exact At.back (k + 1, last) ⟨by dsimp only; omega, by dsimp only; omega⟩ (by dsimp only; omega) (.cons rfl (.cons rfl (.cons rfl (.cons rfl (.cons rfl (.cons rfl (.cons rfl .nil))))))) (.cons (by first | exact Pull.p0 | exact Pull.p1 | exact Pull.p2 | exact Pull.p3 | exact Pull.p4 | exact Pull.p5 | exact Pull.p6 | exact Pull.p7 | exact Pull.p8 | exact Pull.p9) (.cons (by first | exact Pull.p0 | exact Pull.p1 | exact Pull.p2 | exact Pull.p3 | exact Pull.p4 | exact Pull.p5 | exact Pull.p6 | exact Pull.p7 | exact Pull.p8 | exact Pull.p9) (.cons (by first | exact Pull.p0 | exact Pull.p1 | exact Pull.p2 | exact Pull.p3 | exact Pull.p4 | exact Pull.p5 | exact Pull.p6 | exact Pull.p7 | exact Pull.p8 | exact Pull.p9) .nil)))
            | exact At.back (k + 1, UInt64.ofNat (k + 1)) ⟨by dsimp only; omega, by dsimp only; rw [UInt64.toNat_ofNat']; omega⟩ (by dsimp only; omega) (.cons rfl (.cons rfl (.cons rfl (.cons rfl (.cons rfl (.cons rfl (.cons rfl .nil))))))) (.cons (by first | exact Pull.p0 | exact Pull.p1 | exact Pull.p2 | exact Pull.p3 | exact Pull.p4 | exact Pull.p5 | exact Pull.p6 | exact Pull.p7 | exact Pull.p8 | exact Pull.p9) (.cons (by first | exact Pull.p0 | exact Pull.p1 | exact Pull.p2 | exact Pull.p3 | exact Pull.p4 | exact Pull.p5 | exact Pull.p6 | exact Pull.p7 | exact Pull.p8 | exact Pull.p9) (.cons (by first | exact Pull.p0 | exact Pull.p1 | exact Pull.p2 | exact Pull.p3 | exact Pull.p4 | exact Pull.p5 | exact Pull.p6 | exact Pull.p7 | exact Pull.p8 | exact Pull.p9) .nil)))
        ·
          refine At.op rfl (op_callQ rfl Tryz.call15 (by have := seglog_Read_some (G := G) hG (c.erased kk) hc2 (eraseL g2 kk) (k / 5) (k % 5) (by show _ < c.segs; omega) (by show _ < c.pages; omega) (pgN xs k) (by rw [Chp.at_erased, if_neg hflag, hhas, if_pos ⟨by omega, by omega, by omega⟩, show 5 * (k / 5) + k % 5 = k by omega]); rw [pgN, get_put _ _ _ (kdN_ne _) (cutT_length _)] at this; exact this) (.cons (by first | exact Pull.p0 | exact Pull.p1 | exact Pull.p2 | exact Pull.p3 | exact Pull.p4 | exact Pull.p5 | exact Pull.p6 | exact Pull.p7 | exact Pull.p8 | exact Pull.p9) (.cons (by first | exact Pull.p0 | exact Pull.p1 | exact Pull.p2 | exact Pull.p3 | exact Pull.p4 | exact Pull.p5 | exact Pull.p6 | exact Pull.p7 | exact Pull.p8 | exact Pull.p9) .nil)) rfl ?_)
          refine At.op rfl (op_move rfl rfl ?_)
          refine At.op rfl (op_extractL rfl .zero rfl ?_)
          refine At.op rfl (op_extractL rfl (.succ .zero) rfl ?_)
          refine At.op rfl (op_alloc Tryz.zeroValue43 rfl rfl ?_)
          intro b24
          refine At.op rfl (op_storeW rfl rfl Tryz.sizeOf43 (List.forall_mem_cons.2 ⟨rfl, (List.forall_mem_cons.2 ⟨rfl, (List.forall_mem_cons.2 ⟨rfl, (fun _ h => by cases h)⟩)⟩)⟩) (by first | with_reducible exact Pull.p0 | with_reducible exact Pull.p1 | with_reducible exact Pull.p2 | with_reducible exact Pull.p3 | with_reducible exact Pull.p4 | with_reducible exact Pull.p5 | with_reducible exact Pull.p6 | with_reducible exact Pull.p7 | with_reducible exact Pull.p8 | with_reducible exact Pull.p9) rfl rfl ?_)
          refine At.op rfl (op_assign rfl rfl ?_)
          refine At.nil ?_
          refine At.then_n ?_
          refine At.seq ?_
          refine At.seq ?_
          refine At.keep [(0, _), (8, _), (12, _), (14, _), (15, _), (16, _), (17, _), (18, _), (19, _)] (.cons rfl (.cons rfl (.cons rfl (.cons rfl (.cons rfl (.cons rfl (.cons rfl (.cons rfl (.cons rfl .nil))))))))) ?_
          refine At.region ?_
          refine At.op rfl (op_move rfl rfl ?_)
          refine At.op rfl (op_move rfl rfl ?_)
          refine At.op rfl (op_indexS rfl rfl Tryz.underlying39 Tryz.sizeOf32 (by omega) (by omega) rfl ?_)
          refine At.op rfl (op_fieldAddr rfl Tryz.underlying32 rfl Tryz.sizeOf3 rfl rfl ?_)
          refine At.op rfl (op_loadO rfl Tryz.isAgg3 (by first | with_reducible exact Pull.p0 | with_reducible exact Pull.p1 | with_reducible exact Pull.p2 | with_reducible exact Pull.p3 | with_reducible exact Pull.p4 | with_reducible exact Pull.p5 | with_reducible exact Pull.p6 | with_reducible exact Pull.p7 | with_reducible exact Pull.p8 | with_reducible exact Pull.p9) (by simpa using locC_get0 hkl) rfl ?_)
          refine At.op rfl (op_move rfl rfl ?_)
          refine At.op rfl (op_bin rfl rfl (Bin.cast (v' := .bool false) b_eq (congrArg Value.bool (decide_eq_false (by omega)))) rfl ?_)
          refine At.nil ?_
          refine At.then_n ?_
          refine At.cond_f rfl ?_
          refine At.skip ?_
          refine At.then_n ?_
          refine At.seq ?_
          refine At.seq ?_
          refine At.drawC [_, _, _, _, _, _, _, _, _, _, _, _, _, _, _, _, _, _, _, _, _, _, _, _, _, _, _, _, _, _, _, _, _] (by kernel_rfl) (by decide) (by kernel_rfl) 
            (Steps'.cons (Step.op rfl (fun D h1 h2 h3 K hK => op_move (mD_base rfl rfl) rfl hK))
            (Steps'.cons (Step.op rfl (fun D h1 h2 h3 K hK => op_bin (mD_done 0 (by decide) (pre_at h2 0 rfl rfl) rfl rfl rfl) rfl (Bin.cast (v' := .bool false) b_ne (congrArg Value.bool (by rw [decide_eq_true rfl]; rfl))) rfl hK))
            (Steps'.cons (Step.op rfl (fun D h1 h2 h3 K hK => op_move (mD_done 1 (by decide) (pre_at h2 0 rfl rfl) rfl rfl rfl) rfl hK))
            (Steps'.cons (Step.opg rfl rfl (fun D h2 => mD_done 2 (by decide) (pre_at h2 0 rfl rfl) rfl rfl rfl) (fun D h1 h2 h3 K hK => op_fieldAddr (o' := 0) (mD_base rfl rfl) Tryz.underlying43 rfl Tryz.sizeOf5 rfl rfl hK))
            (Steps'.cons (Step.opg rfl rfl (fun D h2 => mD_done 2 (by decide) (pre_at h2 1 rfl rfl) rfl rfl rfl) (fun D h1 h2 h3 K hK => op_load (mD_done 3 (by decide) (pre_at h2 0 rfl rfl) rfl rfl rfl) Tryz.isAgg5 (by first | with_reducible exact Pull.p0 | with_reducible exact Pull.p1 | with_reducible exact Pull.p2 | with_reducible exact Pull.p3 | with_reducible exact Pull.p4 | with_reducible exact Pull.p5 | with_reducible exact Pull.p6 | with_reducible exact Pull.p7 | with_reducible exact Pull.p8 | with_reducible exact Pull.p9) rfl rfl hK))
            (Steps'.cons (Step.opg rfl rfl (fun D h2 => mD_done 2 (by decide) (pre_at h2 0 rfl rfl) rfl rfl rfl) (fun D h1 h2 h3 K hK => op_move (mD_base rfl rfl) rfl hK))
            (Steps'.cons (Step.opg rfl rfl (fun D h2 => mD_done 2 (by decide) (pre_at h2 1 rfl rfl) rfl rfl rfl) (fun D h1 h2 h3 K hK => op_bin (mD_done 5 (by decide) (pre_at h2 0 rfl rfl) rfl rfl rfl) rfl (Bin.cast (v' := i64 (k % 3 : Nat)) (b_rem (by omega) (by decide)) (congrArg (Value.int .i64) (by omega))) rfl hK))
            (Steps'.cons (Step.opg rfl rfl (fun D h2 => mD_done 2 (by decide) (pre_at h2 1 rfl rfl) rfl rfl rfl) (fun D h1 h2 h3 K hK => op_conv (mD_done 6 (by decide) (pre_at h2 0 rfl rfl) rfl rfl rfl) (cv_i64_u8 Tryz.underlying3 Tryz.underlying5 (k % 3)) rfl hK))
            (Steps'.cons (Step.opg rfl rfl (fun D h2 => mD_done 2 (by decide) (pre_at h2 1 rfl rfl) rfl rfl rfl) (fun D h1 h2 h3 K hK => op_bin rfl (mD_done 7 (by decide) (pre_at h2 0 rfl rfl) rfl rfl rfl) (b8_add (1 : UInt8) _) rfl hK))
            (Steps'.cons (Step.opg rfl rfl (fun D h2 => mD_done 2 (by decide) (pre_at h2 2 rfl rfl) rfl rfl rfl) (fun D h1 h2 h3 K hK => op_bin (mD_done 4 (by decide) (pre_at h2 0 rfl rfl) rfl rfl rfl) (mD_done 8 (by decide) (pre_at h2 1 rfl rfl) rfl rfl rfl) (Bin.cast (v' := .bool false) (b8_ne (kdN k) (kdN k)) (by simp)) rfl hK))
            (Steps'.cons (Step.op rfl (fun D h1 h2 h3 K hK => op_pick_f (mD_done 2 (by decide) (pre_at h2 0 rfl rfl) rfl rfl rfl) (mD_done 9 (by decide) (pre_at h2 1 rfl rfl) rfl rfl rfl) rfl hK))
            (Steps'.cons (Step.op rfl (fun D h1 h2 h3 K hK => op_move (mD_done 10 (by decide) (pre_at h2 0 rfl rfl) rfl rfl rfl) rfl hK))
            (Steps'.cons (Step.opg rfl rfl (fun D h2 => mD_done 11 (by decide) (pre_at h2 0 rfl rfl) rfl rfl rfl) (fun D h1 h2 h3 K hK => op_fieldAddr (o' := 2) (mD_base rfl rfl) Tryz.underlying43 rfl Tryz.sizeOf9 rfl rfl hK))
            (Steps'.cons (Step.opg rfl rfl (fun D h2 => mD_done 11 (by decide) (pre_at h2 1 rfl rfl) rfl rfl rfl) (fun D h1 h2 h3 K hK => op_load (mD_done 12 (by decide) (pre_at h2 0 rfl rfl) rfl rfl rfl) Tryz.isAgg9 (by first | with_reducible exact Pull.p0 | with_reducible exact Pull.p1 | with_reducible exact Pull.p2 | with_reducible exact Pull.p3 | with_reducible exact Pull.p4 | with_reducible exact Pull.p5 | with_reducible exact Pull.p6 | with_reducible exact Pull.p7 | with_reducible exact Pull.p8 | with_reducible exact Pull.p9) rfl rfl hK))
            (Steps'.cons (Step.opg rfl rfl (fun D h2 => mD_done 11 (by decide) (pre_at h2 0 rfl rfl) rfl rfl rfl) (fun D h1 h2 h3 K hK => op_move (mD_base rfl rfl) rfl hK))
            (Steps'.cons (Step.opg rfl rfl (fun D h2 => mD_done 11 (by decide) (pre_at h2 0 rfl rfl) rfl rfl rfl) (fun D h1 h2 h3 K hK => op_move (mD_base rfl rfl) rfl hK))
            (Steps'.cons (Step.opg rfl rfl (fun D h2 => mD_done 11 (by decide) (pre_at h2 2 rfl rfl) rfl rfl rfl) (fun D h1 h2 h3 K hK => op_indexS (mD_done 14 (by decide) (pre_at h2 0 rfl rfl) rfl rfl rfl) (mD_done 15 (by decide) (pre_at h2 1 rfl rfl) rfl rfl rfl) Tryz.underlying38 Tryz.sizeOf9 (by omega) (by omega) rfl hK))
            (Steps'.cons (Step.opg rfl rfl (fun D h2 => mD_done 11 (by decide) (pre_at h2 1 rfl rfl) rfl rfl rfl) (fun D h1 h2 h3 K hK => op_loadK (mD_done 16 (by decide) (pre_at h2 0 rfl rfl) rfl rfl rfl) Tryz.isAgg9 (fun w hw => by simpa using hcell w hw) rfl hK))
            (Steps'.cons (Step.opg rfl rfl (fun D h2 => mD_done 11 (by decide) (pre_at h2 0 rfl rfl) rfl rfl rfl) (fun D h1 h2 h3 K hK => op_move (mD_base rfl rfl) rfl hK))
            (Steps'.cons (Step.opg rfl rfl (fun D h2 => mD_done 11 (by decide) (pre_at h2 0 rfl rfl) rfl rfl rfl) (fun D h1 h2 h3 K hK => op_move (mD_base rfl rfl) rfl hK))
            (Steps'.cons (Step.opg rfl rfl (fun D h2 => mD_done 11 (by decide) (pre_at h2 2 rfl rfl) rfl rfl rfl) (fun D h1 h2 h3 K hK => op_indexS (mD_done 18 (by decide) (pre_at h2 0 rfl rfl) rfl rfl rfl) (mD_done 19 (by decide) (pre_at h2 1 rfl rfl) rfl rfl rfl) Tryz.underlying38 Tryz.sizeOf9 (by omega) (by omega) rfl hK))
            (Steps'.cons (Step.opg rfl rfl (fun D h2 => mD_done 11 (by decide) (pre_at h2 1 rfl rfl) rfl rfl rfl) (fun D h1 h2 h3 K hK => op_loadK (mD_done 20 (by decide) (pre_at h2 0 rfl rfl) rfl rfl rfl) Tryz.isAgg9 (fun w hw => by simpa using hcell w hw) rfl hK))
            (Steps'.cons (Step.opg rfl rfl (fun D h2 => mD_done 11 (by decide) (pre_at h2 1 rfl rfl) rfl rfl rfl) (fun D h1 h2 h3 K hK => op_len_str (mD_done 21 (by decide) (pre_at h2 0 rfl rfl) rfl rfl rfl) Tryz.underlying9 rfl hK))
            (Steps'.cons (Step.opg rfl rfl (fun D h2 => mD_done 11 (by decide) (pre_at h2 1 rfl rfl) rfl rfl rfl) (fun D h1 h2 h3 K hK => op_min (mD_done 22 (by decide) (pre_at h2 0 rfl rfl) rfl rfl rfl) rfl rfl hK))
            (Steps'.cons (Step.opg rfl rfl (fun D h2 => mD_done 11 (by decide) (pre_at h2 2 rfl rfl) rfl rfl rfl) (fun D h1 h2 h3 K hK => op_sl_str_hi (mD_done 17 (by decide) (pre_at h2 0 rfl rfl) rfl rfl rfl) (mD_done 23 (by decide) (pre_at h2 1 rfl rfl) rfl rfl rfl) Tryz.underlying9 (by split <;> omega) (by split <;> omega) rfl hK))
            (Steps'.cons (Step.opg rfl rfl (fun D h2 => mD_done 11 (by decide) (pre_at h2 2 rfl rfl) rfl rfl rfl) (fun D h1 h2 h3 K hK => op_bin (mD_done 13 (by decide) (pre_at h2 0 rfl rfl) rfl rfl rfl) (mD_done 24 (by decide) (pre_at h2 1 rfl rfl) rfl rfl rfl) (Bin.cast (v' := .bool false) (b_sne (a := cutT (xs.getD k [])) (b := cutT x)) (by rw [hgx]; simp)) rfl hK))
            (Steps'.cons (Step.op rfl (fun D h1 h2 h3 K hK => op_pick_f (mD_done 11 (by decide) (pre_at h2 0 rfl rfl) rfl rfl rfl) (mD_done 25 (by decide) (pre_at h2 1 rfl rfl) rfl rfl rfl) rfl hK))
            (Steps'.cons (Step.op rfl (fun D h1 h2 h3 K hK => op_move (mD_done 26 (by decide) (pre_at h2 0 rfl rfl) rfl rfl rfl) rfl hK))
            (Steps'.cons (Step.opg rfl rfl (fun D h2 => mD_done 27 (by decide) (pre_at h2 0 rfl rfl) rfl rfl rfl) (fun D h1 h2 h3 K hK => op_fieldAddr (o' := 1) (mD_base rfl rfl) Tryz.underlying43 rfl Tryz.sizeOf40 rfl rfl hK))
            (Steps'.cons (Step.opg rfl rfl (fun D h2 => mD_done 27 (by decide) (pre_at h2 1 rfl rfl) rfl rfl rfl) (fun D h1 h2 h3 K hK => op_load (mD_done 28 (by decide) (pre_at h2 0 rfl rfl) rfl rfl rfl) Tryz.isAgg40 (by first | with_reducible exact Pull.p0 | with_reducible exact Pull.p1 | with_reducible exact Pull.p2 | with_reducible exact Pull.p3 | with_reducible exact Pull.p4 | with_reducible exact Pull.p5 | with_reducible exact Pull.p6 | with_reducible exact Pull.p7 | with_reducible exact Pull.p8 | with_reducible exact Pull.p9) rfl rfl hK))
            (Steps'.cons (Step.opg rfl rfl (fun D h2 => mD_done 27 (by decide) (pre_at h2 0 rfl rfl) rfl rfl rfl) (fun D h1 h2 h3 K hK => op_move (mD_base rfl rfl) rfl hK))
            (Steps'.cons (Step.opg rfl rfl (fun D h2 => mD_done 27 (by decide) (pre_at h2 2 rfl rfl) rfl rfl rfl) (fun D h1 h2 h3 K hK => op_bin (mD_done 29 (by decide) (pre_at h2 0 rfl rfl) rfl rfl rfl) (mD_done 30 (by decide) (pre_at h2 1 rfl rfl) rfl rfl rfl) (Bin.cast (v' := .bool false) (b64_le (UInt64.ofNat (k + 1)) last) (by rw [decide_eq_false (by rw [UInt64.le_iff_toNat_le, UInt64.toNat_ofNat']; omega)])) rfl hK))
            (Steps'.cons (Step.op rfl (fun D h1 h2 h3 K hK => op_pick_f (mD_done 27 (by decide) (pre_at h2 0 rfl rfl) rfl rfl rfl) (mD_done 31 (by decide) (pre_at h2 1 rfl rfl) rfl rfl rfl) rfl hK))
            Steps'.nil))))))))))))))))))))))))))))))))) ?_
          refine At.keep [(0, _), (8, _), (12, _), (14, _), (15, _), (16, _), (17, _), (18, _), (154, _)] (.cons rfl (.cons rfl (.cons rfl (.cons rfl (.cons rfl (.cons rfl (.cons rfl (.cons rfl (.cons rfl .nil))))))))) ?_
          refine At.then_n ?_
          refine At.cond_f rfl ?_
          refine At.skip ?_
          refine At.then_n ?_
          refine At.region ?_
          refine At.op rfl (op_fieldAddr (o' := 1) rfl Tryz.underlying43 rfl Tryz.sizeOf40 rfl rfl ?_)
          refine At.op rfl (op_load rfl Tryz.isAgg40 (by first | with_reducible exact Pull.p0 | with_reducible exact Pull.p1 | with_reducible exact Pull.p2 | with_reducible exact Pull.p3 | with_reducible exact Pull.p4 | with_reducible exact Pull.p5 | with_reducible exact Pull.p6 | with_reducible exact Pull.p7 | with_reducible exact Pull.p8 | with_reducible exact Pull.p9) rfl rfl ?_)
          refine At.op rfl (op_assign rfl rfl ?_)
          refine At.nil ?_
          refine At.blk_n ?_
          refine At.then_n ?_
          refine At.region ?_
          refine At.op rfl (op_move rfl rfl ?_)
          refine At.op rfl (op_bin rfl rfl (b_add (by omega) (by omega)) rfl ?_)
          refine At.op rfl (op_assign rfl rfl ?_)
          refine At.nil ?_
          refine At.then_n ?_
          first
            | exact At.back (k + 1, last) ⟨by dsimp only; omega, by dsimp only; omega⟩ (by dsimp only; omega) (.cons rfl (.cons rfl (.cons rfl (.cons rfl (.cons rfl (.cons rfl (.cons rfl .nil))))))) (.cons (by first | exact Pull.p0 | exact Pull.p1 | exact Pull.p2 | exact Pull.p3 | exact Pull.p4 | exact Pull.p5 | exact Pull.p6 | exact Pull.p7 | exact Pull.p8 | exact Pull.p9) (.cons (by first | exact Pull.p0 | exact Pull.p1 | exact Pull.p2 | exact Pull.p3 | exact Pull.p4 | exact Pull.p5 | exact Pull.p6 | exact Pull.p7 | exact Pull.p8 | exact Pull.p9) (.cons (by first | exact Pull.p0 | exact Pull.p1 | exact Pull.p2 | exact Pull.p3 | exact Pull.p4 | exact Pull.p5 | exact Pull.p6 | exact Pull.p7 | exact Pull.p8 | exact Pull.p9) .nil)))
            | exact At.back (k + 1, UInt64.ofNat (k + 1)) ⟨by dsimp only; omega, by dsimp only; rw [UInt64.toNat_ofNat']; omega⟩ (by dsimp only; omega) (.cons rfl (.cons rfl (.cons rfl (.cons rfl (.cons rfl (.cons rfl (.cons rfl .nil))))))) (.cons (by first | exact Pull.p0 | exact Pull.p1 | exact Pull.p2 | exact Pull.p3 | exact Pull.p4 | exact Pull.p5 | exact Pull.p6 | exact Pull.p7 | exact Pull.p8 | exact Pull.p9) (.cons (by first | exact Pull.p0 | exact Pull.p1 | exact Pull.p2 | exact Pull.p3 | exact Pull.p4 | exact Pull.p5 | exact Pull.p6 | exact Pull.p7 | exact Pull.p8 | exact Pull.p9) (.cons (by first | exact Pull.p0 | exact Pull.p1 | exact Pull.p2 | exact Pull.p3 | exact Pull.p4 | exact Pull.p5 | exact Pull.p6 | exact Pull.p7 | exact Pull.p8 | exact Pull.p9) .nil)))
      ·
        refine At.exit ?_
        refine At.then_e ?_
        refine At.then_e ?_
        refine At.blk_e ?_
        refine At.then_n ?_
        refine At.seq ?_
        refine At.region ?_
        refine At.op rfl (op_move rfl rfl ?_)
        refine At.op rfl (op_bin rfl rfl (Bin.cast (v' := .bool true) b_eq (congrArg Value.bool (decide_eq_true rfl))) rfl ?_)
        refine At.op rfl (op_assign rfl rfl ?_)
        refine At.nil ?_
        refine At.then_n ?_
        refine At.ret ?_
        exact At.fin1 rfl rfl rfl ⟨rfl, rfl⟩ .nil
end Go.Proofs.YteckdahgkkmlaaaGreatDoor
