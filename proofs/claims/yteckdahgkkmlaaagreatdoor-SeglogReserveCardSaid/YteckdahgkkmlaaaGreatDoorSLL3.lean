/- Walks of the program's functions. -/
import Derived.Test.YteckdahgkkmlaaaGreatDoorSLL1
import Derived.Test.YteckdahgkkmlaaaGreatDoorSLC4
import Derived.KernelRfl
set_option maxRecDepth 20000
set_option linter.unusedVariables false
set_option linter.unusedSimpArgs false
namespace Go.Proofs.YteckdahgkkmlaaaGreatDoor
open Go SL
variable {G : List (Nat × Obj)}
def rA : Ab := newAb 6 3 2 [4]
theorem r_app : ∀ kk, kk < 8 → ∀ k, k < 30 → ((iter (fun a => a.app (kk : Nat)) k rA).appSeg (kk : Nat)).isNone = decide (3 * (6 - kk) ≤ k) := by decide +kernel
theorem law13_SeglogReserve (hG : GOK G) (n q : UInt8) (ad : Option Addr) (cp : Nat) (xs : List UInt8) (hxs : ArgS G ad (xs.map u8)) : Does Tryz.prog G 5 [u8 n, u8 q, .slice ad xs.length cp] [] (One (.bool true)) := by
  refine Does.of Tryz.func5 rfl Tryz.ntmps5 rfl (fun w0 => ?_)
  refine At.keep [(0, _), (1, _), (2, _)] (.cons rfl (.cons rfl (.cons rfl .nil))) ?_
  obtain ⟨kk, hkk0⟩ : ∃ x, x = q.toNat % 8 := ⟨_, rfl⟩
  obtain ⟨nn, hnn0⟩ : ∃ x, x = n.toNat % 30 := ⟨_, rfl⟩
  have hkk : kk < 8 := by omega
  have hnn : nn < 30 := by omega
  have hq := q.toNat_lt
  have hnl := n.toNat_lt
  refine At.seq ?_
  refine At.region ?_
  refine At.op rfl (op_assign rfl rfl ?_)
  refine At.nil ?_
  refine At.then_n ?_
  refine At.seq ?_
  refine At.seq ?_
  refine At.region ?_
  refine At.op rfl (op_move rfl rfl ?_)
  refine At.op rfl (op_len_slc rfl Tryz.underlying47 rfl ?_)
  refine At.op rfl (op_bin rfl rfl b_gt rfl ?_)
  refine At.op rfl (op_move rfl rfl ?_)
  refine At.dsplit (i := 20) rfl (fun hlong => ?_) (fun hlong => ?_)
  ·
    refine At.opk (want := true) rfl rfl rfl rfl rfl ?_
    refine At.opk (want := true) rfl rfl rfl rfl rfl ?_
    refine At.op rfl (op_pick_t rfl rfl rfl ?_)
    refine At.nil ?_
    refine At.then_n ?_
    refine At.cond_t rfl ?_
    refine At.seq ?_
    refine At.region ?_
    refine At.op rfl (op_call1 rfl Tryz.call9 (law13_shown hG) rfl ?_)
    refine At.op rfl (op_assign rfl rfl ?_)
    refine At.nil ?_
    refine At.then_n ?_
    refine At.ret ?_
    refine At.then_r ?_
    exact At.fin1 rfl rfl rfl ⟨rfl, rfl⟩ .nil
  ·
    refine At.opg rfl rfl rfl (op_call1 rfl Tryz.call9 (law13_shown hG) rfl ?_)
    refine At.opg rfl rfl rfl (op_not rfl rfl ?_)
    refine At.op rfl (op_pick_f rfl rfl rfl ?_)
    refine At.nil ?_
    refine At.then_n ?_
    refine At.cond_f rfl ?_
    refine At.skip ?_
    refine At.then_n ?_
    refine At.seq ?_
    refine At.region ?_
    refine At.op rfl (op_callF rfl Tryz.call7 nand_NewPower .nil rfl ?_)
    rintro v _ ⟨pw, rfl, rfl⟩
    refine At.app1 ?_
    refine At.op rfl (op_buildSlice1 [_] rfl rfl Tryz.underlying48 et3 rfl (by decide) (List.forall_mem_cons.2 ⟨rfl, (fun _ h => by cases h)⟩) rfl ?_)
    intro bd
    refine At.row_own (by first | with_reducible exact Pull.p0 | with_reducible exact Pull.p1 | with_reducible exact Pull.p2 | with_reducible exact Pull.p3 | with_reducible exact Pull.p4 | with_reducible exact Pull.p5 | with_reducible exact Pull.p6 | with_reducible exact Pull.p7 | with_reducible exact Pull.p8 | with_reducible exact Pull.p9) (n := 1) (sz := 1) (by rfl) (by decide) ?_
    refine At.op rfl (op_callF rfl Tryz.call6 (nand_New pw 6 3 2 (some ⟨bd, 0, none⟩) 1 [4] (by decide) (by decide) (by decide) (by decide)) (.cons (by first | exact Pull.p0 | exact Pull.p1 | exact Pull.p2 | exact Pull.p3 | exact Pull.p4 | exact Pull.p5 | exact Pull.p6 | exact Pull.p7 | exact Pull.p8 | exact Pull.p9) (.cons (by first | exact Pull.p0 | exact Pull.p1 | exact Pull.p2 | exact Pull.p3 | exact Pull.p4 | exact Pull.p5 | exact Pull.p6 | exact Pull.p7 | exact Pull.p8 | exact Pull.p9) .nil)) rfl ?_)
    rintro v _ ⟨c, hc, hfr, rfl, rfl⟩
    refine At.app1 ?_
    refine At.op rfl (op_assign rfl rfl ?_)
    refine At.nil ?_
    refine At.then_n ?_
    refine At.seq ?_
    refine At.region ?_
    refine At.op rfl (op_move rfl rfl ?_)
    refine At.op rfl (op_callF rfl Tryz.call8 (seglog_Mount hG c hc) (.cons (by first | with_reducible exact Pull.p0 | with_reducible exact Pull.p1 | with_reducible exact Pull.p2 | with_reducible exact Pull.p3 | with_reducible exact Pull.p4 | with_reducible exact Pull.p5 | with_reducible exact Pull.p6 | with_reducible exact Pull.p7 | with_reducible exact Pull.p8 | with_reducible exact Pull.p9) .nil) rfl ?_)
    rintro v _ ⟨g, rfl, hop, hret, hseq, rfl⟩
    refine At.app3 ?_
    have habs := abs_new hc hfr hop hret
    have hgo : opOK g c := .inl hop
    have hsq : g.seq = 1 := hseq.trans (seq_fresh hfr)
    refine At.op rfl (op_move rfl rfl ?_)
    refine At.op rfl (op_extractL rfl .zero rfl ?_)
    refine At.op rfl (op_extractL rfl (.succ .zero) rfl ?_)
    refine At.op rfl (op_assign rfl rfl ?_)
    refine At.op rfl (op_assign rfl rfl ?_)
    refine At.nil ?_
    refine At.then_n ?_
    refine At.seq ?_
    refine At.seq ?_
    refine At.keep [(0, _), (1, _), (2, _), (6, _), (8, _), (9, _)] (.cons rfl (.cons rfl (.cons rfl (.cons rfl (.cons rfl (.cons rfl .nil)))))) ?_
    refine At.region ?_
    refine At.op rfl (op_move rfl rfl ?_)
    refine At.op rfl (op_bin rfl rfl (Bin.cast (v' := .bool false) b_ne (congrArg Value.bool (by rw [decide_eq_true rfl]; rfl))) rfl ?_)
    refine At.op rfl (op_move rfl rfl ?_)
    refine At.opg rfl rfl rfl (op_move rfl rfl ?_)
    refine At.opg rfl rfl rfl (op_bin rfl rfl (Bin.cast (v' := .bool false) (b_pnil Tryz.underlying26) rfl) rfl ?_)
    refine At.op rfl (op_pick_f rfl rfl rfl ?_)
    refine At.nil ?_
    refine At.then_n ?_
    refine At.cond_f rfl ?_
    refine At.skip ?_
    refine At.then_n ?_
    refine At.seq ?_
    refine At.region ?_
    refine At.op rfl (op_move rfl rfl ?_)
    refine At.op rfl (op_conv rfl (cv_u8_i64 Tryz.underlying5 Tryz.underlying3 _) rfl ?_)
    refine At.op rfl (op_bin rfl rfl (Bin.cast (v' := i64 (kk : Nat)) (b_rem (by omega) (by decide)) (congrArg (Value.int .i64) (by omega))) rfl ?_)
    refine At.op rfl (op_assign rfl rfl ?_)
    refine At.nil ?_
    refine At.then_n ?_
    refine At.seq ?_
    refine At.seq ?_
    refine At.region ?_
    refine At.op rfl (op_assign rfl rfl ?_)
    refine At.nil ?_
    refine At.then_n ?_
    refine At.block ?_
    refine At.cut (rs' := (fun s => [chipR s.2.1, logRow s.2.2 s.2.1.cb, logMap s.2.2]) ((0, c, g) : Nat × Chp × Lg)) (.cons (by first | exact Pull.p0 | exact Pull.p1 | exact Pull.p2 | exact Pull.p3 | exact Pull.p4 | exact Pull.p5 | exact Pull.p6 | exact Pull.p7 | exact Pull.p8 | exact Pull.p9) (.cons (by first | exact Pull.p0 | exact Pull.p1 | exact Pull.p2 | exact Pull.p3 | exact Pull.p4 | exact Pull.p5 | exact Pull.p6 | exact Pull.p7 | exact Pull.p8 | exact Pull.p9) (.cons (by first | exact Pull.p0 | exact Pull.p1 | exact Pull.p2 | exact Pull.p3 | exact Pull.p4 | exact Pull.p5 | exact Pull.p6 | exact Pull.p7 | exact Pull.p8 | exact Pull.p9) .nil))) ?_
    refine At.keep ((fun s => [(0, u8 n), (2, .slice ad xs.length cp), (8, ptr s.2.2.lb 0), (10, i64 (kk : Nat)), (11, i64 s.1)]) ((0, c, g) : Nat × Chp × Lg)) (.cons rfl (.cons rfl (.cons rfl (.cons rfl (.cons rfl .nil))))) ?_
    refine At.loop (σ := Nat × Chp × Lg) (fun s => s.1 ≤ nn ∧ s.2.1.wf ∧ opOK s.2.2 s.2.1 ∧ abs s.2.2 s.2.1 = iter (fun a => a.app (kk : Nat)) s.1 rA ∧ s.2.1.past.length ≤ s.1 ∧ s.2.1.segs = 6) (fun s => [(0, u8 n), (2, .slice ad xs.length cp), (8, ptr s.2.2.lb 0), (10, i64 (kk : Nat)), (11, i64 s.1)]) (fun s => [chipR s.2.1, logRow s.2.2 s.2.1.cb, logMap s.2.2]) (fun s => nn - s.1) ((0, c, g) : Nat × Chp × Lg) ⟨Nat.zero_le _, hc, hgo, habs, by simp [hfr.fpast], hfr.fsegs⟩ ?_
    rintro ⟨k, c, g⟩ ⟨hk, hc, ho, ha, hpl, hsg⟩
    dsimp only at hk hc ho ha hpl hsg ⊢
    refine At.seq ?_
    refine At.seq ?_
    refine At.region ?_
    refine At.op rfl (op_move rfl rfl ?_)
    refine At.op rfl (op_move rfl rfl ?_)
    refine At.op rfl (op_conv rfl (cv_u8_i64 Tryz.underlying5 Tryz.underlying3 _) rfl ?_)
    refine At.op rfl (op_bin rfl rfl (Bin.cast (v' := i64 (nn : Nat)) (b_rem (by omega) (by decide)) (congrArg (Value.int .i64) (by omega))) rfl ?_)
    refine At.op rfl (op_bin rfl rfl b_lt rfl ?_)
    refine At.nil ?_
    refine At.then_n ?_
    refine At.cond_p rfl (fun hlt0 => ?_) (fun hlt0 => ?_)
    ·
      have hkn : k < nn := by omega
      refine At.skip ?_
      refine At.then_n ?_
      refine At.seq ?_
      refine At.block ?_
      refine At.seq ?_
      refine At.region ?_
      refine At.op rfl (op_move rfl rfl ?_)
      refine At.op rfl (op_move rfl rfl ?_)
      refine At.op rfl (op_callF rfl Tryz.call10 (seglog_Append hG c hc g ho 1 [116] (kk : Nat) (by decide) (by decide) (by omega)) (.cons (by first | with_reducible exact Pull.p0 | with_reducible exact Pull.p1 | with_reducible exact Pull.p2 | with_reducible exact Pull.p3 | with_reducible exact Pull.p4 | with_reducible exact Pull.p5 | with_reducible exact Pull.p6 | with_reducible exact Pull.p7 | with_reducible exact Pull.p8 | with_reducible exact Pull.p9) (.cons (by first | with_reducible exact Pull.p0 | with_reducible exact Pull.p1 | with_reducible exact Pull.p2 | with_reducible exact Pull.p3 | with_reducible exact Pull.p4 | with_reducible exact Pull.p5 | with_reducible exact Pull.p6 | with_reducible exact Pull.p7 | with_reducible exact Pull.p8 | with_reducible exact Pull.p9) (.cons (by first | with_reducible exact Pull.p0 | with_reducible exact Pull.p1 | with_reducible exact Pull.p2 | with_reducible exact Pull.p3 | with_reducible exact Pull.p4 | with_reducible exact Pull.p5 | with_reducible exact Pull.p6 | with_reducible exact Pull.p7 | with_reducible exact Pull.p8 | with_reducible exact Pull.p9) .nil))) rfl ?_)
      intro v rs2 hp
      rcases hs : (abs g c).appSeg (kk : Nat) with _ | i <;> rw [hs] at hp
      ·
        obtain ⟨rfl, rfl⟩ := hp
        refine At.app3 ?_
        have hq1 := r_app kk hkk k (by omega)
        rw [← ha, hs] at hq1
        have hge : 3 * (6 - kk) ≤ k := of_decide_eq_true hq1.symm
        have hab : abs g c = iter (fun a => a.app (kk : Nat)) (k + 1) rA := by rw [iter, ← ha, app_none hs]
        refine At.op rfl (op_move rfl rfl ?_)
        refine At.op rfl (op_extractL rfl .zero rfl ?_)
        refine At.op rfl (op_extractL rfl (.succ .zero) rfl ?_)
        refine At.op rfl (op_alloc Tryz.zeroValue32 rfl rfl ?_)
        intro b12
        refine At.op rfl (op_storeW rfl rfl Tryz.sizeOf32 (List.forall_mem_cons.2 ⟨rfl, (List.forall_mem_cons.2 ⟨rfl, (fun _ h => by cases h)⟩)⟩) (by first | with_reducible exact Pull.p0 | with_reducible exact Pull.p1 | with_reducible exact Pull.p2 | with_reducible exact Pull.p3 | with_reducible exact Pull.p4 | with_reducible exact Pull.p5 | with_reducible exact Pull.p6 | with_reducible exact Pull.p7 | with_reducible exact Pull.p8 | with_reducible exact Pull.p9) rfl rfl ?_)
        refine At.op rfl (op_assign rfl rfl ?_)
        refine At.nil ?_
        refine At.then_n ?_
        refine At.seq ?_
        refine At.keep [(0, _), (2, _), (8, _), (10, _), (11, _), (13, _)] (.cons rfl (.cons rfl (.cons rfl (.cons rfl (.cons rfl (.cons rfl .nil)))))) ?_
        refine At.region ?_
        refine At.op rfl (op_assign rfl rfl ?_)
        refine At.nil ?_
        refine At.then_n ?_
        refine At.seq ?_
        refine At.seq ?_
        refine At.region ?_
        refine At.op rfl (op_move rfl rfl ?_)
        refine At.op rfl (op_move rfl rfl ?_)
        refine At.op rfl (op_bin rfl rfl (b_sub (by omega) (by omega)) rfl ?_)
        refine At.op rfl (op_max rfl rfl rfl ?_)
        refine At.op rfl (op_bin rfl rfl (b_mul (by split <;> omega) (by split <;> omega)) rfl ?_)
        refine At.op rfl (op_bin rfl rfl (Bin.cast (v' := .bool true) b_ge (congrArg Value.bool (decide_eq_true (by split <;> omega)))) rfl ?_)
        refine At.nil ?_
        refine At.then_n ?_
        refine At.cond_t rfl ?_
        refine At.region ?_
        refine At.op rfl (op_assign rfl rfl ?_)
        refine At.nil ?_
        refine At.then_n ?_
        refine At.seq ?_
        refine At.region ?_
        refine At.op rfl (op_move rfl rfl ?_)
        refine At.op rfl (op_move rfl rfl ?_)
        refine At.op rfl (op_bin rfl rfl (Bin.cast (v' := .bool false) b_ne (congrArg Value.bool (by rw [decide_eq_true rfl]; rfl))) rfl ?_)
        refine At.nil ?_
        refine At.then_n ?_
        refine At.cond_f rfl ?_
        refine At.skip ?_
        refine At.blk_n ?_
        refine At.then_n ?_
        refine At.region ?_
        refine At.op rfl (op_move rfl rfl ?_)
        refine At.op rfl (op_bin rfl rfl (b_add (by omega) (by omega)) rfl ?_)
        refine At.op rfl (op_assign rfl rfl ?_)
        refine At.nil ?_
        refine At.then_n ?_
        first
          | exact At.back (k + 1, c.prog i (c.next i).toNat sb (putS 1 g.seq [116]) pa pc, (Lg.mk g.lb g.mb i (g.seq + 1) g.ret g.clock)) ⟨by dsimp only; omega, hc1, ho1, hab, by simp [Chp.prog]; omega, hsg⟩ (by dsimp only; omega) (.cons rfl (.cons rfl (.cons rfl (.cons rfl (.cons rfl .nil))))) (.cons (by first | exact Pull.p0 | exact Pull.p1 | exact Pull.p2 | exact Pull.p3 | exact Pull.p4 | exact Pull.p5 | exact Pull.p6 | exact Pull.p7 | exact Pull.p8 | exact Pull.p9) (.cons (by first | exact Pull.p0 | exact Pull.p1 | exact Pull.p2 | exact Pull.p3 | exact Pull.p4 | exact Pull.p5 | exact Pull.p6 | exact Pull.p7 | exact Pull.p8 | exact Pull.p9) (.cons (by first | exact Pull.p0 | exact Pull.p1 | exact Pull.p2 | exact Pull.p3 | exact Pull.p4 | exact Pull.p5 | exact Pull.p6 | exact Pull.p7 | exact Pull.p8 | exact Pull.p9) .nil)))
          | exact At.back (k + 1, c, g) ⟨by dsimp only; omega, hc, ho, hab, by dsimp only; omega, hsg⟩ (by dsimp only; omega) (.cons rfl (.cons rfl (.cons rfl (.cons rfl (.cons rfl .nil))))) (.cons (by first | exact Pull.p0 | exact Pull.p1 | exact Pull.p2 | exact Pull.p3 | exact Pull.p4 | exact Pull.p5 | exact Pull.p6 | exact Pull.p7 | exact Pull.p8 | exact Pull.p9) (.cons (by first | exact Pull.p0 | exact Pull.p1 | exact Pull.p2 | exact Pull.p3 | exact Pull.p4 | exact Pull.p5 | exact Pull.p6 | exact Pull.p7 | exact Pull.p8 | exact Pull.p9) (.cons (by first | exact Pull.p0 | exact Pull.p1 | exact Pull.p2 | exact Pull.p3 | exact Pull.p4 | exact Pull.p5 | exact Pull.p6 | exact Pull.p7 | exact Pull.p8 | exact Pull.p9) .nil)))
      ·
        obtain ⟨sb, pa, pc, rfl, rfl⟩ := hp
        obtain ⟨hc1, ho1, ha1, hs1, hs2, hs3⟩ := app_step hc ho hs sb (putS 1 g.seq [116]) (by rw [putS_length _ _ _ (by decide)]; decide) pa pc
        refine At.app3 ?_
        have hq1 := r_app kk hkk k (by omega)
        rw [← ha, hs] at hq1
        have hge : ¬ 3 * (6 - kk) ≤ k := of_decide_eq_false hq1.symm
        have hab : abs (Lg.mk g.lb g.mb i (g.seq + 1) g.ret g.clock) (c.prog i (c.next i).toNat sb (putS 1 g.seq [116]) pa pc) = iter (fun a => a.app (kk : Nat)) (k + 1) rA := by rw [iter, ← ha, ha1]
        refine At.op rfl (op_move rfl rfl ?_)
        refine At.op rfl (op_extractL rfl .zero rfl ?_)
        refine At.op rfl (op_extractL rfl (.succ .zero) rfl ?_)
        refine At.op rfl (op_alloc Tryz.zeroValue32 rfl rfl ?_)
        intro b12
        refine At.op rfl (op_storeW rfl rfl Tryz.sizeOf32 (List.forall_mem_cons.2 ⟨rfl, (List.forall_mem_cons.2 ⟨rfl, (fun _ h => by cases h)⟩)⟩) (by first | with_reducible exact Pull.p0 | with_reducible exact Pull.p1 | with_reducible exact Pull.p2 | with_reducible exact Pull.p3 | with_reducible exact Pull.p4 | with_reducible exact Pull.p5 | with_reducible exact Pull.p6 | with_reducible exact Pull.p7 | with_reducible exact Pull.p8 | with_reducible exact Pull.p9) rfl rfl ?_)
        refine At.op rfl (op_assign rfl rfl ?_)
        refine At.nil ?_
        refine At.then_n ?_
        refine At.seq ?_
        refine At.keep [(0, _), (2, _), (8, _), (10, _), (11, _), (13, _)] (.cons rfl (.cons rfl (.cons rfl (.cons rfl (.cons rfl (.cons rfl .nil)))))) ?_
        refine At.region ?_
        refine At.op rfl (op_assign rfl rfl ?_)
        refine At.nil ?_
        refine At.then_n ?_
        refine At.seq ?_
        refine At.seq ?_
        refine At.region ?_
        refine At.op rfl (op_move rfl rfl ?_)
        refine At.op rfl (op_move rfl rfl ?_)
        refine At.op rfl (op_bin rfl rfl (b_sub (by omega) (by omega)) rfl ?_)
        refine At.op rfl (op_max rfl rfl rfl ?_)
        refine At.op rfl (op_bin rfl rfl (b_mul (by split <;> omega) (by split <;> omega)) rfl ?_)
        refine At.op rfl (op_bin rfl rfl (Bin.cast (v' := .bool false) b_ge (congrArg Value.bool (decide_eq_false (by split <;> omega)))) rfl ?_)
        refine At.nil ?_
        refine At.then_n ?_
        refine At.cond_f rfl ?_
        refine At.skip ?_
        refine At.then_n ?_
        refine At.seq ?_
        refine At.region ?_
        refine At.op rfl (op_move rfl rfl ?_)
        refine At.op rfl (op_move rfl rfl ?_)
        refine At.op rfl (op_bin rfl rfl (Bin.cast (v' := .bool false) b_ne (congrArg Value.bool (by rw [decide_eq_true rfl]; rfl))) rfl ?_)
        refine At.nil ?_
        refine At.then_n ?_
        refine At.cond_f rfl ?_
        refine At.skip ?_
        refine At.blk_n ?_
        refine At.then_n ?_
        refine At.region ?_
        refine At.op rfl (op_move rfl rfl ?_)
        refine At.op rfl (op_bin rfl rfl (b_add (by omega) (by omega)) rfl ?_)
        refine At.op rfl (op_assign rfl rfl ?_)
        refine At.nil ?_
        refine At.then_n ?_
        first
          | exact At.back (k + 1, c.prog i (c.next i).toNat sb (putS 1 g.seq [116]) pa pc, (Lg.mk g.lb g.mb i (g.seq + 1) g.ret g.clock)) ⟨by dsimp only; omega, hc1, ho1, hab, by simp [Chp.prog]; omega, hsg⟩ (by dsimp only; omega) (.cons rfl (.cons rfl (.cons rfl (.cons rfl (.cons rfl .nil))))) (.cons (by first | exact Pull.p0 | exact Pull.p1 | exact Pull.p2 | exact Pull.p3 | exact Pull.p4 | exact Pull.p5 | exact Pull.p6 | exact Pull.p7 | exact Pull.p8 | exact Pull.p9) (.cons (by first | exact Pull.p0 | exact Pull.p1 | exact Pull.p2 | exact Pull.p3 | exact Pull.p4 | exact Pull.p5 | exact Pull.p6 | exact Pull.p7 | exact Pull.p8 | exact Pull.p9) (.cons (by first | exact Pull.p0 | exact Pull.p1 | exact Pull.p2 | exact Pull.p3 | exact Pull.p4 | exact Pull.p5 | exact Pull.p6 | exact Pull.p7 | exact Pull.p8 | exact Pull.p9) .nil)))
          | exact At.back (k + 1, c, g) ⟨by dsimp only; omega, hc, ho, hab, by dsimp only; omega, hsg⟩ (by dsimp only; omega) (.cons rfl (.cons rfl (.cons rfl (.cons rfl (.cons rfl .nil))))) (.cons (by first | exact Pull.p0 | exact Pull.p1 | exact Pull.p2 | exact Pull.p3 | exact Pull.p4 | exact Pull.p5 | exact Pull.p6 | exact Pull.p7 | exact Pull.p8 | exact Pull.p9) (.cons (by first | exact Pull.p0 | exact Pull.p1 | exact Pull.p2 | exact Pull.p3 | exact Pull.p4 | exact Pull.p5 | exact Pull.p6 | exact Pull.p7 | exact Pull.p8 | exact Pull.p9) (.cons (by first | exact Pull.p0 | exact Pull.p1 | exact Pull.p2 | exact Pull.p3 | exact Pull.p4 | exact Pull.p5 | exact Pull.p6 | exact Pull.p7 | exact Pull.p8 | exact Pull.p9) .nil)))
    ·
      obtain rfl : k = nn := by omega
      have hret0 : ∀ i : Nat, i < 6 → iget g.ret i = 0 := fun i hi => by
        rw [← abs_ret g c (by omega), ha, iter_app_ret]
        exact (show ∀ i, i < 6 → rA.ret.getD i 0 = 0 by decide) i hi
      have hret0' : ∀ i : Nat, g.op = i → iget g.ret i = 0 := fun i hi => hret0 i (by rcases ho with h | ⟨j, h, hj⟩ <;> omega)
      refine At.exit ?_
      refine At.then_e ?_
      refine At.then_e ?_
      refine At.blk_e ?_
      refine At.then_n ?_
      refine At.seq ?_
      refine At.seq ?_
      refine At.region ?_
      refine At.op rfl (op_assign rfl rfl ?_)
      refine At.nil ?_
      refine At.then_n ?_
      refine At.block ?_
      refine At.cut (rs' := (fun s => [chipR s.2.1, logRow s.2.2 s.2.1.cb, logMap s.2.2]) ((0, c, g) : Nat × Chp × Lg)) (.cons (by first | exact Pull.p0 | exact Pull.p1 | exact Pull.p2 | exact Pull.p3 | exact Pull.p4 | exact Pull.p5 | exact Pull.p6 | exact Pull.p7 | exact Pull.p8 | exact Pull.p9) (.cons (by first | exact Pull.p0 | exact Pull.p1 | exact Pull.p2 | exact Pull.p3 | exact Pull.p4 | exact Pull.p5 | exact Pull.p6 | exact Pull.p7 | exact Pull.p8 | exact Pull.p9) (.cons (by first | exact Pull.p0 | exact Pull.p1 | exact Pull.p2 | exact Pull.p3 | exact Pull.p4 | exact Pull.p5 | exact Pull.p6 | exact Pull.p7 | exact Pull.p8 | exact Pull.p9) .nil))) ?_
      refine At.keep ((fun s => [(2, .slice ad xs.length cp), (8, ptr s.2.2.lb 0), (15, i64 s.1)]) ((0, c, g) : Nat × Chp × Lg)) (.cons rfl (.cons rfl (.cons rfl .nil))) ?_
      refine At.loop (σ := Nat × Chp × Lg) (fun s => s.1 ≤ xs.length ∧ s.2.1.wf ∧ opOK s.2.2 s.2.1 ∧ s.2.1.segs = 6 ∧ (∀ i : Nat, i < 6 → 0 ≤ iget s.2.2.ret i ∧ iget s.2.2.ret i ≤ s.1) ∧ (∀ i : Nat, s.2.2.op = i → iget s.2.2.ret i = 0)) (fun s => [(2, .slice ad xs.length cp), (8, ptr s.2.2.lb 0), (15, i64 s.1)]) (fun s => [chipR s.2.1, logRow s.2.2 s.2.1.cb, logMap s.2.2]) (fun s => xs.length - s.1) ((0, c, g) : Nat × Chp × Lg) ⟨Nat.zero_le _, hc, ho, hsg, fun i hi => by dsimp only; rw [hret0 i hi]; exact ⟨Int.le_refl _, Int.le_refl _⟩, fun i hi => hret0' i hi⟩ ?_
      rintro ⟨k, c, g⟩ ⟨hk, hc, ho, hsg, hr, hz⟩
      dsimp only at hk hc ho hsg hr hz ⊢
      refine At.seq ?_
      refine At.seq ?_
      refine At.region ?_
      refine At.op rfl (op_move rfl rfl ?_)
      refine At.op rfl (op_move rfl rfl ?_)
      refine At.op rfl (op_len_slc rfl Tryz.underlying47 rfl ?_)
      refine At.op rfl (op_bin rfl rfl b_lt rfl ?_)
      refine At.nil ?_
      refine At.then_n ?_
      refine At.cond_p rfl (fun hlt1 => ?_) (fun hlt1 => ?_)
      ·
        obtain ⟨x, hx⟩ : ∃ x, xs[k]? = some x := ⟨_, List.getElem?_eq_getElem (by omega)⟩
        obtain ⟨eb, eo, rfl, hcell⟩ := hxs k (u8 x) (by rw [List.getElem?_map, hx]; rfl)
        obtain ⟨ee, hee0⟩ : ∃ y, y = x.toNat % 6 := ⟨_, rfl⟩
        have hee : ee < 6 := by omega
        have hx8 := x.toNat_lt
        refine At.skip ?_
        refine At.then_n ?_
        refine At.seq ?_
        refine At.block ?_
        refine At.seq ?_
        refine At.region ?_
        refine At.op rfl (op_move rfl rfl ?_)
        refine At.op rfl (op_move rfl rfl ?_)
        refine At.op rfl (op_move rfl rfl ?_)
        refine At.op rfl (op_indexS rfl rfl Tryz.underlying47 Tryz.sizeOf5 (by omega) (by omega) rfl ?_)
        refine At.op rfl (op_loadK rfl Tryz.isAgg5 (fun w hw => by simpa using hcell w hw) rfl ?_)
        refine At.op rfl (op_conv rfl (cv_u8_i64 Tryz.underlying5 Tryz.underlying3 _) rfl ?_)
        refine At.op rfl (op_bin rfl rfl (Bin.cast (v' := i64 (ee : Nat)) (b_rem (by omega) (by decide)) (congrArg (Value.int .i64) (by omega))) rfl ?_)
        rcases hce : (abs g c).canErase ee with _ | _
        ·
          have hc1 := hc
          have hb0 := hr ee hee
          have ho1 : opOK (retireL g ee) c := opOK_erase ho rfl ee _ _
          have hr1 : ∀ i : Nat, i < 6 → 0 ≤ iget (retireL g ee).ret i ∧ iget (retireL g ee).ret i ≤ ((k + 1 : Nat) : Int) := fun i hi => by
            have := hr i hi
            rw [ret_retire i hb0.1 (by omega)]
            split <;> omega
          have hz1 : ∀ i : Nat, (retireL g ee).op = i → iget (retireL g ee).ret i = 0 := fun i hi => by
            have e : (if g.op = ee then -1 else g.op) = (i : Int) := hi
            split at e
            · omega
            · rw [ret_retire i hb0.1 (by omega), if_neg (by intro e2; subst e2; exact absurd e (by assumption))]
              exact hz i e
          have hsg1 := hsg
          refine At.op rfl (op_callR rfl Tryz.call12 (seglog_Erase_no c hc g ee (by omega) (erase_no hce)) (.cons (by first | with_reducible exact Pull.p0 | with_reducible exact Pull.p1 | with_reducible exact Pull.p2 | with_reducible exact Pull.p3 | with_reducible exact Pull.p4 | with_reducible exact Pull.p5 | with_reducible exact Pull.p6 | with_reducible exact Pull.p7 | with_reducible exact Pull.p8 | with_reducible exact Pull.p9) (.cons (by first | with_reducible exact Pull.p0 | with_reducible exact Pull.p1 | with_reducible exact Pull.p2 | with_reducible exact Pull.p3 | with_reducible exact Pull.p4 | with_reducible exact Pull.p5 | with_reducible exact Pull.p6 | with_reducible exact Pull.p7 | with_reducible exact Pull.p8 | with_reducible exact Pull.p9) (.cons (by first | with_reducible exact Pull.p0 | with_reducible exact Pull.p1 | with_reducible exact Pull.p2 | with_reducible exact Pull.p3 | with_reducible exact Pull.p4 | with_reducible exact Pull.p5 | with_reducible exact Pull.p6 | with_reducible exact Pull.p7 | with_reducible exact Pull.p8 | with_reducible exact Pull.p9) .nil))) rfl ?_)
          refine At.app3 ?_
          refine At.nil ?_
          refine At.then_n ?_
          refine At.seq ?_
          refine At.keep [(2, _), (8, _), (15, _)] (.cons rfl (.cons rfl (.cons rfl .nil))) ?_
          refine At.region ?_
          refine At.op rfl (op_assign rfl rfl ?_)
          refine At.nil ?_
          refine At.then_n ?_
          refine At.seq ?_
          refine At.seq ?_
          refine At.region ?_
          refine At.op rfl (op_move rfl rfl ?_)
          refine At.op rfl (op_callQ rfl Tryz.call13 (seglog_Open c.cb (retireL g ee)) (.cons (by first | exact Pull.p0 | exact Pull.p1 | exact Pull.p2 | exact Pull.p3 | exact Pull.p4 | exact Pull.p5 | exact Pull.p6 | exact Pull.p7 | exact Pull.p8 | exact Pull.p9) .nil) rfl ?_)
          refine At.op rfl (op_bin rfl rfl b_ge rfl ?_)
          refine At.nil ?_
          refine At.then_n ?_
          refine At.cond_p rfl (fun hopn => ?_) (fun hopn => ?_)
          ·
            have hsum := (seg_count_op ho1 (fun i hi => (hr1 i (by omega)).1) hz1 hopn).trans hsg1
            refine At.region ?_
            refine At.op rfl (op_assign rfl rfl ?_)
            refine At.nil ?_
            refine At.then_n ?_
            refine At.seq ?_
            refine At.region ?_
            refine At.op rfl (op_move rfl rfl ?_)
            refine At.op rfl (op_callQ rfl Tryz.call11 (seglog_Free c hc1 (retireL g ee)) (.cons (by first | exact Pull.p0 | exact Pull.p1 | exact Pull.p2 | exact Pull.p3 | exact Pull.p4 | exact Pull.p5 | exact Pull.p6 | exact Pull.p7 | exact Pull.p8 | exact Pull.p9) (.cons (by first | exact Pull.p0 | exact Pull.p1 | exact Pull.p2 | exact Pull.p3 | exact Pull.p4 | exact Pull.p5 | exact Pull.p6 | exact Pull.p7 | exact Pull.p8 | exact Pull.p9) (.cons (by first | exact Pull.p0 | exact Pull.p1 | exact Pull.p2 | exact Pull.p3 | exact Pull.p4 | exact Pull.p5 | exact Pull.p6 | exact Pull.p7 | exact Pull.p8 | exact Pull.p9) .nil))) rfl ?_)
            refine At.op rfl (op_move rfl rfl ?_)
            refine At.op rfl (op_bin rfl rfl (b_add (by omega) (by omega)) rfl ?_)
            refine At.op rfl (op_move rfl rfl ?_)
            refine At.op rfl (op_callF rfl Tryz.call16 (seglog_Used c hc1 (retireL g ee)) (.cons (by first | exact Pull.p0 | exact Pull.p1 | exact Pull.p2 | exact Pull.p3 | exact Pull.p4 | exact Pull.p5 | exact Pull.p6 | exact Pull.p7 | exact Pull.p8 | exact Pull.p9) (.cons (by first | exact Pull.p0 | exact Pull.p1 | exact Pull.p2 | exact Pull.p3 | exact Pull.p4 | exact Pull.p5 | exact Pull.p6 | exact Pull.p7 | exact Pull.p8 | exact Pull.p9) (.cons (by first | exact Pull.p0 | exact Pull.p1 | exact Pull.p2 | exact Pull.p3 | exact Pull.p4 | exact Pull.p5 | exact Pull.p6 | exact Pull.p7 | exact Pull.p8 | exact Pull.p9) .nil))) rfl ?_)
            rintro v _ ⟨adU, cpU, rfl, rfl⟩
            refine At.app3 ?_
            refine At.op rfl (op_len_slc rfl Tryz.underlying48 rfl ?_)
            refine At.op rfl (op_bin rfl rfl (b_add (by omega) (by omega)) rfl ?_)
            refine At.op rfl (op_move rfl rfl ?_)
            refine At.op rfl (op_callF rfl Tryz.call17 (seglog_Retired c hc1 (retireL g ee)) (.cons (by first | exact Pull.p0 | exact Pull.p1 | exact Pull.p2 | exact Pull.p3 | exact Pull.p4 | exact Pull.p5 | exact Pull.p6 | exact Pull.p7 | exact Pull.p8 | exact Pull.p9) (.cons (by first | exact Pull.p0 | exact Pull.p1 | exact Pull.p2 | exact Pull.p3 | exact Pull.p4 | exact Pull.p5 | exact Pull.p6 | exact Pull.p7 | exact Pull.p8 | exact Pull.p9) (.cons (by first | exact Pull.p0 | exact Pull.p1 | exact Pull.p2 | exact Pull.p3 | exact Pull.p4 | exact Pull.p5 | exact Pull.p6 | exact Pull.p7 | exact Pull.p8 | exact Pull.p9) .nil))) rfl ?_)
            rintro v _ ⟨adR, cpR, rfl, rfl⟩
            refine At.app3 ?_
            refine At.op rfl (op_len_slc rfl Tryz.underlying48 rfl ?_)
            refine At.op rfl (op_bin rfl rfl (b_add (by omega) (by omega)) rfl ?_)
            refine At.op rfl (op_bin rfl rfl (Bin.cast (v' := .bool false) b_ne (congrArg Value.bool (by rw [decide_eq_true (by omega)]; rfl))) rfl ?_)
            refine At.nil ?_
            refine At.then_n ?_
            refine At.cond_f rfl ?_
            refine At.skip ?_
            refine At.blk_n ?_
            refine At.then_n ?_
            refine At.keep [(2, _), (8, _), (15, _)] (.cons rfl (.cons rfl (.cons rfl .nil))) ?_
            refine At.region ?_
            refine At.op rfl (op_move rfl rfl ?_)
            refine At.op rfl (op_bin rfl rfl (b_add (by omega) (by omega)) rfl ?_)
            refine At.op rfl (op_assign rfl rfl ?_)
            refine At.nil ?_
            refine At.then_n ?_
            first
              | exact At.back (k + 1, c.erased ee, eraseL g ee) ⟨by dsimp only; omega, hc1, ho1, hsg1, hr1, hz1⟩ (by dsimp only; omega) (.cons rfl (.cons rfl (.cons rfl .nil))) (.cons (by first | exact Pull.p0 | exact Pull.p1 | exact Pull.p2 | exact Pull.p3 | exact Pull.p4 | exact Pull.p5 | exact Pull.p6 | exact Pull.p7 | exact Pull.p8 | exact Pull.p9) (.cons (by first | exact Pull.p0 | exact Pull.p1 | exact Pull.p2 | exact Pull.p3 | exact Pull.p4 | exact Pull.p5 | exact Pull.p6 | exact Pull.p7 | exact Pull.p8 | exact Pull.p9) (.cons (by first | exact Pull.p0 | exact Pull.p1 | exact Pull.p2 | exact Pull.p3 | exact Pull.p4 | exact Pull.p5 | exact Pull.p6 | exact Pull.p7 | exact Pull.p8 | exact Pull.p9) .nil)))
              | exact At.back (k + 1, c, retireL g ee) ⟨by dsimp only; omega, hc1, ho1, hsg1, hr1, hz1⟩ (by dsimp only; omega) (.cons rfl (.cons rfl (.cons rfl .nil))) (.cons (by first | exact Pull.p0 | exact Pull.p1 | exact Pull.p2 | exact Pull.p3 | exact Pull.p4 | exact Pull.p5 | exact Pull.p6 | exact Pull.p7 | exact Pull.p8 | exact Pull.p9) (.cons (by first | exact Pull.p0 | exact Pull.p1 | exact Pull.p2 | exact Pull.p3 | exact Pull.p4 | exact Pull.p5 | exact Pull.p6 | exact Pull.p7 | exact Pull.p8 | exact Pull.p9) (.cons (by first | exact Pull.p0 | exact Pull.p1 | exact Pull.p2 | exact Pull.p3 | exact Pull.p4 | exact Pull.p5 | exact Pull.p6 | exact Pull.p7 | exact Pull.p8 | exact Pull.p9) .nil)))
          ·
            have hsum := (seg_count_no ho1 (fun i hi => (hr1 i (by omega)).1) hz1 (by omega)).trans hsg1
            refine At.skip ?_
            refine At.then_n ?_
            refine At.seq ?_
            refine At.region ?_
            refine At.op rfl (op_move rfl rfl ?_)
            refine At.op rfl (op_callQ rfl Tryz.call11 (seglog_Free c hc1 (retireL g ee)) (.cons (by first | exact Pull.p0 | exact Pull.p1 | exact Pull.p2 | exact Pull.p3 | exact Pull.p4 | exact Pull.p5 | exact Pull.p6 | exact Pull.p7 | exact Pull.p8 | exact Pull.p9) (.cons (by first | exact Pull.p0 | exact Pull.p1 | exact Pull.p2 | exact Pull.p3 | exact Pull.p4 | exact Pull.p5 | exact Pull.p6 | exact Pull.p7 | exact Pull.p8 | exact Pull.p9) (.cons (by first | exact Pull.p0 | exact Pull.p1 | exact Pull.p2 | exact Pull.p3 | exact Pull.p4 | exact Pull.p5 | exact Pull.p6 | exact Pull.p7 | exact Pull.p8 | exact Pull.p9) .nil))) rfl ?_)
            refine At.op rfl (op_move rfl rfl ?_)
            refine At.op rfl (op_bin rfl rfl (b_add (by omega) (by omega)) rfl ?_)
            refine At.op rfl (op_move rfl rfl ?_)
            refine At.op rfl (op_callF rfl Tryz.call16 (seglog_Used c hc1 (retireL g ee)) (.cons (by first | exact Pull.p0 | exact Pull.p1 | exact Pull.p2 | exact Pull.p3 | exact Pull.p4 | exact Pull.p5 | exact Pull.p6 | exact Pull.p7 | exact Pull.p8 | exact Pull.p9) (.cons (by first | exact Pull.p0 | exact Pull.p1 | exact Pull.p2 | exact Pull.p3 | exact Pull.p4 | exact Pull.p5 | exact Pull.p6 | exact Pull.p7 | exact Pull.p8 | exact Pull.p9) (.cons (by first | exact Pull.p0 | exact Pull.p1 | exact Pull.p2 | exact Pull.p3 | exact Pull.p4 | exact Pull.p5 | exact Pull.p6 | exact Pull.p7 | exact Pull.p8 | exact Pull.p9) .nil))) rfl ?_)
            rintro v _ ⟨adU, cpU, rfl, rfl⟩
            refine At.app3 ?_
            refine At.op rfl (op_len_slc rfl Tryz.underlying48 rfl ?_)
            refine At.op rfl (op_bin rfl rfl (b_add (by omega) (by omega)) rfl ?_)
            refine At.op rfl (op_move rfl rfl ?_)
            refine At.op rfl (op_callF rfl Tryz.call17 (seglog_Retired c hc1 (retireL g ee)) (.cons (by first | exact Pull.p0 | exact Pull.p1 | exact Pull.p2 | exact Pull.p3 | exact Pull.p4 | exact Pull.p5 | exact Pull.p6 | exact Pull.p7 | exact Pull.p8 | exact Pull.p9) (.cons (by first | exact Pull.p0 | exact Pull.p1 | exact Pull.p2 | exact Pull.p3 | exact Pull.p4 | exact Pull.p5 | exact Pull.p6 | exact Pull.p7 | exact Pull.p8 | exact Pull.p9) (.cons (by first | exact Pull.p0 | exact Pull.p1 | exact Pull.p2 | exact Pull.p3 | exact Pull.p4 | exact Pull.p5 | exact Pull.p6 | exact Pull.p7 | exact Pull.p8 | exact Pull.p9) .nil))) rfl ?_)
            rintro v _ ⟨adR, cpR, rfl, rfl⟩
            refine At.app3 ?_
            refine At.op rfl (op_len_slc rfl Tryz.underlying48 rfl ?_)
            refine At.op rfl (op_bin rfl rfl (b_add (by omega) (by omega)) rfl ?_)
            refine At.op rfl (op_bin rfl rfl (Bin.cast (v' := .bool false) b_ne (congrArg Value.bool (by rw [decide_eq_true (by omega)]; rfl))) rfl ?_)
            refine At.nil ?_
            refine At.then_n ?_
            refine At.cond_f rfl ?_
            refine At.skip ?_
            refine At.blk_n ?_
            refine At.then_n ?_
            refine At.keep [(2, _), (8, _), (15, _)] (.cons rfl (.cons rfl (.cons rfl .nil))) ?_
            refine At.region ?_
            refine At.op rfl (op_move rfl rfl ?_)
            refine At.op rfl (op_bin rfl rfl (b_add (by omega) (by omega)) rfl ?_)
            refine At.op rfl (op_assign rfl rfl ?_)
            refine At.nil ?_
            refine At.then_n ?_
            first
              | exact At.back (k + 1, c.erased ee, eraseL g ee) ⟨by dsimp only; omega, hc1, ho1, hsg1, hr1, hz1⟩ (by dsimp only; omega) (.cons rfl (.cons rfl (.cons rfl .nil))) (.cons (by first | exact Pull.p0 | exact Pull.p1 | exact Pull.p2 | exact Pull.p3 | exact Pull.p4 | exact Pull.p5 | exact Pull.p6 | exact Pull.p7 | exact Pull.p8 | exact Pull.p9) (.cons (by first | exact Pull.p0 | exact Pull.p1 | exact Pull.p2 | exact Pull.p3 | exact Pull.p4 | exact Pull.p5 | exact Pull.p6 | exact Pull.p7 | exact Pull.p8 | exact Pull.p9) (.cons (by first | exact Pull.p0 | exact Pull.p1 | exact Pull.p2 | exact Pull.p3 | exact Pull.p4 | exact Pull.p5 | exact Pull.p6 | exact Pull.p7 | exact Pull.p8 | exact Pull.p9) .nil)))
              | exact At.back (k + 1, c, retireL g ee) ⟨by dsimp only; omega, hc1, ho1, hsg1, hr1, hz1⟩ (by dsimp only; omega) (.cons rfl (.cons rfl (.cons rfl .nil))) (.cons (by first | exact Pull.p0 | exact Pull.p1 | exact Pull.p2 | exact Pull.p3 | exact Pull.p4 | exact Pull.p5 | exact Pull.p6 | exact Pull.p7 | exact Pull.p8 | exact Pull.p9) (.cons (by first | exact Pull.p0 | exact Pull.p1 | exact Pull.p2 | exact Pull.p3 | exact Pull.p4 | exact Pull.p5 | exact Pull.p6 | exact Pull.p7 | exact Pull.p8 | exact Pull.p9) (.cons (by first | exact Pull.p0 | exact Pull.p1 | exact Pull.p2 | exact Pull.p3 | exact Pull.p4 | exact Pull.p5 | exact Pull.p6 | exact Pull.p7 | exact Pull.p8 | exact Pull.p9) .nil)))
        ·
          obtain ⟨hc1, ho1, ha1⟩ := erase_step hc ho hce
          have hr1 : ∀ i : Nat, i < 6 → 0 ≤ iget (eraseL g ee).ret i ∧ iget (eraseL g ee).ret i ≤ ((k + 1 : Nat) : Int) := fun i hi => by have := hr i hi; exact ⟨this.1, by show iget g.ret i ≤ _; omega⟩
          have hz1 : ∀ i : Nat, (eraseL g ee).op = i → iget (eraseL g ee).ret i = 0 := fun i hi => by
            have e : (if g.op = ee then -1 else g.op) = (i : Int) := hi
            split at e
            · omega
            · exact hz i e
          have hsg1 : (c.erased ee).segs = 6 := hsg
          refine At.op rfl (op_callR rfl Tryz.call12 (seglog_Erase_ok c hc g ee (by omega) (erase_ok hce).1 (erase_ok hce).2) (.cons (by first | with_reducible exact Pull.p0 | with_reducible exact Pull.p1 | with_reducible exact Pull.p2 | with_reducible exact Pull.p3 | with_reducible exact Pull.p4 | with_reducible exact Pull.p5 | with_reducible exact Pull.p6 | with_reducible exact Pull.p7 | with_reducible exact Pull.p8 | with_reducible exact Pull.p9) (.cons (by first | with_reducible exact Pull.p0 | with_reducible exact Pull.p1 | with_reducible exact Pull.p2 | with_reducible exact Pull.p3 | with_reducible exact Pull.p4 | with_reducible exact Pull.p5 | with_reducible exact Pull.p6 | with_reducible exact Pull.p7 | with_reducible exact Pull.p8 | with_reducible exact Pull.p9) (.cons (by first | with_reducible exact Pull.p0 | with_reducible exact Pull.p1 | with_reducible exact Pull.p2 | with_reducible exact Pull.p3 | with_reducible exact Pull.p4 | with_reducible exact Pull.p5 | with_reducible exact Pull.p6 | with_reducible exact Pull.p7 | with_reducible exact Pull.p8 | with_reducible exact Pull.p9) .nil))) rfl ?_)
          refine At.app3 ?_
          refine At.nil ?_
          refine At.then_n ?_
          refine At.seq ?_
          refine At.keep [(2, _), (8, _), (15, _)] (.cons rfl (.cons rfl (.cons rfl .nil))) ?_
          refine At.region ?_
          refine At.op rfl (op_assign rfl rfl ?_)
          refine At.nil ?_
          refine At.then_n ?_
          refine At.seq ?_
          refine At.seq ?_
          refine At.region ?_
          refine At.op rfl (op_move rfl rfl ?_)
          refine At.op rfl (op_callQ rfl Tryz.call13 (seglog_Open c.cb (eraseL g ee)) (.cons (by first | exact Pull.p0 | exact Pull.p1 | exact Pull.p2 | exact Pull.p3 | exact Pull.p4 | exact Pull.p5 | exact Pull.p6 | exact Pull.p7 | exact Pull.p8 | exact Pull.p9) .nil) rfl ?_)
          refine At.op rfl (op_bin rfl rfl b_ge rfl ?_)
          refine At.nil ?_
          refine At.then_n ?_
          refine At.cond_p rfl (fun hopn => ?_) (fun hopn => ?_)
          ·
            have hsum := (seg_count_op ho1 (fun i hi => (hr1 i (by omega)).1) hz1 hopn).trans hsg1
            refine At.region ?_
            refine At.op rfl (op_assign rfl rfl ?_)
            refine At.nil ?_
            refine At.then_n ?_
            refine At.seq ?_
            refine At.region ?_
            refine At.op rfl (op_move rfl rfl ?_)
            refine At.op rfl (op_callQ rfl Tryz.call11 (seglog_Free (c.erased ee) hc1 (eraseL g ee)) (.cons (by first | exact Pull.p0 | exact Pull.p1 | exact Pull.p2 | exact Pull.p3 | exact Pull.p4 | exact Pull.p5 | exact Pull.p6 | exact Pull.p7 | exact Pull.p8 | exact Pull.p9) (.cons (by first | exact Pull.p0 | exact Pull.p1 | exact Pull.p2 | exact Pull.p3 | exact Pull.p4 | exact Pull.p5 | exact Pull.p6 | exact Pull.p7 | exact Pull.p8 | exact Pull.p9) (.cons (by first | exact Pull.p0 | exact Pull.p1 | exact Pull.p2 | exact Pull.p3 | exact Pull.p4 | exact Pull.p5 | exact Pull.p6 | exact Pull.p7 | exact Pull.p8 | exact Pull.p9) .nil))) rfl ?_)
            refine At.op rfl (op_move rfl rfl ?_)
            refine At.op rfl (op_bin rfl rfl (b_add (by omega) (by omega)) rfl ?_)
            refine At.op rfl (op_move rfl rfl ?_)
            refine At.op rfl (op_callF rfl Tryz.call16 (seglog_Used (c.erased ee) hc1 (eraseL g ee)) (.cons (by first | exact Pull.p0 | exact Pull.p1 | exact Pull.p2 | exact Pull.p3 | exact Pull.p4 | exact Pull.p5 | exact Pull.p6 | exact Pull.p7 | exact Pull.p8 | exact Pull.p9) (.cons (by first | exact Pull.p0 | exact Pull.p1 | exact Pull.p2 | exact Pull.p3 | exact Pull.p4 | exact Pull.p5 | exact Pull.p6 | exact Pull.p7 | exact Pull.p8 | exact Pull.p9) (.cons (by first | exact Pull.p0 | exact Pull.p1 | exact Pull.p2 | exact Pull.p3 | exact Pull.p4 | exact Pull.p5 | exact Pull.p6 | exact Pull.p7 | exact Pull.p8 | exact Pull.p9) .nil))) rfl ?_)
            rintro v _ ⟨adU, cpU, rfl, rfl⟩
            refine At.app3 ?_
            refine At.op rfl (op_len_slc rfl Tryz.underlying48 rfl ?_)
            refine At.op rfl (op_bin rfl rfl (b_add (by omega) (by omega)) rfl ?_)
            refine At.op rfl (op_move rfl rfl ?_)
            refine At.op rfl (op_callF rfl Tryz.call17 (seglog_Retired (c.erased ee) hc1 (eraseL g ee)) (.cons (by first | exact Pull.p0 | exact Pull.p1 | exact Pull.p2 | exact Pull.p3 | exact Pull.p4 | exact Pull.p5 | exact Pull.p6 | exact Pull.p7 | exact Pull.p8 | exact Pull.p9) (.cons (by first | exact Pull.p0 | exact Pull.p1 | exact Pull.p2 | exact Pull.p3 | exact Pull.p4 | exact Pull.p5 | exact Pull.p6 | exact Pull.p7 | exact Pull.p8 | exact Pull.p9) (.cons (by first | exact Pull.p0 | exact Pull.p1 | exact Pull.p2 | exact Pull.p3 | exact Pull.p4 | exact Pull.p5 | exact Pull.p6 | exact Pull.p7 | exact Pull.p8 | exact Pull.p9) .nil))) rfl ?_)
            rintro v _ ⟨adR, cpR, rfl, rfl⟩
            refine At.app3 ?_
            refine At.op rfl (op_len_slc rfl Tryz.underlying48 rfl ?_)
            refine At.op rfl (op_bin rfl rfl (b_add (by omega) (by omega)) rfl ?_)
            refine At.op rfl (op_bin rfl rfl (Bin.cast (v' := .bool false) b_ne (congrArg Value.bool (by rw [decide_eq_true (by omega)]; rfl))) rfl ?_)
            refine At.nil ?_
            refine At.then_n ?_
            refine At.cond_f rfl ?_
            refine At.skip ?_
            refine At.blk_n ?_
            refine At.then_n ?_
            refine At.keep [(2, _), (8, _), (15, _)] (.cons rfl (.cons rfl (.cons rfl .nil))) ?_
            refine At.region ?_
            refine At.op rfl (op_move rfl rfl ?_)
            refine At.op rfl (op_bin rfl rfl (b_add (by omega) (by omega)) rfl ?_)
            refine At.op rfl (op_assign rfl rfl ?_)
            refine At.nil ?_
            refine At.then_n ?_
            first
              | exact At.back (k + 1, c.erased ee, eraseL g ee) ⟨by dsimp only; omega, hc1, ho1, hsg1, hr1, hz1⟩ (by dsimp only; omega) (.cons rfl (.cons rfl (.cons rfl .nil))) (.cons (by first | exact Pull.p0 | exact Pull.p1 | exact Pull.p2 | exact Pull.p3 | exact Pull.p4 | exact Pull.p5 | exact Pull.p6 | exact Pull.p7 | exact Pull.p8 | exact Pull.p9) (.cons (by first | exact Pull.p0 | exact Pull.p1 | exact Pull.p2 | exact Pull.p3 | exact Pull.p4 | exact Pull.p5 | exact Pull.p6 | exact Pull.p7 | exact Pull.p8 | exact Pull.p9) (.cons (by first | exact Pull.p0 | exact Pull.p1 | exact Pull.p2 | exact Pull.p3 | exact Pull.p4 | exact Pull.p5 | exact Pull.p6 | exact Pull.p7 | exact Pull.p8 | exact Pull.p9) .nil)))
              | exact At.back (k + 1, c, retireL g ee) ⟨by dsimp only; omega, hc1, ho1, hsg1, hr1, hz1⟩ (by dsimp only; omega) (.cons rfl (.cons rfl (.cons rfl .nil))) (.cons (by first | exact Pull.p0 | exact Pull.p1 | exact Pull.p2 | exact Pull.p3 | exact Pull.p4 | exact Pull.p5 | exact Pull.p6 | exact Pull.p7 | exact Pull.p8 | exact Pull.p9) (.cons (by first | exact Pull.p0 | exact Pull.p1 | exact Pull.p2 | exact Pull.p3 | exact Pull.p4 | exact Pull.p5 | exact Pull.p6 | exact Pull.p7 | exact Pull.p8 | exact Pull.p9) (.cons (by first | exact Pull.p0 | exact Pull.p1 | exact Pull.p2 | exact Pull.p3 | exact Pull.p4 | exact Pull.p5 | exact Pull.p6 | exact Pull.p7 | exact Pull.p8 | exact Pull.p9) .nil)))
          ·
            have hsum := (seg_count_no ho1 (fun i hi => (hr1 i (by omega)).1) hz1 (by omega)).trans hsg1
            refine At.skip ?_
            refine At.then_n ?_
            refine At.seq ?_
            refine At.region ?_
            refine At.op rfl (op_move rfl rfl ?_)
            refine At.op rfl (op_callQ rfl Tryz.call11 (seglog_Free (c.erased ee) hc1 (eraseL g ee)) (.cons (by first | exact Pull.p0 | exact Pull.p1 | exact Pull.p2 | exact Pull.p3 | exact Pull.p4 | exact Pull.p5 | exact Pull.p6 | exact Pull.p7 | exact Pull.p8 | exact Pull.p9) (.cons (by first | exact Pull.p0 | exact Pull.p1 | exact Pull.p2 | exact Pull.p3 | exact Pull.p4 | exact Pull.p5 | exact Pull.p6 | exact Pull.p7 | exact Pull.p8 | exact Pull.p9) (.cons (by first | exact Pull.p0 | exact Pull.p1 | exact Pull.p2 | exact Pull.p3 | exact Pull.p4 | exact Pull.p5 | exact Pull.p6 | exact Pull.p7 | exact Pull.p8 | exact Pull.p9) .nil))) rfl ?_)
            refine At.op rfl (op_move rfl rfl ?_)
            refine At.op rfl (op_bin rfl rfl (b_add (by omega) (by omega)) rfl ?_)
            refine At.op rfl (op_move rfl rfl ?_)
            refine At.op rfl (op_callF rfl Tryz.call16 (seglog_Used (c.erased ee) hc1 (eraseL g ee)) (.cons (by first | exact Pull.p0 | exact Pull.p1 | exact Pull.p2 | exact Pull.p3 | exact Pull.p4 | exact Pull.p5 | exact Pull.p6 | exact Pull.p7 | exact Pull.p8 | exact Pull.p9) (.cons (by first | exact Pull.p0 | exact Pull.p1 | exact Pull.p2 | exact Pull.p3 | exact Pull.p4 | exact Pull.p5 | exact Pull.p6 | exact Pull.p7 | exact Pull.p8 | exact Pull.p9) (.cons (by first | exact Pull.p0 | exact Pull.p1 | exact Pull.p2 | exact Pull.p3 | exact Pull.p4 | exact Pull.p5 | exact Pull.p6 | exact Pull.p7 | exact Pull.p8 | exact Pull.p9) .nil))) rfl ?_)
            rintro v _ ⟨adU, cpU, rfl, rfl⟩
            refine At.app3 ?_
            refine At.op rfl (op_len_slc rfl Tryz.underlying48 rfl ?_)
            refine At.op rfl (op_bin rfl rfl (b_add (by omega) (by omega)) rfl ?_)
            refine At.op rfl (op_move rfl rfl ?_)
            refine At.op rfl (op_callF rfl Tryz.call17 (seglog_Retired (c.erased ee) hc1 (eraseL g ee)) (.cons (by first | exact Pull.p0 | exact Pull.p1 | exact Pull.p2 | exact Pull.p3 | exact Pull.p4 | exact Pull.p5 | exact Pull.p6 | exact Pull.p7 | exact Pull.p8 | exact Pull.p9) (.cons (by first | exact Pull.p0 | exact Pull.p1 | exact Pull.p2 | exact Pull.p3 | exact Pull.p4 | exact Pull.p5 | exact Pull.p6 | exact Pull.p7 | exact Pull.p8 | exact Pull.p9) (.cons (by first | exact Pull.p0 | exact Pull.p1 | exact Pull.p2 | exact Pull.p3 | exact Pull.p4 | exact Pull.p5 | exact Pull.p6 | exact Pull.p7 | exact Pull.p8 | exact Pull.p9) .nil))) rfl ?_)
            rintro v _ ⟨adR, cpR, rfl, rfl⟩
            refine At.app3 ?_
            refine At.op rfl (op_len_slc rfl Tryz.underlying48 rfl ?_)
            refine At.op rfl (op_bin rfl rfl (b_add (by omega) (by omega)) rfl ?_)
            refine At.op rfl (op_bin rfl rfl (Bin.cast (v' := .bool false) b_ne (congrArg Value.bool (by rw [decide_eq_true (by omega)]; rfl))) rfl ?_)
            refine At.nil ?_
            refine At.then_n ?_
            refine At.cond_f rfl ?_
            refine At.skip ?_
            refine At.blk_n ?_
            refine At.then_n ?_
            refine At.keep [(2, _), (8, _), (15, _)] (.cons rfl (.cons rfl (.cons rfl .nil))) ?_
            refine At.region ?_
            refine At.op rfl (op_move rfl rfl ?_)
            refine At.op rfl (op_bin rfl rfl (b_add (by omega) (by omega)) rfl ?_)
            refine At.op rfl (op_assign rfl rfl ?_)
            refine At.nil ?_
            refine At.then_n ?_
            first
              | exact At.back (k + 1, c.erased ee, eraseL g ee) ⟨by dsimp only; omega, hc1, ho1, hsg1, hr1, hz1⟩ (by dsimp only; omega) (.cons rfl (.cons rfl (.cons rfl .nil))) (.cons (by first | exact Pull.p0 | exact Pull.p1 | exact Pull.p2 | exact Pull.p3 | exact Pull.p4 | exact Pull.p5 | exact Pull.p6 | exact Pull.p7 | exact Pull.p8 | exact Pull.p9) (.cons (by first | exact Pull.p0 | exact Pull.p1 | exact Pull.p2 | exact Pull.p3 | exact Pull.p4 | exact Pull.p5 | exact Pull.p6 | exact Pull.p7 | exact Pull.p8 | exact Pull.p9) (.cons (by first | exact Pull.p0 | exact Pull.p1 | exact Pull.p2 | exact Pull.p3 | exact Pull.p4 | exact Pull.p5 | exact Pull.p6 | exact Pull.p7 | exact Pull.p8 | exact Pull.p9) .nil)))
              | exact At.back (k + 1, c, retireL g ee) ⟨by dsimp only; omega, hc1, ho1, hsg1, hr1, hz1⟩ (by dsimp only; omega) (.cons rfl (.cons rfl (.cons rfl .nil))) (.cons (by first | exact Pull.p0 | exact Pull.p1 | exact Pull.p2 | exact Pull.p3 | exact Pull.p4 | exact Pull.p5 | exact Pull.p6 | exact Pull.p7 | exact Pull.p8 | exact Pull.p9) (.cons (by first | exact Pull.p0 | exact Pull.p1 | exact Pull.p2 | exact Pull.p3 | exact Pull.p4 | exact Pull.p5 | exact Pull.p6 | exact Pull.p7 | exact Pull.p8 | exact Pull.p9) (.cons (by first | exact Pull.p0 | exact Pull.p1 | exact Pull.p2 | exact Pull.p3 | exact Pull.p4 | exact Pull.p5 | exact Pull.p6 | exact Pull.p7 | exact Pull.p8 | exact Pull.p9) .nil)))
      ·
        refine At.exit ?_
        refine At.then_e ?_
        refine At.then_e ?_
        refine At.blk_e ?_
        refine At.then_n ?_
        refine At.seq ?_
        refine At.region ?_
        refine At.op rfl (op_assign rfl rfl ?_)
        refine At.nil ?_
        refine At.then_n ?_
        refine At.ret ?_
        exact At.fin1 rfl rfl rfl ⟨rfl, rfl⟩ .nil
end Go.Proofs.YteckdahgkkmlaaaGreatDoor
