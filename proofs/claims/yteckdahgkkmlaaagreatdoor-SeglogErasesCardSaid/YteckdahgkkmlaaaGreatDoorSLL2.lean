/- Walks of the program's functions. -/
import Derived.Test.YteckdahgkkmlaaaGreatDoorSLL1
import Derived.KernelRfl
set_option maxRecDepth 20000
set_option linter.unusedVariables false
set_option linter.unusedSimpArgs false
namespace Go.Proofs.YteckdahgkkmlaaaGreatDoor
open Go SL
variable {G : List (Nat × Obj)}
def eA : Ab := newAb 4 2 50 []
def eA8 : Ab := iter (fun a => a.app 0) 8 eA
def eB (kk m : Nat) : Ab := iter (fun a => a.erase kk) m eA8
def eW (kk nn : Nat) : Nat := if nn = 0 then min kk ((kk + 1) % 4) else (kk + 1) % 4
theorem e_app : ∀ k, k < 8 → ((iter (fun a => a.app 0) k eA).appSeg 0).isSome = true := by decide +kernel
theorem e_full : eA8.appSeg 0 = none ∧ eA8.freeL.length = 0 := by decide +kernel
theorem e_can : ∀ kk, kk < 4 → ∀ m, m < 5 → (eB kk m).canErase kk = true := by decide +kernel
theorem e_free : ∀ kk, kk < 4 → ∀ nn, nn < 5 → (eB kk (nn + 1)).freeL.length = 1 ∧ (eB kk (nn + 1)).canErase ((kk + 1) % 4) = true ∧ ((eB kk (nn + 1)).erase ((kk + 1) % 4)).freeL.length = 2 ∧ ((eB kk (nn + 1)).erase ((kk + 1) % 4)).appSeg 0 = some (eW kk nn) ∧ ((eB kk (nn + 1)).erase ((kk + 1) % 4)).next (eW kk nn) = 0 := by decide +kernel
theorem law13_SeglogErases (hG : GOK G) (n q : UInt8) : Does Tryz.prog G 3 [u8 n, u8 q] [] (One (.bool true)) := by
  refine Does.of Tryz.func3 rfl Tryz.ntmps3 rfl (fun w0 => ?_)
  refine At.keep [(0, _), (1, _)] (.cons rfl (.cons rfl .nil)) ?_
  obtain ⟨kk, hkk0⟩ : ∃ x, x = q.toNat % 4 := ⟨_, rfl⟩
  obtain ⟨nn, hnn0⟩ : ∃ x, x = n.toNat % 5 := ⟨_, rfl⟩
  obtain ⟨oo, hoo⟩ : ∃ x, x = (kk + 1) % 4 := ⟨_, rfl⟩
  have hkk : kk < 4 := by omega
  have hnn : nn < 5 := by omega
  have hq := q.toNat_lt
  have hnl := n.toNat_lt
  refine At.seq ?_
  refine At.region ?_
  refine At.op rfl (op_assign rfl rfl ?_)
  refine At.nil ?_
  refine At.then_n ?_
  refine At.seq ?_
  refine At.region ?_
  refine At.op rfl (op_callF rfl Tryz.call7 nand_NewPower .nil rfl ?_)
  rintro v _ ⟨pw, rfl, rfl⟩
  refine At.app1 ?_
  refine At.own0 3 1 ?_
  refine At.op rfl (op_callF rfl Tryz.call6 (nand_New pw 4 2 50 none 0 [] (by decide) (by decide) (by decide) (by decide)) (.cons (by first | exact Pull.p0 | exact Pull.p1 | exact Pull.p2 | exact Pull.p3 | exact Pull.p4 | exact Pull.p5 | exact Pull.p6 | exact Pull.p7 | exact Pull.p8 | exact Pull.p9) (.cons (by first | exact Pull.p0 | exact Pull.p1 | exact Pull.p2 | exact Pull.p3 | exact Pull.p4 | exact Pull.p5 | exact Pull.p6 | exact Pull.p7 | exact Pull.p8 | exact Pull.p9) .nil)) rfl ?_)
  rintro v _ ⟨c, hc, hfr, rfl, rfl⟩
  refine At.app1 ?_
  refine At.op rfl (op_assign rfl rfl ?_)
  refine At.nil ?_
  refine At.then_n ?_
  refine At.seq ?_
  refine At.region ?_
  refine At.op rfl (op_move rfl rfl ?_)
  refine At.op rfl (op_callF rfl Tryz.call8 (seglog_Mount hG c hc) (.cons (by first | with_reducible exact Pull.p0 | with_reducible exact Pull.p1 | with_reducible exact Pull.p2 | with_reducible exact Pull.p3 | with_reducible exact Pull.p4 | with_reducible exact Pull.p5 | with_reducible exact Pull.p6 | with_reducible exact Pull.p7 | with_reducible exact Pull.p8 | with_reducible exact Pull.p9) .nil) rfl ?_)
  rintro v _ ⟨g, rfl, hop, hret, hseq, rfl⟩
  refine At.app3 ?_
  have habs := abs_new hc hfr hop hret
  have hgo : opOK g c := .inl hop
  have hsq : g.seq = 1 := hseq.trans (seq_fresh hfr)
  refine At.op rfl (op_move rfl rfl ?_)
  refine At.op rfl (op_extractL rfl .zero rfl ?_)
  refine At.op rfl (op_extractL rfl (.succ .zero) rfl ?_)
  refine At.op rfl (op_assign rfl rfl ?_)
  refine At.op rfl (op_assign rfl rfl ?_)
  refine At.nil ?_
  refine At.then_n ?_
  refine At.seq ?_
  refine At.seq ?_
  refine At.region ?_
  refine At.op rfl (op_move rfl rfl ?_)
  refine At.op rfl (op_bin rfl rfl (Bin.cast (v' := .bool false) b_ne (congrArg Value.bool (by rw [decide_eq_true rfl]; rfl))) rfl ?_)
  refine At.op rfl (op_move rfl rfl ?_)
  refine At.opg rfl rfl rfl (op_move rfl rfl ?_)
  refine At.opg rfl rfl rfl (op_bin rfl rfl (Bin.cast (v' := .bool false) (b_pnil Tryz.underlying26) rfl) rfl ?_)
  refine At.op rfl (op_pick_f rfl rfl rfl ?_)
  refine At.op rfl (op_move rfl rfl ?_)
  refine At.opg rfl rfl rfl (op_call1 rfl Tryz.call9 (law13_shown hG) rfl ?_)
  refine At.opg rfl rfl rfl (op_not rfl rfl ?_)
  refine At.op rfl (op_pick_f rfl rfl rfl ?_)
  refine At.nil ?_
  refine At.then_n ?_
  refine At.cond_f rfl ?_
  refine At.skip ?_
  refine At.then_n ?_
  refine At.seq ?_
  refine At.seq ?_
  refine At.keep [(0, _), (1, _), (4, _), (6, _)] (.cons rfl (.cons rfl (.cons rfl (.cons rfl .nil)))) ?_
  refine At.region ?_
  refine At.op rfl (op_assign rfl rfl ?_)
  refine At.nil ?_
  refine At.then_n ?_
  refine At.block ?_
  refine At.cut (rs' := (fun s => [chipR s.2.1, logRow s.2.2 s.2.1.cb, logMap s.2.2]) ((0, c, g) : Nat × Chp × Lg)) (.cons (by first | exact Pull.p0 | exact Pull.p1 | exact Pull.p2 | exact Pull.p3 | exact Pull.p4 | exact Pull.p5 | exact Pull.p6 | exact Pull.p7 | exact Pull.p8 | exact Pull.p9) (.cons (by first | exact Pull.p0 | exact Pull.p1 | exact Pull.p2 | exact Pull.p3 | exact Pull.p4 | exact Pull.p5 | exact Pull.p6 | exact Pull.p7 | exact Pull.p8 | exact Pull.p9) (.cons (by first | exact Pull.p0 | exact Pull.p1 | exact Pull.p2 | exact Pull.p3 | exact Pull.p4 | exact Pull.p5 | exact Pull.p6 | exact Pull.p7 | exact Pull.p8 | exact Pull.p9) .nil))) ?_
  refine At.keep ((fun s => [(0, u8 n), (1, u8 q), (6, ptr s.2.2.lb 0), (8, i64 s.1)]) ((0, c, g) : Nat × Chp × Lg)) (.cons rfl (.cons rfl (.cons rfl (.cons rfl .nil)))) ?_
  refine At.loop (σ := Nat × Chp × Lg) (fun s => s.1 ≤ 8 ∧ s.2.1.wf ∧ opOK s.2.2 s.2.1 ∧ abs s.2.2 s.2.1 = iter (fun a => a.app 0) s.1 eA ∧ s.2.1.past.length = s.1 ∧ s.2.1.segs = 4) (fun s => [(0, u8 n), (1, u8 q), (6, ptr s.2.2.lb 0), (8, i64 s.1)]) (fun s => [chipR s.2.1, logRow s.2.2 s.2.1.cb, logMap s.2.2]) (fun s => 8 - s.1) ((0, c, g) : Nat × Chp × Lg) ⟨Nat.zero_le _, hc, hgo, habs, by simp [hfr.fpast], hfr.fsegs⟩ ?_
  rintro ⟨k, c, g⟩ ⟨hk, hc, ho, ha, hpl, hsg⟩
  dsimp only at hk hc ho ha hpl hsg ⊢
  refine At.seq ?_
  refine At.seq ?_
  refine At.region ?_
  refine At.op rfl (op_move rfl rfl ?_)
  refine At.op rfl (op_bin rfl rfl b_lt rfl ?_)
  refine At.nil ?_
  refine At.then_n ?_
  refine At.cond_p rfl (fun hlt0 => ?_) (fun hlt0 => ?_)
  ·
    have hlt : k < 8 := by omega
    obtain ⟨i, hi⟩ : ∃ i, (abs g c).appSeg 0 = some i := by rw [ha]; exact Option.isSome_iff_exists.1 (e_app k hlt)
    refine At.skip ?_
    refine At.then_n ?_
    refine At.seq ?_
    refine At.block ?_
    refine At.seq ?_
    refine At.region ?_
    refine At.op rfl (op_move rfl rfl ?_)
    refine At.op rfl (op_callF rfl Tryz.call10 (seglog_Append hG c hc g ho 1 [120] 0 (by decide) (by decide) (by omega)) (.cons (by first | with_reducible exact Pull.p0 | with_reducible exact Pull.p1 | with_reducible exact Pull.p2 | with_reducible exact Pull.p3 | with_reducible exact Pull.p4 | with_reducible exact Pull.p5 | with_reducible exact Pull.p6 | with_reducible exact Pull.p7 | with_reducible exact Pull.p8 | with_reducible exact Pull.p9) (.cons (by first | with_reducible exact Pull.p0 | with_reducible exact Pull.p1 | with_reducible exact Pull.p2 | with_reducible exact Pull.p3 | with_reducible exact Pull.p4 | with_reducible exact Pull.p5 | with_reducible exact Pull.p6 | with_reducible exact Pull.p7 | with_reducible exact Pull.p8 | with_reducible exact Pull.p9) (.cons (by first | with_reducible exact Pull.p0 | with_reducible exact Pull.p1 | with_reducible exact Pull.p2 | with_reducible exact Pull.p3 | with_reducible exact Pull.p4 | with_reducible exact Pull.p5 | with_reducible exact Pull.p6 | with_reducible exact Pull.p7 | with_reducible exact Pull.p8 | with_reducible exact Pull.p9) .nil))) rfl ?_)
    intro v rs2 hp
    rw [hi] at hp
    obtain ⟨sb, pa, pc, rfl, rfl⟩ := hp
    obtain ⟨hc1, ho1, ha1, hs1, hs2, hs3⟩ := app_step hc ho hi sb (putS 1 g.seq [120]) (by rw [putS_length _ _ _ (by decide)]; decide) pa pc
    refine At.app3 ?_
    refine At.op rfl (op_move rfl rfl ?_)
    refine At.op rfl (op_extractL rfl .zero rfl ?_)
    refine At.op rfl (op_extractL rfl (.succ .zero) rfl ?_)
    refine At.op rfl (op_alloc Tryz.zeroValue32 rfl rfl ?_)
    intro b9
    refine At.op rfl (op_storeW rfl rfl Tryz.sizeOf32 (List.forall_mem_cons.2 ⟨rfl, (List.forall_mem_cons.2 ⟨rfl, (fun _ h => by cases h)⟩)⟩) (by first | with_reducible exact Pull.p0 | with_reducible exact Pull.p1 | with_reducible exact Pull.p2 | with_reducible exact Pull.p3 | with_reducible exact Pull.p4 | with_reducible exact Pull.p5 | with_reducible exact Pull.p6 | with_reducible exact Pull.p7 | with_reducible exact Pull.p8 | with_reducible exact Pull.p9) rfl rfl ?_)
    refine At.op rfl (op_assign rfl rfl ?_)
    refine At.nil ?_
    refine At.then_n ?_
    refine At.seq ?_
    refine At.region ?_
    refine At.op rfl (op_move rfl rfl ?_)
    refine At.op rfl (op_bin rfl rfl (Bin.cast (v' := .bool false) b_ne (congrArg Value.bool (by rw [decide_eq_true rfl]; rfl))) rfl ?_)
    refine At.nil ?_
    refine At.then_n ?_
    refine At.cond_f rfl ?_
    refine At.skip ?_
    refine At.blk_n ?_
    refine At.then_n ?_
    refine At.region ?_
    refine At.op rfl (op_move rfl rfl ?_)
    refine At.op rfl (op_bin rfl rfl (b_add (by omega) (by omega)) rfl ?_)
    refine At.op rfl (op_assign rfl rfl ?_)
    refine At.nil ?_
    refine At.then_n ?_
    exact At.back (k + 1, c.prog i (c.next i).toNat sb (putS 1 g.seq [120]) pa pc, (Lg.mk g.lb g.mb i (g.seq + 1) g.ret g.clock)) ⟨by dsimp only; omega, hc1, ho1, by rw [ha1, ha]; rfl, by simp [Chp.prog, hpl], hsg⟩ (by dsimp only; omega) (.cons rfl (.cons rfl (.cons rfl (.cons rfl .nil)))) (.cons (by first | exact Pull.p0 | exact Pull.p1 | exact Pull.p2 | exact Pull.p3 | exact Pull.p4 | exact Pull.p5 | exact Pull.p6 | exact Pull.p7 | exact Pull.p8 | exact Pull.p9) (.cons (by first | exact Pull.p0 | exact Pull.p1 | exact Pull.p2 | exact Pull.p3 | exact Pull.p4 | exact Pull.p5 | exact Pull.p6 | exact Pull.p7 | exact Pull.p8 | exact Pull.p9) (.cons (by first | exact Pull.p0 | exact Pull.p1 | exact Pull.p2 | exact Pull.p3 | exact Pull.p4 | exact Pull.p5 | exact Pull.p6 | exact Pull.p7 | exact Pull.p8 | exact Pull.p9) .nil)))
  ·
    obtain rfl : k = 8 := by omega
    have ha : abs g c = eA8 := ha
    refine At.exit ?_
    refine At.then_e ?_
    refine At.then_e ?_
    refine At.blk_e ?_
    refine At.then_n ?_
    refine At.seq ?_
    refine At.region ?_
    refine At.op rfl (op_move rfl rfl ?_)
    refine At.op rfl (op_conv rfl (cv_u8_i64 Tryz.underlying5 Tryz.underlying3 _) rfl ?_)
    refine At.op rfl (op_bin rfl rfl (Bin.cast (v' := i64 (kk : Nat)) (b_rem (by omega) (by decide)) (congrArg (Value.int .i64) (by omega))) rfl ?_)
    refine At.op rfl (op_assign rfl rfl ?_)
    refine At.nil ?_
    refine At.then_n ?_
    refine At.seq ?_
    refine At.seq ?_
    refine At.region ?_
    refine At.op rfl (op_move rfl rfl ?_)
    refine At.op rfl (op_callF rfl Tryz.call10 (seglog_Append hG c hc g ho 1 [120] 0 (by decide) (by decide) (by omega)) (.cons (by first | with_reducible exact Pull.p0 | with_reducible exact Pull.p1 | with_reducible exact Pull.p2 | with_reducible exact Pull.p3 | with_reducible exact Pull.p4 | with_reducible exact Pull.p5 | with_reducible exact Pull.p6 | with_reducible exact Pull.p7 | with_reducible exact Pull.p8 | with_reducible exact Pull.p9) (.cons (by first | with_reducible exact Pull.p0 | with_reducible exact Pull.p1 | with_reducible exact Pull.p2 | with_reducible exact Pull.p3 | with_reducible exact Pull.p4 | with_reducible exact Pull.p5 | with_reducible exact Pull.p6 | with_reducible exact Pull.p7 | with_reducible exact Pull.p8 | with_reducible exact Pull.p9) (.cons (by first | with_reducible exact Pull.p0 | with_reducible exact Pull.p1 | with_reducible exact Pull.p2 | with_reducible exact Pull.p3 | with_reducible exact Pull.p4 | with_reducible exact Pull.p5 | with_reducible exact Pull.p6 | with_reducible exact Pull.p7 | with_reducible exact Pull.p8 | with_reducible exact Pull.p9) .nil))) rfl ?_)
    intro v rs2 hp
    rw [show (abs g c).appSeg 0 = none by rw [ha]; exact e_full.1] at hp
    obtain ⟨rfl, rfl⟩ := hp
    refine At.app3 ?_
    refine At.op rfl (op_move rfl rfl ?_)
    refine At.op rfl (op_extractL rfl .zero rfl ?_)
    refine At.op rfl (op_extractL rfl (.succ .zero) rfl ?_)
    refine At.op rfl (op_alloc Tryz.zeroValue32 rfl rfl ?_)
    intro b12
    refine At.op rfl (op_storeW rfl rfl Tryz.sizeOf32 (List.forall_mem_cons.2 ⟨rfl, (List.forall_mem_cons.2 ⟨rfl, (fun _ h => by cases h)⟩)⟩) (by first | with_reducible exact Pull.p0 | with_reducible exact Pull.p1 | with_reducible exact Pull.p2 | with_reducible exact Pull.p3 | with_reducible exact Pull.p4 | with_reducible exact Pull.p5 | with_reducible exact Pull.p6 | with_reducible exact Pull.p7 | with_reducible exact Pull.p8 | with_reducible exact Pull.p9) rfl rfl ?_)
    refine At.op rfl (op_assign rfl rfl ?_)
    refine At.nil ?_
    refine At.then_n ?_
    refine At.seq ?_
    refine At.keep [(0, _), (6, _), (11, _), (13, _)] (.cons rfl (.cons rfl (.cons rfl (.cons rfl .nil)))) ?_
    refine At.region ?_
    refine At.op rfl (op_move rfl rfl ?_)
    refine At.op rfl (op_bin rfl rfl (Bin.cast (v' := .bool false) b_ne (congrArg Value.bool (by rw [decide_eq_true rfl]; rfl))) rfl ?_)
    refine At.op rfl (op_move rfl rfl ?_)
    refine At.opg rfl rfl rfl (op_move rfl rfl ?_)
    refine At.opg rfl rfl rfl (op_callQ rfl Tryz.call11 (by have := seglog_Free (G := G) c hc g; rw [← abs_freeL g hc, ha, e_full.2] at this; exact this) (.cons (by first | with_reducible exact Pull.p0 | with_reducible exact Pull.p1 | with_reducible exact Pull.p2 | with_reducible exact Pull.p3 | with_reducible exact Pull.p4 | with_reducible exact Pull.p5 | with_reducible exact Pull.p6 | with_reducible exact Pull.p7 | with_reducible exact Pull.p8 | with_reducible exact Pull.p9) (.cons (by first | with_reducible exact Pull.p0 | with_reducible exact Pull.p1 | with_reducible exact Pull.p2 | with_reducible exact Pull.p3 | with_reducible exact Pull.p4 | with_reducible exact Pull.p5 | with_reducible exact Pull.p6 | with_reducible exact Pull.p7 | with_reducible exact Pull.p8 | with_reducible exact Pull.p9) (.cons (by first | with_reducible exact Pull.p0 | with_reducible exact Pull.p1 | with_reducible exact Pull.p2 | with_reducible exact Pull.p3 | with_reducible exact Pull.p4 | with_reducible exact Pull.p5 | with_reducible exact Pull.p6 | with_reducible exact Pull.p7 | with_reducible exact Pull.p8 | with_reducible exact Pull.p9) .nil))) rfl ?_)
    refine At.opg rfl rfl rfl (op_bin rfl rfl (Bin.cast (v' := .bool false) b_ne (congrArg Value.bool (by rw [decide_eq_true (by omega)]; rfl))) rfl ?_)
    refine At.op rfl (op_pick_f rfl rfl rfl ?_)
    refine At.nil ?_
    refine At.then_n ?_
    refine At.cond_f rfl ?_
    refine At.skip ?_
    refine At.then_n ?_
    refine At.seq ?_
    refine At.seq ?_
    refine At.region ?_
    refine At.op rfl (op_assign rfl rfl ?_)
    refine At.nil ?_
    refine At.then_n ?_
    refine At.block ?_
    refine At.cut (rs' := (fun s => [chipR s.2.1, logRow s.2.2 s.2.1.cb, logMap s.2.2]) ((0, c, g) : Nat × Chp × Lg)) (.cons (by first | exact Pull.p0 | exact Pull.p1 | exact Pull.p2 | exact Pull.p3 | exact Pull.p4 | exact Pull.p5 | exact Pull.p6 | exact Pull.p7 | exact Pull.p8 | exact Pull.p9) (.cons (by first | exact Pull.p0 | exact Pull.p1 | exact Pull.p2 | exact Pull.p3 | exact Pull.p4 | exact Pull.p5 | exact Pull.p6 | exact Pull.p7 | exact Pull.p8 | exact Pull.p9) (.cons (by first | exact Pull.p0 | exact Pull.p1 | exact Pull.p2 | exact Pull.p3 | exact Pull.p4 | exact Pull.p5 | exact Pull.p6 | exact Pull.p7 | exact Pull.p8 | exact Pull.p9) .nil))) ?_
    refine At.keep ((fun s => [(0, u8 n), (6, ptr s.2.2.lb 0), (11, i64 kk), (14, i64 s.1)]) ((0, c, g) : Nat × Chp × Lg)) (.cons rfl (.cons rfl (.cons rfl (.cons rfl .nil)))) ?_
    refine At.loop (σ := Nat × Chp × Lg) (fun s => s.1 ≤ nn + 1 ∧ s.2.1.wf ∧ opOK s.2.2 s.2.1 ∧ abs s.2.2 s.2.1 = eB kk s.1 ∧ s.2.1.past.length = 8 ∧ s.2.1.segs = 4) (fun s => [(0, u8 n), (6, ptr s.2.2.lb 0), (11, i64 kk), (14, i64 s.1)]) (fun s => [chipR s.2.1, logRow s.2.2 s.2.1.cb, logMap s.2.2]) (fun s => nn + 1 - s.1) ((0, c, g) : Nat × Chp × Lg) ⟨Nat.zero_le _, hc, ho, ha, hpl, hsg⟩ ?_
    rintro ⟨k, c, g⟩ ⟨hk, hc, ho, ha, hpl, hsg⟩
    dsimp only at hk hc ho ha hpl hsg ⊢
    refine At.seq ?_
    refine At.seq ?_
    refine At.region ?_
    refine At.op rfl (op_move rfl rfl ?_)
    refine At.op rfl (op_move rfl rfl ?_)
    refine At.op rfl (op_conv rfl (cv_u8_i64 Tryz.underlying5 Tryz.underlying3 _) rfl ?_)
    refine At.op rfl (op_bin rfl rfl (Bin.cast (v' := i64 (nn : Nat)) (b_rem (by omega) (by decide)) (congrArg (Value.int .i64) (by omega))) rfl ?_)
    refine At.op rfl (op_bin rfl rfl b_le rfl ?_)
    refine At.nil ?_
    refine At.then_n ?_
    refine At.cond_p rfl (fun hlt1 => ?_) (fun hlt1 => ?_)
    ·
      have hce : (abs g c).canErase kk = true := by rw [ha]; exact e_can kk hkk k (by omega)
      refine At.skip ?_
      refine At.then_n ?_
      refine At.seq ?_
      refine At.block ?_
      refine At.seq ?_
      refine At.region ?_
      refine At.op rfl (op_move rfl rfl ?_)
      refine At.op rfl (op_move rfl rfl ?_)
      refine At.op rfl (op_callR rfl Tryz.call12 (seglog_Erase_ok c hc g kk (by omega) (erase_ok hce).1 (erase_ok hce).2) (.cons (by first | with_reducible exact Pull.p0 | with_reducible exact Pull.p1 | with_reducible exact Pull.p2 | with_reducible exact Pull.p3 | with_reducible exact Pull.p4 | with_reducible exact Pull.p5 | with_reducible exact Pull.p6 | with_reducible exact Pull.p7 | with_reducible exact Pull.p8 | with_reducible exact Pull.p9) (.cons (by first | with_reducible exact Pull.p0 | with_reducible exact Pull.p1 | with_reducible exact Pull.p2 | with_reducible exact Pull.p3 | with_reducible exact Pull.p4 | with_reducible exact Pull.p5 | with_reducible exact Pull.p6 | with_reducible exact Pull.p7 | with_reducible exact Pull.p8 | with_reducible exact Pull.p9) (.cons (by first | with_reducible exact Pull.p0 | with_reducible exact Pull.p1 | with_reducible exact Pull.p2 | with_reducible exact Pull.p3 | with_reducible exact Pull.p4 | with_reducible exact Pull.p5 | with_reducible exact Pull.p6 | with_reducible exact Pull.p7 | with_reducible exact Pull.p8 | with_reducible exact Pull.p9) .nil))) rfl ?_)
      refine At.app3 ?_
      refine At.op rfl (op_bin rfl rfl (Bin.cast (v' := .bool false) b_ne (congrArg Value.bool (by rw [decide_eq_true rfl]; rfl))) rfl ?_)
      refine At.nil ?_
      refine At.then_n ?_
      refine At.cond_f rfl ?_
      refine At.skip ?_
      refine At.blk_n ?_
      refine At.then_n ?_
      refine At.region ?_
      refine At.op rfl (op_move rfl rfl ?_)
      refine At.op rfl (op_bin rfl rfl (b_add (by omega) (by omega)) rfl ?_)
      refine At.op rfl (op_assign rfl rfl ?_)
      refine At.nil ?_
      refine At.then_n ?_
      obtain ⟨hc1, ho1, ha1⟩ := erase_step hc ho hce
      exact At.back (k + 1, c.erased kk, eraseL g kk) ⟨by dsimp only; omega, hc1, ho1, by rw [ha1, ha]; rfl, hpl, hsg⟩ (by dsimp only; omega) (.cons rfl (.cons rfl (.cons rfl (.cons rfl .nil)))) (.cons (by first | exact Pull.p0 | exact Pull.p1 | exact Pull.p2 | exact Pull.p3 | exact Pull.p4 | exact Pull.p5 | exact Pull.p6 | exact Pull.p7 | exact Pull.p8 | exact Pull.p9) (.cons (by first | exact Pull.p0 | exact Pull.p1 | exact Pull.p2 | exact Pull.p3 | exact Pull.p4 | exact Pull.p5 | exact Pull.p6 | exact Pull.p7 | exact Pull.p8 | exact Pull.p9) (.cons (by first | exact Pull.p0 | exact Pull.p1 | exact Pull.p2 | exact Pull.p3 | exact Pull.p4 | exact Pull.p5 | exact Pull.p6 | exact Pull.p7 | exact Pull.p8 | exact Pull.p9) .nil)))
    ·
      obtain rfl : k = nn + 1 := by omega
      obtain ⟨hf1, hf2, hf3, hf4, hf5⟩ := e_free kk hkk nn hnn
      rw [← hoo] at hf2 hf3 hf4 hf5
      rw [← ha] at hf2
      obtain ⟨hc2, ho2, ha2⟩ := erase_step hc ho hf2
      rw [ha] at ha2
      obtain ⟨W, hW⟩ : ∃ x, x = eW kk nn := ⟨_, rfl⟩
      rw [← hW] at hf4 hf5
      have hN : ((c.erased oo).next W).toNat = 0 := by rw [← abs_next (eraseL g oo), ha2, hf5]; rfl
      refine At.exit ?_
      refine At.then_e ?_
      refine At.then_e ?_
      refine At.blk_e ?_
      refine At.then_n ?_
      refine At.seq ?_
      refine At.region ?_
      refine At.op rfl (op_move rfl rfl ?_)
      refine At.op rfl (op_bin rfl rfl (b_add (by omega) (by omega)) rfl ?_)
      refine At.op rfl (op_bin rfl rfl (Bin.cast (v' := i64 (oo : Nat)) (b_rem (by omega) (by decide)) (congrArg (Value.int .i64) (by omega))) rfl ?_)
      refine At.op rfl (op_assign rfl rfl ?_)
      refine At.nil ?_
      refine At.then_n ?_
      refine At.seq ?_
      refine At.seq ?_
      refine At.region ?_
      refine At.op rfl (op_move rfl rfl ?_)
      refine At.op rfl (op_callQ rfl Tryz.call11 (by have := seglog_Free (G := G) c hc g; rw [← abs_freeL g hc, ha, hf1] at this; exact this) (.cons (by first | with_reducible exact Pull.p0 | with_reducible exact Pull.p1 | with_reducible exact Pull.p2 | with_reducible exact Pull.p3 | with_reducible exact Pull.p4 | with_reducible exact Pull.p5 | with_reducible exact Pull.p6 | with_reducible exact Pull.p7 | with_reducible exact Pull.p8 | with_reducible exact Pull.p9) (.cons (by first | with_reducible exact Pull.p0 | with_reducible exact Pull.p1 | with_reducible exact Pull.p2 | with_reducible exact Pull.p3 | with_reducible exact Pull.p4 | with_reducible exact Pull.p5 | with_reducible exact Pull.p6 | with_reducible exact Pull.p7 | with_reducible exact Pull.p8 | with_reducible exact Pull.p9) (.cons (by first | with_reducible exact Pull.p0 | with_reducible exact Pull.p1 | with_reducible exact Pull.p2 | with_reducible exact Pull.p3 | with_reducible exact Pull.p4 | with_reducible exact Pull.p5 | with_reducible exact Pull.p6 | with_reducible exact Pull.p7 | with_reducible exact Pull.p8 | with_reducible exact Pull.p9) .nil))) rfl ?_)
      refine At.op rfl (op_bin rfl rfl (Bin.cast (v' := .bool false) b_ne (congrArg Value.bool (by rw [decide_eq_true (by omega)]; rfl))) rfl ?_)
      refine At.op rfl (op_move rfl rfl ?_)
      refine At.opg rfl rfl rfl (op_move rfl rfl ?_)
      refine At.opg rfl rfl rfl (op_move rfl rfl ?_)
      refine At.opg rfl rfl rfl (op_callR rfl Tryz.call12 (seglog_Erase_ok c hc g oo (by omega) (erase_ok hf2).1 (erase_ok hf2).2) (.cons (by first | with_reducible exact Pull.p0 | with_reducible exact Pull.p1 | with_reducible exact Pull.p2 | with_reducible exact Pull.p3 | with_reducible exact Pull.p4 | with_reducible exact Pull.p5 | with_reducible exact Pull.p6 | with_reducible exact Pull.p7 | with_reducible exact Pull.p8 | with_reducible exact Pull.p9) (.cons (by first | with_reducible exact Pull.p0 | with_reducible exact Pull.p1 | with_reducible exact Pull.p2 | with_reducible exact Pull.p3 | with_reducible exact Pull.p4 | with_reducible exact Pull.p5 | with_reducible exact Pull.p6 | with_reducible exact Pull.p7 | with_reducible exact Pull.p8 | with_reducible exact Pull.p9) (.cons (by first | with_reducible exact Pull.p0 | with_reducible exact Pull.p1 | with_reducible exact Pull.p2 | with_reducible exact Pull.p3 | with_reducible exact Pull.p4 | with_reducible exact Pull.p5 | with_reducible exact Pull.p6 | with_reducible exact Pull.p7 | with_reducible exact Pull.p8 | with_reducible exact Pull.p9) .nil))) rfl ?_)
      refine At.app3 ?_
      refine At.opg rfl rfl rfl (op_bin rfl rfl (Bin.cast (v' := .bool false) b_ne (congrArg Value.bool (by rw [decide_eq_true rfl]; rfl))) rfl ?_)
      refine At.op rfl (op_pick_f rfl rfl rfl ?_)
      refine At.op rfl (op_move rfl rfl ?_)
      refine At.opg rfl rfl rfl (op_move rfl rfl ?_)
      refine At.opg rfl rfl rfl (op_callQ rfl Tryz.call11 (by have := seglog_Free (G := G) (c.erased oo) hc2 (eraseL g oo); rw [← abs_freeL _ hc2, ha2, hf3] at this; exact this) (.cons (by first | exact Pull.p0 | exact Pull.p1 | exact Pull.p2 | exact Pull.p3 | exact Pull.p4 | exact Pull.p5 | exact Pull.p6 | exact Pull.p7 | exact Pull.p8 | exact Pull.p9) (.cons (by first | exact Pull.p0 | exact Pull.p1 | exact Pull.p2 | exact Pull.p3 | exact Pull.p4 | exact Pull.p5 | exact Pull.p6 | exact Pull.p7 | exact Pull.p8 | exact Pull.p9) (.cons (by first | exact Pull.p0 | exact Pull.p1 | exact Pull.p2 | exact Pull.p3 | exact Pull.p4 | exact Pull.p5 | exact Pull.p6 | exact Pull.p7 | exact Pull.p8 | exact Pull.p9) .nil))) rfl ?_)
      refine At.opg rfl rfl rfl (op_bin rfl rfl (Bin.cast (v' := .bool false) b_ne (congrArg Value.bool (by rw [decide_eq_true (by omega)]; rfl))) rfl ?_)
      refine At.op rfl (op_pick_f rfl rfl rfl ?_)
      refine At.nil ?_
      refine At.then_n ?_
      refine At.cond_f rfl ?_
      refine At.skip ?_
      refine At.then_n ?_
      refine At.seq ?_
      refine At.keep [(0, _), (6, _), (11, _), (15, _)] (.cons rfl (.cons rfl (.cons rfl (.cons rfl .nil)))) ?_
      refine At.region ?_
      refine At.op rfl (op_move rfl rfl ?_)
      refine At.op rfl (op_callF rfl Tryz.call10 (seglog_Append hG (c.erased oo) hc2 (eraseL g oo) ho2 1 [121] 0 (by decide) (by decide) (by show c.past.length < _; omega)) (.cons (by first | exact Pull.p0 | exact Pull.p1 | exact Pull.p2 | exact Pull.p3 | exact Pull.p4 | exact Pull.p5 | exact Pull.p6 | exact Pull.p7 | exact Pull.p8 | exact Pull.p9) (.cons (by first | exact Pull.p0 | exact Pull.p1 | exact Pull.p2 | exact Pull.p3 | exact Pull.p4 | exact Pull.p5 | exact Pull.p6 | exact Pull.p7 | exact Pull.p8 | exact Pull.p9) (.cons (by first | exact Pull.p0 | exact Pull.p1 | exact Pull.p2 | exact Pull.p3 | exact Pull.p4 | exact Pull.p5 | exact Pull.p6 | exact Pull.p7 | exact Pull.p8 | exact Pull.p9) .nil))) rfl ?_)
      intro v rs2 hp
      rw [ha2, hf4] at hp
      simp only [hN] at hp
      obtain ⟨sb, pa, pc, rfl, rfl⟩ := hp
      refine At.app3 ?_
      refine At.op rfl (op_move rfl rfl ?_)
      refine At.op rfl (op_extractL rfl .zero rfl ?_)
      refine At.op rfl (op_extractL rfl (.succ .zero) rfl ?_)
      refine At.op rfl (op_alloc Tryz.zeroValue32 rfl rfl ?_)
      intro b16
      refine At.op rfl (op_storeW rfl rfl Tryz.sizeOf32 (List.forall_mem_cons.2 ⟨rfl, (List.forall_mem_cons.2 ⟨rfl, (fun _ h => by cases h)⟩)⟩) (by first | with_reducible exact Pull.p0 | with_reducible exact Pull.p1 | with_reducible exact Pull.p2 | with_reducible exact Pull.p3 | with_reducible exact Pull.p4 | with_reducible exact Pull.p5 | with_reducible exact Pull.p6 | with_reducible exact Pull.p7 | with_reducible exact Pull.p8 | with_reducible exact Pull.p9) rfl rfl ?_)
      refine At.op rfl (op_assign rfl rfl ?_)
      refine At.nil ?_
      refine At.then_n ?_
      refine At.seq ?_
      refine At.region ?_
      refine At.op rfl (op_move rfl rfl ?_)
      refine At.op rfl (op_assign rfl rfl ?_)
      refine At.nil ?_
      refine At.then_n ?_
      refine At.seq ?_
      refine At.seq ?_
      refine At.region ?_
      refine At.op rfl (op_move rfl rfl ?_)
      refine At.op rfl (op_conv rfl (cv_u8_i64 Tryz.underlying5 Tryz.underlying3 _) rfl ?_)
      refine At.op rfl (op_bin rfl rfl (Bin.cast (v' := i64 (nn : Nat)) (b_rem (by omega) (by decide)) (congrArg (Value.int .i64) (by omega))) rfl ?_)
      refine At.op rfl (op_bin rfl rfl b_eq rfl ?_)
      refine At.nil ?_
      refine At.then_n ?_
      refine At.cond_p rfl (fun hn0 => ?_) (fun hn0 => ?_)
      ·
        have hmin : (if (oo : Int) < (kk : Int) then (oo : Int) else (kk : Int)) = (W : Int) := by
          have e : W = min kk ((kk + 1) % 4) := by rw [hW, eW, if_pos (by omega)]
          rw [e, ← hoo]
          split <;> omega
        refine At.keep [(6, _), (11, _), (15, _), (16, _), (17, _)] (.cons rfl (.cons rfl (.cons rfl (.cons rfl (.cons rfl .nil))))) ?_
        refine At.region ?_
        refine At.op rfl (op_move rfl rfl ?_)
        refine At.op rfl (op_move rfl rfl ?_)
        refine At.op rfl (op_min rfl rfl rfl ?_)
        rw [hmin]
        refine At.op rfl (op_assign rfl rfl ?_)
        refine At.nil ?_
        refine At.then_n ?_
        refine At.seq ?_
        refine At.region ?_
        refine At.op rfl (op_move rfl rfl ?_)
        refine At.op rfl (op_bin rfl rfl (Bin.cast (v' := .bool true) b_eq (congrArg Value.bool (decide_eq_true rfl))) rfl ?_)
        refine At.op rfl (op_move rfl rfl ?_)
        refine At.opg rfl rfl rfl (op_loadW rfl Tryz.isAgg32 Tryz.sizeOf32 (by first | with_reducible exact Pull.p0 | with_reducible exact Pull.p1 | with_reducible exact Pull.p2 | with_reducible exact Pull.p3 | with_reducible exact Pull.p4 | with_reducible exact Pull.p5 | with_reducible exact Pull.p6 | with_reducible exact Pull.p7 | with_reducible exact Pull.p8 | with_reducible exact Pull.p9) rfl rfl ?_)
        refine At.opg rfl rfl rfl (op_move rfl rfl ?_)
        refine At.opg rfl rfl rfl (op_build (v := .agg [i64 W, i64 0].toArray) rfl (fun w => run_build w _ _ _ (by kernel_rfl)) rfl ?_)
        refine At.opg rfl rfl rfl (op_bin rfl rfl (Bin.cast (v' := .bool true) (b_steq Tryz.underlying32 (by kernel_rfl) (by kernel_rfl) (eqf_cons (by decide) Tryz.isAgg3 rfl rfl (eqi Tryz.underlying3) (eqf_cons (by decide) Tryz.isAgg3 rfl rfl (eqi Tryz.underlying3) eqf_nil))) (by simp)) rfl ?_)
        refine At.op rfl (op_pick_t rfl rfl rfl ?_)
        refine At.op rfl (op_move rfl rfl ?_)
        refine At.opg rfl rfl rfl (op_move rfl rfl ?_)
        refine At.opg rfl rfl rfl (op_callQ rfl Tryz.call13 (seglog_Open c.cb (Lg.mk g.lb g.mb (W : Nat) (g.seq + 1) g.ret g.clock)) (.cons (by first | exact Pull.p0 | exact Pull.p1 | exact Pull.p2 | exact Pull.p3 | exact Pull.p4 | exact Pull.p5 | exact Pull.p6 | exact Pull.p7 | exact Pull.p8 | exact Pull.p9) .nil) rfl ?_)
        refine At.opg rfl rfl rfl (op_move rfl rfl ?_)
        refine At.opg rfl rfl rfl (op_bin rfl rfl (Bin.cast (v' := .bool true) b_eq (congrArg Value.bool (decide_eq_true rfl))) rfl ?_)
        refine At.op rfl (op_pick_t rfl rfl rfl ?_)
        refine At.op rfl (op_assign rfl rfl ?_)
        refine At.nil ?_
        refine At.then_n ?_
        refine At.ret ?_
        exact At.fin1 rfl rfl rfl ⟨rfl, rfl⟩ .nil
      ·
        have hWo : (oo : Int) = (W : Int) := by
          have e : W = (kk + 1) % 4 := by rw [hW, eW, if_neg (by omega)]
          omega
        rw [hWo]
        refine At.skip ?_
        refine At.then_n ?_
        refine At.seq ?_
        refine At.keep [(6, _), (16, _), (17, _), (18, _)] (.cons rfl (.cons rfl (.cons rfl (.cons rfl .nil)))) ?_
        refine At.region ?_
        refine At.op rfl (op_move rfl rfl ?_)
        refine At.op rfl (op_bin rfl rfl (Bin.cast (v' := .bool true) b_eq (congrArg Value.bool (decide_eq_true rfl))) rfl ?_)
        refine At.op rfl (op_move rfl rfl ?_)
        refine At.opg rfl rfl rfl (op_loadW rfl Tryz.isAgg32 Tryz.sizeOf32 (by first | with_reducible exact Pull.p0 | with_reducible exact Pull.p1 | with_reducible exact Pull.p2 | with_reducible exact Pull.p3 | with_reducible exact Pull.p4 | with_reducible exact Pull.p5 | with_reducible exact Pull.p6 | with_reducible exact Pull.p7 | with_reducible exact Pull.p8 | with_reducible exact Pull.p9) rfl rfl ?_)
        refine At.opg rfl rfl rfl (op_move rfl rfl ?_)
        refine At.opg rfl rfl rfl (op_build (v := .agg [i64 W, i64 0].toArray) rfl (fun w => run_build w _ _ _ (by kernel_rfl)) rfl ?_)
        refine At.opg rfl rfl rfl (op_bin rfl rfl (Bin.cast (v' := .bool true) (b_steq Tryz.underlying32 (by kernel_rfl) (by kernel_rfl) (eqf_cons (by decide) Tryz.isAgg3 rfl rfl (eqi Tryz.underlying3) (eqf_cons (by decide) Tryz.isAgg3 rfl rfl (eqi Tryz.underlying3) eqf_nil))) (by simp)) rfl ?_)
        refine At.op rfl (op_pick_t rfl rfl rfl ?_)
        refine At.op rfl (op_move rfl rfl ?_)
        refine At.opg rfl rfl rfl (op_move rfl rfl ?_)
        refine At.opg rfl rfl rfl (op_callQ rfl Tryz.call13 (seglog_Open c.cb (Lg.mk g.lb g.mb (W : Nat) (g.seq + 1) g.ret g.clock)) (.cons (by first | exact Pull.p0 | exact Pull.p1 | exact Pull.p2 | exact Pull.p3 | exact Pull.p4 | exact Pull.p5 | exact Pull.p6 | exact Pull.p7 | exact Pull.p8 | exact Pull.p9) .nil) rfl ?_)
        refine At.opg rfl rfl rfl (op_move rfl rfl ?_)
        refine At.opg rfl rfl rfl (op_bin rfl rfl (Bin.cast (v' := .bool true) b_eq (congrArg Value.bool (decide_eq_true rfl))) rfl ?_)
        refine At.op rfl (op_pick_t rfl rfl rfl ?_)
        refine At.op rfl (op_assign rfl rfl ?_)
        refine At.nil ?_
        refine At.then_n ?_
        refine At.ret ?_
        exact At.fin1 rfl rfl rfl ⟨rfl, rfl⟩ .nil
end Go.Proofs.YteckdahgkkmlaaaGreatDoor
