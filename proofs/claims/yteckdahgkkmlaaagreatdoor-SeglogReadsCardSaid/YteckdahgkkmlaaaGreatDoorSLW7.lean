/- Walks of the program's functions. -/
import Derived.Test.YteckdahgkkmlaaaGreatDoorSLW6
import Derived.Test.YteckdahgkkmlaaaGreatDoorSLW1
import Derived.KernelRfl
set_option maxRecDepth 20000
set_option linter.unusedVariables false
set_option linter.unusedSimpArgs false
namespace Go.Proofs.YteckdahgkkmlaaaGreatDoor
open Go SL
variable {G : List (Nat × Obj)}
theorem Get1_short (bp be : Nat) (s : List UInt8) (e : Int) (h : s.length ≠ 256) : Does Tryz.prog G 52 [ptr bp 0, ptr be 0] [row bp [str s] 9 (0, 0), row be [i64 e] 3 (0, 0)] (OneR (.bool false) [row bp [str s] 9 (0, 0), row be [i64 e] 3 (0, 0)]) := by
  refine Does.of Tryz.func52 rfl Tryz.ntmps52 rfl (fun w0 => ?_)
  refine At.keep [(0, _), (1, _)] (.cons rfl (.cons rfl .nil)) ?_
  refine At.seq ?_
  refine At.region ?_
  refine At.op rfl (op_assign rfl rfl ?_)
  refine At.nil ?_
  refine At.then_n ?_
  refine At.seq ?_
  refine At.drawC [_, _, _, _, _, _, _, _, _, _, _, _, _, _] (by kernel_rfl) (by decide) (by kernel_rfl) 
    (Steps'.cons (Step.op rfl (fun D h1 h2 h3 K hK => op_load (mD_base rfl rfl) Tryz.isAgg9 (by first | with_reducible exact Pull.p0 | with_reducible exact Pull.p1 | with_reducible exact Pull.p2 | with_reducible exact Pull.p3 | with_reducible exact Pull.p4 | with_reducible exact Pull.p5 | with_reducible exact Pull.p6 | with_reducible exact Pull.p7 | with_reducible exact Pull.p8 | with_reducible exact Pull.p9) rfl rfl hK))
    (Steps'.cons (Step.op rfl (fun D h1 h2 h3 K hK => op_len_str (mD_done 0 (by decide) (pre_at h2 0 rfl rfl) rfl rfl rfl) Tryz.underlying9 rfl hK))
    (Steps'.cons (Step.op rfl (fun D h1 h2 h3 K hK => op_bin (mD_done 1 (by decide) (pre_at h2 0 rfl rfl) rfl rfl rfl) rfl (Bin.cast (v' := .bool false) b_eq (by rw [decide_eq_false (by omega)])) rfl hK))
    (Steps'.cons (Step.op rfl (fun D h1 h2 h3 K hK => op_move (mD_done 2 (by decide) (pre_at h2 0 rfl rfl) rfl rfl rfl) rfl hK))
    (Steps'.cons (Step.opk (want := false) rfl rfl (fun D h2 => mD_done 3 (by decide) (pre_at h2 0 rfl rfl) rfl rfl rfl) rfl rfl)
    (Steps'.cons (Step.opk (want := false) rfl rfl (fun D h2 => mD_done 3 (by decide) (pre_at h2 0 rfl rfl) rfl rfl rfl) rfl rfl)
    (Steps'.cons (Step.opk (want := false) rfl rfl (fun D h2 => mD_done 3 (by decide) (pre_at h2 2 rfl rfl) rfl rfl rfl) rfl rfl)
    (Steps'.cons (Step.opk (want := false) rfl rfl (fun D h2 => mD_done 3 (by decide) (pre_at h2 1 rfl rfl) rfl rfl rfl) rfl rfl)
    (Steps'.cons (Step.opk (want := false) rfl rfl (fun D h2 => mD_done 3 (by decide) (pre_at h2 0 rfl rfl) rfl rfl rfl) rfl rfl)
    (Steps'.cons (Step.opk (want := false) rfl rfl (fun D h2 => mD_done 3 (by decide) (pre_at h2 0 rfl rfl) rfl rfl rfl) rfl rfl)
    (Steps'.cons (Step.opk (want := false) rfl rfl (fun D h2 => mD_done 3 (by decide) (pre_at h2 2 rfl rfl) rfl rfl rfl) rfl rfl)
    (Steps'.cons (Step.opk (want := false) rfl rfl (fun D h2 => mD_done 3 (by decide) (pre_at h2 3 rfl rfl) rfl rfl rfl) rfl rfl)
    (Steps'.cons (Step.op rfl (fun D h1 h2 h3 K hK => op_pick_f (mD_done 3 (by decide) (pre_at h2 0 rfl rfl) rfl rfl rfl) rfl rfl hK))
    (Steps'.cons (Step.op rfl (fun D h1 h2 h3 K hK => op_assign (mD_done 12 (by decide) (pre_at h2 0 rfl rfl) rfl rfl rfl) rfl hK))
    Steps'.nil)))))))))))))) ?_
  refine At.keep [(2, _)] (.cons rfl .nil) ?_
  refine At.then_n ?_
  refine At.ret ?_
  exact At.fin1 rfl rfl rfl ⟨rfl, rfl⟩ (.cons (by first | with_reducible exact Pull.p0 | with_reducible exact Pull.p1 | with_reducible exact Pull.p2 | with_reducible exact Pull.p3 | with_reducible exact Pull.p4 | with_reducible exact Pull.p5 | with_reducible exact Pull.p6 | with_reducible exact Pull.p7 | with_reducible exact Pull.p8 | with_reducible exact Pull.p9) (.cons (by first | with_reducible exact Pull.p0 | with_reducible exact Pull.p1 | with_reducible exact Pull.p2 | with_reducible exact Pull.p3 | with_reducible exact Pull.p4 | with_reducible exact Pull.p5 | with_reducible exact Pull.p6 | with_reducible exact Pull.p7 | with_reducible exact Pull.p8 | with_reducible exact Pull.p9) .nil))
theorem Get1_full (hG : GOK G) (bp be : Nat) (s : List UInt8) (h : s.length = 256) : Does Tryz.prog G 52 [ptr bp 0, ptr be 0] [row bp [str s] 9 (0, 0), row be [i64 240] 3 (0, 0)] (OneR (.bool (decide ((shaB (s.take (Int.toNat 240))).take 16 = s.drop (Int.toNat 240)))) [row bp [str s] 9 (0, 0), row be [i64 240] 3 (0, 0)]) := by
  refine Does.of Tryz.func52 rfl Tryz.ntmps52 rfl (fun w0 => ?_)
  refine At.keep [(0, _), (1, _)] (.cons rfl (.cons rfl .nil)) ?_
  refine At.seq ?_
  refine At.region ?_
  refine At.op rfl (op_assign rfl rfl ?_)
  refine At.nil ?_
  refine At.then_n ?_
  refine At.seq ?_
  refine At.drawC [_, _, _, _, _, _, _, _, _, _, _, _, _, _] (by kernel_rfl) (by decide) (by kernel_rfl) 
    (Steps'.cons (Step.op rfl (fun D h1 h2 h3 K hK => op_load (mD_base rfl rfl) Tryz.isAgg9 (by first | with_reducible exact Pull.p0 | with_reducible exact Pull.p1 | with_reducible exact Pull.p2 | with_reducible exact Pull.p3 | with_reducible exact Pull.p4 | with_reducible exact Pull.p5 | with_reducible exact Pull.p6 | with_reducible exact Pull.p7 | with_reducible exact Pull.p8 | with_reducible exact Pull.p9) rfl rfl hK))
    (Steps'.cons (Step.op rfl (fun D h1 h2 h3 K hK => op_len_str (mD_done 0 (by decide) (pre_at h2 0 rfl rfl) rfl rfl rfl) Tryz.underlying9 rfl hK))
    (Steps'.cons (Step.op rfl (fun D h1 h2 h3 K hK => op_bin (mD_done 1 (by decide) (pre_at h2 0 rfl rfl) rfl rfl rfl) rfl (Bin.cast (v' := .bool true) b_eq (by rw [decide_eq_true (by omega)])) rfl hK))
    (Steps'.cons (Step.op rfl (fun D h1 h2 h3 K hK => op_move (mD_done 2 (by decide) (pre_at h2 0 rfl rfl) rfl rfl rfl) rfl hK))
    (Steps'.cons (Step.opg rfl rfl (fun D h2 => mD_done 3 (by decide) (pre_at h2 0 rfl rfl) rfl rfl rfl) (fun D h1 h2 h3 K hK => op_load (mD_base rfl rfl) Tryz.isAgg9 (by first | with_reducible exact Pull.p0 | with_reducible exact Pull.p1 | with_reducible exact Pull.p2 | with_reducible exact Pull.p3 | with_reducible exact Pull.p4 | with_reducible exact Pull.p5 | with_reducible exact Pull.p6 | with_reducible exact Pull.p7 | with_reducible exact Pull.p8 | with_reducible exact Pull.p9) rfl rfl hK))
    (Steps'.cons (Step.opg rfl rfl (fun D h2 => mD_done 3 (by decide) (pre_at h2 0 rfl rfl) rfl rfl rfl) (fun D h1 h2 h3 K hK => op_load (mD_base rfl rfl) Tryz.isAgg3 (by first | with_reducible exact Pull.p0 | with_reducible exact Pull.p1 | with_reducible exact Pull.p2 | with_reducible exact Pull.p3 | with_reducible exact Pull.p4 | with_reducible exact Pull.p5 | with_reducible exact Pull.p6 | with_reducible exact Pull.p7 | with_reducible exact Pull.p8 | with_reducible exact Pull.p9) rfl rfl hK))
    (Steps'.cons (Step.opg rfl rfl (fun D h2 => mD_done 3 (by decide) (pre_at h2 2 rfl rfl) rfl rfl rfl) (fun D h1 h2 h3 K hK => op_sl_str_hi (mD_done 4 (by decide) (pre_at h2 0 rfl rfl) rfl rfl rfl) (mD_done 5 (by decide) (pre_at h2 1 rfl rfl) rfl rfl rfl) Tryz.underlying9 (by omega) (by omega) rfl hK))
    (Steps'.cons (Step.opg rfl rfl (fun D h2 => mD_done 3 (by decide) (pre_at h2 1 rfl rfl) rfl rfl rfl) (fun D h1 h2 h3 K hK => op_call1 (evs_cons (mD_done 6 (by decide) (pre_at h2 0 rfl rfl) rfl rfl rfl) evs_nil) Tryz.call43 (frame_sum hG (s.take (Int.toNat 240)) (by rw [List.length_take]; omega)) rfl hK))
    (Steps'.cons (Step.opg rfl rfl (fun D h2 => mD_done 3 (by decide) (pre_at h2 0 rfl rfl) rfl rfl rfl) (fun D h1 h2 h3 K hK => op_load (mD_base rfl rfl) Tryz.isAgg9 (by first | with_reducible exact Pull.p0 | with_reducible exact Pull.p1 | with_reducible exact Pull.p2 | with_reducible exact Pull.p3 | with_reducible exact Pull.p4 | with_reducible exact Pull.p5 | with_reducible exact Pull.p6 | with_reducible exact Pull.p7 | with_reducible exact Pull.p8 | with_reducible exact Pull.p9) rfl rfl hK))
    (Steps'.cons (Step.opg rfl rfl (fun D h2 => mD_done 3 (by decide) (pre_at h2 0 rfl rfl) rfl rfl rfl) (fun D h1 h2 h3 K hK => op_load (mD_base rfl rfl) Tryz.isAgg3 (by first | with_reducible exact Pull.p0 | with_reducible exact Pull.p1 | with_reducible exact Pull.p2 | with_reducible exact Pull.p3 | with_reducible exact Pull.p4 | with_reducible exact Pull.p5 | with_reducible exact Pull.p6 | with_reducible exact Pull.p7 | with_reducible exact Pull.p8 | with_reducible exact Pull.p9) rfl rfl hK))
    (Steps'.cons (Step.opg rfl rfl (fun D h2 => mD_done 3 (by decide) (pre_at h2 2 rfl rfl) rfl rfl rfl) (fun D h1 h2 h3 K hK => op_sl_str_lo (mD_done 8 (by decide) (pre_at h2 0 rfl rfl) rfl rfl rfl) (mD_done 9 (by decide) (pre_at h2 1 rfl rfl) rfl rfl rfl) Tryz.underlying9 (by omega) (by omega) rfl hK))
    (Steps'.cons (Step.opg rfl rfl (fun D h2 => mD_done 3 (by decide) (pre_at h2 3 rfl rfl) rfl rfl rfl) (fun D h1 h2 h3 K hK => op_call1 (evs_cons (mD_done 7 (by decide) (pre_at h2 0 rfl rfl) rfl rfl rfl) (evs_cons (mD_done 10 (by decide) (pre_at h2 1 rfl rfl) rfl rfl rfl) evs_nil)) Tryz.call53 (mac_Same ((shaB (s.take (Int.toNat 240))).take 16) (s.drop (Int.toNat 240)) (by rw [List.length_take, shaB_length]; omega) (by rw [List.length_drop]; omega)) rfl hK))
    (Steps'.cons (Step.op rfl (fun D h1 h2 h3 K hK => op_pick_t (mD_done 3 (by decide) (pre_at h2 0 rfl rfl) rfl rfl rfl) (mD_done 11 (by decide) (pre_at h2 1 rfl rfl) rfl rfl rfl) rfl hK))
    (Steps'.cons (Step.op rfl (fun D h1 h2 h3 K hK => op_assign (mD_done 12 (by decide) (pre_at h2 0 rfl rfl) rfl rfl rfl) rfl hK))
    Steps'.nil)))))))))))))) ?_
  refine At.keep [(2, _)] (.cons rfl .nil) ?_
  refine At.then_n ?_
  refine At.ret ?_
  exact At.fin1 rfl rfl rfl ⟨rfl, rfl⟩ (.cons (by first | with_reducible exact Pull.p0 | with_reducible exact Pull.p1 | with_reducible exact Pull.p2 | with_reducible exact Pull.p3 | with_reducible exact Pull.p4 | with_reducible exact Pull.p5 | with_reducible exact Pull.p6 | with_reducible exact Pull.p7 | with_reducible exact Pull.p8 | with_reducible exact Pull.p9) (.cons (by first | with_reducible exact Pull.p0 | with_reducible exact Pull.p1 | with_reducible exact Pull.p2 | with_reducible exact Pull.p3 | with_reducible exact Pull.p4 | with_reducible exact Pull.p5 | with_reducible exact Pull.p6 | with_reducible exact Pull.p7 | with_reducible exact Pull.p8 | with_reducible exact Pull.p9) .nil))
theorem Get2_any (bp be bf br : Nat) (s r t : List UInt8) (k x : UInt8) (q : UInt64) (h : s.length = 256) (h0 : s[0]? = some x) : Does Tryz.prog G 54 [ptr bp 0, ptr be 0, ptr bf 0, ptr br 0] [row bp [str s] 9 (0, 0), row be [i64 240] 3 (0, 0), row bf [u8 k, u64 q, str t] 43 (0, 0), row br [str r] 9 (0, 0)] (OneR (.bool (!decide (x = 0))) [row bp [str s] 9 (0, 0), row be [i64 240] 3 (0, 0), row bf [u8 x, u64 q, str t] 43 (0, 0), row br [str ((s.take (Int.toNat 240)).drop (Int.toNat 1))] 9 (0, 0)]) := by
  refine Does.of Tryz.func54 rfl Tryz.ntmps54 rfl (fun w0 => ?_)
  refine At.keep [(0, _), (1, _), (2, _), (3, _)] (.cons rfl (.cons rfl (.cons rfl (.cons rfl .nil)))) ?_
  refine At.seq ?_
  refine At.region ?_
  refine At.op rfl (op_assign rfl rfl ?_)
  refine At.nil ?_
  refine At.then_n ?_
  refine At.seq ?_
  refine At.drawE (rs' := [row br [str ((s.take (Int.toNat 240)).drop (Int.toNat 1))] 9 (0, 0), row bf [u8 x, u64 q, str t] 43 (0, 0), row bp [str s] 9 (0, 0), row be [i64 240] 3 (0, 0)]) [6, 7] [[row bf [u8 x, u64 q, str t] 43 (0, 0), row bp [str s] 9 (0, 0), row be [i64 240] 3 (0, 0), row br [str r] 9 (0, 0)], [row br [str ((s.take (Int.toNat 240)).drop (Int.toNat 1))] 9 (0, 0), row bf [u8 x, u64 q, str t] 43 (0, 0), row bp [str s] 9 (0, 0), row be [i64 240] 3 (0, 0)]] [_, _, _, _, _, _, undef, undef] (by kernel_rfl) (by decide) (by kernel_rfl) (by decide) rfl 
    (.quiet 0 (by kernel_rfl) (by kernel_rfl) (.cons (Step.op rfl (fun D h1 h2 h3 K hK => op_load (mD_base rfl rfl) Tryz.isAgg9 (by first | with_reducible exact Pull.p0 | with_reducible exact Pull.p1 | with_reducible exact Pull.p2 | with_reducible exact Pull.p3 | with_reducible exact Pull.p4 | with_reducible exact Pull.p5 | with_reducible exact Pull.p6 | with_reducible exact Pull.p7 | with_reducible exact Pull.p8 | with_reducible exact Pull.p9) rfl rfl hK)) .nil)
    (.quiet 0 (by kernel_rfl) (by kernel_rfl) (.cons (Step.op rfl (fun D h1 h2 h3 K hK => op_indexStr (mD_done 0 (by decide) (pre_at h2 0 rfl rfl) rfl rfl rfl) rfl Tryz.underlying9 (by omega) h0 rfl hK)) .nil)
    (.quiet 1 (by kernel_rfl) (by kernel_rfl) (.cons (Step.op rfl (fun D h1 h2 h3 K hK => op_load (mD_base rfl rfl) Tryz.isAgg9 (by first | with_reducible exact Pull.p0 | with_reducible exact Pull.p1 | with_reducible exact Pull.p2 | with_reducible exact Pull.p3 | with_reducible exact Pull.p4 | with_reducible exact Pull.p5 | with_reducible exact Pull.p6 | with_reducible exact Pull.p7 | with_reducible exact Pull.p8 | with_reducible exact Pull.p9) rfl rfl hK)) (.cons (Step.op rfl (fun D h1 h2 h3 K hK => op_load (mD_base rfl rfl) Tryz.isAgg9 (by first | with_reducible exact Pull.p0 | with_reducible exact Pull.p1 | with_reducible exact Pull.p2 | with_reducible exact Pull.p3 | with_reducible exact Pull.p4 | with_reducible exact Pull.p5 | with_reducible exact Pull.p6 | with_reducible exact Pull.p7 | with_reducible exact Pull.p8 | with_reducible exact Pull.p9) rfl rfl hK)) .nil))
    (.quiet 1 (by kernel_rfl) (by kernel_rfl) (.cons (Step.op rfl (fun D h1 h2 h3 K hK => op_load (mD_base rfl rfl) Tryz.isAgg3 (by first | with_reducible exact Pull.p0 | with_reducible exact Pull.p1 | with_reducible exact Pull.p2 | with_reducible exact Pull.p3 | with_reducible exact Pull.p4 | with_reducible exact Pull.p5 | with_reducible exact Pull.p6 | with_reducible exact Pull.p7 | with_reducible exact Pull.p8 | with_reducible exact Pull.p9) rfl rfl hK)) (.cons (Step.op rfl (fun D h1 h2 h3 K hK => op_load (mD_base rfl rfl) Tryz.isAgg3 (by first | with_reducible exact Pull.p0 | with_reducible exact Pull.p1 | with_reducible exact Pull.p2 | with_reducible exact Pull.p3 | with_reducible exact Pull.p4 | with_reducible exact Pull.p5 | with_reducible exact Pull.p6 | with_reducible exact Pull.p7 | with_reducible exact Pull.p8 | with_reducible exact Pull.p9) rfl rfl hK)) .nil))
    (.quiet 1 (by kernel_rfl) (by kernel_rfl) (.cons (Step.op rfl (fun D h1 h2 h3 K hK => op_sl_str (mD_done 2 (by decide) (pre_at h2 0 rfl rfl) rfl rfl rfl) rfl (mD_done 3 (by decide) (pre_at h2 1 rfl rfl) rfl rfl rfl) Tryz.underlying9 (by omega) (by omega) (by omega) rfl hK)) (.cons (Step.op rfl (fun D h1 h2 h3 K hK => op_sl_str (mD_done 2 (by decide) (pre_at h2 0 rfl rfl) rfl rfl rfl) rfl (mD_done 3 (by decide) (pre_at h2 1 rfl rfl) rfl rfl rfl) Tryz.underlying9 (by omega) (by omega) (by omega) rfl hK)) .nil))
    (.quiet 0 (by kernel_rfl) (by kernel_rfl) (.cons (Step.op rfl (fun D h1 h2 h3 K hK => op_fieldAddr (o' := 0) (mD_base rfl rfl) Tryz.underlying43 rfl Tryz.sizeOf5 rfl rfl hK)) .nil)
    (.eff 0 rfl (by kernel_rfl) (by kernel_rfl) rfl rfl (Last.op rfl (fun D h2 K hK => op_store (mD_done 5 (by decide) (pre_at h2 0 rfl rfl) rfl rfl rfl) (mD_done 1 (by decide) (pre_at h2 1 rfl rfl) rfl rfl rfl) Tryz.sizeOf5 rfl rfl (by first | with_reducible exact Pull.p0 | with_reducible exact Pull.p1 | with_reducible exact Pull.p2 | with_reducible exact Pull.p3 | with_reducible exact Pull.p4 | with_reducible exact Pull.p5 | with_reducible exact Pull.p6 | with_reducible exact Pull.p7 | with_reducible exact Pull.p8 | with_reducible exact Pull.p9) .zero rfl hK))
    (.eff 1 rfl (by kernel_rfl) (by kernel_rfl) rfl rfl (Last.op rfl (fun D h2 K hK => op_store (mD_base rfl rfl) (mD_done 4 (by decide) (pre_at h2 0 rfl rfl) rfl rfl rfl) Tryz.sizeOf9 rfl rfl (by first | with_reducible exact Pull.p0 | with_reducible exact Pull.p1 | with_reducible exact Pull.p2 | with_reducible exact Pull.p3 | with_reducible exact Pull.p4 | with_reducible exact Pull.p5 | with_reducible exact Pull.p6 | with_reducible exact Pull.p7 | with_reducible exact Pull.p8 | with_reducible exact Pull.p9) .zero rfl hK))
    .nil)))))))) ?_
  refine At.keep [(2, _), (4, _)] (.cons rfl (.cons rfl .nil)) ?_
  refine At.then_n ?_
  refine At.seq ?_
  refine At.region ?_
  refine At.op rfl (op_fieldAddr (o' := 0) rfl Tryz.underlying43 rfl Tryz.sizeOf5 rfl rfl ?_)
  refine At.op rfl (op_load rfl Tryz.isAgg5 (by first | with_reducible exact Pull.p0 | with_reducible exact Pull.p1 | with_reducible exact Pull.p2 | with_reducible exact Pull.p3 | with_reducible exact Pull.p4 | with_reducible exact Pull.p5 | with_reducible exact Pull.p6 | with_reducible exact Pull.p7 | with_reducible exact Pull.p8 | with_reducible exact Pull.p9) rfl rfl ?_)
  refine At.op rfl (op_bin rfl rfl (b8_ne _ (0 : UInt8)) rfl ?_)
  refine At.op rfl (op_assign rfl rfl ?_)
  refine At.nil ?_
  refine At.then_n ?_
  refine At.ret ?_
  exact At.fin1 rfl rfl rfl ⟨rfl, rfl⟩ (.cons (by first | with_reducible exact Pull.p0 | with_reducible exact Pull.p1 | with_reducible exact Pull.p2 | with_reducible exact Pull.p3 | with_reducible exact Pull.p4 | with_reducible exact Pull.p5 | with_reducible exact Pull.p6 | with_reducible exact Pull.p7 | with_reducible exact Pull.p8 | with_reducible exact Pull.p9) (.cons (by first | with_reducible exact Pull.p0 | with_reducible exact Pull.p1 | with_reducible exact Pull.p2 | with_reducible exact Pull.p3 | with_reducible exact Pull.p4 | with_reducible exact Pull.p5 | with_reducible exact Pull.p6 | with_reducible exact Pull.p7 | with_reducible exact Pull.p8 | with_reducible exact Pull.p9) (.cons (by first | with_reducible exact Pull.p0 | with_reducible exact Pull.p1 | with_reducible exact Pull.p2 | with_reducible exact Pull.p3 | with_reducible exact Pull.p4 | with_reducible exact Pull.p5 | with_reducible exact Pull.p6 | with_reducible exact Pull.p7 | with_reducible exact Pull.p8 | with_reducible exact Pull.p9) (.cons (by first | with_reducible exact Pull.p0 | with_reducible exact Pull.p1 | with_reducible exact Pull.p2 | with_reducible exact Pull.p3 | with_reducible exact Pull.p4 | with_reducible exact Pull.p5 | with_reducible exact Pull.p6 | with_reducible exact Pull.p7 | with_reducible exact Pull.p8 | with_reducible exact Pull.p9) .nil))))
theorem Get3_any (bf br : Nat) (r t : List UInt8) (k : UInt8) (q : UInt64) (h : r.length = 239) : Does Tryz.prog G 55 [ptr br 0, ptr bf 0] [row br [str r] 9 (0, 0), row bf [u8 k, u64 q, str t] 43 (0, 0)] (OneR (.bool (decide ((ttE (r.drop 8) : Int) = 0))) [row br [str (ttR (r.drop 8))] 9 (0, 0), row bf [u8 k, u64 (UInt64.ofNat (leN (r.take 8))), str (ttT (r.drop 8))] 43 (0, 0)]) := by
  refine Does.of Tryz.func55 rfl Tryz.ntmps55 rfl (fun w0 => ?_)
  refine At.keep [(0, _), (1, _)] (.cons rfl (.cons rfl .nil)) ?_
  refine At.seq ?_
  refine At.region ?_
  refine At.op rfl (op_assign rfl rfl ?_)
  refine At.nil ?_
  refine At.then_n ?_
  refine At.seq ?_
  refine At.region ?_
  refine At.op rfl (op_assign rfl rfl ?_)
  refine At.op rfl (op_assign rfl rfl ?_)
  refine At.nil ?_
  refine At.then_n ?_
  refine At.seq ?_
  refine At.region ?_
  refine At.op rfl (op_load rfl Tryz.isAgg9 (by first | with_reducible exact Pull.p0 | with_reducible exact Pull.p1 | with_reducible exact Pull.p2 | with_reducible exact Pull.p3 | with_reducible exact Pull.p4 | with_reducible exact Pull.p5 | with_reducible exact Pull.p6 | with_reducible exact Pull.p7 | with_reducible exact Pull.p8 | with_reducible exact Pull.p9) rfl rfl ?_)
  refine At.op rfl (op_call1 rfl Tryz.call56 (field_TakeNumber r 8 (by decide) (by decide) (by omega)) rfl ?_)
  rw [if_neg (by omega)]
  refine At.op rfl (op_move rfl rfl ?_)
  refine At.op rfl (op_extractL rfl .zero rfl ?_)
  refine At.op rfl (op_extractL rfl (.succ .zero) rfl ?_)
  refine At.op rfl (op_extractL rfl (.succ (.succ .zero)) rfl ?_)
  refine At.op rfl (op_fieldAddr (o' := 1) rfl Tryz.underlying43 rfl Tryz.sizeOf40 rfl rfl ?_)
  refine At.op rfl (op_store rfl rfl Tryz.sizeOf40 rfl rfl (by first | with_reducible exact Pull.p0 | with_reducible exact Pull.p1 | with_reducible exact Pull.p2 | with_reducible exact Pull.p3 | with_reducible exact Pull.p4 | with_reducible exact Pull.p5 | with_reducible exact Pull.p6 | with_reducible exact Pull.p7 | with_reducible exact Pull.p8 | with_reducible exact Pull.p9) (.succ .zero) rfl ?_)
  refine At.op rfl (op_store rfl rfl Tryz.sizeOf9 rfl rfl (by first | with_reducible exact Pull.p0 | with_reducible exact Pull.p1 | with_reducible exact Pull.p2 | with_reducible exact Pull.p3 | with_reducible exact Pull.p4 | with_reducible exact Pull.p5 | with_reducible exact Pull.p6 | with_reducible exact Pull.p7 | with_reducible exact Pull.p8 | with_reducible exact Pull.p9) .zero rfl ?_)
  refine At.op rfl (op_assign rfl rfl ?_)
  refine At.nil ?_
  refine At.then_n ?_
  refine At.seq ?_
  refine At.region ?_
  refine At.op rfl (op_load rfl Tryz.isAgg9 (by first | with_reducible exact Pull.p0 | with_reducible exact Pull.p1 | with_reducible exact Pull.p2 | with_reducible exact Pull.p3 | with_reducible exact Pull.p4 | with_reducible exact Pull.p5 | with_reducible exact Pull.p6 | with_reducible exact Pull.p7 | with_reducible exact Pull.p8 | with_reducible exact Pull.p9) rfl rfl ?_)
  refine At.op rfl (op_call1 rfl Tryz.call57 (field_TakeText (r.drop 8) (by rw [List.length_drop]; omega)) rfl ?_)
  refine At.op rfl (op_move rfl rfl ?_)
  refine At.op rfl (op_extractL rfl .zero rfl ?_)
  refine At.op rfl (op_extractL rfl (.succ .zero) rfl ?_)
  refine At.op rfl (op_extractL rfl (.succ (.succ .zero)) rfl ?_)
  refine At.op rfl (op_fieldAddr (o' := 2) rfl Tryz.underlying43 rfl Tryz.sizeOf9 rfl rfl ?_)
  refine At.op rfl (op_store rfl rfl Tryz.sizeOf9 rfl rfl (by first | with_reducible exact Pull.p0 | with_reducible exact Pull.p1 | with_reducible exact Pull.p2 | with_reducible exact Pull.p3 | with_reducible exact Pull.p4 | with_reducible exact Pull.p5 | with_reducible exact Pull.p6 | with_reducible exact Pull.p7 | with_reducible exact Pull.p8 | with_reducible exact Pull.p9) (.succ (.succ .zero)) rfl ?_)
  refine At.op rfl (op_store rfl rfl Tryz.sizeOf9 rfl rfl (by first | with_reducible exact Pull.p0 | with_reducible exact Pull.p1 | with_reducible exact Pull.p2 | with_reducible exact Pull.p3 | with_reducible exact Pull.p4 | with_reducible exact Pull.p5 | with_reducible exact Pull.p6 | with_reducible exact Pull.p7 | with_reducible exact Pull.p8 | with_reducible exact Pull.p9) .zero rfl ?_)
  refine At.op rfl (op_assign rfl rfl ?_)
  refine At.nil ?_
  refine At.then_n ?_
  refine At.seq ?_
  refine At.keep [(2, _), (3, _), (4, _)] (.cons rfl (.cons rfl (.cons rfl .nil))) ?_
  refine At.region ?_
  refine At.op rfl (op_move rfl rfl ?_)
  refine At.op rfl (op_bin rfl rfl b_eq rfl ?_)
  refine At.op rfl (op_move rfl rfl ?_)
  refine At.dsplit (i := 21) rfl (fun hg4 => ?_) (fun hg4 => ?_)
  ·
    refine At.opg rfl rfl rfl (op_move rfl rfl ?_)
    refine At.opg rfl rfl rfl (op_bin rfl rfl b_eq rfl ?_)
    refine At.op rfl (op_pick_t rfl rfl rfl ?_)
    refine At.op rfl (op_assign rfl rfl ?_)
    refine At.nil ?_
    refine At.then_n ?_
    refine At.ret ?_
    exact At.fin1 rfl rfl rfl ⟨rfl, rfl⟩ (.cons (by first | with_reducible exact Pull.p0 | with_reducible exact Pull.p1 | with_reducible exact Pull.p2 | with_reducible exact Pull.p3 | with_reducible exact Pull.p4 | with_reducible exact Pull.p5 | with_reducible exact Pull.p6 | with_reducible exact Pull.p7 | with_reducible exact Pull.p8 | with_reducible exact Pull.p9) (.cons (by first | with_reducible exact Pull.p0 | with_reducible exact Pull.p1 | with_reducible exact Pull.p2 | with_reducible exact Pull.p3 | with_reducible exact Pull.p4 | with_reducible exact Pull.p5 | with_reducible exact Pull.p6 | with_reducible exact Pull.p7 | with_reducible exact Pull.p8 | with_reducible exact Pull.p9) .nil))
  ·
    exfalso; exact hg4 rfl
theorem Get4_any (br : Nat) (r : List UInt8) (h : r.length < 1000000) : Does Tryz.prog G 58 [ptr br 0] [row br [str r] 9 (0, 0)] (OneR (.bool (decide (Lib.trimB r 0 = []))) [row br [str r] 9 (0, 0)]) := by
  refine Does.of Tryz.func58 rfl Tryz.ntmps58 rfl (fun w0 => ?_)
  refine At.keep [(0, _)] (.cons rfl .nil) ?_
  refine At.seq ?_
  refine At.region ?_
  refine At.op rfl (op_assign rfl rfl ?_)
  refine At.nil ?_
  refine At.then_n ?_
  refine At.seq ?_
  refine At.region ?_
  refine At.op rfl (op_load rfl Tryz.isAgg9 (by first | with_reducible exact Pull.p0 | with_reducible exact Pull.p1 | with_reducible exact Pull.p2 | with_reducible exact Pull.p3 | with_reducible exact Pull.p4 | with_reducible exact Pull.p5 | with_reducible exact Pull.p6 | with_reducible exact Pull.p7 | with_reducible exact Pull.p8 | with_reducible exact Pull.p9) rfl rfl ?_)
  refine At.op rfl (op_call1 rfl Tryz.call59 (strings_Trim r 0 (by decide) (by omega)) rfl ?_)
  refine At.op rfl (op_bin rfl rfl (b_seq  (b := [])) rfl ?_)
  refine At.op rfl (op_assign rfl rfl ?_)
  refine At.nil ?_
  refine At.then_n ?_
  refine At.ret ?_
  exact At.fin1 rfl rfl rfl ⟨rfl, rfl⟩ (.cons (by first | with_reducible exact Pull.p0 | with_reducible exact Pull.p1 | with_reducible exact Pull.p2 | with_reducible exact Pull.p3 | with_reducible exact Pull.p4 | with_reducible exact Pull.p5 | with_reducible exact Pull.p6 | with_reducible exact Pull.p7 | with_reducible exact Pull.p8 | with_reducible exact Pull.p9) .nil)
end Go.Proofs.YteckdahgkkmlaaaGreatDoor
