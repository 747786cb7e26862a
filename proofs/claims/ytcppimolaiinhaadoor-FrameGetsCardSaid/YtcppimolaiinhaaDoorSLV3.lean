/- Walks of the program's functions. -/
import Derived.Test.YtcppimolaiinhaaDoorSLV2
import Derived.Test.YtcppimolaiinhaaDoorSLW4
import Derived.KernelRfl
set_option maxRecDepth 20000
set_option linter.unusedVariables false
set_option linter.unusedSimpArgs false
namespace Go.Proofs.YtcppimolaiinhaaDoor
open Go SL
variable {G : List (Nat × Obj)}
theorem sgetD (s : List UInt8) (i j : Nat) (h : j = i) (hi : i < s.length) : s[j]? = some (s.getD i 0) := by
  subst h
  rw [List.getElem?_eq_getElem hi, List.getD_eq_getElem?_getD, List.getElem?_eq_getElem hi]
  rfl
theorem wAcc_zero64 (s : List UInt8) : (wAcc s 0 ++ List.replicate 48 0).map w64 = List.replicate 64 (Value.int .u64 0) := by
  have e : wAcc s 0 = List.replicate 16 0 := by unfold wAcc; rfl
  rw [e]; rfl
theorem hgetV64 (h : V8) (k j : Nat) (hj : j = k) (hk : k < 8) : [w64 h.a, w64 h.b, w64 h.c, w64 h.d, w64 h.e, w64 h.f, w64 h.g, w64 h.h][j]? = some (w64 (h.list.getD k 0)) := mget64' h.list k j hj hk
theorem mset64 (l : List UInt32) (i j : Nat) (x : UInt32) (h : j = i) (hi : i < l.length) : SetAt (l.map w64) j (w64 x) ((l.set i x).map w64) := by
  subst h
  exact SetAt.of (by simpa using hi) (by rw [List.map_set])
theorem ref_Step (h : V8) (s : List UInt8) (hs : s.length = 64) : Does Tryd.prog G 38 [h.val64, str s] [] (One (stepS h s).val64) := by
  refine Does.of Tryd.func38 rfl Tryd.ntmps38 rfl (fun w0 => ?_)
  refine At.keep [(0, _), (1, _)] (.cons rfl (.cons rfl .nil)) ?_
  refine At.seq ?_
  refine At.region ?_
  refine At.op rfl (op_box rfl rfl rfl ?_)
  intro b2
  refine At.op rfl (op_alloc Tryd.zeroValue69 rfl rfl ?_)
  intro b4
  refine At.nil ?_
  refine At.then_n ?_
  refine At.seq ?_
  refine At.seq ?_
  refine At.region ?_
  refine At.op rfl (op_move rfl rfl ?_)
  refine At.op rfl (op_len_str rfl Tryd.underlying9 rfl ?_)
  refine At.op rfl (op_bin rfl rfl b_ne rfl ?_)
  refine At.nil ?_
  refine At.then_n ?_
  refine At.cond_np rfl (fun hc0 => ?_) (fun hc0 => ?_)
  ·
    exfalso; omega
  ·
    refine At.skip ?_
    refine At.then_n ?_
    refine At.seq ?_
    refine At.region ?_
    refine At.op rfl (op_build (v := .agg (List.replicate 64 (Value.int .u64 0)).toArray) rfl (fun w => run_build w _ _ _ (by kernel_rfl)) rfl ?_)
    refine At.op rfl (op_alloc Tryd.zeroValue93 rfl rfl ?_)
    intro b5
    refine At.op rfl (op_storeW rfl rfl Tryd.sizeOf93 (by intro v hv; rw [List.eq_of_mem_replicate hv]; rfl) (by first | with_reducible exact Pull.p0 | with_reducible exact Pull.p1 | with_reducible exact Pull.p2 | with_reducible exact Pull.p3 | with_reducible exact Pull.p4 | with_reducible exact Pull.p5 | with_reducible exact Pull.p6 | with_reducible exact Pull.p7 | with_reducible exact Pull.p8 | with_reducible exact Pull.p9) rfl rfl ?_)
    refine At.nil ?_
    refine At.then_n ?_
    refine At.seq ?_
    refine At.seq ?_
    refine At.region ?_
    refine At.op rfl (op_assign rfl rfl ?_)
    refine At.nil ?_
    refine At.then_n ?_
    refine At.block ?_
    rw [show List.replicate 64 (Value.int .u64 0) = (wAcc s 0 ++ List.replicate 48 0).map w64 from (wAcc_zero64 s).symm]
    refine At.cut (rs' := (fun k => [row b2 [w64 h.a, w64 h.b, w64 h.c, w64 h.d, w64 h.e, w64 h.f, w64 h.g, w64 h.h] 69 (0, 0), row b4 (List.replicate 8 (Value.int .u64 0)) 69 (0, 0), row b5 ((wAcc s k ++ List.replicate 48 0).map w64) 93 (0, 0)]) (0 : Nat)) (.cons (by first | exact Pull.p0 | exact Pull.p1 | exact Pull.p2 | exact Pull.p3 | exact Pull.p4 | exact Pull.p5 | exact Pull.p6 | exact Pull.p7 | exact Pull.p8 | exact Pull.p9) (.cons (by first | exact Pull.p0 | exact Pull.p1 | exact Pull.p2 | exact Pull.p3 | exact Pull.p4 | exact Pull.p5 | exact Pull.p6 | exact Pull.p7 | exact Pull.p8 | exact Pull.p9) (.cons (by first | exact Pull.p0 | exact Pull.p1 | exact Pull.p2 | exact Pull.p3 | exact Pull.p4 | exact Pull.p5 | exact Pull.p6 | exact Pull.p7 | exact Pull.p8 | exact Pull.p9) .nil))) ?_
    refine At.keep ((fun k => [(1, str s), (2, ptr b2 0), (4, ptr b4 0), (5, ptr b5 0), (6, i64 k)]) (0 : Nat)) (.cons rfl (.cons rfl (.cons rfl (.cons rfl (.cons rfl .nil))))) ?_
    refine At.loop (σ := Nat) (fun k => k ≤ 64) (fun k => [(1, str s), (2, ptr b2 0), (4, ptr b4 0), (5, ptr b5 0), (6, i64 k)]) (fun k => [row b2 [w64 h.a, w64 h.b, w64 h.c, w64 h.d, w64 h.e, w64 h.f, w64 h.g, w64 h.h] 69 (0, 0), row b4 (List.replicate 8 (Value.int .u64 0)) 69 (0, 0), row b5 ((wAcc s k ++ List.replicate 48 0).map w64) 93 (0, 0)]) (fun k => 64 - k) (0 : Nat) (Nat.zero_le _) ?_
    rintro k hk
    refine At.seq ?_
    refine At.seq ?_
    refine At.region ?_
    refine At.op rfl (op_move rfl rfl ?_)
    refine At.op rfl (op_bin rfl rfl b_lt rfl ?_)
    refine At.nil ?_
    refine At.then_n ?_
    refine At.cond_p rfl (fun hlt => ?_) (fun hlt => ?_)
    ·
      refine At.skip ?_
      refine At.then_n ?_
      refine At.seq ?_
      refine At.block ?_
      refine At.drawL _ [_, _, _, _, _, _, _, _, _, _, _, _, _, undef] (by kernel_rfl) (by decide) (by kernel_rfl) (by kernel_rfl) 
        (.cons (Step.op rfl (fun D h1 h2 h3 K hK => op_move (mD_base rfl rfl) rfl hK))
        (.cons (Step.op rfl (fun D h1 h2 h3 K hK => op_bin (mD_done 0 (by decide) (pre_at h2 0 rfl rfl) rfl rfl rfl) rfl (b_quo (by omega) (by omega) (by decide)) rfl hK))
        (.cons (Step.op rfl (fun D h1 h2 h3 K hK => op_move (mD_base rfl rfl) rfl hK))
        (.cons (Step.op rfl (fun D h1 h2 h3 K hK => op_bin (mD_done 2 (by decide) (pre_at h2 0 rfl rfl) rfl rfl rfl) rfl (b_quo (by omega) (by omega) (by decide)) rfl hK))
        (.cons (Step.op rfl (fun D h1 h2 h3 K hK => op_indexA (mD_base rfl rfl) (mD_done 3 (by decide) (pre_at h2 0 rfl rfl) rfl rfl rfl) Tryd.underlying93 Tryd.sizeOf22 (by omega) (by omega) rfl hK))
        (.cons (Step.op rfl (fun D h1 h2 h3 K hK => op_load (mD_done 4 (by decide) (pre_at h2 0 rfl rfl) rfl rfl rfl) Tryd.isAgg22 (by first | with_reducible exact Pull.p0 | with_reducible exact Pull.p1 | with_reducible exact Pull.p2 | with_reducible exact Pull.p3 | with_reducible exact Pull.p4 | with_reducible exact Pull.p5 | with_reducible exact Pull.p6 | with_reducible exact Pull.p7 | with_reducible exact Pull.p8 | with_reducible exact Pull.p9) (mget64 (wAcc s k) (List.replicate 48 0) (k / 4) _ (by omega) (by rw [wAcc_length]; omega)) rfl hK))
        (.cons (Step.op rfl (fun D h1 h2 h3 K hK => op_bin (mD_done 5 (by decide) (pre_at h2 0 rfl rfl) rfl rfl rfl) rfl (b64_mul ((wAcc s k).getD (k / 4) 0).toUInt64 (256 : UInt64)) rfl hK))
        (.cons (Step.op rfl (fun D h1 h2 h3 K hK => op_move (mD_base rfl rfl) rfl hK))
        (.cons (Step.op rfl (fun D h1 h2 h3 K hK => op_move (mD_base rfl rfl) rfl hK))
        (.cons (Step.op rfl (fun D h1 h2 h3 K hK => op_indexStr (mD_done 7 (by decide) (pre_at h2 0 rfl rfl) rfl rfl rfl) (mD_done 8 (by decide) (pre_at h2 1 rfl rfl) rfl rfl rfl) Tryd.underlying9 (by omega) (sgetD s k _ (by omega) (by omega)) rfl hK))
        (.cons (Step.op rfl (fun D h1 h2 h3 K hK => op_conv (mD_done 9 (by decide) (pre_at h2 0 rfl rfl) rfl rfl rfl) (cv_u8_u64 Tryd.underlying5 Tryd.underlying22 _) rfl hK))
        (.cons (Step.op rfl (fun D h1 h2 h3 K hK => op_bin (mD_done 6 (by decide) (pre_at h2 0 rfl rfl) rfl rfl rfl) (mD_done 10 (by decide) (pre_at h2 1 rfl rfl) rfl rfl rfl) (Bin.cast (v' := w64 (((wAcc s k).getD (k / 4) 0 <<< UInt32.ofNat 8) ||| (s.getD k 0).toUInt32)) (b64_add (((wAcc s k).getD (k / 4) 0).toUInt64 * 256) (s.getD k 0).toUInt64) (by rw [wAcc_wide]; rfl)) rfl hK))
        (.cons (Step.op rfl (fun D h1 h2 h3 K hK => op_indexA (mD_base rfl rfl) (mD_done 1 (by decide) (pre_at h2 0 rfl rfl) rfl rfl rfl) Tryd.underlying93 Tryd.sizeOf22 (by omega) (by omega) rfl hK))
        (.last (Last.op rfl (fun D h2 K hK => op_store (mD_done 12 (by decide) (pre_at h2 0 rfl rfl) rfl rfl rfl) (mD_done 11 (by decide) (pre_at h2 1 rfl rfl) rfl rfl rfl) Tryd.sizeOf22 rfl rfl (by first | with_reducible exact Pull.p0 | with_reducible exact Pull.p1 | with_reducible exact Pull.p2 | with_reducible exact Pull.p3 | with_reducible exact Pull.p4 | with_reducible exact Pull.p5 | with_reducible exact Pull.p6 | with_reducible exact Pull.p7 | with_reducible exact Pull.p8 | with_reducible exact Pull.p9) (acc_set s k (by omega) _ (by omega) (List.replicate 48 0)) rfl hK))
        )))))))))))))) ?_
      refine At.keep [(1, _), (2, _), (4, _), (5, _), (6, _)] (.cons rfl (.cons rfl (.cons rfl (.cons rfl (.cons rfl .nil))))) ?_
      refine At.blk_n ?_
      refine At.then_n ?_
      refine At.region ?_
      refine At.op rfl (op_move rfl rfl ?_)
      refine At.op rfl (op_bin rfl rfl (b_add (by omega) (by omega)) rfl ?_)
      refine At.op rfl (op_assign rfl rfl ?_)
      refine At.nil ?_
      refine At.then_n ?_
      exact At.back (k + 1) (by omega) (by omega) (.cons rfl (.cons rfl (.cons rfl (.cons rfl (.cons rfl .nil))))) (.cons (by first | with_reducible exact Pull.p0 | with_reducible exact Pull.p1 | with_reducible exact Pull.p2 | with_reducible exact Pull.p3 | with_reducible exact Pull.p4 | with_reducible exact Pull.p5 | with_reducible exact Pull.p6 | with_reducible exact Pull.p7 | with_reducible exact Pull.p8 | with_reducible exact Pull.p9) (.cons (by first | with_reducible exact Pull.p0 | with_reducible exact Pull.p1 | with_reducible exact Pull.p2 | with_reducible exact Pull.p3 | with_reducible exact Pull.p4 | with_reducible exact Pull.p5 | with_reducible exact Pull.p6 | with_reducible exact Pull.p7 | with_reducible exact Pull.p8 | with_reducible exact Pull.p9) (.cons (by first | with_reducible exact Pull.p0 | with_reducible exact Pull.p1 | with_reducible exact Pull.p2 | with_reducible exact Pull.p3 | with_reducible exact Pull.p4 | with_reducible exact Pull.p5 | with_reducible exact Pull.p6 | with_reducible exact Pull.p7 | with_reducible exact Pull.p8 | with_reducible exact Pull.p9) .nil)))
    ·
      obtain rfl : k = 64 := by omega
      refine At.exit ?_
      refine At.then_e ?_
      refine At.then_e ?_
      refine At.blk_e ?_
      refine At.then_n ?_
      refine At.seq ?_
      refine At.seq ?_
      refine At.region ?_
      refine At.op rfl (op_assign rfl rfl ?_)
      refine At.nil ?_
      refine At.then_n ?_
      refine At.block ?_
      rw [show wAcc s 64 ++ List.replicate 48 0 = wL (wAcc s 64) 0 ++ List.replicate (48 - 0) 0 from rfl]
      refine At.cut (rs' := (fun m => [row b2 [w64 h.a, w64 h.b, w64 h.c, w64 h.d, w64 h.e, w64 h.f, w64 h.g, w64 h.h] 69 (0, 0), row b4 (List.replicate 8 (Value.int .u64 0)) 69 (0, 0), row b5 ((wL (wAcc s 64) m ++ List.replicate (48 - m) 0).map w64) 93 (0, 0)]) (0 : Nat)) (.cons (by first | exact Pull.p0 | exact Pull.p1 | exact Pull.p2 | exact Pull.p3 | exact Pull.p4 | exact Pull.p5 | exact Pull.p6 | exact Pull.p7 | exact Pull.p8 | exact Pull.p9) (.cons (by first | exact Pull.p0 | exact Pull.p1 | exact Pull.p2 | exact Pull.p3 | exact Pull.p4 | exact Pull.p5 | exact Pull.p6 | exact Pull.p7 | exact Pull.p8 | exact Pull.p9) (.cons (by first | exact Pull.p0 | exact Pull.p1 | exact Pull.p2 | exact Pull.p3 | exact Pull.p4 | exact Pull.p5 | exact Pull.p6 | exact Pull.p7 | exact Pull.p8 | exact Pull.p9) .nil))) ?_
      refine At.keep ((fun m => [(2, ptr b2 0), (4, ptr b4 0), (5, ptr b5 0), (7, i64 ((16 + m : Nat) : Int))]) (0 : Nat)) (.cons rfl (.cons rfl (.cons rfl (.cons rfl .nil)))) ?_
      refine At.loop (σ := Nat) (fun m => m ≤ 48) (fun m => [(2, ptr b2 0), (4, ptr b4 0), (5, ptr b5 0), (7, i64 ((16 + m : Nat) : Int))]) (fun m => [row b2 [w64 h.a, w64 h.b, w64 h.c, w64 h.d, w64 h.e, w64 h.f, w64 h.g, w64 h.h] 69 (0, 0), row b4 (List.replicate 8 (Value.int .u64 0)) 69 (0, 0), row b5 ((wL (wAcc s 64) m ++ List.replicate (48 - m) 0).map w64) 93 (0, 0)]) (fun m => 48 - m) (0 : Nat) (Nat.zero_le _) ?_
      rintro m hm
      refine At.seq ?_
      refine At.seq ?_
      refine At.region ?_
      refine At.op rfl (op_move rfl rfl ?_)
      refine At.op rfl (op_bin rfl rfl b_lt rfl ?_)
      refine At.nil ?_
      refine At.then_n ?_
      refine At.cond_p rfl (fun hlt => ?_) (fun hlt => ?_)
      ·
        refine At.skip ?_
        refine At.then_n ?_
        refine At.seq ?_
        refine At.block ?_
        refine At.seq ?_
        refine At.region ?_
        refine At.op rfl (op_move rfl rfl ?_)
        refine At.op rfl (op_bin rfl rfl (b_sub (by omega) (by omega)) rfl ?_)
        refine At.op rfl (op_indexA rfl rfl Tryd.underlying93 Tryd.sizeOf22 (by omega) (by omega) rfl ?_)
        refine At.op rfl (op_load rfl Tryd.isAgg22 (by first | with_reducible exact Pull.p0 | with_reducible exact Pull.p1 | with_reducible exact Pull.p2 | with_reducible exact Pull.p3 | with_reducible exact Pull.p4 | with_reducible exact Pull.p5 | with_reducible exact Pull.p6 | with_reducible exact Pull.p7 | with_reducible exact Pull.p8 | with_reducible exact Pull.p9) (mget64 (wL (wAcc s 64) m) _ (m + 1) _ (by omega) (by rw [wL_length _ (wAcc_length s 64)]; omega)) rfl ?_)
        refine At.op rfl (op_assign rfl rfl ?_)
        refine At.nil ?_
        refine At.then_n ?_
        refine At.seq ?_
        refine At.region ?_
        refine At.op rfl (op_move rfl rfl ?_)
        refine At.op rfl (op_bin rfl rfl (b_sub (by omega) (by omega)) rfl ?_)
        refine At.op rfl (op_indexA rfl rfl Tryd.underlying93 Tryd.sizeOf22 (by omega) (by omega) rfl ?_)
        refine At.op rfl (op_load rfl Tryd.isAgg22 (by first | with_reducible exact Pull.p0 | with_reducible exact Pull.p1 | with_reducible exact Pull.p2 | with_reducible exact Pull.p3 | with_reducible exact Pull.p4 | with_reducible exact Pull.p5 | with_reducible exact Pull.p6 | with_reducible exact Pull.p7 | with_reducible exact Pull.p8 | with_reducible exact Pull.p9) (mget64 (wL (wAcc s 64) m) _ (m + 14) _ (by omega) (by rw [wL_length _ (wAcc_length s 64)]; omega)) rfl ?_)
        refine At.op rfl (op_assign rfl rfl ?_)
        refine At.nil ?_
        refine At.then_n ?_
        refine At.drawL _ [_, _, _, _, _, _, _, _, _, _, _, _, _, _, _, _, _, _, _, _, _, _, _, _, _, _, _, _, _, _, undef] (by kernel_rfl) (by decide) (by kernel_rfl) (by kernel_rfl) 
          (.cons (Step.op rfl (fun D h1 h2 h3 K hK => op_move (mD_base rfl rfl) rfl hK))
          (.cons (Step.op rfl (fun D h1 h2 h3 K hK => op_move (mD_base rfl rfl) rfl hK))
          (.cons (Step.op rfl (fun D h1 h2 h3 K hK => op_bin (mD_done 1 (by decide) (pre_at h2 0 rfl rfl) rfl rfl rfl) rfl (b_sub (by omega) (by omega)) rfl hK))
          (.cons (Step.op rfl (fun D h1 h2 h3 K hK => op_indexA (mD_base rfl rfl) (mD_done 2 (by decide) (pre_at h2 0 rfl rfl) rfl rfl rfl) Tryd.underlying93 Tryd.sizeOf22 (by omega) (by omega) rfl hK))
          (.cons (Step.op rfl (fun D h1 h2 h3 K hK => op_load (mD_done 3 (by decide) (pre_at h2 0 rfl rfl) rfl rfl rfl) Tryd.isAgg22 (by first | with_reducible exact Pull.p0 | with_reducible exact Pull.p1 | with_reducible exact Pull.p2 | with_reducible exact Pull.p3 | with_reducible exact Pull.p4 | with_reducible exact Pull.p5 | with_reducible exact Pull.p6 | with_reducible exact Pull.p7 | with_reducible exact Pull.p8 | with_reducible exact Pull.p9) (mget64 (wL (wAcc s 64) m) _ m _ (by omega) (by rw [wL_length _ (wAcc_length s 64)]; omega)) rfl hK))
          (.cons (Step.op rfl (fun D h1 h2 h3 K hK => op_move (mD_base rfl rfl) rfl hK))
          (.cons (Step.op rfl (fun D h1 h2 h3 K hK => op_call1 (evs_cons (mD_done 5 (by decide) (pre_at h2 0 rfl rfl) rfl rfl rfl) (evs_cons rfl evs_nil)) Tryd.call57 (ref_turn _ 7 (by decide)) rfl hK))
          (.cons (Step.op rfl (fun D h1 h2 h3 K hK => op_move (mD_base rfl rfl) rfl hK))
          (.cons (Step.op rfl (fun D h1 h2 h3 K hK => op_call1 (evs_cons (mD_done 7 (by decide) (pre_at h2 0 rfl rfl) rfl rfl rfl) (evs_cons rfl evs_nil)) Tryd.call57 (ref_turn _ 18 (by decide)) rfl hK))
          (.cons (Step.op rfl (fun D h1 h2 h3 K hK => op_bin (mD_done 6 (by decide) (pre_at h2 0 rfl rfl) rfl rfl rfl) (mD_done 8 (by decide) (pre_at h2 1 rfl rfl) rfl rfl rfl) (b64_xor _ _) rfl hK))
          (.cons (Step.op rfl (fun D h1 h2 h3 K hK => op_move (mD_base rfl rfl) rfl hK))
          (.cons (Step.op rfl (fun D h1 h2 h3 K hK => op_call1 (evs_cons (mD_done 10 (by decide) (pre_at h2 0 rfl rfl) rfl rfl rfl) (evs_cons rfl evs_nil)) Tryd.call39 (ref_right _ 3 (by decide)) rfl hK))
          (.cons (Step.op rfl (fun D h1 h2 h3 K hK => op_bin (mD_done 9 (by decide) (pre_at h2 0 rfl rfl) rfl rfl rfl) (mD_done 11 (by decide) (pre_at h2 1 rfl rfl) rfl rfl rfl) (b64_xor _ _) rfl hK))
          (.cons (Step.op rfl (fun D h1 h2 h3 K hK => op_bin (mD_done 4 (by decide) (pre_at h2 0 rfl rfl) rfl rfl rfl) (mD_done 12 (by decide) (pre_at h2 1 rfl rfl) rfl rfl rfl) (b64_add _ _) rfl hK))
          (.cons (Step.op rfl (fun D h1 h2 h3 K hK => op_move (mD_base rfl rfl) rfl hK))
          (.cons (Step.op rfl (fun D h1 h2 h3 K hK => op_bin (mD_done 14 (by decide) (pre_at h2 0 rfl rfl) rfl rfl rfl) rfl (b_sub (by omega) (by omega)) rfl hK))
          (.cons (Step.op rfl (fun D h1 h2 h3 K hK => op_indexA (mD_base rfl rfl) (mD_done 15 (by decide) (pre_at h2 0 rfl rfl) rfl rfl rfl) Tryd.underlying93 Tryd.sizeOf22 (by omega) (by omega) rfl hK))
          (.cons (Step.op rfl (fun D h1 h2 h3 K hK => op_load (mD_done 16 (by decide) (pre_at h2 0 rfl rfl) rfl rfl rfl) Tryd.isAgg22 (by first | with_reducible exact Pull.p0 | with_reducible exact Pull.p1 | with_reducible exact Pull.p2 | with_reducible exact Pull.p3 | with_reducible exact Pull.p4 | with_reducible exact Pull.p5 | with_reducible exact Pull.p6 | with_reducible exact Pull.p7 | with_reducible exact Pull.p8 | with_reducible exact Pull.p9) (mget64 (wL (wAcc s 64) m) _ (m + 9) _ (by omega) (by rw [wL_length _ (wAcc_length s 64)]; omega)) rfl hK))
          (.cons (Step.op rfl (fun D h1 h2 h3 K hK => op_bin (mD_done 13 (by decide) (pre_at h2 0 rfl rfl) rfl rfl rfl) (mD_done 17 (by decide) (pre_at h2 1 rfl rfl) rfl rfl rfl) (b64_add _ _) rfl hK))
          (.cons (Step.op rfl (fun D h1 h2 h3 K hK => op_move (mD_base rfl rfl) rfl hK))
          (.cons (Step.op rfl (fun D h1 h2 h3 K hK => op_call1 (evs_cons (mD_done 19 (by decide) (pre_at h2 0 rfl rfl) rfl rfl rfl) (evs_cons rfl evs_nil)) Tryd.call57 (ref_turn _ 17 (by decide)) rfl hK))
          (.cons (Step.op rfl (fun D h1 h2 h3 K hK => op_move (mD_base rfl rfl) rfl hK))
          (.cons (Step.op rfl (fun D h1 h2 h3 K hK => op_call1 (evs_cons (mD_done 21 (by decide) (pre_at h2 0 rfl rfl) rfl rfl rfl) (evs_cons rfl evs_nil)) Tryd.call57 (ref_turn _ 19 (by decide)) rfl hK))
          (.cons (Step.op rfl (fun D h1 h2 h3 K hK => op_bin (mD_done 20 (by decide) (pre_at h2 0 rfl rfl) rfl rfl rfl) (mD_done 22 (by decide) (pre_at h2 1 rfl rfl) rfl rfl rfl) (b64_xor _ _) rfl hK))
          (.cons (Step.op rfl (fun D h1 h2 h3 K hK => op_move (mD_base rfl rfl) rfl hK))
          (.cons (Step.op rfl (fun D h1 h2 h3 K hK => op_call1 (evs_cons (mD_done 24 (by decide) (pre_at h2 0 rfl rfl) rfl rfl rfl) (evs_cons rfl evs_nil)) Tryd.call39 (ref_right _ 10 (by decide)) rfl hK))
          (.cons (Step.op rfl (fun D h1 h2 h3 K hK => op_bin (mD_done 23 (by decide) (pre_at h2 0 rfl rfl) rfl rfl rfl) (mD_done 25 (by decide) (pre_at h2 1 rfl rfl) rfl rfl rfl) (b64_xor _ _) rfl hK))
          (.cons (Step.op rfl (fun D h1 h2 h3 K hK => op_bin (mD_done 18 (by decide) (pre_at h2 0 rfl rfl) rfl rfl rfl) (mD_done 26 (by decide) (pre_at h2 1 rfl rfl) rfl rfl rfl) (b64_add _ _) rfl hK))
          (.cons (Step.op rfl (fun D h1 h2 h3 K hK => op_bin (mD_done 27 (by decide) (pre_at h2 0 rfl rfl) rfl rfl rfl) rfl (Bin.cast (v' := w64 (nxtW (wL (wAcc s 64) m))) (b64_rem _ (4294967296 : UInt64) (by decide)) (by rw [nxt_wide (wL (wAcc s 64) m) m (wL_length _ (wAcc_length s 64) m)]; rfl)) rfl hK))
          (.cons (Step.op rfl (fun D h1 h2 h3 K hK => op_indexA (mD_base rfl rfl) (mD_done 0 (by decide) (pre_at h2 0 rfl rfl) rfl rfl rfl) Tryd.underlying93 Tryd.sizeOf22 (by omega) (by omega) rfl hK))
          (.last (Last.op rfl (fun D h2 K hK => op_store (mD_done 29 (by decide) (pre_at h2 0 rfl rfl) rfl rfl rfl) (mD_done 28 (by decide) (pre_at h2 1 rfl rfl) rfl rfl rfl) Tryd.sizeOf22 rfl rfl (by first | with_reducible exact Pull.p0 | with_reducible exact Pull.p1 | with_reducible exact Pull.p2 | with_reducible exact Pull.p3 | with_reducible exact Pull.p4 | with_reducible exact Pull.p5 | with_reducible exact Pull.p6 | with_reducible exact Pull.p7 | with_reducible exact Pull.p8 | with_reducible exact Pull.p9) (wL_set (wAcc s 64) (wAcc_length s 64) m (by omega) _ (by omega)) rfl hK))
          ))))))))))))))))))))))))))))))) ?_
        refine At.keep [(2, _), (4, _), (5, _), (7, _)] (.cons rfl (.cons rfl (.cons rfl (.cons rfl .nil)))) ?_
        refine At.blk_n ?_
        refine At.then_n ?_
        refine At.region ?_
        refine At.op rfl (op_move rfl rfl ?_)
        refine At.op rfl (op_bin rfl rfl (b_add (by omega) (by omega)) rfl ?_)
        refine At.op rfl (op_assign rfl rfl ?_)
        refine At.nil ?_
        refine At.then_n ?_
        exact At.back (m + 1) (by omega) (by omega) (.cons rfl (.cons rfl (.cons rfl (.cons (congrArg (fun n : Int => some (i64 n)) (by omega)) .nil)))) (.cons (by first | with_reducible exact Pull.p0 | with_reducible exact Pull.p1 | with_reducible exact Pull.p2 | with_reducible exact Pull.p3 | with_reducible exact Pull.p4 | with_reducible exact Pull.p5 | with_reducible exact Pull.p6 | with_reducible exact Pull.p7 | with_reducible exact Pull.p8 | with_reducible exact Pull.p9) (.cons (by first | with_reducible exact Pull.p0 | with_reducible exact Pull.p1 | with_reducible exact Pull.p2 | with_reducible exact Pull.p3 | with_reducible exact Pull.p4 | with_reducible exact Pull.p5 | with_reducible exact Pull.p6 | with_reducible exact Pull.p7 | with_reducible exact Pull.p8 | with_reducible exact Pull.p9) (.cons (by first | with_reducible exact Pull.p0 | with_reducible exact Pull.p1 | with_reducible exact Pull.p2 | with_reducible exact Pull.p3 | with_reducible exact Pull.p4 | with_reducible exact Pull.p5 | with_reducible exact Pull.p6 | with_reducible exact Pull.p7 | with_reducible exact Pull.p8 | with_reducible exact Pull.p9) .nil)))
      ·
        obtain rfl : m = 48 := by omega
        refine At.exit ?_
        refine At.then_e ?_
        refine At.then_e ?_
        refine At.blk_e ?_
        refine At.then_n ?_
        refine At.seq ?_
        refine At.region ?_
        refine At.op rfl (op_loadW rfl Tryd.isAgg69 Tryd.sizeOf69 (by first | with_reducible exact Pull.p0 | with_reducible exact Pull.p1 | with_reducible exact Pull.p2 | with_reducible exact Pull.p3 | with_reducible exact Pull.p4 | with_reducible exact Pull.p5 | with_reducible exact Pull.p6 | with_reducible exact Pull.p7 | with_reducible exact Pull.p8 | with_reducible exact Pull.p9) rfl rfl ?_)
        refine At.op rfl (op_alloc Tryd.zeroValue69 rfl rfl ?_)
        intro b10
        refine At.op rfl (op_storeW rfl rfl Tryd.sizeOf69 (by repeat' (first | refine List.forall_mem_cons.2 ⟨rfl, ?_⟩ | exact (fun _ h => by cases h))) (by first | with_reducible exact Pull.p0 | with_reducible exact Pull.p1 | with_reducible exact Pull.p2 | with_reducible exact Pull.p3 | with_reducible exact Pull.p4 | with_reducible exact Pull.p5 | with_reducible exact Pull.p6 | with_reducible exact Pull.p7 | with_reducible exact Pull.p8 | with_reducible exact Pull.p9) rfl rfl ?_)
        refine At.nil ?_
        refine At.then_n ?_
        refine At.seq ?_
        refine At.region ?_
        refine At.op rfl (op_call1 rfl Tryd.call58 ref_k rfl ?_)
        refine At.op rfl (op_alloc Tryd.zeroValue93 rfl rfl ?_)
        intro b11
        refine At.op rfl (op_storeW rfl rfl Tryd.sizeOf93 (one64 shaK) (by first | with_reducible exact Pull.p0 | with_reducible exact Pull.p1 | with_reducible exact Pull.p2 | with_reducible exact Pull.p3 | with_reducible exact Pull.p4 | with_reducible exact Pull.p5 | with_reducible exact Pull.p6 | with_reducible exact Pull.p7 | with_reducible exact Pull.p8 | with_reducible exact Pull.p9) rfl rfl ?_)
        refine At.nil ?_
        refine At.then_n ?_
        refine At.seq ?_
        refine At.seq ?_
        refine At.region ?_
        refine At.op rfl (op_assign rfl rfl ?_)
        refine At.nil ?_
        refine At.then_n ?_
        refine At.block ?_
        refine At.cut (rs' := (fun k => [row b2 [w64 h.a, w64 h.b, w64 h.c, w64 h.d, w64 h.e, w64 h.f, w64 h.g, w64 h.h] 69 (0, 0), row b4 (List.replicate 8 (Value.int .u64 0)) 69 (0, 0), row b5 (((wL (wAcc s 64) 48) ++ List.replicate (48 - 48) 0).map w64) 93 (0, 0), row b11 (shaK.map w64) 93 (0, 0), row b10 [w64 (it h (wAcc s 64) k).1.a, w64 (it h (wAcc s 64) k).1.b, w64 (it h (wAcc s 64) k).1.c, w64 (it h (wAcc s 64) k).1.d, w64 (it h (wAcc s 64) k).1.e, w64 (it h (wAcc s 64) k).1.f, w64 (it h (wAcc s 64) k).1.g, w64 (it h (wAcc s 64) k).1.h] 69 (0, 0)]) (0 : Nat)) (.cons (by first | exact Pull.p0 | exact Pull.p1 | exact Pull.p2 | exact Pull.p3 | exact Pull.p4 | exact Pull.p5 | exact Pull.p6 | exact Pull.p7 | exact Pull.p8 | exact Pull.p9) (.cons (by first | exact Pull.p0 | exact Pull.p1 | exact Pull.p2 | exact Pull.p3 | exact Pull.p4 | exact Pull.p5 | exact Pull.p6 | exact Pull.p7 | exact Pull.p8 | exact Pull.p9) (.cons (by first | exact Pull.p0 | exact Pull.p1 | exact Pull.p2 | exact Pull.p3 | exact Pull.p4 | exact Pull.p5 | exact Pull.p6 | exact Pull.p7 | exact Pull.p8 | exact Pull.p9) (.cons (by first | exact Pull.p0 | exact Pull.p1 | exact Pull.p2 | exact Pull.p3 | exact Pull.p4 | exact Pull.p5 | exact Pull.p6 | exact Pull.p7 | exact Pull.p8 | exact Pull.p9) (.cons (by first | exact Pull.p0 | exact Pull.p1 | exact Pull.p2 | exact Pull.p3 | exact Pull.p4 | exact Pull.p5 | exact Pull.p6 | exact Pull.p7 | exact Pull.p8 | exact Pull.p9) .nil))))) ?_
        refine At.keep ((fun k => [(2, ptr b2 0), (4, ptr b4 0), (5, ptr b5 0), (10, ptr b10 0), (11, ptr b11 0), (12, i64 k)]) (0 : Nat)) (.cons rfl (.cons rfl (.cons rfl (.cons rfl (.cons rfl (.cons rfl .nil)))))) ?_
        refine At.loop (σ := Nat) (fun k => k ≤ 64) (fun k => [(2, ptr b2 0), (4, ptr b4 0), (5, ptr b5 0), (10, ptr b10 0), (11, ptr b11 0), (12, i64 k)]) (fun k => [row b2 [w64 h.a, w64 h.b, w64 h.c, w64 h.d, w64 h.e, w64 h.f, w64 h.g, w64 h.h] 69 (0, 0), row b4 (List.replicate 8 (Value.int .u64 0)) 69 (0, 0), row b5 (((wL (wAcc s 64) 48) ++ List.replicate (48 - 48) 0).map w64) 93 (0, 0), row b11 (shaK.map w64) 93 (0, 0), row b10 [w64 (it h (wAcc s 64) k).1.a, w64 (it h (wAcc s 64) k).1.b, w64 (it h (wAcc s 64) k).1.c, w64 (it h (wAcc s 64) k).1.d, w64 (it h (wAcc s 64) k).1.e, w64 (it h (wAcc s 64) k).1.f, w64 (it h (wAcc s 64) k).1.g, w64 (it h (wAcc s 64) k).1.h] 69 (0, 0)]) (fun k => 64 - k) (0 : Nat) (Nat.zero_le _) ?_
        rintro k hk
        rcases hit : (it h (wAcc s 64) k) with ⟨⟨va, vb, vc, vd, ve, vf, vg, vh⟩, ws⟩
        dsimp only
        refine At.seq ?_
        refine At.seq ?_
        refine At.region ?_
        refine At.op rfl (op_move rfl rfl ?_)
        refine At.op rfl (op_bin rfl rfl b_lt rfl ?_)
        refine At.nil ?_
        refine At.then_n ?_
        refine At.cond_p rfl (fun hlt => ?_) (fun hlt => ?_)
        ·
          have hW : (sched k ws).getD (k % 16) 0 = (wL (wAcc s 64) 48).getD k 0 := by
            have := it_wk h (wAcc s 64) (wAcc_length s 64) k (by omega)
            rw [hit] at this
            exact this
          refine At.skip ?_
          refine At.then_n ?_
          refine At.seq ?_
          refine At.block ?_
          refine At.seq ?_
          refine At.region ?_
          refine At.op rfl (op_indexA rfl rfl Tryd.underlying69 Tryd.sizeOf22 (by decide) (by decide) rfl ?_)
          refine At.op rfl (op_load rfl Tryd.isAgg22 (by first | with_reducible exact Pull.p0 | with_reducible exact Pull.p1 | with_reducible exact Pull.p2 | with_reducible exact Pull.p3 | with_reducible exact Pull.p4 | with_reducible exact Pull.p5 | with_reducible exact Pull.p6 | with_reducible exact Pull.p7 | with_reducible exact Pull.p8 | with_reducible exact Pull.p9) rfl rfl ?_)
          refine At.op rfl (op_assign rfl rfl ?_)
          refine At.nil ?_
          refine At.then_n ?_
          refine At.seq ?_
          refine At.region ?_
          refine At.op rfl (op_indexA rfl rfl Tryd.underlying69 Tryd.sizeOf22 (by decide) (by decide) rfl ?_)
          refine At.op rfl (op_load rfl Tryd.isAgg22 (by first | with_reducible exact Pull.p0 | with_reducible exact Pull.p1 | with_reducible exact Pull.p2 | with_reducible exact Pull.p3 | with_reducible exact Pull.p4 | with_reducible exact Pull.p5 | with_reducible exact Pull.p6 | with_reducible exact Pull.p7 | with_reducible exact Pull.p8 | with_reducible exact Pull.p9) rfl rfl ?_)
          refine At.op rfl (op_assign rfl rfl ?_)
          refine At.nil ?_
          refine At.then_n ?_
          refine At.seq ?_
          refine At.drawC [_, _, _, _, _, _, _, _, _, _, _, _, _, _, _, _, _, _, _, _, _, _, _, _, _, _, _, _, _, _, _, _] (by kernel_rfl) (by decide) (by kernel_rfl) 
            (Steps'.cons (Step.op rfl (fun D h1 h2 h3 K hK => op_indexA (mD_base rfl rfl) rfl Tryd.underlying69 Tryd.sizeOf22 (by decide) (by decide) rfl hK))
            (Steps'.cons (Step.op rfl (fun D h1 h2 h3 K hK => op_load (mD_done 0 (by decide) (pre_at h2 0 rfl rfl) rfl rfl rfl) Tryd.isAgg22 (by first | with_reducible exact Pull.p0 | with_reducible exact Pull.p1 | with_reducible exact Pull.p2 | with_reducible exact Pull.p3 | with_reducible exact Pull.p4 | with_reducible exact Pull.p5 | with_reducible exact Pull.p6 | with_reducible exact Pull.p7 | with_reducible exact Pull.p8 | with_reducible exact Pull.p9) rfl rfl hK))
            (Steps'.cons (Step.op rfl (fun D h1 h2 h3 K hK => op_move (mD_base rfl rfl) rfl hK))
            (Steps'.cons (Step.op rfl (fun D h1 h2 h3 K hK => op_call1 (evs_cons (mD_done 2 (by decide) (pre_at h2 0 rfl rfl) rfl rfl rfl) (evs_cons rfl evs_nil)) Tryd.call57 (ref_turn _ 6 (by decide)) rfl hK))
            (Steps'.cons (Step.op rfl (fun D h1 h2 h3 K hK => op_move (mD_base rfl rfl) rfl hK))
            (Steps'.cons (Step.op rfl (fun D h1 h2 h3 K hK => op_call1 (evs_cons (mD_done 4 (by decide) (pre_at h2 0 rfl rfl) rfl rfl rfl) (evs_cons rfl evs_nil)) Tryd.call57 (ref_turn _ 11 (by decide)) rfl hK))
            (Steps'.cons (Step.op rfl (fun D h1 h2 h3 K hK => op_bin (mD_done 3 (by decide) (pre_at h2 0 rfl rfl) rfl rfl rfl) (mD_done 5 (by decide) (pre_at h2 1 rfl rfl) rfl rfl rfl) (b64_xor _ _) rfl hK))
            (Steps'.cons (Step.op rfl (fun D h1 h2 h3 K hK => op_move (mD_base rfl rfl) rfl hK))
            (Steps'.cons (Step.op rfl (fun D h1 h2 h3 K hK => op_call1 (evs_cons (mD_done 7 (by decide) (pre_at h2 0 rfl rfl) rfl rfl rfl) (evs_cons rfl evs_nil)) Tryd.call57 (ref_turn _ 25 (by decide)) rfl hK))
            (Steps'.cons (Step.op rfl (fun D h1 h2 h3 K hK => op_bin (mD_done 6 (by decide) (pre_at h2 0 rfl rfl) rfl rfl rfl) (mD_done 8 (by decide) (pre_at h2 1 rfl rfl) rfl rfl rfl) (b64_xor _ _) rfl hK))
            (Steps'.cons (Step.op rfl (fun D h1 h2 h3 K hK => op_bin (mD_done 1 (by decide) (pre_at h2 0 rfl rfl) rfl rfl rfl) (mD_done 9 (by decide) (pre_at h2 1 rfl rfl) rfl rfl rfl) (b64_add _ _) rfl hK))
            (Steps'.cons (Step.op rfl (fun D h1 h2 h3 K hK => op_move (mD_base rfl rfl) rfl hK))
            (Steps'.cons (Step.op rfl (fun D h1 h2 h3 K hK => op_indexA (mD_base rfl rfl) rfl Tryd.underlying69 Tryd.sizeOf22 (by decide) (by decide) rfl hK))
            (Steps'.cons (Step.op rfl (fun D h1 h2 h3 K hK => op_load (mD_done 12 (by decide) (pre_at h2 0 rfl rfl) rfl rfl rfl) Tryd.isAgg22 (by first | with_reducible exact Pull.p0 | with_reducible exact Pull.p1 | with_reducible exact Pull.p2 | with_reducible exact Pull.p3 | with_reducible exact Pull.p4 | with_reducible exact Pull.p5 | with_reducible exact Pull.p6 | with_reducible exact Pull.p7 | with_reducible exact Pull.p8 | with_reducible exact Pull.p9) rfl rfl hK))
            (Steps'.cons (Step.op rfl (fun D h1 h2 h3 K hK => op_bin (mD_done 11 (by decide) (pre_at h2 0 rfl rfl) rfl rfl rfl) (mD_done 13 (by decide) (pre_at h2 1 rfl rfl) rfl rfl rfl) (b64_and _ _) rfl hK))
            (Steps'.cons (Step.op rfl (fun D h1 h2 h3 K hK => op_move (mD_base rfl rfl) rfl hK))
            (Steps'.cons (Step.op rfl (fun D h1 h2 h3 K hK => op_bin rfl (mD_done 15 (by decide) (pre_at h2 0 rfl rfl) rfl rfl rfl) (b64_sub (4294967295 : UInt64) _) rfl hK))
            (Steps'.cons (Step.op rfl (fun D h1 h2 h3 K hK => op_indexA (mD_base rfl rfl) rfl Tryd.underlying69 Tryd.sizeOf22 (by decide) (by decide) rfl hK))
            (Steps'.cons (Step.op rfl (fun D h1 h2 h3 K hK => op_load (mD_done 17 (by decide) (pre_at h2 0 rfl rfl) rfl rfl rfl) Tryd.isAgg22 (by first | with_reducible exact Pull.p0 | with_reducible exact Pull.p1 | with_reducible exact Pull.p2 | with_reducible exact Pull.p3 | with_reducible exact Pull.p4 | with_reducible exact Pull.p5 | with_reducible exact Pull.p6 | with_reducible exact Pull.p7 | with_reducible exact Pull.p8 | with_reducible exact Pull.p9) rfl rfl hK))
            (Steps'.cons (Step.op rfl (fun D h1 h2 h3 K hK => op_bin (mD_done 16 (by decide) (pre_at h2 0 rfl rfl) rfl rfl rfl) (mD_done 18 (by decide) (pre_at h2 1 rfl rfl) rfl rfl rfl) (b64_and _ _) rfl hK))
            (Steps'.cons (Step.op rfl (fun D h1 h2 h3 K hK => op_bin (mD_done 14 (by decide) (pre_at h2 0 rfl rfl) rfl rfl rfl) (mD_done 19 (by decide) (pre_at h2 1 rfl rfl) rfl rfl rfl) (b64_xor _ _) rfl hK))
            (Steps'.cons (Step.op rfl (fun D h1 h2 h3 K hK => op_bin (mD_done 10 (by decide) (pre_at h2 0 rfl rfl) rfl rfl rfl) (mD_done 20 (by decide) (pre_at h2 1 rfl rfl) rfl rfl rfl) (b64_add _ _) rfl hK))
            (Steps'.cons (Step.op rfl (fun D h1 h2 h3 K hK => op_move (mD_base rfl rfl) rfl hK))
            (Steps'.cons (Step.op rfl (fun D h1 h2 h3 K hK => op_indexA (mD_base rfl rfl) (mD_done 22 (by decide) (pre_at h2 0 rfl rfl) rfl rfl rfl) Tryd.underlying93 Tryd.sizeOf22 (by omega) (by omega) rfl hK))
            (Steps'.cons (Step.op rfl (fun D h1 h2 h3 K hK => op_load (mD_done 23 (by decide) (pre_at h2 0 rfl rfl) rfl rfl rfl) Tryd.isAgg22 (by first | with_reducible exact Pull.p0 | with_reducible exact Pull.p1 | with_reducible exact Pull.p2 | with_reducible exact Pull.p3 | with_reducible exact Pull.p4 | with_reducible exact Pull.p5 | with_reducible exact Pull.p6 | with_reducible exact Pull.p7 | with_reducible exact Pull.p8 | with_reducible exact Pull.p9) (mget64' shaK k _ (by omega) (by rw [shaK_length]; omega)) rfl hK))
            (Steps'.cons (Step.op rfl (fun D h1 h2 h3 K hK => op_bin (mD_done 21 (by decide) (pre_at h2 0 rfl rfl) rfl rfl rfl) (mD_done 24 (by decide) (pre_at h2 1 rfl rfl) rfl rfl rfl) (b64_add _ _) rfl hK))
            (Steps'.cons (Step.op rfl (fun D h1 h2 h3 K hK => op_move (mD_base rfl rfl) rfl hK))
            (Steps'.cons (Step.op rfl (fun D h1 h2 h3 K hK => op_indexA (mD_base rfl rfl) (mD_done 26 (by decide) (pre_at h2 0 rfl rfl) rfl rfl rfl) Tryd.underlying93 Tryd.sizeOf22 (by omega) (by omega) rfl hK))
            (Steps'.cons (Step.op rfl (fun D h1 h2 h3 K hK => op_load (mD_done 27 (by decide) (pre_at h2 0 rfl rfl) rfl rfl rfl) Tryd.isAgg22 (by first | with_reducible exact Pull.p0 | with_reducible exact Pull.p1 | with_reducible exact Pull.p2 | with_reducible exact Pull.p3 | with_reducible exact Pull.p4 | with_reducible exact Pull.p5 | with_reducible exact Pull.p6 | with_reducible exact Pull.p7 | with_reducible exact Pull.p8 | with_reducible exact Pull.p9) (mget64 (wL (wAcc s 64) 48) (List.replicate (48 - 48) 0) k _ (by omega) (by rw [wL_length _ (wAcc_length s 64)]; omega)) rfl hK))
            (Steps'.cons (Step.op rfl (fun D h1 h2 h3 K hK => op_bin (mD_done 25 (by decide) (pre_at h2 0 rfl rfl) rfl rfl rfl) (mD_done 28 (by decide) (pre_at h2 1 rfl rfl) rfl rfl rfl) (b64_add _ _) rfl hK))
            (Steps'.cons (Step.op rfl (fun D h1 h2 h3 K hK => op_bin (mD_done 29 (by decide) (pre_at h2 0 rfl rfl) rfl rfl rfl) rfl (Bin.cast (v' := w64 (rndT k (sched k ws) ⟨va, vb, vc, vd, ve, vf, vg, vh⟩)) (b64_rem _ (4294967296 : UInt64) (by decide)) (congrArg u64 (rndT_wide k (sched k ws) ⟨va, vb, vc, vd, ve, vf, vg, vh⟩ _ hW))) rfl hK))
            (Steps'.cons (Step.op rfl (fun D h1 h2 h3 K hK => op_assign (mD_done 30 (by decide) (pre_at h2 0 rfl rfl) rfl rfl rfl) rfl hK))
            Steps'.nil)))))))))))))))))))))))))))))))) ?_
          refine At.keep [(2, _), (4, _), (5, _), (10, _), (11, _), (12, _), (13, _), (14, _), (15, _)] (.cons rfl (.cons rfl (.cons rfl (.cons rfl (.cons rfl (.cons rfl (.cons rfl (.cons rfl (.cons rfl .nil))))))))) ?_
          refine At.then_n ?_
          refine At.seq ?_
          refine At.drawC [_, _, _, _, _, _, _, _, _, _, _, _, _, _, _, _, _, _, _, _, _, _, _, _, _, _] (by kernel_rfl) (by decide) (by kernel_rfl) 
            (Steps'.cons (Step.op rfl (fun D h1 h2 h3 K hK => op_move (mD_base rfl rfl) rfl hK))
            (Steps'.cons (Step.op rfl (fun D h1 h2 h3 K hK => op_call1 (evs_cons (mD_done 0 (by decide) (pre_at h2 0 rfl rfl) rfl rfl rfl) (evs_cons rfl evs_nil)) Tryd.call57 (ref_turn _ 2 (by decide)) rfl hK))
            (Steps'.cons (Step.op rfl (fun D h1 h2 h3 K hK => op_move (mD_base rfl rfl) rfl hK))
            (Steps'.cons (Step.op rfl (fun D h1 h2 h3 K hK => op_call1 (evs_cons (mD_done 2 (by decide) (pre_at h2 0 rfl rfl) rfl rfl rfl) (evs_cons rfl evs_nil)) Tryd.call57 (ref_turn _ 13 (by decide)) rfl hK))
            (Steps'.cons (Step.op rfl (fun D h1 h2 h3 K hK => op_bin (mD_done 1 (by decide) (pre_at h2 0 rfl rfl) rfl rfl rfl) (mD_done 3 (by decide) (pre_at h2 1 rfl rfl) rfl rfl rfl) (b64_xor _ _) rfl hK))
            (Steps'.cons (Step.op rfl (fun D h1 h2 h3 K hK => op_move (mD_base rfl rfl) rfl hK))
            (Steps'.cons (Step.op rfl (fun D h1 h2 h3 K hK => op_call1 (evs_cons (mD_done 5 (by decide) (pre_at h2 0 rfl rfl) rfl rfl rfl) (evs_cons rfl evs_nil)) Tryd.call57 (ref_turn _ 22 (by decide)) rfl hK))
            (Steps'.cons (Step.op rfl (fun D h1 h2 h3 K hK => op_bin (mD_done 4 (by decide) (pre_at h2 0 rfl rfl) rfl rfl rfl) (mD_done 6 (by decide) (pre_at h2 1 rfl rfl) rfl rfl rfl) (b64_xor _ _) rfl hK))
            (Steps'.cons (Step.op rfl (fun D h1 h2 h3 K hK => op_move (mD_base rfl rfl) rfl hK))
            (Steps'.cons (Step.op rfl (fun D h1 h2 h3 K hK => op_indexA (mD_base rfl rfl) rfl Tryd.underlying69 Tryd.sizeOf22 (by decide) (by decide) rfl hK))
            (Steps'.cons (Step.op rfl (fun D h1 h2 h3 K hK => op_load (mD_done 9 (by decide) (pre_at h2 0 rfl rfl) rfl rfl rfl) Tryd.isAgg22 (by first | with_reducible exact Pull.p0 | with_reducible exact Pull.p1 | with_reducible exact Pull.p2 | with_reducible exact Pull.p3 | with_reducible exact Pull.p4 | with_reducible exact Pull.p5 | with_reducible exact Pull.p6 | with_reducible exact Pull.p7 | with_reducible exact Pull.p8 | with_reducible exact Pull.p9) rfl rfl hK))
            (Steps'.cons (Step.op rfl (fun D h1 h2 h3 K hK => op_bin (mD_done 8 (by decide) (pre_at h2 0 rfl rfl) rfl rfl rfl) (mD_done 10 (by decide) (pre_at h2 1 rfl rfl) rfl rfl rfl) (b64_and _ _) rfl hK))
            (Steps'.cons (Step.op rfl (fun D h1 h2 h3 K hK => op_move (mD_base rfl rfl) rfl hK))
            (Steps'.cons (Step.op rfl (fun D h1 h2 h3 K hK => op_indexA (mD_base rfl rfl) rfl Tryd.underlying69 Tryd.sizeOf22 (by decide) (by decide) rfl hK))
            (Steps'.cons (Step.op rfl (fun D h1 h2 h3 K hK => op_load (mD_done 13 (by decide) (pre_at h2 0 rfl rfl) rfl rfl rfl) Tryd.isAgg22 (by first | with_reducible exact Pull.p0 | with_reducible exact Pull.p1 | with_reducible exact Pull.p2 | with_reducible exact Pull.p3 | with_reducible exact Pull.p4 | with_reducible exact Pull.p5 | with_reducible exact Pull.p6 | with_reducible exact Pull.p7 | with_reducible exact Pull.p8 | with_reducible exact Pull.p9) rfl rfl hK))
            (Steps'.cons (Step.op rfl (fun D h1 h2 h3 K hK => op_bin (mD_done 12 (by decide) (pre_at h2 0 rfl rfl) rfl rfl rfl) (mD_done 14 (by decide) (pre_at h2 1 rfl rfl) rfl rfl rfl) (b64_and _ _) rfl hK))
            (Steps'.cons (Step.op rfl (fun D h1 h2 h3 K hK => op_bin (mD_done 11 (by decide) (pre_at h2 0 rfl rfl) rfl rfl rfl) (mD_done 15 (by decide) (pre_at h2 1 rfl rfl) rfl rfl rfl) (b64_xor _ _) rfl hK))
            (Steps'.cons (Step.op rfl (fun D h1 h2 h3 K hK => op_indexA (mD_base rfl rfl) rfl Tryd.underlying69 Tryd.sizeOf22 (by decide) (by decide) rfl hK))
            (Steps'.cons (Step.op rfl (fun D h1 h2 h3 K hK => op_load (mD_done 17 (by decide) (pre_at h2 0 rfl rfl) rfl rfl rfl) Tryd.isAgg22 (by first | with_reducible exact Pull.p0 | with_reducible exact Pull.p1 | with_reducible exact Pull.p2 | with_reducible exact Pull.p3 | with_reducible exact Pull.p4 | with_reducible exact Pull.p5 | with_reducible exact Pull.p6 | with_reducible exact Pull.p7 | with_reducible exact Pull.p8 | with_reducible exact Pull.p9) rfl rfl hK))
            (Steps'.cons (Step.op rfl (fun D h1 h2 h3 K hK => op_indexA (mD_base rfl rfl) rfl Tryd.underlying69 Tryd.sizeOf22 (by decide) (by decide) rfl hK))
            (Steps'.cons (Step.op rfl (fun D h1 h2 h3 K hK => op_load (mD_done 19 (by decide) (pre_at h2 0 rfl rfl) rfl rfl rfl) Tryd.isAgg22 (by first | with_reducible exact Pull.p0 | with_reducible exact Pull.p1 | with_reducible exact Pull.p2 | with_reducible exact Pull.p3 | with_reducible exact Pull.p4 | with_reducible exact Pull.p5 | with_reducible exact Pull.p6 | with_reducible exact Pull.p7 | with_reducible exact Pull.p8 | with_reducible exact Pull.p9) rfl rfl hK))
            (Steps'.cons (Step.op rfl (fun D h1 h2 h3 K hK => op_bin (mD_done 18 (by decide) (pre_at h2 0 rfl rfl) rfl rfl rfl) (mD_done 20 (by decide) (pre_at h2 1 rfl rfl) rfl rfl rfl) (b64_and _ _) rfl hK))
            (Steps'.cons (Step.op rfl (fun D h1 h2 h3 K hK => op_bin (mD_done 16 (by decide) (pre_at h2 0 rfl rfl) rfl rfl rfl) (mD_done 21 (by decide) (pre_at h2 1 rfl rfl) rfl rfl rfl) (b64_xor _ _) rfl hK))
            (Steps'.cons (Step.op rfl (fun D h1 h2 h3 K hK => op_bin (mD_done 7 (by decide) (pre_at h2 0 rfl rfl) rfl rfl rfl) (mD_done 22 (by decide) (pre_at h2 1 rfl rfl) rfl rfl rfl) (b64_add _ _) rfl hK))
            (Steps'.cons (Step.op rfl (fun D h1 h2 h3 K hK => op_bin (mD_done 23 (by decide) (pre_at h2 0 rfl rfl) rfl rfl rfl) rfl (Bin.cast (v' := w64 (rndU ⟨va, vb, vc, vd, ve, vf, vg, vh⟩)) (b64_rem _ (4294967296 : UInt64) (by decide)) (congrArg u64 (rndU_wide ⟨va, vb, vc, vd, ve, vf, vg, vh⟩))) rfl hK))
            (Steps'.cons (Step.op rfl (fun D h1 h2 h3 K hK => op_assign (mD_done 24 (by decide) (pre_at h2 0 rfl rfl) rfl rfl rfl) rfl hK))
            Steps'.nil)))))))))))))))))))))))))) ?_
          refine At.keep [(2, _), (4, _), (5, _), (10, _), (11, _), (12, _), (13, _), (14, _), (15, _), (16, _)] (.cons rfl (.cons rfl (.cons rfl (.cons rfl (.cons rfl (.cons rfl (.cons rfl (.cons rfl (.cons rfl (.cons rfl .nil)))))))))) ?_
          refine At.then_n ?_
          refine At.region ?_
          refine At.op rfl (op_move rfl rfl ?_)
          refine At.op rfl (op_move rfl rfl ?_)
          refine At.op rfl (op_bin rfl rfl (b64_add (rndT k (sched k ws) ⟨va, vb, vc, vd, ve, vf, vg, vh⟩).toUInt64 (rndU ⟨va, vb, vc, vd, ve, vf, vg, vh⟩).toUInt64) rfl ?_)
          refine At.op rfl (op_bin rfl rfl (Bin.cast (v' := w64 (rndT k (sched k ws) ⟨va, vb, vc, vd, ve, vf, vg, vh⟩ + rndU ⟨va, vb, vc, vd, ve, vf, vg, vh⟩)) (b64_rem _ (4294967296 : UInt64) (by decide)) (by rw [add2w]; rfl)) rfl ?_)
          refine At.op rfl (op_move rfl rfl ?_)
          refine At.op rfl (op_indexA rfl rfl Tryd.underlying69 Tryd.sizeOf22 (by decide) (by decide) rfl ?_)
          refine At.op rfl (op_load rfl Tryd.isAgg22 (by first | with_reducible exact Pull.p0 | with_reducible exact Pull.p1 | with_reducible exact Pull.p2 | with_reducible exact Pull.p3 | with_reducible exact Pull.p4 | with_reducible exact Pull.p5 | with_reducible exact Pull.p6 | with_reducible exact Pull.p7 | with_reducible exact Pull.p8 | with_reducible exact Pull.p9) rfl rfl ?_)
          refine At.op rfl (op_indexA rfl rfl Tryd.underlying69 Tryd.sizeOf22 (by decide) (by decide) rfl ?_)
          refine At.op rfl (op_load rfl Tryd.isAgg22 (by first | with_reducible exact Pull.p0 | with_reducible exact Pull.p1 | with_reducible exact Pull.p2 | with_reducible exact Pull.p3 | with_reducible exact Pull.p4 | with_reducible exact Pull.p5 | with_reducible exact Pull.p6 | with_reducible exact Pull.p7 | with_reducible exact Pull.p8 | with_reducible exact Pull.p9) rfl rfl ?_)
          refine At.op rfl (op_indexA rfl rfl Tryd.underlying69 Tryd.sizeOf22 (by decide) (by decide) rfl ?_)
          refine At.op rfl (op_load rfl Tryd.isAgg22 (by first | with_reducible exact Pull.p0 | with_reducible exact Pull.p1 | with_reducible exact Pull.p2 | with_reducible exact Pull.p3 | with_reducible exact Pull.p4 | with_reducible exact Pull.p5 | with_reducible exact Pull.p6 | with_reducible exact Pull.p7 | with_reducible exact Pull.p8 | with_reducible exact Pull.p9) rfl rfl ?_)
          refine At.op rfl (op_move rfl rfl ?_)
          refine At.op rfl (op_bin rfl rfl (b64_add vd.toUInt64 (rndT k (sched k ws) ⟨va, vb, vc, vd, ve, vf, vg, vh⟩).toUInt64) rfl ?_)
          refine At.op rfl (op_bin rfl rfl (Bin.cast (v' := w64 (vd + rndT k (sched k ws) ⟨va, vb, vc, vd, ve, vf, vg, vh⟩)) (b64_rem _ (4294967296 : UInt64) (by decide)) (by rw [add2w]; rfl)) rfl ?_)
          refine At.op rfl (op_move rfl rfl ?_)
          refine At.op rfl (op_indexA rfl rfl Tryd.underlying69 Tryd.sizeOf22 (by decide) (by decide) rfl ?_)
          refine At.op rfl (op_load rfl Tryd.isAgg22 (by first | with_reducible exact Pull.p0 | with_reducible exact Pull.p1 | with_reducible exact Pull.p2 | with_reducible exact Pull.p3 | with_reducible exact Pull.p4 | with_reducible exact Pull.p5 | with_reducible exact Pull.p6 | with_reducible exact Pull.p7 | with_reducible exact Pull.p8 | with_reducible exact Pull.p9) rfl rfl ?_)
          refine At.op rfl (op_indexA rfl rfl Tryd.underlying69 Tryd.sizeOf22 (by decide) (by decide) rfl ?_)
          refine At.op rfl (op_load rfl Tryd.isAgg22 (by first | with_reducible exact Pull.p0 | with_reducible exact Pull.p1 | with_reducible exact Pull.p2 | with_reducible exact Pull.p3 | with_reducible exact Pull.p4 | with_reducible exact Pull.p5 | with_reducible exact Pull.p6 | with_reducible exact Pull.p7 | with_reducible exact Pull.p8 | with_reducible exact Pull.p9) rfl rfl ?_)
          refine At.op rfl (op_build (v := (rnd k (sched k ws) ⟨va, vb, vc, vd, ve, vf, vg, vh⟩).val64) rfl (fun w => run_build w _ _ _ (by kernel_rfl)) rfl ?_)
          refine At.op rfl (op_storeW rfl rfl Tryd.sizeOf69 (V8.one64 (rnd k (sched k ws) ⟨va, vb, vc, vd, ve, vf, vg, vh⟩)) (by first | with_reducible exact Pull.p0 | with_reducible exact Pull.p1 | with_reducible exact Pull.p2 | with_reducible exact Pull.p3 | with_reducible exact Pull.p4 | with_reducible exact Pull.p5 | with_reducible exact Pull.p6 | with_reducible exact Pull.p7 | with_reducible exact Pull.p8 | with_reducible exact Pull.p9) rfl rfl ?_)
          refine At.nil ?_
          refine At.blk_n ?_
          refine At.then_n ?_
          refine At.keep [(2, _), (4, _), (5, _), (10, _), (11, _), (12, _)] (.cons rfl (.cons rfl (.cons rfl (.cons rfl (.cons rfl (.cons rfl .nil)))))) ?_
          refine At.region ?_
          refine At.op rfl (op_move rfl rfl ?_)
          refine At.op rfl (op_bin rfl rfl (b_add (by omega) (by omega)) rfl ?_)
          refine At.op rfl (op_assign rfl rfl ?_)
          refine At.nil ?_
          refine At.then_n ?_
          have hit2 : it h (wAcc s 64) (k + 1) = (rnd k (sched k ws) ⟨va, vb, vc, vd, ve, vf, vg, vh⟩, sched k ws) := by rw [it, hit]
          refine At.back (k + 1) (by omega) (by omega) (.cons rfl (.cons rfl (.cons rfl (.cons rfl (.cons rfl (.cons rfl .nil)))))) (kk := []) ?_
          rw [hit2]
          exact (.cons (by first | exact Pull.p0 | exact Pull.p1 | exact Pull.p2 | exact Pull.p3 | exact Pull.p4 | exact Pull.p5 | exact Pull.p6 | exact Pull.p7 | exact Pull.p8 | exact Pull.p9) (.cons (by first | exact Pull.p0 | exact Pull.p1 | exact Pull.p2 | exact Pull.p3 | exact Pull.p4 | exact Pull.p5 | exact Pull.p6 | exact Pull.p7 | exact Pull.p8 | exact Pull.p9) (.cons (by first | exact Pull.p0 | exact Pull.p1 | exact Pull.p2 | exact Pull.p3 | exact Pull.p4 | exact Pull.p5 | exact Pull.p6 | exact Pull.p7 | exact Pull.p8 | exact Pull.p9) (.cons (by first | exact Pull.p0 | exact Pull.p1 | exact Pull.p2 | exact Pull.p3 | exact Pull.p4 | exact Pull.p5 | exact Pull.p6 | exact Pull.p7 | exact Pull.p8 | exact Pull.p9) (.cons (by first | exact Pull.p0 | exact Pull.p1 | exact Pull.p2 | exact Pull.p3 | exact Pull.p4 | exact Pull.p5 | exact Pull.p6 | exact Pull.p7 | exact Pull.p8 | exact Pull.p9) .nil)))))
        ·
          obtain rfl : k = 64 := by omega
          refine At.exit ?_
          refine At.then_e ?_
          refine At.then_e ?_
          refine At.blk_e ?_
          refine At.then_n ?_
          refine At.seq ?_
          refine At.seq ?_
          refine At.region ?_
          refine At.op rfl (op_assign rfl rfl ?_)
          refine At.nil ?_
          refine At.then_n ?_
          refine At.block ?_
          obtain ⟨v, hv⟩ : ∃ v : V8, v = ⟨va, vb, vc, vd, ve, vf, vg, vh⟩ := ⟨_, rfl⟩
          rw [show [w64 va, w64 vb, w64 vc, w64 vd, w64 ve, w64 vf, w64 vg, w64 vh] = (addP v h 0).map w64 by rw [hv]; rfl]
          refine At.cut (rs' := (fun k => [row b2 [w64 h.a, w64 h.b, w64 h.c, w64 h.d, w64 h.e, w64 h.f, w64 h.g, w64 h.h] 69 (0, 0), row b4 (List.replicate 8 (Value.int .u64 0)) 69 (0, 0), row b10 ((addP v h k).map w64) 69 (0, 0)]) (0 : Nat)) (.cons (by first | exact Pull.p0 | exact Pull.p1 | exact Pull.p2 | exact Pull.p3 | exact Pull.p4 | exact Pull.p5 | exact Pull.p6 | exact Pull.p7 | exact Pull.p8 | exact Pull.p9) (.cons (by first | exact Pull.p0 | exact Pull.p1 | exact Pull.p2 | exact Pull.p3 | exact Pull.p4 | exact Pull.p5 | exact Pull.p6 | exact Pull.p7 | exact Pull.p8 | exact Pull.p9) (.cons (by first | exact Pull.p0 | exact Pull.p1 | exact Pull.p2 | exact Pull.p3 | exact Pull.p4 | exact Pull.p5 | exact Pull.p6 | exact Pull.p7 | exact Pull.p8 | exact Pull.p9) .nil))) ?_
          refine At.keep ((fun k => [(2, ptr b2 0), (4, ptr b4 0), (10, ptr b10 0), (17, i64 k)]) (0 : Nat)) (.cons rfl (.cons rfl (.cons rfl (.cons rfl .nil)))) ?_
          refine At.loop (σ := Nat) (fun k => k ≤ 8) (fun k => [(2, ptr b2 0), (4, ptr b4 0), (10, ptr b10 0), (17, i64 k)]) (fun k => [row b2 [w64 h.a, w64 h.b, w64 h.c, w64 h.d, w64 h.e, w64 h.f, w64 h.g, w64 h.h] 69 (0, 0), row b4 (List.replicate 8 (Value.int .u64 0)) 69 (0, 0), row b10 ((addP v h k).map w64) 69 (0, 0)]) (fun k => 8 - k) (0 : Nat) (Nat.zero_le _) ?_
          rintro k hk
          refine At.seq ?_
          refine At.seq ?_
          refine At.region ?_
          refine At.op rfl (op_move rfl rfl ?_)
          refine At.op rfl (op_bin rfl rfl b_lt rfl ?_)
          refine At.nil ?_
          refine At.then_n ?_
          refine At.cond_p rfl (fun hlt => ?_) (fun hlt => ?_)
          ·
            refine At.skip ?_
            refine At.then_n ?_
            refine At.seq ?_
            refine At.block ?_
            refine At.drawL _ [_, _, _, _, _, _, _, _, _, _, undef] (by kernel_rfl) (by decide) (by kernel_rfl) (by kernel_rfl) 
              (.cons (Step.op rfl (fun D h1 h2 h3 K hK => op_move (mD_base rfl rfl) rfl hK))
              (.cons (Step.op rfl (fun D h1 h2 h3 K hK => op_move (mD_base rfl rfl) rfl hK))
              (.cons (Step.op rfl (fun D h1 h2 h3 K hK => op_indexA (mD_base rfl rfl) (mD_done 1 (by decide) (pre_at h2 0 rfl rfl) rfl rfl rfl) Tryd.underlying69 Tryd.sizeOf22 (by omega) (by omega) rfl hK))
              (.cons (Step.op rfl (fun D h1 h2 h3 K hK => op_load (mD_done 2 (by decide) (pre_at h2 0 rfl rfl) rfl rfl rfl) Tryd.isAgg22 (by first | with_reducible exact Pull.p0 | with_reducible exact Pull.p1 | with_reducible exact Pull.p2 | with_reducible exact Pull.p3 | with_reducible exact Pull.p4 | with_reducible exact Pull.p5 | with_reducible exact Pull.p6 | with_reducible exact Pull.p7 | with_reducible exact Pull.p8 | with_reducible exact Pull.p9) (mget64' (addP v h k) k _ (by omega) (by rw [addP_length]; omega)) rfl hK))
              (.cons (Step.op rfl (fun D h1 h2 h3 K hK => op_move (mD_base rfl rfl) rfl hK))
              (.cons (Step.op rfl (fun D h1 h2 h3 K hK => op_indexA (mD_base rfl rfl) (mD_done 4 (by decide) (pre_at h2 0 rfl rfl) rfl rfl rfl) Tryd.underlying69 Tryd.sizeOf22 (by omega) (by omega) rfl hK))
              (.cons (Step.op rfl (fun D h1 h2 h3 K hK => op_load (mD_done 5 (by decide) (pre_at h2 0 rfl rfl) rfl rfl rfl) Tryd.isAgg22 (by first | with_reducible exact Pull.p0 | with_reducible exact Pull.p1 | with_reducible exact Pull.p2 | with_reducible exact Pull.p3 | with_reducible exact Pull.p4 | with_reducible exact Pull.p5 | with_reducible exact Pull.p6 | with_reducible exact Pull.p7 | with_reducible exact Pull.p8 | with_reducible exact Pull.p9) (hgetV64 h k _ (by omega) (by omega)) rfl hK))
              (.cons (Step.op rfl (fun D h1 h2 h3 K hK => op_bin (mD_done 3 (by decide) (pre_at h2 0 rfl rfl) rfl rfl rfl) (mD_done 6 (by decide) (pre_at h2 1 rfl rfl) rfl rfl rfl) (b64_add ((addP v h k).getD k 0).toUInt64 (h.list.getD k 0).toUInt64) rfl hK))
              (.cons (Step.op rfl (fun D h1 h2 h3 K hK => op_bin (mD_done 7 (by decide) (pre_at h2 0 rfl rfl) rfl rfl rfl) rfl (Bin.cast (v' := w64 ((addP v h k).getD k 0 + h.list.getD k 0)) (b64_rem _ (4294967296 : UInt64) (by decide)) (by rw [add2w]; rfl)) rfl hK))
              (.cons (Step.op rfl (fun D h1 h2 h3 K hK => op_indexA (mD_base rfl rfl) (mD_done 0 (by decide) (pre_at h2 0 rfl rfl) rfl rfl rfl) Tryd.underlying69 Tryd.sizeOf22 (by omega) (by omega) rfl hK))
              (.last (Last.op rfl (fun D h2 K hK => op_store (mD_done 9 (by decide) (pre_at h2 0 rfl rfl) rfl rfl rfl) (mD_done 8 (by decide) (pre_at h2 1 rfl rfl) rfl rfl rfl) Tryd.sizeOf22 rfl rfl (by first | with_reducible exact Pull.p0 | with_reducible exact Pull.p1 | with_reducible exact Pull.p2 | with_reducible exact Pull.p3 | with_reducible exact Pull.p4 | with_reducible exact Pull.p5 | with_reducible exact Pull.p6 | with_reducible exact Pull.p7 | with_reducible exact Pull.p8 | with_reducible exact Pull.p9) (mset64 (addP v h k) k _ _ (by omega) (by rw [addP_length]; omega)) rfl hK))
              ))))))))))) ?_
            refine At.keep [(2, _), (4, _), (10, _), (17, _)] (.cons rfl (.cons rfl (.cons rfl (.cons rfl .nil)))) ?_
            refine At.blk_n ?_
            refine At.then_n ?_
            refine At.region ?_
            refine At.op rfl (op_move rfl rfl ?_)
            refine At.op rfl (op_bin rfl rfl (b_add (by omega) (by omega)) rfl ?_)
            refine At.op rfl (op_assign rfl rfl ?_)
            refine At.nil ?_
            refine At.then_n ?_
            rw [addP_step v h k (by omega)]
            exact At.back (k + 1) (by omega) (by omega) (.cons rfl (.cons rfl (.cons rfl (.cons rfl .nil)))) (.cons (by first | with_reducible exact Pull.p0 | with_reducible exact Pull.p1 | with_reducible exact Pull.p2 | with_reducible exact Pull.p3 | with_reducible exact Pull.p4 | with_reducible exact Pull.p5 | with_reducible exact Pull.p6 | with_reducible exact Pull.p7 | with_reducible exact Pull.p8 | with_reducible exact Pull.p9) (.cons (by first | with_reducible exact Pull.p0 | with_reducible exact Pull.p1 | with_reducible exact Pull.p2 | with_reducible exact Pull.p3 | with_reducible exact Pull.p4 | with_reducible exact Pull.p5 | with_reducible exact Pull.p6 | with_reducible exact Pull.p7 | with_reducible exact Pull.p8 | with_reducible exact Pull.p9) (.cons (by first | with_reducible exact Pull.p0 | with_reducible exact Pull.p1 | with_reducible exact Pull.p2 | with_reducible exact Pull.p3 | with_reducible exact Pull.p4 | with_reducible exact Pull.p5 | with_reducible exact Pull.p6 | with_reducible exact Pull.p7 | with_reducible exact Pull.p8 | with_reducible exact Pull.p9) .nil)))
          ·
            obtain rfl : k = 8 := by omega
            refine At.exit ?_
            refine At.then_e ?_
            refine At.then_e ?_
            refine At.blk_e ?_
            refine At.then_n ?_
            refine At.seq ?_
            refine At.region ?_
            refine At.op rfl (op_loadW rfl Tryd.isAgg69 Tryd.sizeOf69 (by first | with_reducible exact Pull.p0 | with_reducible exact Pull.p1 | with_reducible exact Pull.p2 | with_reducible exact Pull.p3 | with_reducible exact Pull.p4 | with_reducible exact Pull.p5 | with_reducible exact Pull.p6 | with_reducible exact Pull.p7 | with_reducible exact Pull.p8 | with_reducible exact Pull.p9) rfl rfl ?_)
            refine At.op rfl (op_storeW rfl rfl Tryd.sizeOf69 (one64 _) (by first | with_reducible exact Pull.p0 | with_reducible exact Pull.p1 | with_reducible exact Pull.p2 | with_reducible exact Pull.p3 | with_reducible exact Pull.p4 | with_reducible exact Pull.p5 | with_reducible exact Pull.p6 | with_reducible exact Pull.p7 | with_reducible exact Pull.p8 | with_reducible exact Pull.p9) (by rw [List.length_map, addP_length]) rfl ?_)
            refine At.nil ?_
            refine At.then_n ?_
            refine At.ret ?_
            refine At.finA rfl rfl rfl (by first | with_reducible exact Pull.p0 | with_reducible exact Pull.p1 | with_reducible exact Pull.p2 | with_reducible exact Pull.p3 | with_reducible exact Pull.p4 | with_reducible exact Pull.p5 | with_reducible exact Pull.p6 | with_reducible exact Pull.p7 | with_reducible exact Pull.p8 | with_reducible exact Pull.p9) Tryd.isAgg69 Tryd.sizeOf69 (by rw [List.length_map, addP_length]) ⟨?_, rfl⟩ .nil
            unfold stepS; rw [hit, ← hv]; rfl
end Go.Proofs.YtcppimolaiinhaaDoor
