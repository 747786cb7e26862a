/- Walks of the program's functions. -/
import Derived.Test.YtcppimolaiinhaaDoorSLV3
import Derived.Test.YtcppimolaiinhaaDoorSLW6
import Derived.KernelRfl
set_option maxRecDepth 20000
set_option linter.unusedVariables false
set_option linter.unusedSimpArgs false
namespace Go.Proofs.YtcppimolaiinhaaDoor
open Go SL
variable {G : List (Nat × Obj)}
theorem ref_Sum (m : List UInt8) (h2 : m.length < 100000000) : Does Tryd.prog G 17 [str m] [] (One (.agg ((shaB m).map u8).toArray)) := by
  refine Does.of Tryd.func17 rfl Tryd.ntmps17 rfl (fun w0 => ?_)
  refine At.keep [(0, _)] (.cons rfl .nil) ?_
  refine At.seq ?_
  refine At.region ?_
  refine At.op rfl (op_alloc Tryd.zeroValue45 rfl rfl ?_)
  intro b2
  refine At.nil ?_
  refine At.then_n ?_
  refine At.seq ?_
  refine At.region ?_
  refine At.op rfl (op_build (v := iv.val64) rfl (fun w => run_build w _ _ _ (by kernel_rfl)) rfl ?_)
  refine At.op rfl (op_alloc Tryd.zeroValue69 rfl rfl ?_)
  intro b3
  refine At.op rfl (op_storeW rfl rfl Tryd.sizeOf69 (V8.one64 iv) (by first | with_reducible exact Pull.p0 | with_reducible exact Pull.p1 | with_reducible exact Pull.p2 | with_reducible exact Pull.p3 | with_reducible exact Pull.p4 | with_reducible exact Pull.p5 | with_reducible exact Pull.p6 | with_reducible exact Pull.p7 | with_reducible exact Pull.p8 | with_reducible exact Pull.p9) rfl rfl ?_)
  refine At.nil ?_
  refine At.then_n ?_
  refine At.seq ?_
  refine At.region ?_
  refine At.op rfl (op_move rfl rfl ?_)
  refine At.op rfl (op_move rfl rfl ?_)
  refine At.op rfl (op_len_str rfl Tryd.underlying9 rfl ?_)
  refine At.op rfl (op_call1 rfl Tryd.call37 (ref_Fill m.length (by omega)) rfl ?_)
  refine At.op rfl (op_bin rfl rfl (b_cat (by have := fillS_le m.length; omega)) rfl ?_)
  refine At.op rfl (op_assign rfl rfl ?_)
  refine At.nil ?_
  refine At.then_n ?_
  refine At.seq ?_
  refine At.block ?_
  refine At.cut (rs' := (fun s => [row b2 (List.replicate 32 (Value.int .u8 0)) 45 (0, 0), row b3 [w64 s.2.1.a, w64 s.2.1.b, w64 s.2.1.c, w64 s.2.1.d, w64 s.2.1.e, w64 s.2.1.f, w64 s.2.1.g, w64 s.2.1.h] 69 (0, 0)]) (((m.length + (fillS m.length).length) / 64, iv, m ++ fillS m.length) : Nat × V8 × List UInt8)) (.cons (by first | exact Pull.p0 | exact Pull.p1 | exact Pull.p2 | exact Pull.p3 | exact Pull.p4 | exact Pull.p5 | exact Pull.p6 | exact Pull.p7 | exact Pull.p8 | exact Pull.p9) (.cons (by first | exact Pull.p0 | exact Pull.p1 | exact Pull.p2 | exact Pull.p3 | exact Pull.p4 | exact Pull.p5 | exact Pull.p6 | exact Pull.p7 | exact Pull.p8 | exact Pull.p9) .nil)) ?_
  refine At.keep ((fun s => [(0, str s.2.2), (2, ptr b2 0), (3, ptr b3 0)]) (((m.length + (fillS m.length).length) / 64, iv, m ++ fillS m.length) : Nat × V8 × List UInt8)) (.cons rfl (.cons rfl (.cons rfl .nil))) ?_
  refine At.loop (σ := Nat × V8 × List UInt8) (fun s => s.2.2.length = 64 * s.1 ∧ foldS s.1 s.2.1 s.2.2 = shaV m) (fun s => [(0, str s.2.2), (2, ptr b2 0), (3, ptr b3 0)]) (fun s => [row b2 (List.replicate 32 (Value.int .u8 0)) 45 (0, 0), row b3 [w64 s.2.1.a, w64 s.2.1.b, w64 s.2.1.c, w64 s.2.1.d, w64 s.2.1.e, w64 s.2.1.f, w64 s.2.1.g, w64 s.2.1.h] 69 (0, 0)]) (fun s => s.1) (((m.length + (fillS m.length).length) / 64, iv, m ++ fillS m.length) : Nat × V8 × List UInt8) ⟨by dsimp only; rw [List.length_append]; have := fillS_length m.length; omega, by dsimp only; unfold shaV; rfl⟩ ?_
  rintro ⟨n, h, rest⟩ ⟨hl, hf⟩
  dsimp only at hl hf ⊢
  refine At.seq ?_
  refine At.seq ?_
  refine At.region ?_
  refine At.op rfl (op_move rfl rfl ?_)
  refine At.op rfl (op_len_str rfl Tryd.underlying9 rfl ?_)
  refine At.op rfl (op_bin rfl rfl b_gt rfl ?_)
  refine At.nil ?_
  refine At.then_n ?_
  refine At.cond_p rfl (fun hne => ?_) (fun hne => ?_)
  ·
    obtain ⟨n, rfl⟩ : ∃ n', n = n' + 1 := by
      rcases n with _ | n
      · omega
      · exact ⟨n, rfl⟩
    refine At.skip ?_
    refine At.then_n ?_
    refine At.block ?_
    refine At.seq ?_
    refine At.drawL _ [_, _, _, _, undef] (by kernel_rfl) (by decide) (by kernel_rfl) (by kernel_rfl) 
      (.cons (Step.op rfl (fun D h1 h2 h3 K hK => op_loadW (mD_base rfl rfl) Tryd.isAgg69 Tryd.sizeOf69 (by first | with_reducible exact Pull.p0 | with_reducible exact Pull.p1 | with_reducible exact Pull.p2 | with_reducible exact Pull.p3 | with_reducible exact Pull.p4 | with_reducible exact Pull.p5 | with_reducible exact Pull.p6 | with_reducible exact Pull.p7 | with_reducible exact Pull.p8 | with_reducible exact Pull.p9) rfl rfl hK))
      (.cons (Step.op rfl (fun D h1 h2 h3 K hK => op_move (mD_base rfl rfl) rfl hK))
      (.cons (Step.op rfl (fun D h1 h2 h3 K hK => op_sl_str_hi (mD_done 1 (by decide) (pre_at h2 0 rfl rfl) rfl rfl rfl) rfl Tryd.underlying9 (by omega) (by omega) rfl hK))
      (.cons (Step.op rfl (fun D h1 h2 h3 K hK => op_call1 (evs_cons (mD_done 0 (by decide) (pre_at h2 0 rfl rfl) rfl rfl rfl) (evs_cons (mD_done 2 (by decide) (pre_at h2 1 rfl rfl) rfl rfl rfl) evs_nil)) Tryd.call38 (ref_Step h (rest.take 64) (by rw [List.length_take]; omega)) rfl hK))
      (.last (Last.op rfl (fun D h2 K hK => op_storeW (mD_base rfl rfl) (mD_done 3 (by decide) (pre_at h2 0 rfl rfl) rfl rfl rfl) Tryd.sizeOf69 (V8.one64 (stepS h (rest.take 64))) (by first | with_reducible exact Pull.p0 | with_reducible exact Pull.p1 | with_reducible exact Pull.p2 | with_reducible exact Pull.p3 | with_reducible exact Pull.p4 | with_reducible exact Pull.p5 | with_reducible exact Pull.p6 | with_reducible exact Pull.p7 | with_reducible exact Pull.p8 | with_reducible exact Pull.p9) rfl rfl hK))
      ))))) ?_
    refine At.keep [(0, _), (2, _), (3, _)] (.cons rfl (.cons rfl (.cons rfl .nil))) ?_
    refine At.then_n ?_
    refine At.region ?_
    refine At.op rfl (op_move rfl rfl ?_)
    refine At.op rfl (op_sl_str_lo rfl rfl Tryd.underlying9 (by omega) (by omega) rfl ?_)
    refine At.op rfl (op_assign rfl rfl ?_)
    refine At.nil ?_
    refine At.blk_n ?_
    refine At.then_n ?_
    refine At.back (n, stepS h (rest.take 64), rest.drop 64) ⟨by dsimp only; rw [List.length_drop]; omega, hf⟩ (by dsimp only; omega) (.cons rfl (.cons rfl (.cons rfl .nil))) (.cons (by first | with_reducible exact Pull.p0 | with_reducible exact Pull.p1 | with_reducible exact Pull.p2 | with_reducible exact Pull.p3 | with_reducible exact Pull.p4 | with_reducible exact Pull.p5 | with_reducible exact Pull.p6 | with_reducible exact Pull.p7 | with_reducible exact Pull.p8 | with_reducible exact Pull.p9) (.cons (by first | with_reducible exact Pull.p0 | with_reducible exact Pull.p1 | with_reducible exact Pull.p2 | with_reducible exact Pull.p3 | with_reducible exact Pull.p4 | with_reducible exact Pull.p5 | with_reducible exact Pull.p6 | with_reducible exact Pull.p7 | with_reducible exact Pull.p8 | with_reducible exact Pull.p9) .nil))
  ·
    obtain rfl : n = 0 := by omega
    have hH : h = shaV m := hf
    subst hH
    refine At.exit ?_
    refine At.then_e ?_
    refine At.then_e ?_
    refine At.blk_e ?_
    refine At.then_n ?_
    refine At.seq ?_
    refine At.region ?_
    refine At.op rfl (op_build (v := .agg (List.replicate 32 (Value.int .u8 0)).toArray) rfl (fun w => run_build w _ _ _ (by kernel_rfl)) rfl ?_)
    refine At.op rfl (op_alloc Tryd.zeroValue45 rfl rfl ?_)
    intro b4
    refine At.op rfl (op_storeW rfl rfl Tryd.sizeOf45 (by intro v hv; rw [List.eq_of_mem_replicate hv]; rfl) (by first | with_reducible exact Pull.p0 | with_reducible exact Pull.p1 | with_reducible exact Pull.p2 | with_reducible exact Pull.p3 | with_reducible exact Pull.p4 | with_reducible exact Pull.p5 | with_reducible exact Pull.p6 | with_reducible exact Pull.p7 | with_reducible exact Pull.p8 | with_reducible exact Pull.p9) rfl rfl ?_)
    refine At.nil ?_
    refine At.then_n ?_
    refine At.seq ?_
    refine At.seq ?_
    refine At.region ?_
    refine At.op rfl (op_assign rfl rfl ?_)
    refine At.nil ?_
    refine At.then_n ?_
    refine At.block ?_
    refine At.same (r := row b4 (List.replicate 32 (Value.int .u8 0)) 45 (0, 0)) (r' := row b4 ((outL (shaV m) (4 * 0)).map u8) 45 (0, 0)) (by first | with_reducible exact Pull.p0 | with_reducible exact Pull.p1 | with_reducible exact Pull.p2 | with_reducible exact Pull.p3 | with_reducible exact Pull.p4 | with_reducible exact Pull.p5 | with_reducible exact Pull.p6 | with_reducible exact Pull.p7 | with_reducible exact Pull.p8 | with_reducible exact Pull.p9) (fun w h => h) (fun b h => h) ?_
    refine At.cut (rs' := (fun i => [row b2 (List.replicate 32 (Value.int .u8 0)) 45 (0, 0), row b3 [w64 (shaV m).a, w64 (shaV m).b, w64 (shaV m).c, w64 (shaV m).d, w64 (shaV m).e, w64 (shaV m).f, w64 (shaV m).g, w64 (shaV m).h] 69 (0, 0), row b4 ((outL (shaV m) (4 * i)).map u8) 45 (0, 0)]) (0 : Nat)) (.cons (by first | exact Pull.p0 | exact Pull.p1 | exact Pull.p2 | exact Pull.p3 | exact Pull.p4 | exact Pull.p5 | exact Pull.p6 | exact Pull.p7 | exact Pull.p8 | exact Pull.p9) (.cons (by first | exact Pull.p0 | exact Pull.p1 | exact Pull.p2 | exact Pull.p3 | exact Pull.p4 | exact Pull.p5 | exact Pull.p6 | exact Pull.p7 | exact Pull.p8 | exact Pull.p9) (.cons (by first | exact Pull.p0 | exact Pull.p1 | exact Pull.p2 | exact Pull.p3 | exact Pull.p4 | exact Pull.p5 | exact Pull.p6 | exact Pull.p7 | exact Pull.p8 | exact Pull.p9) .nil))) ?_
    refine At.keep ((fun i => [(2, ptr b2 0), (3, ptr b3 0), (4, ptr b4 0), (5, i64 i)]) (0 : Nat)) (.cons rfl (.cons rfl (.cons rfl (.cons rfl .nil)))) ?_
    refine At.loop (σ := Nat) (fun i => i ≤ 8) (fun i => [(2, ptr b2 0), (3, ptr b3 0), (4, ptr b4 0), (5, i64 i)]) (fun i => [row b2 (List.replicate 32 (Value.int .u8 0)) 45 (0, 0), row b3 [w64 (shaV m).a, w64 (shaV m).b, w64 (shaV m).c, w64 (shaV m).d, w64 (shaV m).e, w64 (shaV m).f, w64 (shaV m).g, w64 (shaV m).h] 69 (0, 0), row b4 ((outL (shaV m) (4 * i)).map u8) 45 (0, 0)]) (fun i => 8 - i) (0 : Nat) (Nat.zero_le _) ?_
    rintro i hi
    refine At.seq ?_
    refine At.seq ?_
    refine At.region ?_
    refine At.op rfl (op_move rfl rfl ?_)
    refine At.op rfl (op_bin rfl rfl b_lt rfl ?_)
    refine At.nil ?_
    refine At.then_n ?_
    refine At.cond_p rfl (fun hlti => ?_) (fun hlti => ?_)
    ·
      refine At.skip ?_
      refine At.then_n ?_
      refine At.seq ?_
      refine At.block ?_
      refine At.seq ?_
      refine At.region ?_
      refine At.op rfl (op_assign rfl rfl ?_)
      refine At.nil ?_
      refine At.then_n ?_
      refine At.block ?_
      refine At.cut (rs' := (fun j => [row b2 (List.replicate 32 (Value.int .u8 0)) 45 (0, 0), row b3 [w64 (shaV m).a, w64 (shaV m).b, w64 (shaV m).c, w64 (shaV m).d, w64 (shaV m).e, w64 (shaV m).f, w64 (shaV m).g, w64 (shaV m).h] 69 (0, 0), row b4 ((outL (shaV m) (4 * i + j)).map u8) 45 (0, 0)]) (0 : Nat)) (.cons (by first | exact Pull.p0 | exact Pull.p1 | exact Pull.p2 | exact Pull.p3 | exact Pull.p4 | exact Pull.p5 | exact Pull.p6 | exact Pull.p7 | exact Pull.p8 | exact Pull.p9) (.cons (by first | exact Pull.p0 | exact Pull.p1 | exact Pull.p2 | exact Pull.p3 | exact Pull.p4 | exact Pull.p5 | exact Pull.p6 | exact Pull.p7 | exact Pull.p8 | exact Pull.p9) (.cons (by first | exact Pull.p0 | exact Pull.p1 | exact Pull.p2 | exact Pull.p3 | exact Pull.p4 | exact Pull.p5 | exact Pull.p6 | exact Pull.p7 | exact Pull.p8 | exact Pull.p9) .nil))) ?_
      refine At.keep ((fun j => [(2, ptr b2 0), (3, ptr b3 0), (4, ptr b4 0), (5, i64 i), (6, i64 j)]) (0 : Nat)) (.cons rfl (.cons rfl (.cons rfl (.cons rfl (.cons rfl .nil))))) ?_
      refine At.loop (σ := Nat) (fun j => j ≤ 4) (fun j => [(2, ptr b2 0), (3, ptr b3 0), (4, ptr b4 0), (5, i64 i), (6, i64 j)]) (fun j => [row b2 (List.replicate 32 (Value.int .u8 0)) 45 (0, 0), row b3 [w64 (shaV m).a, w64 (shaV m).b, w64 (shaV m).c, w64 (shaV m).d, w64 (shaV m).e, w64 (shaV m).f, w64 (shaV m).g, w64 (shaV m).h] 69 (0, 0), row b4 ((outL (shaV m) (4 * i + j)).map u8) 45 (0, 0)]) (fun j => 4 - j) (0 : Nat) (Nat.zero_le _) ?_
      rintro j hj
      refine At.seq ?_
      refine At.seq ?_
      refine At.region ?_
      refine At.op rfl (op_move rfl rfl ?_)
      refine At.op rfl (op_bin rfl rfl b_lt rfl ?_)
      refine At.nil ?_
      refine At.then_n ?_
      refine At.cond_p rfl (fun hltj => ?_) (fun hltj => ?_)
      ·
        refine At.skip ?_
        refine At.then_n ?_
        refine At.seq ?_
        refine At.block ?_
        refine At.region ?_
        refine At.op rfl (op_move rfl rfl ?_)
        refine At.op rfl (op_bin rfl rfl (b_mul (by omega) (by omega)) rfl ?_)
        refine At.op rfl (op_move rfl rfl ?_)
        refine At.op rfl (op_bin rfl rfl (b_add (by omega) (by omega)) rfl ?_)
        refine At.op rfl (op_move rfl rfl ?_)
        refine At.op rfl (op_indexA rfl rfl Tryd.underlying69 Tryd.sizeOf22 (by omega) (by omega) rfl ?_)
        refine At.op rfl (op_load rfl Tryd.isAgg22 (by first | with_reducible exact Pull.p0 | with_reducible exact Pull.p1 | with_reducible exact Pull.p2 | with_reducible exact Pull.p3 | with_reducible exact Pull.p4 | with_reducible exact Pull.p5 | with_reducible exact Pull.p6 | with_reducible exact Pull.p7 | with_reducible exact Pull.p8 | with_reducible exact Pull.p9) (hgetV64 (shaV m) i _ (by omega) (by omega)) rfl ?_)
        refine At.op rfl (op_move rfl rfl ?_)
        refine At.op rfl (op_bin rfl rfl (b_mul (by omega) (by omega)) rfl ?_)
        refine At.op rfl (op_bin rfl rfl (Bin.cast (v' := i64 ((24 - 8 * j : Nat) : Int)) (b_sub (by omega) (by omega)) (by congr 1; omega)) rfl ?_)
        refine At.op rfl (op_call1 rfl Tryd.call39 (ref_right ((shaV m).list.getD i 0).toUInt64 (24 - 8 * j) (by omega)) rfl ?_)
        refine At.op rfl (op_bin rfl rfl (b64_rem (((shaV m).list.getD i 0).toUInt64 >>> UInt64.ofNat (24 - 8 * j)) (256 : UInt64) (by decide)) rfl ?_)
        refine At.op rfl (op_conv rfl (cv_u64_u8 Tryd.underlying22 Tryd.underlying5 _) rfl ?_)
        rw [out_wide (shaV m) i j (by omega) (by omega)]
        refine At.op rfl (op_indexA rfl rfl Tryd.underlying45 Tryd.sizeOf5 (by omega) (by omega) rfl ?_)
        refine At.op rfl (op_store rfl rfl Tryd.sizeOf5 rfl rfl (by first | with_reducible exact Pull.p0 | with_reducible exact Pull.p1 | with_reducible exact Pull.p2 | with_reducible exact Pull.p3 | with_reducible exact Pull.p4 | with_reducible exact Pull.p5 | with_reducible exact Pull.p6 | with_reducible exact Pull.p7 | with_reducible exact Pull.p8 | with_reducible exact Pull.p9) (bset (outL (shaV m) (4 * i + j)) (4 * i + j) _ _ (by omega) (by rw [outL_length _ _ (by omega)]; omega)) rfl ?_)
        rw [outL_step (shaV m) (4 * i + j) (by omega)]
        refine At.nil ?_
        refine At.blk_n ?_
        refine At.then_n ?_
        refine At.keep [(2, _), (3, _), (4, _), (5, _), (6, _)] (.cons rfl (.cons rfl (.cons rfl (.cons rfl (.cons rfl .nil))))) ?_
        refine At.region ?_
        refine At.op rfl (op_move rfl rfl ?_)
        refine At.op rfl (op_bin rfl rfl (b_add (by omega) (by omega)) rfl ?_)
        refine At.op rfl (op_assign rfl rfl ?_)
        refine At.nil ?_
        refine At.then_n ?_
        rw [show 4 * i + j + 1 = 4 * i + (j + 1) by omega]
        exact At.back (j + 1) (by omega) (by omega) (.cons rfl (.cons rfl (.cons rfl (.cons rfl (.cons rfl .nil))))) (.cons (by first | with_reducible exact Pull.p0 | with_reducible exact Pull.p1 | with_reducible exact Pull.p2 | with_reducible exact Pull.p3 | with_reducible exact Pull.p4 | with_reducible exact Pull.p5 | with_reducible exact Pull.p6 | with_reducible exact Pull.p7 | with_reducible exact Pull.p8 | with_reducible exact Pull.p9) (.cons (by first | with_reducible exact Pull.p0 | with_reducible exact Pull.p1 | with_reducible exact Pull.p2 | with_reducible exact Pull.p3 | with_reducible exact Pull.p4 | with_reducible exact Pull.p5 | with_reducible exact Pull.p6 | with_reducible exact Pull.p7 | with_reducible exact Pull.p8 | with_reducible exact Pull.p9) (.cons (by first | with_reducible exact Pull.p0 | with_reducible exact Pull.p1 | with_reducible exact Pull.p2 | with_reducible exact Pull.p3 | with_reducible exact Pull.p4 | with_reducible exact Pull.p5 | with_reducible exact Pull.p6 | with_reducible exact Pull.p7 | with_reducible exact Pull.p8 | with_reducible exact Pull.p9) .nil)))
      ·
        obtain rfl : j = 4 := by omega
        refine At.exit ?_
        refine At.then_e ?_
        refine At.then_e ?_
        refine At.blk_e ?_
        refine At.blk_n ?_
        refine At.then_n ?_
        refine At.region ?_
        refine At.op rfl (op_move rfl rfl ?_)
        refine At.op rfl (op_bin rfl rfl (b_add (by omega) (by omega)) rfl ?_)
        refine At.op rfl (op_assign rfl rfl ?_)
        refine At.nil ?_
        refine At.then_n ?_
        rw [show 4 * i + 4 = 4 * (i + 1) by omega]
        exact At.back (i + 1) (by omega) (by omega) (.cons rfl (.cons rfl (.cons rfl (.cons rfl .nil)))) (.cons (by first | with_reducible exact Pull.p0 | with_reducible exact Pull.p1 | with_reducible exact Pull.p2 | with_reducible exact Pull.p3 | with_reducible exact Pull.p4 | with_reducible exact Pull.p5 | with_reducible exact Pull.p6 | with_reducible exact Pull.p7 | with_reducible exact Pull.p8 | with_reducible exact Pull.p9) (.cons (by first | with_reducible exact Pull.p0 | with_reducible exact Pull.p1 | with_reducible exact Pull.p2 | with_reducible exact Pull.p3 | with_reducible exact Pull.p4 | with_reducible exact Pull.p5 | with_reducible exact Pull.p6 | with_reducible exact Pull.p7 | with_reducible exact Pull.p8 | with_reducible exact Pull.p9) (.cons (by first | with_reducible exact Pull.p0 | with_reducible exact Pull.p1 | with_reducible exact Pull.p2 | with_reducible exact Pull.p3 | with_reducible exact Pull.p4 | with_reducible exact Pull.p5 | with_reducible exact Pull.p6 | with_reducible exact Pull.p7 | with_reducible exact Pull.p8 | with_reducible exact Pull.p9) .nil)))
    ·
      obtain rfl : i = 8 := by omega
      refine At.exit ?_
      refine At.then_e ?_
      refine At.then_e ?_
      refine At.blk_e ?_
      refine At.then_n ?_
      refine At.seq ?_
      refine At.region ?_
      refine At.op rfl (op_loadW rfl Tryd.isAgg45 Tryd.sizeOf45 (by first | with_reducible exact Pull.p0 | with_reducible exact Pull.p1 | with_reducible exact Pull.p2 | with_reducible exact Pull.p3 | with_reducible exact Pull.p4 | with_reducible exact Pull.p5 | with_reducible exact Pull.p6 | with_reducible exact Pull.p7 | with_reducible exact Pull.p8 | with_reducible exact Pull.p9) (by rw [List.length_map, outL_length _ _ (by omega)]) rfl ?_)
      refine At.op rfl (op_storeW rfl rfl Tryd.sizeOf45 (fun v hv => by obtain ⟨x, _, rfl⟩ := List.mem_map.1 hv; rfl) (by first | with_reducible exact Pull.p0 | with_reducible exact Pull.p1 | with_reducible exact Pull.p2 | with_reducible exact Pull.p3 | with_reducible exact Pull.p4 | with_reducible exact Pull.p5 | with_reducible exact Pull.p6 | with_reducible exact Pull.p7 | with_reducible exact Pull.p8 | with_reducible exact Pull.p9) (by rw [List.length_map, outL_length _ _ (by omega)]) rfl ?_)
      refine At.nil ?_
      refine At.then_n ?_
      refine At.ret ?_
      refine At.finA rfl rfl rfl (by first | with_reducible exact Pull.p0 | with_reducible exact Pull.p1 | with_reducible exact Pull.p2 | with_reducible exact Pull.p3 | with_reducible exact Pull.p4 | with_reducible exact Pull.p5 | with_reducible exact Pull.p6 | with_reducible exact Pull.p7 | with_reducible exact Pull.p8 | with_reducible exact Pull.p9) Tryd.isAgg45 Tryd.sizeOf45 (by rw [List.length_map, outL_length _ _ (by omega)]) ⟨?_, rfl⟩ .nil
      rw [show 4 * 8 = 32 from rfl, outL_end]
theorem ref_Put (k : UInt8) (q : UInt64) (t : List UInt8) (ht : t.length < 1000000) : Does Tryd.prog G 8 [frmV k q t] [] (One (putV k q t)) := by
  refine Does.of Tryd.func8 rfl Tryd.ntmps8 rfl (fun w0 => ?_)
  refine At.keep [(0, _)] (.cons rfl .nil) ?_
  refine At.seq ?_
  refine At.region ?_
  refine At.op rfl (op_box rfl rfl rfl ?_)
  intro b1
  refine At.op rfl (op_assign rfl rfl ?_)
  refine At.op rfl (op_assign rfl rfl ?_)
  refine At.nil ?_
  refine At.then_n ?_
  refine At.seq ?_
  refine At.seq ?_
  refine At.region ?_
  refine At.op rfl (op_fieldAddr (o' := 0) rfl Tryd.underlying30 rfl Tryd.sizeOf5 rfl rfl ?_)
  refine At.op rfl (op_load rfl Tryd.isAgg5 (by first | with_reducible exact Pull.p0 | with_reducible exact Pull.p1 | with_reducible exact Pull.p2 | with_reducible exact Pull.p3 | with_reducible exact Pull.p4 | with_reducible exact Pull.p5 | with_reducible exact Pull.p6 | with_reducible exact Pull.p7 | with_reducible exact Pull.p8 | with_reducible exact Pull.p9) rfl rfl ?_)
  refine At.op rfl (op_bin rfl rfl (b8_eq _ (0 : UInt8)) rfl ?_)
  refine At.nil ?_
  refine At.then_n ?_
  refine At.cond_p rfl (fun hc0 => ?_) (fun hc0 => ?_)
  ·
    refine At.seq ?_
    refine At.region ?_
    refine At.op rfl (op_assign rfl rfl ?_)
    refine At.op rfl (op_assign rfl rfl ?_)
    refine At.nil ?_
    refine At.then_n ?_
    refine At.ret ?_
    refine At.then_r ?_
    refine At.fin2 rfl rfl rfl rfl ⟨?_, rfl⟩ .nil
    unfold putV; rw [if_pos hc0]; rfl
  ·
    refine At.skip ?_
    refine At.then_n ?_
    refine At.seq ?_
    refine At.seq ?_
    refine At.region ?_
    refine At.op rfl (op_fieldAddr (o' := 2) rfl Tryd.underlying30 rfl Tryd.sizeOf9 rfl rfl ?_)
    refine At.op rfl (op_load rfl Tryd.isAgg9 (by first | with_reducible exact Pull.p0 | with_reducible exact Pull.p1 | with_reducible exact Pull.p2 | with_reducible exact Pull.p3 | with_reducible exact Pull.p4 | with_reducible exact Pull.p5 | with_reducible exact Pull.p6 | with_reducible exact Pull.p7 | with_reducible exact Pull.p8 | with_reducible exact Pull.p9) rfl rfl ?_)
    refine At.op rfl (op_len_str rfl Tryd.underlying9 rfl ?_)
    refine At.op rfl (op_bin rfl rfl b_gt rfl ?_)
    refine At.nil ?_
    refine At.then_n ?_
    refine At.cond_p rfl (fun hc1 => ?_) (fun hc1 => ?_)
    ·
      refine At.seq ?_
      refine At.region ?_
      refine At.op rfl (op_assign rfl rfl ?_)
      refine At.op rfl (op_assign rfl rfl ?_)
      refine At.nil ?_
      refine At.then_n ?_
      refine At.ret ?_
      refine At.then_r ?_
      refine At.fin2 rfl rfl rfl rfl ⟨?_, rfl⟩ .nil
      unfold putV; rw [if_neg hc0, if_pos (by omega)]; rfl
    ·
      refine At.skip ?_
      refine At.then_n ?_
      refine At.seq ?_
      refine At.region ?_
      refine At.op rfl (op_fieldAddr (o' := 1) rfl Tryd.underlying30 rfl Tryd.sizeOf22 rfl rfl ?_)
      refine At.op rfl (op_load rfl Tryd.isAgg22 (by first | with_reducible exact Pull.p0 | with_reducible exact Pull.p1 | with_reducible exact Pull.p2 | with_reducible exact Pull.p3 | with_reducible exact Pull.p4 | with_reducible exact Pull.p5 | with_reducible exact Pull.p6 | with_reducible exact Pull.p7 | with_reducible exact Pull.p8 | with_reducible exact Pull.p9) rfl rfl ?_)
      refine At.op rfl (op_call1 rfl Tryd.call16 (ref_Number q 8 (by decide) (by decide) (by have := q.toNat_lt; omega)) rfl ?_)
      refine At.op rfl (op_move rfl rfl ?_)
      refine At.op rfl (op_extractL rfl .zero rfl ?_)
      refine At.op rfl (op_extractL rfl (.succ .zero) rfl ?_)
      refine At.op rfl (op_assign rfl rfl ?_)
      refine At.op rfl (op_assign rfl rfl ?_)
      refine At.nil ?_
      refine At.then_n ?_
      refine At.seq ?_
      refine At.keep [(1, _), (2, _), (3, _), (4, _)] (.cons rfl (.cons rfl (.cons rfl (.cons rfl .nil)))) ?_
      refine At.region ?_
      refine At.op rfl (op_fieldAddr (o' := 2) rfl Tryd.underlying30 rfl Tryd.sizeOf9 rfl rfl ?_)
      refine At.op rfl (op_load rfl Tryd.isAgg9 (by first | with_reducible exact Pull.p0 | with_reducible exact Pull.p1 | with_reducible exact Pull.p2 | with_reducible exact Pull.p3 | with_reducible exact Pull.p4 | with_reducible exact Pull.p5 | with_reducible exact Pull.p6 | with_reducible exact Pull.p7 | with_reducible exact Pull.p8 | with_reducible exact Pull.p9) rfl rfl ?_)
      refine At.op rfl (op_len_str rfl Tryd.underlying9 rfl ?_)
      refine At.op rfl (op_conv rfl (cv_i64_u64 Tryd.underlying3 Tryd.underlying22 t.length) rfl ?_)
      refine At.op rfl (op_call1 rfl Tryd.call16 (ref_Number (UInt64.ofNat t.length) 2 (by decide) (by decide) (by rw [UInt64.toNat_ofNat']; omega)) rfl ?_)
      rw [UInt64.toNat_ofNat', Nat.mod_eq_of_lt (a := t.length) (by omega)]
      refine At.op rfl (op_move rfl rfl ?_)
      refine At.op rfl (op_extractL rfl .zero rfl ?_)
      refine At.op rfl (op_extractL rfl (.succ .zero) rfl ?_)
      refine At.op rfl (op_assign rfl rfl ?_)
      refine At.op rfl (op_assign rfl rfl ?_)
      refine At.nil ?_
      refine At.then_n ?_
      refine At.seq ?_
      refine At.region ?_
      refine At.op rfl (op_fieldAddr (o' := 0) rfl Tryd.underlying30 rfl Tryd.sizeOf5 rfl rfl ?_)
      refine At.op rfl (op_load rfl Tryd.isAgg5 (by first | with_reducible exact Pull.p0 | with_reducible exact Pull.p1 | with_reducible exact Pull.p2 | with_reducible exact Pull.p3 | with_reducible exact Pull.p4 | with_reducible exact Pull.p5 | with_reducible exact Pull.p6 | with_reducible exact Pull.p7 | with_reducible exact Pull.p8 | with_reducible exact Pull.p9) rfl rfl ?_)
      refine At.op rfl (op_buildSlice1 [_] rfl rfl Tryd.underlying41 et5 rfl (by decide) (List.forall_mem_cons.2 ⟨rfl, (fun _ h => by cases h)⟩) rfl ?_)
      intro b2
      refine At.op rfl (op_b2sR rfl Tryd.underlying41 Tryd.underlying9 Tryd.underlying5 (by first | with_reducible exact Pull.p0 | with_reducible exact Pull.p1 | with_reducible exact Pull.p2 | with_reducible exact Pull.p3 | with_reducible exact Pull.p4 | with_reducible exact Pull.p5 | with_reducible exact Pull.p6 | with_reducible exact Pull.p7 | with_reducible exact Pull.p8 | with_reducible exact Pull.p9) (l := [k]) rfl rfl rfl ?_)
      refine At.op rfl (op_move rfl rfl ?_)
      refine At.op rfl (op_bin rfl rfl (b_cat (by rw [leB_length]; show 1 + 8 ≤ 9223372036854775807; decide)) rfl ?_)
      refine At.op rfl (op_move rfl rfl ?_)
      refine At.op rfl (op_bin rfl rfl (b_cat (by simp [leB_length])) rfl ?_)
      refine At.op rfl (op_fieldAddr (o' := 2) rfl Tryd.underlying30 rfl Tryd.sizeOf9 rfl rfl ?_)
      refine At.op rfl (op_load rfl Tryd.isAgg9 (by first | with_reducible exact Pull.p0 | with_reducible exact Pull.p1 | with_reducible exact Pull.p2 | with_reducible exact Pull.p3 | with_reducible exact Pull.p4 | with_reducible exact Pull.p5 | with_reducible exact Pull.p6 | with_reducible exact Pull.p7 | with_reducible exact Pull.p8 | with_reducible exact Pull.p9) rfl rfl ?_)
      refine At.op rfl (op_bin rfl rfl (b_cat (by simp [leB_length]; omega)) rfl ?_)
      rw [show [k] ++ leB q.toNat 8 ++ leB t.length 2 ++ t = bodyF k q t ++ List.replicate 0 0 by simp [bodyF]]
      refine At.op rfl (op_assign rfl rfl ?_)
      refine At.nil ?_
      refine At.then_n ?_
      refine At.seq ?_
      refine At.block ?_
      refine At.cut (rs' := (fun _ => []) (0 : Nat)) .nil ?_
      refine At.keep ((fun z => [(8, str (bodyF k q t ++ List.replicate z 0))]) (0 : Nat)) (.cons rfl .nil) ?_
      refine At.loop (σ := Nat) (fun z => z ≤ 240 - (bodyF k q t).length) (fun z => [(8, str (bodyF k q t ++ List.replicate z 0))]) (fun _ => []) (fun z => 240 - (bodyF k q t).length - z) (0 : Nat) (Nat.zero_le _) ?_
      rintro z hz
      have hbl := bodyF_length k q t
      refine At.seq ?_
      refine At.seq ?_
      refine At.region ?_
      refine At.op rfl (op_move rfl rfl ?_)
      refine At.op rfl (op_len_str rfl Tryd.underlying9 rfl ?_)
      refine At.op rfl (op_bin rfl rfl b_lt rfl ?_)
      refine At.nil ?_
      refine At.then_n ?_
      refine At.cond_p rfl (fun hlt => ?_) (fun hlt => ?_)
      ·
        have hlt2 : 11 + t.length + z < 240 := by simp [bodyF_length] at hlt; omega
        refine At.skip ?_
        refine At.then_n ?_
        refine At.block ?_
        refine At.region ?_
        refine At.op rfl (op_move rfl rfl ?_)
        refine At.op rfl (op_bin rfl rfl (b_cat (by simp [bodyF_length]; omega)) rfl ?_)
        rw [show bodyF k q t ++ List.replicate z 0 ++ [0] = bodyF k q t ++ List.replicate (z + 1) 0 by rw [List.replicate_succ', List.append_assoc]]
        refine At.op rfl (op_assign rfl rfl ?_)
        refine At.nil ?_
        refine At.blk_n ?_
        refine At.then_n ?_
        exact At.back (kk := []) (z + 1) (by omega) (by omega) (.cons rfl .nil) .nil
      ·
        obtain rfl : z = 240 - (bodyF k q t).length := by simp [bodyF_length] at hlt hz ⊢; omega
        rw [show bodyF k q t ++ List.replicate (240 - (bodyF k q t).length) 0 = putB k q t from rfl]
        refine At.exit ?_
        refine At.then_e ?_
        refine At.then_e ?_
        refine At.blk_e ?_
        refine At.then_n ?_
        refine At.seq ?_
        refine At.region ?_
        refine At.op rfl (op_move rfl rfl ?_)
        refine At.op rfl (op_call1 rfl Tryd.call17 (ref_Sum (putB k q t) (by rw [putB_length k q t (by omega)]; omega)) rfl ?_)
        refine At.op rfl (op_alloc Tryd.zeroValue45 rfl rfl ?_)
        intro b9
        refine At.op rfl (op_storeW rfl rfl Tryd.sizeOf45 (fun v hv => by obtain ⟨x, _, rfl⟩ := List.mem_map.1 hv; rfl) (by first | with_reducible exact Pull.p0 | with_reducible exact Pull.p1 | with_reducible exact Pull.p2 | with_reducible exact Pull.p3 | with_reducible exact Pull.p4 | with_reducible exact Pull.p5 | with_reducible exact Pull.p6 | with_reducible exact Pull.p7 | with_reducible exact Pull.p8 | with_reducible exact Pull.p9) (by rw [List.length_map, shaB_length]) rfl ?_)
        refine At.nil ?_
        refine At.then_n ?_
        refine At.seq ?_
        refine At.region ?_
        refine At.op rfl (op_move rfl rfl ?_)
        refine At.op rfl (op_sl_arr rfl rfl Tryd.underlying45 Tryd.sizeOf5 (by decide) (by decide) rfl ?_)
        refine At.op rfl (op_b2sR rfl Tryd.underlying41 Tryd.underlying9 Tryd.underlying5 (by first | with_reducible exact Pull.p0 | with_reducible exact Pull.p1 | with_reducible exact Pull.p2 | with_reducible exact Pull.p3 | with_reducible exact Pull.p4 | with_reducible exact Pull.p5 | with_reducible exact Pull.p6 | with_reducible exact Pull.p7 | with_reducible exact Pull.p8 | with_reducible exact Pull.p9) (l := (shaB (putB k q t)).take 16) (by rw [List.drop_zero, List.map_take]; rfl) (by rw [List.length_take, shaB_length]; rfl) rfl ?_)
        refine At.op rfl (op_bin rfl rfl (b_cat (by rw [List.length_take, shaB_length, putB_length k q t (by omega)]; omega)) rfl ?_)
        refine At.op rfl (op_assign rfl rfl ?_)
        refine At.op rfl (op_assign rfl rfl ?_)
        refine At.nil ?_
        refine At.then_n ?_
        refine At.ret ?_
        refine At.fin2 rfl rfl rfl rfl ⟨?_, rfl⟩ .nil
        unfold putV; rw [if_neg hc0, if_neg (by omega)]; rfl
end Go.Proofs.YtcppimolaiinhaaDoor
