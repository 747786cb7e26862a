/- Walks of the program's functions. -/
import Derived.Test.YteckdahgkkmlaaaGreatDoorSLW4
import Derived.KernelRfl
set_option maxRecDepth 20000
set_option linter.unusedVariables false
set_option linter.unusedSimpArgs false
namespace Go.Proofs.YteckdahgkkmlaaaGreatDoor
open Go SL
variable {G : List (Nat × Obj)}
theorem sha_Sum (hG : GOK G) (pb : Nat) (ls : List (List UInt8)) (h1 : ls.length < 1000000) (h2 : ls.flatten.length < 100000000) : Does Tryz.prog G 69 [slc pb 0 ls.length ls.length] [row pb (ls.map str) 9 (0, 0)] (OneR (.agg ((shaB ls.flatten).map u8).toArray) [row pb (ls.map str) 9 (0, 0)]) := by
  refine Does.of Tryz.func69 rfl Tryz.ntmps69 rfl (fun w0 => ?_)
  refine At.keep [(0, _)] (.cons rfl .nil) ?_
  refine At.seq ?_
  refine At.region ?_
  refine At.op rfl (op_alloc Tryz.zeroValue122 rfl rfl ?_)
  intro b2
  refine At.nil ?_
  refine At.then_n ?_
  refine At.seq ?_
  refine At.region ?_
  refine At.op rfl (op_move rfl rfl ?_)
  refine At.op rfl (op_callR rfl Tryz.call85 (strings_Join pb ls.length 9 (0, 0) ls [] (by omega) (Nat.le_refl _) (by rw [join_sep0]; omega)) (.cons (by first | with_reducible exact Pull.p0 | with_reducible exact Pull.p1 | with_reducible exact Pull.p2 | with_reducible exact Pull.p3 | with_reducible exact Pull.p4 | with_reducible exact Pull.p5 | with_reducible exact Pull.p6 | with_reducible exact Pull.p7 | with_reducible exact Pull.p8 | with_reducible exact Pull.p9) .nil) rfl ?_)
  refine At.app1 ?_
  rw [join_sep0]
  refine At.op rfl (op_assign rfl rfl ?_)
  refine At.nil ?_
  refine At.then_n ?_
  refine At.seq ?_
  refine At.region ?_
  refine At.op rfl (op_move rfl rfl ?_)
  refine At.op rfl (op_move rfl rfl ?_)
  refine At.op rfl (op_len_str rfl Tryz.underlying9 rfl ?_)
  refine At.op rfl (op_call1 rfl Tryz.call86 (sha_Fill ls.flatten.length (by omega)) rfl ?_)
  refine At.op rfl (op_bin rfl rfl (b_cat (by have := fillS_le ls.flatten.length; omega)) rfl ?_)
  refine At.op rfl (op_assign rfl rfl ?_)
  refine At.nil ?_
  refine At.then_n ?_
  refine At.seq ?_
  refine At.region ?_
  refine At.op rfl (op_build (v := iv.val) rfl (fun w => run_build w _ _ _ (by kernel_rfl)) rfl ?_)
  refine At.op rfl (op_alloc Tryz.zeroValue144 rfl rfl ?_)
  intro b4
  refine At.op rfl (op_storeW rfl rfl Tryz.sizeOf144 (by repeat' (first | refine List.forall_mem_cons.2 ⟨rfl, ?_⟩ | exact (fun _ h => by cases h))) (by first | with_reducible exact Pull.p0 | with_reducible exact Pull.p1 | with_reducible exact Pull.p2 | with_reducible exact Pull.p3 | with_reducible exact Pull.p4 | with_reducible exact Pull.p5 | with_reducible exact Pull.p6 | with_reducible exact Pull.p7 | with_reducible exact Pull.p8 | with_reducible exact Pull.p9) rfl rfl ?_)
  refine At.nil ?_
  refine At.then_n ?_
  refine At.seq ?_
  refine At.block ?_
  refine At.cut (rs' := (fun s => [row pb (ls.map str) 9 (0, 0), row b2 (List.replicate 32 (Value.int .u8 0)) 122 (0, 0), row b4 [u32 s.2.1.a, u32 s.2.1.b, u32 s.2.1.c, u32 s.2.1.d, u32 s.2.1.e, u32 s.2.1.f, u32 s.2.1.g, u32 s.2.1.h] 144 (0, 0)]) (((ls.flatten.length + (fillS ls.flatten.length).length) / 64, iv, ls.flatten ++ fillS ls.flatten.length) : Nat × V8 × List UInt8)) (.cons (by first | exact Pull.p0 | exact Pull.p1 | exact Pull.p2 | exact Pull.p3 | exact Pull.p4 | exact Pull.p5 | exact Pull.p6 | exact Pull.p7 | exact Pull.p8 | exact Pull.p9) (.cons (by first | exact Pull.p0 | exact Pull.p1 | exact Pull.p2 | exact Pull.p3 | exact Pull.p4 | exact Pull.p5 | exact Pull.p6 | exact Pull.p7 | exact Pull.p8 | exact Pull.p9) (.cons (by first | exact Pull.p0 | exact Pull.p1 | exact Pull.p2 | exact Pull.p3 | exact Pull.p4 | exact Pull.p5 | exact Pull.p6 | exact Pull.p7 | exact Pull.p8 | exact Pull.p9) .nil))) ?_
  refine At.keep ((fun s => [(2, ptr b2 0), (3, str s.2.2), (4, ptr b4 0)]) (((ls.flatten.length + (fillS ls.flatten.length).length) / 64, iv, ls.flatten ++ fillS ls.flatten.length) : Nat × V8 × List UInt8)) (.cons rfl (.cons rfl (.cons rfl .nil))) ?_
  refine At.loop (σ := Nat × V8 × List UInt8) (fun s => s.2.2.length = 64 * s.1 ∧ foldS s.1 s.2.1 s.2.2 = shaV ls.flatten) (fun s => [(2, ptr b2 0), (3, str s.2.2), (4, ptr b4 0)]) (fun s => [row pb (ls.map str) 9 (0, 0), row b2 (List.replicate 32 (Value.int .u8 0)) 122 (0, 0), row b4 [u32 s.2.1.a, u32 s.2.1.b, u32 s.2.1.c, u32 s.2.1.d, u32 s.2.1.e, u32 s.2.1.f, u32 s.2.1.g, u32 s.2.1.h] 144 (0, 0)]) (fun s => s.1) (((ls.flatten.length + (fillS ls.flatten.length).length) / 64, iv, ls.flatten ++ fillS ls.flatten.length) : Nat × V8 × List UInt8) ⟨by dsimp only; rw [List.length_append]; have := fillS_length ls.flatten.length; omega, by dsimp only; unfold shaV; rfl⟩ ?_
  rintro ⟨n, h, rest⟩ ⟨hl, hf⟩
  dsimp only at hl hf ⊢
  refine At.seq ?_
  refine At.seq ?_
  refine At.region ?_
  refine At.op rfl (op_move rfl rfl ?_)
  refine At.op rfl (op_bin rfl rfl (b_sne  (b := [])) rfl ?_)
  refine At.nil ?_
  refine At.then_n ?_
  refine At.cond_np rfl (fun hne => ?_) (fun hne => ?_)
  ·
    obtain ⟨n, rfl⟩ : ∃ n', n = n' + 1 := by
      rcases n with _ | n
      · exact absurd (List.eq_nil_of_length_eq_zero (by omega)) hne
      · exact ⟨n, rfl⟩
    refine At.skip ?_
    refine At.then_n ?_
    refine At.seq ?_
    refine At.block ?_
    refine At.drawL _ [_, _, _, _, undef] (by kernel_rfl) (by decide) (by kernel_rfl) (by kernel_rfl) 
      (.cons (Step.op rfl (fun D h1 h2 h3 K hK => op_loadW (mD_base rfl rfl) Tryz.isAgg144 Tryz.sizeOf144 (by first | with_reducible exact Pull.p0 | with_reducible exact Pull.p1 | with_reducible exact Pull.p2 | with_reducible exact Pull.p3 | with_reducible exact Pull.p4 | with_reducible exact Pull.p5 | with_reducible exact Pull.p6 | with_reducible exact Pull.p7 | with_reducible exact Pull.p8 | with_reducible exact Pull.p9) rfl rfl hK))
      (.cons (Step.op rfl (fun D h1 h2 h3 K hK => op_move (mD_base rfl rfl) rfl hK))
      (.cons (Step.op rfl (fun D h1 h2 h3 K hK => op_sl_str_hi (mD_done 1 (by decide) (pre_at h2 0 rfl rfl) rfl rfl rfl) rfl Tryz.underlying9 (by omega) (by omega) rfl hK))
      (.cons (Step.op rfl (fun D h1 h2 h3 K hK => op_call1 (evs_cons (mD_done 0 (by decide) (pre_at h2 0 rfl rfl) rfl rfl rfl) (evs_cons (mD_done 2 (by decide) (pre_at h2 1 rfl rfl) rfl rfl rfl) evs_nil)) Tryz.call87 (sha_Step hG h (rest.take 64) (by rw [List.length_take]; omega)) rfl hK))
      (.last (Last.op rfl (fun D h2 K hK => op_storeW (mD_base rfl rfl) (mD_done 3 (by decide) (pre_at h2 0 rfl rfl) rfl rfl rfl) Tryz.sizeOf144 (V8.one (stepS h (rest.take 64))) (by first | with_reducible exact Pull.p0 | with_reducible exact Pull.p1 | with_reducible exact Pull.p2 | with_reducible exact Pull.p3 | with_reducible exact Pull.p4 | with_reducible exact Pull.p5 | with_reducible exact Pull.p6 | with_reducible exact Pull.p7 | with_reducible exact Pull.p8 | with_reducible exact Pull.p9) rfl rfl hK))
      ))))) ?_
    refine At.keep [(2, _), (3, _), (4, _)] (.cons rfl (.cons rfl (.cons rfl .nil))) ?_
    refine At.blk_n ?_
    refine At.then_n ?_
    refine At.region ?_
    refine At.op rfl (op_move rfl rfl ?_)
    refine At.op rfl (op_sl_str_lo rfl rfl Tryz.underlying9 (by omega) (by omega) rfl ?_)
    refine At.op rfl (op_assign rfl rfl ?_)
    refine At.nil ?_
    refine At.then_n ?_
    refine At.back (n, stepS h (rest.take 64), rest.drop 64) ⟨by dsimp only; rw [List.length_drop]; omega, hf⟩ (by dsimp only; omega) (.cons rfl (.cons rfl (.cons rfl .nil))) (.cons (by first | with_reducible exact Pull.p0 | with_reducible exact Pull.p1 | with_reducible exact Pull.p2 | with_reducible exact Pull.p3 | with_reducible exact Pull.p4 | with_reducible exact Pull.p5 | with_reducible exact Pull.p6 | with_reducible exact Pull.p7 | with_reducible exact Pull.p8 | with_reducible exact Pull.p9) (.cons (by first | with_reducible exact Pull.p0 | with_reducible exact Pull.p1 | with_reducible exact Pull.p2 | with_reducible exact Pull.p3 | with_reducible exact Pull.p4 | with_reducible exact Pull.p5 | with_reducible exact Pull.p6 | with_reducible exact Pull.p7 | with_reducible exact Pull.p8 | with_reducible exact Pull.p9) (.cons (by first | with_reducible exact Pull.p0 | with_reducible exact Pull.p1 | with_reducible exact Pull.p2 | with_reducible exact Pull.p3 | with_reducible exact Pull.p4 | with_reducible exact Pull.p5 | with_reducible exact Pull.p6 | with_reducible exact Pull.p7 | with_reducible exact Pull.p8 | with_reducible exact Pull.p9) .nil)))
  ·
    obtain rfl : n = 0 := by
      rw [hne] at hl; simp at hl; omega
    have hH : h = shaV ls.flatten := hf
    subst hH
    refine At.exit ?_
    refine At.then_e ?_
    refine At.then_e ?_
    refine At.blk_e ?_
    refine At.then_n ?_
    refine At.seq ?_
    refine At.seq ?_
    refine At.region ?_
    refine At.op rfl (op_move rfl rfl ?_)
    refine At.nil ?_
    refine At.then_n ?_
    refine At.block ?_
    rw [show List.replicate 32 (Value.int .u8 0) = (outL (shaV ls.flatten) 0).map u8 from rfl]
    refine At.cut (rs' := (fun k => [row pb (ls.map str) 9 (0, 0), row b2 ((outL (shaV ls.flatten) k).map u8) 122 (0, 0), row b4 [u32 (shaV ls.flatten).a, u32 (shaV ls.flatten).b, u32 (shaV ls.flatten).c, u32 (shaV ls.flatten).d, u32 (shaV ls.flatten).e, u32 (shaV ls.flatten).f, u32 (shaV ls.flatten).g, u32 (shaV ls.flatten).h] 144 (0, 0)]) (0 : Nat)) (.cons (by first | exact Pull.p0 | exact Pull.p1 | exact Pull.p2 | exact Pull.p3 | exact Pull.p4 | exact Pull.p5 | exact Pull.p6 | exact Pull.p7 | exact Pull.p8 | exact Pull.p9) (.cons (by first | exact Pull.p0 | exact Pull.p1 | exact Pull.p2 | exact Pull.p3 | exact Pull.p4 | exact Pull.p5 | exact Pull.p6 | exact Pull.p7 | exact Pull.p8 | exact Pull.p9) (.cons (by first | exact Pull.p0 | exact Pull.p1 | exact Pull.p2 | exact Pull.p3 | exact Pull.p4 | exact Pull.p5 | exact Pull.p6 | exact Pull.p7 | exact Pull.p8 | exact Pull.p9) .nil))) ?_
    refine At.keep ((fun k => [(2, ptr b2 0), (4, ptr b4 0), (22, i64 k)]) (0 : Nat)) (.cons rfl (.cons rfl (.cons rfl .nil))) ?_
    refine At.loop (σ := Nat) (fun k => k ≤ 32) (fun k => [(2, ptr b2 0), (4, ptr b4 0), (22, i64 k)]) (fun k => [row pb (ls.map str) 9 (0, 0), row b2 ((outL (shaV ls.flatten) k).map u8) 122 (0, 0), row b4 [u32 (shaV ls.flatten).a, u32 (shaV ls.flatten).b, u32 (shaV ls.flatten).c, u32 (shaV ls.flatten).d, u32 (shaV ls.flatten).e, u32 (shaV ls.flatten).f, u32 (shaV ls.flatten).g, u32 (shaV ls.flatten).h] 144 (0, 0)]) (fun k => 32 - k) (0 : Nat) (Nat.zero_le _) ?_
    rintro k hk
    refine At.seq ?_
    refine At.region ?_
    refine At.op rfl (op_bin rfl rfl b_lt rfl ?_)
    refine At.nil ?_
    refine At.then_n ?_
    refine At.seq ?_
    refine At.cond_p rfl (fun hlt => ?_) (fun hlt => ?_)
    ·
      refine At.skip ?_
      refine At.then_n ?_
      refine At.seq ?_
      refine At.block ?_
      refine At.seq ?_
      refine At.region ?_
      refine At.op rfl (op_move rfl rfl ?_)
      refine At.op rfl (op_assign rfl rfl ?_)
      refine At.nil ?_
      refine At.then_n ?_
      refine At.region ?_
      refine At.op rfl (op_move rfl rfl ?_)
      refine At.op rfl (op_move rfl rfl ?_)
      refine At.op rfl (op_bin rfl rfl (b_quo (by omega) (by omega) (by decide)) rfl ?_)
      refine At.op rfl (op_indexA rfl rfl Tryz.underlying144 Tryz.sizeOf137 (by omega) (by omega) rfl ?_)
      refine At.op rfl (op_load rfl Tryz.isAgg137 (by first | with_reducible exact Pull.p0 | with_reducible exact Pull.p1 | with_reducible exact Pull.p2 | with_reducible exact Pull.p3 | with_reducible exact Pull.p4 | with_reducible exact Pull.p5 | with_reducible exact Pull.p6 | with_reducible exact Pull.p7 | with_reducible exact Pull.p8 | with_reducible exact Pull.p9) (hgetV (shaV ls.flatten) (k / 4) _ (by omega) (by omega)) rfl ?_)
      refine At.op rfl (op_move rfl rfl ?_)
      refine At.op rfl (op_bin rfl rfl (b_rem (by omega) (by decide)) rfl ?_)
      refine At.op rfl (op_bin rfl rfl (b_mul (by omega) (by omega)) rfl ?_)
      refine At.op rfl (op_bin rfl rfl (Bin.cast (v' := i64 ((24 - 8 * (k % 4) : Nat) : Int)) (b_sub (by omega) (by omega)) (by congr 1; omega)) rfl ?_)
      refine At.op rfl (op_bin rfl rfl (b32_shr _ _ (24 - 8 * (k % 4)) (by omega)) rfl ?_)
      refine At.op rfl (op_conv rfl (cv_u32_u8 Tryz.underlying137 Tryz.underlying5 _) rfl ?_)
      refine At.op rfl (op_indexA rfl rfl Tryz.underlying122 Tryz.sizeOf5 (by omega) (by omega) rfl ?_)
      refine At.op rfl (op_store rfl rfl Tryz.sizeOf5 rfl rfl (by first | with_reducible exact Pull.p0 | with_reducible exact Pull.p1 | with_reducible exact Pull.p2 | with_reducible exact Pull.p3 | with_reducible exact Pull.p4 | with_reducible exact Pull.p5 | with_reducible exact Pull.p6 | with_reducible exact Pull.p7 | with_reducible exact Pull.p8 | with_reducible exact Pull.p9) (bset (outL (shaV ls.flatten) k) k _ _ (by omega) (by rw [outL_length _ _ (by omega)]; omega)) rfl ?_)
      rw [show ((shaV ls.flatten).list.getD (k / 4) 0 >>> UInt32.ofNat (24 - 8 * (k % 4))).toUInt8 = outB (shaV ls.flatten) k from rfl, outL_step (shaV ls.flatten) k (by omega)]
      refine At.nil ?_
      refine At.blk_n ?_
      refine At.then_n ?_
      refine At.keep [(2, _), (4, _), (22, _)] (.cons rfl (.cons rfl (.cons rfl .nil))) ?_
      refine At.region ?_
      refine At.op rfl (op_bin rfl rfl (b_add (by omega) (by omega)) rfl ?_)
      refine At.op rfl (op_move rfl rfl ?_)
      refine At.nil ?_
      refine At.then_n ?_
      exact At.back (k + 1) (by omega) (by omega) (.cons rfl (.cons rfl (.cons rfl .nil))) (.cons (by first | with_reducible exact Pull.p0 | with_reducible exact Pull.p1 | with_reducible exact Pull.p2 | with_reducible exact Pull.p3 | with_reducible exact Pull.p4 | with_reducible exact Pull.p5 | with_reducible exact Pull.p6 | with_reducible exact Pull.p7 | with_reducible exact Pull.p8 | with_reducible exact Pull.p9) (.cons (by first | with_reducible exact Pull.p0 | with_reducible exact Pull.p1 | with_reducible exact Pull.p2 | with_reducible exact Pull.p3 | with_reducible exact Pull.p4 | with_reducible exact Pull.p5 | with_reducible exact Pull.p6 | with_reducible exact Pull.p7 | with_reducible exact Pull.p8 | with_reducible exact Pull.p9) (.cons (by first | with_reducible exact Pull.p0 | with_reducible exact Pull.p1 | with_reducible exact Pull.p2 | with_reducible exact Pull.p3 | with_reducible exact Pull.p4 | with_reducible exact Pull.p5 | with_reducible exact Pull.p6 | with_reducible exact Pull.p7 | with_reducible exact Pull.p8 | with_reducible exact Pull.p9) .nil)))
    ·
      obtain rfl : k = 32 := by omega
      refine At.exit ?_
      refine At.then_e ?_
      refine At.then_e ?_
      refine At.blk_e ?_
      refine At.then_n ?_
      refine At.seq ?_
      refine At.region ?_
      refine At.op rfl (op_loadW rfl Tryz.isAgg122 Tryz.sizeOf122 (by first | with_reducible exact Pull.p0 | with_reducible exact Pull.p1 | with_reducible exact Pull.p2 | with_reducible exact Pull.p3 | with_reducible exact Pull.p4 | with_reducible exact Pull.p5 | with_reducible exact Pull.p6 | with_reducible exact Pull.p7 | with_reducible exact Pull.p8 | with_reducible exact Pull.p9) (by rw [List.length_map, outL_length _ _ (by omega)]) rfl ?_)
      refine At.op rfl (op_storeW rfl rfl Tryz.sizeOf122 (fun v hv => by obtain ⟨x, _, rfl⟩ := List.mem_map.1 hv; rfl) (by first | with_reducible exact Pull.p0 | with_reducible exact Pull.p1 | with_reducible exact Pull.p2 | with_reducible exact Pull.p3 | with_reducible exact Pull.p4 | with_reducible exact Pull.p5 | with_reducible exact Pull.p6 | with_reducible exact Pull.p7 | with_reducible exact Pull.p8 | with_reducible exact Pull.p9) (by rw [List.length_map, outL_length _ _ (by omega)]) (by rw [List.length_map, outL_length _ _ (by omega)]) ?_)
      refine At.nil ?_
      refine At.then_n ?_
      refine At.ret ?_
      refine At.finA rfl rfl rfl (by first | with_reducible exact Pull.p0 | with_reducible exact Pull.p1 | with_reducible exact Pull.p2 | with_reducible exact Pull.p3 | with_reducible exact Pull.p4 | with_reducible exact Pull.p5 | with_reducible exact Pull.p6 | with_reducible exact Pull.p7 | with_reducible exact Pull.p8 | with_reducible exact Pull.p9) Tryz.isAgg122 Tryz.sizeOf122 (by rw [List.length_map, outL_length _ _ (by omega)]) ⟨?_, rfl⟩ (.cons (by first | with_reducible exact Pull.p0 | with_reducible exact Pull.p1 | with_reducible exact Pull.p2 | with_reducible exact Pull.p3 | with_reducible exact Pull.p4 | with_reducible exact Pull.p5 | with_reducible exact Pull.p6 | with_reducible exact Pull.p7 | with_reducible exact Pull.p8 | with_reducible exact Pull.p9) .nil)
      rw [outL_end]
theorem frame_sum (hG : GOK G) (s : List UInt8) (hs : s.length < 100000000) : Does Tryz.prog G 43 [str s] [] (One (str ((shaB s).take 16))) := by
  refine Does.of Tryz.func43 rfl Tryz.ntmps43 rfl (fun w0 => ?_)
  refine At.keep [(0, _)] (.cons rfl .nil) ?_
  refine At.seq ?_
  refine At.region ?_
  refine At.op rfl (op_assign rfl rfl ?_)
  refine At.nil ?_
  refine At.then_n ?_
  refine At.seq ?_
  refine At.region ?_
  refine At.op rfl (op_move rfl rfl ?_)
  refine At.op rfl (op_buildSlice1 [_] rfl rfl Tryz.underlying38 et9 rfl (by decide) (List.forall_mem_cons.2 ⟨rfl, (fun _ h => by cases h)⟩) rfl ?_)
  intro pb
  refine At.op rfl (op_callR rfl Tryz.call69 (sha_Sum hG pb [s] (by simp) (by simpa using hs)) (.cons (by first | exact Pull.p0 | exact Pull.p1 | exact Pull.p2 | exact Pull.p3 | exact Pull.p4 | exact Pull.p5 | exact Pull.p6 | exact Pull.p7 | exact Pull.p8 | exact Pull.p9) .nil) rfl ?_)
  refine At.app1 ?_
  rw [show [s].flatten = s by simp]
  refine At.op rfl (op_alloc Tryz.zeroValue122 rfl rfl ?_)
  intro b3
  refine At.op rfl (op_storeW rfl rfl Tryz.sizeOf122 (fun v hv => by obtain ⟨x, _, rfl⟩ := List.mem_map.1 hv; rfl) (by first | with_reducible exact Pull.p0 | with_reducible exact Pull.p1 | with_reducible exact Pull.p2 | with_reducible exact Pull.p3 | with_reducible exact Pull.p4 | with_reducible exact Pull.p5 | with_reducible exact Pull.p6 | with_reducible exact Pull.p7 | with_reducible exact Pull.p8 | with_reducible exact Pull.p9) (by rw [List.length_map, shaB_length]) rfl ?_)
  refine At.nil ?_
  refine At.then_n ?_
  refine At.seq ?_
  refine At.region ?_
  refine At.op rfl (op_sl_arr rfl rfl Tryz.underlying122 Tryz.sizeOf5 (by decide) (by decide) rfl ?_)
  refine At.op rfl (op_b2sR rfl Tryz.underlying47 Tryz.underlying9 Tryz.underlying5 (by first | with_reducible exact Pull.p0 | with_reducible exact Pull.p1 | with_reducible exact Pull.p2 | with_reducible exact Pull.p3 | with_reducible exact Pull.p4 | with_reducible exact Pull.p5 | with_reducible exact Pull.p6 | with_reducible exact Pull.p7 | with_reducible exact Pull.p8 | with_reducible exact Pull.p9) (l := (shaB s).take 16) (by rw [List.drop_zero, List.map_take]; rfl) (by rw [List.length_take, shaB_length]; rfl) rfl ?_)
  refine At.op rfl (op_assign rfl rfl ?_)
  refine At.nil ?_
  refine At.then_n ?_
  refine At.ret ?_
  exact At.fin1 rfl rfl rfl ⟨rfl, rfl⟩ .nil
end Go.Proofs.YteckdahgkkmlaaaGreatDoor
