/- Walks of the program's functions. -/
import Derived.Test.YtcppimolaiinhaaDoorSLV1
import Derived.KernelRfl
set_option maxRecDepth 20000
set_option linter.unusedVariables false
set_option linter.unusedSimpArgs false
namespace Go.Proofs.YtcppimolaiinhaaDoor
open Go SL
variable {G : List (Nat × Obj)}
theorem ref_k : Does Tryd.prog G 58 [] [] (One (.agg (shaK.map w64).toArray)) := by
  refine Does.of Tryd.func58 rfl Tryd.ntmps58 rfl (fun w0 => ?_)
  refine At.keep [] .nil ?_
  refine At.seq ?_
  refine At.region ?_
  refine At.op rfl (op_alloc Tryd.zeroValue93 rfl rfl ?_)
  intro b1
  refine At.nil ?_
  refine At.then_n ?_
  refine At.seq ?_
  refine At.region ?_
  refine At.op rfl (op_build (v := .agg (shaK.map w64).toArray) rfl (fun w => run_build w _ _ _ (by kernel_rfl)) rfl ?_)
  refine At.op rfl (op_storeW rfl rfl Tryd.sizeOf93 (one64 shaK) (by first | with_reducible exact Pull.p0 | with_reducible exact Pull.p1 | with_reducible exact Pull.p2 | with_reducible exact Pull.p3 | with_reducible exact Pull.p4 | with_reducible exact Pull.p5 | with_reducible exact Pull.p6 | with_reducible exact Pull.p7 | with_reducible exact Pull.p8 | with_reducible exact Pull.p9) rfl rfl ?_)
  refine At.nil ?_
  refine At.then_n ?_
  refine At.ret ?_
  exact At.finA rfl rfl rfl (by first | with_reducible exact Pull.p0 | with_reducible exact Pull.p1 | with_reducible exact Pull.p2 | with_reducible exact Pull.p3 | with_reducible exact Pull.p4 | with_reducible exact Pull.p5 | with_reducible exact Pull.p6 | with_reducible exact Pull.p7 | with_reducible exact Pull.p8 | with_reducible exact Pull.p9) Tryd.isAgg93 Tryd.sizeOf93 rfl ⟨rfl, rfl⟩ .nil
theorem ref_Fill (n : Nat) (hn : n < 1000000000) : Does Tryd.prog G 37 [i64 n] [] (One (str (fillS n))) := by
  refine Does.of Tryd.func37 rfl Tryd.ntmps37 rfl (fun w0 => ?_)
  refine At.keep [(0, _)] (.cons rfl .nil) ?_
  refine At.seq ?_
  refine At.region ?_
  refine At.op rfl (op_assign rfl rfl ?_)
  refine At.nil ?_
  refine At.then_n ?_
  refine At.seq ?_
  refine At.seq ?_
  refine At.region ?_
  refine At.op rfl (op_move rfl rfl ?_)
  refine At.op rfl (op_bin rfl rfl b_lt rfl ?_)
  refine At.nil ?_
  refine At.then_n ?_
  refine At.cond_p rfl (fun hc0 => ?_) (fun hc0 => ?_)
  ·
    exfalso; omega
  ·
    refine At.skip ?_
    refine At.then_n ?_
    refine At.seq ?_
    refine At.region ?_
    refine At.op rfl (op_buildSlice1 [_] rfl rfl Tryd.underlying41 et5 rfl (by decide) (List.forall_mem_cons.2 ⟨rfl, (fun _ h => by cases h)⟩) rfl ?_)
    intro b0
    refine At.row_own (n := 1) (sz := 1) (by first | with_reducible exact Pull.p0 | with_reducible exact Pull.p1 | with_reducible exact Pull.p2 | with_reducible exact Pull.p3 | with_reducible exact Pull.p4 | with_reducible exact Pull.p5 | with_reducible exact Pull.p6 | with_reducible exact Pull.p7 | with_reducible exact Pull.p8 | with_reducible exact Pull.p9) rfl (by decide) ?_
    refine At.op rfl (op_assign rfl rfl ?_)
    refine At.nil ?_
    refine At.then_n ?_
    refine At.seq ?_
    refine At.block ?_
    refine At.cut (rs' := (fun s => [ownS s.2.1 s.2.2 ((128 :: List.replicate s.1 0 : List UInt8).map u8) 5 1]) ((0, some ⟨b0, 0, none⟩, 1) : Nat × Option Addr × Nat)) (.cons (by first | exact Pull.p0 | exact Pull.p1 | exact Pull.p2 | exact Pull.p3 | exact Pull.p4 | exact Pull.p5 | exact Pull.p6 | exact Pull.p7 | exact Pull.p8 | exact Pull.p9) .nil) ?_
    refine At.keep ((fun s => [(0, i64 n), (3, .slice s.2.1 (1 + s.1) s.2.2)]) ((0, some ⟨b0, 0, none⟩, 1) : Nat × Option Addr × Nat)) (.cons rfl (.cons rfl .nil)) ?_
    refine At.loop (σ := Nat × Option Addr × Nat) (fun s => s.1 ≤ (63 - (n + 8) % 64)) (fun s => [(0, i64 n), (3, .slice s.2.1 (1 + s.1) s.2.2)]) (fun s => [ownS s.2.1 s.2.2 ((128 :: List.replicate s.1 0 : List UInt8).map u8) 5 1]) (fun s => (63 - (n + 8) % 64) - s.1) ((0, some ⟨b0, 0, none⟩, 1) : Nat × Option Addr × Nat) (Nat.zero_le _) ?_
    rintro ⟨z, ad, cap⟩ hz
    dsimp only at hz ⊢
    refine At.seq ?_
    refine At.seq ?_
    refine At.region ?_
    refine At.op rfl (op_move rfl rfl ?_)
    refine At.op rfl (op_move rfl rfl ?_)
    refine At.op rfl (op_len_slc rfl Tryd.underlying41 rfl ?_)
    refine At.op rfl (op_bin rfl rfl (b_add (by omega) (by omega)) rfl ?_)
    refine At.op rfl (op_bin rfl rfl (b_add (by omega) (by omega)) rfl ?_)
    refine At.op rfl (op_bin rfl rfl (b_rem (by omega) (by decide)) rfl ?_)
    refine At.op rfl (op_bin rfl rfl b_ne rfl ?_)
    refine At.nil ?_
    refine At.then_n ?_
    refine At.cond_np rfl (fun hne => ?_) (fun hne => ?_)
    ·
      refine At.skip ?_
      refine At.then_n ?_
      refine At.block ?_
      refine At.region ?_
      refine At.op rfl (op_move rfl rfl ?_)
      refine At.op rfl (op_buildSlice1 [_] rfl rfl Tryd.underlying41 et5 rfl (by decide) (List.forall_mem_cons.2 ⟨rfl, (fun _ h => by cases h)⟩) rfl ?_)
      intro b1
      refine At.op rfl (op_append rfl rfl Tryd.underlying41 et5 (by first | with_reducible exact Pull.p0 | with_reducible exact Pull.p1 | with_reducible exact Pull.p2 | with_reducible exact Pull.p3 | with_reducible exact Pull.p4 | with_reducible exact Pull.p5 | with_reducible exact Pull.p6 | with_reducible exact Pull.p7 | with_reducible exact Pull.p8 | with_reducible exact Pull.p9) (by first | with_reducible exact Pull.p0 | with_reducible exact Pull.p1 | with_reducible exact Pull.p2 | with_reducible exact Pull.p3 | with_reducible exact Pull.p4 | with_reducible exact Pull.p5 | with_reducible exact Pull.p6 | with_reducible exact Pull.p7 | with_reducible exact Pull.p8 | with_reducible exact Pull.p9) (by simp; omega) rfl (by decide) (List.forall_mem_cons.2 ⟨rfl, (fun _ h => by cases h)⟩) (by omega) (by omega) rfl ?_)
      intro a2 ca2 ha2
      rw [show (128 :: List.replicate z 0 : List UInt8).map u8 ++ [Value.int .u8 0] = (128 :: List.replicate (z + 1) 0 : List UInt8).map u8 by rw [List.replicate_succ', ← List.cons_append, List.map_append]; rfl]
      refine At.op rfl (op_assign rfl rfl ?_)
      refine At.nil ?_
      refine At.blk_n ?_
      refine At.then_n ?_
      exact At.back (z + 1, a2, ca2) (by dsimp only; omega) (by dsimp only; omega) (.cons rfl (.cons (congrArg some (by rw [show 1 + (z + 1) = 1 + z + 1 by omega])) .nil)) (.cons (by first | with_reducible exact Pull.p0 | with_reducible exact Pull.p1 | with_reducible exact Pull.p2 | with_reducible exact Pull.p3 | with_reducible exact Pull.p4 | with_reducible exact Pull.p5 | with_reducible exact Pull.p6 | with_reducible exact Pull.p7 | with_reducible exact Pull.p8 | with_reducible exact Pull.p9) .nil)
    ·
      refine At.exit ?_
      refine At.then_e ?_
      refine At.then_e ?_
      refine At.blk_e ?_
      refine At.then_n ?_
      refine At.seq ?_
      refine At.seq ?_
      refine At.region ?_
      refine At.op rfl (op_assign rfl rfl ?_)
      refine At.nil ?_
      refine At.then_n ?_
      refine At.block ?_
      obtain rfl : z = (63 - (n + 8) % 64) := by omega
      rw [show (128 :: List.replicate (63 - (n + 8) % 64) 0 : List UInt8) = 128 :: List.replicate (63 - (n + 8) % 64) 0 ++ (leB (8 * n) 8).reverse.take 0 by rw [List.take_zero, List.append_nil]]
      refine At.cut (rs' := (fun s => [ownS s.2.1 s.2.2 ((128 :: List.replicate (63 - (n + 8) % 64) 0 ++ (leB (8 * n) 8).reverse.take s.1 : List UInt8).map u8) 5 1]) ((0, ad, cap) : Nat × Option Addr × Nat)) (.cons (by first | exact Pull.p0 | exact Pull.p1 | exact Pull.p2 | exact Pull.p3 | exact Pull.p4 | exact Pull.p5 | exact Pull.p6 | exact Pull.p7 | exact Pull.p8 | exact Pull.p9) .nil) ?_
      refine At.keep ((fun s => [(0, i64 n), (3, .slice s.2.1 (1 + (63 - (n + 8) % 64) + s.1) s.2.2), (4, i64 (7 - (s.1 : Int)))]) ((0, ad, cap) : Nat × Option Addr × Nat)) (.cons rfl (.cons rfl (.cons rfl .nil))) ?_
      refine At.loop (σ := Nat × Option Addr × Nat) (fun s => s.1 ≤ 8) (fun s => [(0, i64 n), (3, .slice s.2.1 (1 + (63 - (n + 8) % 64) + s.1) s.2.2), (4, i64 (7 - (s.1 : Int)))]) (fun s => [ownS s.2.1 s.2.2 ((128 :: List.replicate (63 - (n + 8) % 64) 0 ++ (leB (8 * n) 8).reverse.take s.1 : List UInt8).map u8) 5 1]) (fun s => 8 - s.1) ((0, ad, cap) : Nat × Option Addr × Nat) (Nat.zero_le _) ?_
      rintro ⟨j, ad, cap⟩ hj
      dsimp only at hj ⊢
      refine At.seq ?_
      refine At.seq ?_
      refine At.region ?_
      refine At.op rfl (op_move rfl rfl ?_)
      refine At.op rfl (op_bin rfl rfl b_ge rfl ?_)
      refine At.nil ?_
      refine At.then_n ?_
      refine At.cond_p rfl (fun hge => ?_) (fun hge => ?_)
      ·
        refine At.skip ?_
        refine At.then_n ?_
        refine At.seq ?_
        refine At.block ?_
        refine At.region ?_
        refine At.op rfl (op_move rfl rfl ?_)
        refine At.op rfl (op_move rfl rfl ?_)
        refine At.op rfl (op_conv rfl (cv_i64_u64 Tryd.underlying3 Tryd.underlying22 n) rfl ?_)
        refine At.op rfl (op_bin rfl rfl (b64_mul (UInt64.ofNat n) (8 : UInt64)) rfl ?_)
        refine At.op rfl (op_move rfl rfl ?_)
        refine At.op rfl (op_bin rfl rfl (Bin.cast (v' := i64 ((8 * (7 - j) : Nat) : Int)) (b_mul (by omega) (by omega)) (by congr 1; omega)) rfl ?_)
        refine At.op rfl (op_call1 rfl Tryd.call39 (ref_right (UInt64.ofNat n * 8) (8 * (7 - j)) (by omega)) rfl ?_)
        refine At.op rfl (op_bin rfl rfl (b64_rem ((UInt64.ofNat n * 8) >>> UInt64.ofNat (8 * (7 - j))) (256 : UInt64) (by decide)) rfl ?_)
        refine At.op rfl (op_conv rfl (cv_u64_u8 Tryd.underlying22 Tryd.underlying5 _) rfl ?_)
        refine At.op rfl (op_buildSlice1 [_] rfl rfl Tryd.underlying41 et5 rfl (by decide) (List.forall_mem_cons.2 ⟨rfl, (fun _ h => by cases h)⟩) rfl ?_)
        intro b1
        refine At.op rfl (op_append rfl rfl Tryd.underlying41 et5 (by first | with_reducible exact Pull.p0 | with_reducible exact Pull.p1 | with_reducible exact Pull.p2 | with_reducible exact Pull.p3 | with_reducible exact Pull.p4 | with_reducible exact Pull.p5 | with_reducible exact Pull.p6 | with_reducible exact Pull.p7 | with_reducible exact Pull.p8 | with_reducible exact Pull.p9) (by first | with_reducible exact Pull.p0 | with_reducible exact Pull.p1 | with_reducible exact Pull.p2 | with_reducible exact Pull.p3 | with_reducible exact Pull.p4 | with_reducible exact Pull.p5 | with_reducible exact Pull.p6 | with_reducible exact Pull.p7 | with_reducible exact Pull.p8 | with_reducible exact Pull.p9) (by simp [leB_length]; omega) rfl (by decide) (List.forall_mem_cons.2 ⟨rfl, (fun _ h => by cases h)⟩) (by omega) (by omega) rfl ?_)
        intro a2 ca2 ha2
        rw [fill_byte n j hn (by omega), show (128 :: List.replicate (63 - (n + 8) % 64) 0 ++ (leB (8 * n) 8).reverse.take j : List UInt8).map u8 ++ [u8 (UInt8.ofNat (8 * n / 256 ^ (7 - j)))] = (128 :: List.replicate (63 - (n + 8) % 64) 0 ++ (leB (8 * n) 8).reverse.take (j + 1) : List UInt8).map u8 by (rw [rev_take _ j (by omega), ← List.append_assoc]; simp only [List.map_append]; rfl)]
        refine At.op rfl (op_assign rfl rfl ?_)
        refine At.nil ?_
        refine At.blk_n ?_
        refine At.then_n ?_
        refine At.keep [(0, _), (4, _), (3, _)] (.cons rfl (.cons rfl (.cons rfl .nil))) ?_
        refine At.region ?_
        refine At.op rfl (op_move rfl rfl ?_)
        refine At.op rfl (op_bin rfl rfl (Bin.cast (v' := i64 ((7 : Int) - ((j + 1 : Nat) : Int))) (b_sub (by omega) (by omega)) (by congr 1; omega)) rfl ?_)
        refine At.op rfl (op_assign rfl rfl ?_)
        refine At.nil ?_
        refine At.then_n ?_
        exact At.back (j + 1, a2, ca2) (by dsimp only; omega) (by dsimp only; omega) (.cons rfl (.cons rfl (.cons rfl .nil))) (.cons (by first | with_reducible exact Pull.p0 | with_reducible exact Pull.p1 | with_reducible exact Pull.p2 | with_reducible exact Pull.p3 | with_reducible exact Pull.p4 | with_reducible exact Pull.p5 | with_reducible exact Pull.p6 | with_reducible exact Pull.p7 | with_reducible exact Pull.p8 | with_reducible exact Pull.p9) .nil)
      ·
        obtain rfl : j = 8 := by omega
        refine At.exit ?_
        refine At.then_e ?_
        refine At.then_e ?_
        refine At.blk_e ?_
        refine At.then_n ?_
        refine At.seq ?_
        refine At.region ?_
        refine At.op rfl (op_move rfl rfl ?_)
        refine At.op rfl (op_b2sO rfl Tryd.underlying41 Tryd.underlying9 Tryd.underlying5 (by first | with_reducible exact Pull.p0 | with_reducible exact Pull.p1 | with_reducible exact Pull.p2 | with_reducible exact Pull.p3 | with_reducible exact Pull.p4 | with_reducible exact Pull.p5 | with_reducible exact Pull.p6 | with_reducible exact Pull.p7 | with_reducible exact Pull.p8 | with_reducible exact Pull.p9) (by simp [leB_length]; omega) rfl ?_)
        refine At.op rfl (op_assign rfl rfl ?_)
        refine At.nil ?_
        refine At.then_n ?_
        refine At.ret ?_
        refine At.fin1 rfl rfl rfl ⟨?_, rfl⟩ .nil
        unfold fillS; rw [List.take_of_length_le (by simp [leB_length])]
end Go.Proofs.YtcppimolaiinhaaDoor
