/- Walks of the program's functions. -/
import Derived.Test.YteckdahgkkmlaaaGreatDoorSLLib
import Derived.Test.YteckdahgkkmlaaaGreatDoorSLSpecS
import Derived.Test.YteckdahgkkmlaaaGreatDoorSLCpy
import Derived.KernelRfl
set_option maxRecDepth 20000
set_option linter.unusedVariables false
set_option linter.unusedSimpArgs false
namespace Go.Proofs.YteckdahgkkmlaaaGreatDoor
open Go SL
variable {G : List (Nat × Obj)}
theorem bits_RotateLeft32 (x : UInt32) (n : Nat) (h1 : 1 ≤ n) (h2 : n < 32) : Does Tryz.prog G 97 [u32 x, i64 (-(n : Int))] [] (One (u32 (rotr x n))) := by
  refine Does.of Tryz.func97 rfl Tryz.ntmps97 rfl (fun w0 => ?_)
  refine At.keep [(0, _), (1, _)] (.cons rfl (.cons rfl .nil)) ?_
  have hand : u64 (UInt64.ofNat (18446744073709551616 - n) &&& 31) = .int .u64 ((32 - n : Nat) : Int) := by
    show Value.int .u64 ((UInt64.ofNat (18446744073709551616 - n) &&& 31).toNat : Int) = _
    rw [UInt64.toNat_and, UInt64.toNat_ofNat', show (31 : UInt64).toNat = 2 ^ 5 - 1 from rfl, Nat.and_two_pow_sub_one_eq_mod]
    congr 2
    omega
  refine At.seq ?_
  refine At.region ?_
  refine At.op rfl (op_assign rfl rfl ?_)
  refine At.nil ?_
  refine At.then_n ?_
  refine At.seq ?_
  refine At.region ?_
  refine At.op rfl (op_move rfl rfl ?_)
  refine At.op rfl (op_conv rfl (show ∀ w, (convert 3 115 (i64 (-(n : Int)))).run Tryz.prog w = .ok (u64 (UInt64.ofNat (18446744073709551616 - n))) w from fun w => cv_int Tryz.underlying3 Tryz.underlying115 (by rw [wrap_u64, UInt64.toNat_ofNat']; omega) w) rfl ?_)
  refine At.op rfl (op_bin rfl rfl (Bin.cast (v' := .int .u64 ((32 - n : Nat) : Int)) (b64_and (UInt64.ofNat (18446744073709551616 - n)) 31) hand) rfl ?_)
  refine At.op rfl (op_assign rfl rfl ?_)
  refine At.nil ?_
  refine At.then_n ?_
  refine At.seq ?_
  refine At.region ?_
  refine At.op rfl (op_move rfl rfl ?_)
  refine At.op rfl (op_move rfl rfl ?_)
  refine At.op rfl (op_bin rfl rfl (b32_shl x _ (32 - n) (by omega)) rfl ?_)
  refine At.op rfl (op_move rfl rfl ?_)
  refine At.op rfl (op_move rfl rfl ?_)
  refine At.op rfl (op_bin rfl rfl (Bin.cast (v' := .int .u64 (n : Int)) (bk_sub (p := 32)) (congrArg (Value.int .u64) (by rw [wrap_u64]; omega))) rfl ?_)
  refine At.op rfl (op_bin rfl rfl (b32_shr x _ n (by omega)) rfl ?_)
  refine At.op rfl (op_bin rfl rfl (b32_or _ _) rfl ?_)
  refine At.op rfl (op_assign rfl rfl ?_)
  refine At.nil ?_
  refine At.then_n ?_
  refine At.ret ?_
  exact At.fin1 rfl rfl rfl ⟨rfl, rfl⟩ .nil
theorem sha_Step_1 (x : UInt32) (n : Nat) (h1 : 1 ≤ n) (h2 : n < 32) : Does Tryz.prog G 96 [u32 x, i64 n] [] (One (u32 (rotr x n))) := by
  refine Does.of Tryz.func96 rfl Tryz.ntmps96 rfl (fun w0 => ?_)
  refine At.keep [(0, _), (1, _)] (.cons rfl (.cons rfl .nil)) ?_
  refine At.seq ?_
  refine At.region ?_
  refine At.op rfl (op_assign rfl rfl ?_)
  refine At.nil ?_
  refine At.then_n ?_
  refine At.seq ?_
  refine At.region ?_
  refine At.op rfl (op_move rfl rfl ?_)
  refine At.op rfl (op_move rfl rfl ?_)
  refine At.op rfl (op_un rfl (un_neg (by omega) (by omega)) rfl ?_)
  refine At.op rfl (op_call1 rfl Tryz.call97 (bits_RotateLeft32 x n h1 h2) rfl ?_)
  refine At.op rfl (op_assign rfl rfl ?_)
  refine At.nil ?_
  refine At.then_n ?_
  refine At.ret ?_
  exact At.fin1 rfl rfl rfl ⟨rfl, rfl⟩ .nil
theorem sha_Fill (n : Nat) (hn : n < 1000000000) : Does Tryz.prog G 86 [i64 n] [] (One (str (fillS n))) := by
  refine Does.of Tryz.func86 rfl Tryz.ntmps86 rfl (fun w0 => ?_)
  refine At.keep [(0, _)] (.cons rfl .nil) ?_
  have hL : (1 + (63 - ((n : Int) + 8) % 64) + 8 : Int) = ((1 + (63 - (n + 8) % 64) + 8 : Nat) : Int) := by omega
  refine At.seq ?_
  refine At.region ?_
  refine At.op rfl (op_assign rfl rfl ?_)
  refine At.nil ?_
  refine At.then_n ?_
  refine At.seq ?_
  refine At.seq ?_
  refine At.region ?_
  refine At.op rfl (op_move rfl rfl ?_)
  refine At.op rfl (op_bin rfl rfl b_lt rfl ?_)
  refine At.nil ?_
  refine At.then_n ?_
  refine At.cond_p rfl (fun hc0 => ?_) (fun hc0 => ?_)
  ·
    exfalso; omega
  ·
    refine At.skip ?_
    refine At.then_n ?_
    refine At.seq ?_
    refine At.region ?_
    refine At.op rfl (op_move rfl rfl ?_)
    refine At.op rfl (op_bin rfl rfl (b_add (by omega) (by omega)) rfl ?_)
    refine At.op rfl (op_bin rfl rfl (b_rem (by omega) (by decide)) rfl ?_)
    refine At.op rfl (op_bin rfl rfl (b_sub (by omega) (by omega)) rfl ?_)
    refine At.op rfl (op_assign rfl rfl ?_)
    refine At.nil ?_
    refine At.then_n ?_
    refine At.seq ?_
    refine At.region ?_
    refine At.op rfl (op_move rfl rfl ?_)
    refine At.op rfl (op_bin rfl rfl (b_add (by omega) (by omega)) rfl ?_)
    refine At.op rfl (op_bin rfl rfl (b_add (by omega) (by omega)) rfl ?_)
    rw [hL]
    refine At.op rfl (op_make rfl Tryz.underlying47 et5 (by omega) (by omega) (by omega) rfl ?_)
    intro b
    rw [made_u8]
    refine At.op rfl (op_assign rfl rfl ?_)
    refine At.nil ?_
    refine At.then_n ?_
    refine At.seq ?_
    refine At.region ?_
    refine At.op rfl (op_move rfl rfl ?_)
    refine At.op rfl (op_indexS rfl rfl Tryz.underlying47 Tryz.sizeOf5 (by omega) (by omega) rfl ?_)
    refine At.op rfl (op_storeO rfl rfl Tryz.sizeOf5 rfl rfl (by first | with_reducible exact Pull.p0 | with_reducible exact Pull.p1 | with_reducible exact Pull.p2 | with_reducible exact Pull.p3 | with_reducible exact Pull.p4 | with_reducible exact Pull.p5 | with_reducible exact Pull.p6 | with_reducible exact Pull.p7 | with_reducible exact Pull.p8 | with_reducible exact Pull.p9) (bset (List.replicate (1 + (63 - (n + 8) % 64) + 8) 0) 0 _ 128 (by simp) (by simp)) ?_)
    rw [show (List.replicate (1 + (63 - (n + 8) % 64) + 8) (0 : UInt8)).set 0 128 = fillK n 0 by
      rw [show 1 + (63 - (n + 8) % 64) + 8 = (63 - (n + 8) % 64 + (8 - 0)) + 1 by omega, List.replicate_succ]
      simp [fillK, leB]]
    refine At.nil ?_
    refine At.then_n ?_
    refine At.seq ?_
    refine At.seq ?_
    refine At.keep [(0, _), (2, _), (4, _)] (.cons rfl (.cons rfl (.cons rfl .nil))) ?_
    refine At.region ?_
    refine At.op rfl (op_move rfl rfl ?_)
    refine At.nil ?_
    refine At.then_n ?_
    refine At.block ?_
    refine At.cut (rs' := (fun k => [ownS (some ⟨b, 0, none⟩) (1 + (63 - (n + 8) % 64) + 8) ((fillK n k).map u8) 5 1]) (0 : Nat)) (.cons (by first | exact Pull.p0 | exact Pull.p1 | exact Pull.p2 | exact Pull.p3 | exact Pull.p4 | exact Pull.p5 | exact Pull.p6 | exact Pull.p7 | exact Pull.p8 | exact Pull.p9) .nil) ?_
    refine At.keep ((fun k => [(0, i64 n), (4, slc b 0 (1 + (63 - (n + 8) % 64) + 8) (1 + (63 - (n + 8) % 64) + 8)), (18, i64 k)]) (0 : Nat)) (.cons rfl (.cons rfl (.cons rfl .nil))) ?_
    refine At.loop (σ := Nat) (fun k => k ≤ 8) (fun k => [(0, i64 n), (4, slc b 0 (1 + (63 - (n + 8) % 64) + 8) (1 + (63 - (n + 8) % 64) + 8)), (18, i64 k)]) (fun k => [ownS (some ⟨b, 0, none⟩) (1 + (63 - (n + 8) % 64) + 8) ((fillK n k).map u8) 5 1]) (fun k => 8 - k) (0 : Nat) (Nat.zero_le _) ?_
    rintro k hk
    refine At.seq ?_
    refine At.region ?_
    refine At.op rfl (op_bin rfl rfl b_lt rfl ?_)
    refine At.nil ?_
    refine At.then_n ?_
    refine At.seq ?_
    refine At.cond_p rfl (fun hlt => ?_) (fun hlt => ?_)
    ·
      refine At.skip ?_
      refine At.then_n ?_
      refine At.seq ?_
      refine At.block ?_
      refine At.seq ?_
      refine At.region ?_
      refine At.op rfl (op_move rfl rfl ?_)
      refine At.op rfl (op_assign rfl rfl ?_)
      refine At.nil ?_
      refine At.then_n ?_
      refine At.region ?_
      refine At.op rfl (op_move rfl rfl ?_)
      refine At.op rfl (op_move rfl rfl ?_)
      refine At.op rfl (op_len_slc rfl Tryz.underlying47 rfl ?_)
      refine At.op rfl (op_bin rfl rfl (b_sub (by omega) (by omega)) rfl ?_)
      refine At.op rfl (op_move rfl rfl ?_)
      refine At.op rfl (op_bin rfl rfl (b_sub (by omega) (by omega)) rfl ?_)
      refine At.op rfl (op_move rfl rfl ?_)
      refine At.op rfl (op_conv rfl (cv_i64_u64 Tryz.underlying3 Tryz.underlying40 n) rfl ?_)
      refine At.op rfl (op_bin rfl rfl (b64_shl _ _ 3 (by decide)) rfl ?_)
      refine At.op rfl (op_move rfl rfl ?_)
      refine At.op rfl (op_bin rfl rfl (Bin.cast (v' := i64 ((8 * k : Nat) : Int)) (b_mul (by omega) (by omega)) (by simp [i64])) rfl ?_)
      refine At.op rfl (op_bin rfl rfl (b64_shr _ _ (8 * k) (by omega)) rfl ?_)
      refine At.op rfl (op_conv rfl (cv_u64_u8 Tryz.underlying40 Tryz.underlying5 _) rfl ?_)
      refine At.op rfl (op_indexS rfl rfl Tryz.underlying47 Tryz.sizeOf5 (by omega) (by omega) rfl ?_)
      refine At.op rfl (op_storeO rfl rfl Tryz.sizeOf5 rfl rfl (by first | with_reducible exact Pull.p0 | with_reducible exact Pull.p1 | with_reducible exact Pull.p2 | with_reducible exact Pull.p3 | with_reducible exact Pull.p4 | with_reducible exact Pull.p5 | with_reducible exact Pull.p6 | with_reducible exact Pull.p7 | with_reducible exact Pull.p8 | with_reducible exact Pull.p9) (bset (fillK n k) (1 + (63 - (n + 8) % 64) + 8 - 1 - k) _ _ (by omega) (by rw [fillK_length n k (by omega)]; omega)) ?_)
      refine At.nil ?_
      refine At.blk_n ?_
      refine At.then_n ?_
      refine At.keep [(0, _), (4, _), (18, _)] (.cons rfl (.cons rfl (.cons rfl .nil))) ?_
      refine At.region ?_
      refine At.op rfl (op_bin rfl rfl (b_add (by omega) (by omega)) rfl ?_)
      refine At.op rfl (op_move rfl rfl ?_)
      refine At.nil ?_
      refine At.then_n ?_
      rw [fillK_step n k (by omega) _ (by
        rw [shr_byte _ k (by omega)]
        congr 2
        rw [UInt64.toNat_shiftLeft, UInt64.toNat_ofNat', UInt64.toNat_ofNat', Nat.shiftLeft_eq, show 2 ^ (3 % 2 ^ 64 % 64) = 8 from rfl]
        omega)]
      exact At.back (k + 1) (by omega) (by omega) (.cons rfl (.cons rfl (.cons rfl .nil))) (.cons (by first | with_reducible exact Pull.p0 | with_reducible exact Pull.p1 | with_reducible exact Pull.p2 | with_reducible exact Pull.p3 | with_reducible exact Pull.p4 | with_reducible exact Pull.p5 | with_reducible exact Pull.p6 | with_reducible exact Pull.p7 | with_reducible exact Pull.p8 | with_reducible exact Pull.p9) .nil)
    ·
      obtain rfl : k = 8 := by omega
      refine At.exit ?_
      refine At.then_e ?_
      refine At.then_e ?_
      refine At.blk_e ?_
      refine At.then_n ?_
      refine At.seq ?_
      refine At.region ?_
      refine At.op rfl (op_move rfl rfl ?_)
      refine At.op rfl (op_b2sO rfl Tryz.underlying47 Tryz.underlying9 Tryz.underlying5 (by first | with_reducible exact Pull.p0 | with_reducible exact Pull.p1 | with_reducible exact Pull.p2 | with_reducible exact Pull.p3 | with_reducible exact Pull.p4 | with_reducible exact Pull.p5 | with_reducible exact Pull.p6 | with_reducible exact Pull.p7 | with_reducible exact Pull.p8 | with_reducible exact Pull.p9) (fillK_length n 8 (by omega)) rfl ?_)
      refine At.op rfl (op_assign rfl rfl ?_)
      refine At.nil ?_
      refine At.then_n ?_
      refine At.ret ?_
      exact At.fin1 rfl rfl rfl ⟨rfl, rfl⟩ .nil
end Go.Proofs.YteckdahgkkmlaaaGreatDoor
