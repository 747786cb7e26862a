/- Walks of the program's functions. -/
import Derived.Test.YtcppimolaiinhaaDoorSLW3
import Derived.Test.YtcppimolaiinhaaDoorSLSpecR
import Derived.KernelRfl
set_option maxRecDepth 20000
set_option linter.unusedVariables false
set_option linter.unusedSimpArgs false
namespace Go.Proofs.YtcppimolaiinhaaDoor
open Go SL
variable {G : List (Nat × Obj)}
theorem ref_right (x : UInt64) (n : Nat) (hn : n < 64) : Does Tryd.prog G 39 [u64 x, i64 n] [] (One (u64 (x >>> UInt64.ofNat n))) := by
  refine Does.of Tryd.func39 rfl Tryd.ntmps39 rfl (fun w0 => ?_)
  refine At.keep [(0, _), (1, _)] (.cons rfl (.cons rfl .nil)) ?_
  refine At.seq ?_
  refine At.region ?_
  refine At.op rfl (op_assign rfl rfl ?_)
  refine At.nil ?_
  refine At.then_n ?_
  refine At.seq ?_
  refine At.seq ?_
  refine At.region ?_
  refine At.op rfl (op_assign rfl rfl ?_)
  refine At.nil ?_
  refine At.then_n ?_
  refine At.block ?_
  refine At.keep ((fun k => [(0, u64 (x >>> UInt64.ofNat k)), (1, i64 n), (5, i64 k)]) (0 : Nat)) (.cons (by rw [right_zero]; rfl) (.cons rfl (.cons rfl .nil))) ?_
  refine At.loop (σ := Nat) (fun k => k ≤ n) (fun k => [(0, u64 (x >>> UInt64.ofNat k)), (1, i64 n), (5, i64 k)]) (fun _ => _) (fun k => n - k) (0 : Nat) (Nat.zero_le _) ?_
  rintro k hk
  refine At.seq ?_
  refine At.seq ?_
  refine At.region ?_
  refine At.op rfl (op_move rfl rfl ?_)
  refine At.op rfl (op_move rfl rfl ?_)
  refine At.op rfl (op_bin rfl rfl b_lt rfl ?_)
  refine At.nil ?_
  refine At.then_n ?_
  refine At.cond_p rfl (fun hlt => ?_) (fun hlt => ?_)
  ·
    refine At.skip ?_
    refine At.then_n ?_
    refine At.seq ?_
    refine At.block ?_
    refine At.region ?_
    refine At.op rfl (op_move rfl rfl ?_)
    refine At.op rfl (op_bin rfl rfl (Bin.cast (v' := u64 (x >>> UInt64.ofNat (k + 1))) (b64_quo (x >>> UInt64.ofNat k) (2 : UInt64) (by decide)) (by rw [right_step x k (by omega)])) rfl ?_)
    refine At.op rfl (op_assign rfl rfl ?_)
    refine At.nil ?_
    refine At.blk_n ?_
    refine At.then_n ?_
    refine At.region ?_
    refine At.op rfl (op_move rfl rfl ?_)
    refine At.op rfl (op_bin rfl rfl (b_add (by omega) (by omega)) rfl ?_)
    refine At.op rfl (op_assign rfl rfl ?_)
    refine At.nil ?_
    refine At.then_n ?_
    exact At.back (kk := []) (k + 1) (by omega) (by omega) (.cons rfl (.cons rfl (.cons rfl .nil))) .nil
  ·
    obtain rfl : k = n := by omega
    refine At.exit ?_
    refine At.then_e ?_
    refine At.then_e ?_
    refine At.blk_e ?_
    refine At.then_n ?_
    refine At.seq ?_
    refine At.region ?_
    refine At.op rfl (op_move rfl rfl ?_)
    refine At.op rfl (op_assign rfl rfl ?_)
    refine At.nil ?_
    refine At.then_n ?_
    refine At.ret ?_
    exact At.fin1 rfl rfl rfl ⟨rfl, rfl⟩ .nil
theorem ref_turn (x : UInt32) (n : Nat) (hn : n < 32) : Does Tryd.prog G 57 [w64 x, i64 n] [] (One (w64 (rotr x n))) := by
  refine Does.of Tryd.func57 rfl Tryd.ntmps57 rfl (fun w0 => ?_)
  refine At.keep [(0, _), (1, _)] (.cons rfl (.cons rfl .nil)) ?_
  refine At.seq ?_
  refine At.region ?_
  refine At.op rfl (op_assign rfl rfl ?_)
  refine At.nil ?_
  refine At.then_n ?_
  refine At.seq ?_
  refine At.seq ?_
  refine At.region ?_
  refine At.op rfl (op_assign rfl rfl ?_)
  refine At.nil ?_
  refine At.then_n ?_
  refine At.block ?_
  refine At.keep ((fun k => [(0, w64 (rotr x k)), (1, i64 n), (5, i64 k)]) (0 : Nat)) (.cons (by rw [rotr_zero]; rfl) (.cons rfl (.cons rfl .nil))) ?_
  refine At.loop (σ := Nat) (fun k => k ≤ n) (fun k => [(0, w64 (rotr x k)), (1, i64 n), (5, i64 k)]) (fun _ => _) (fun k => n - k) (0 : Nat) (Nat.zero_le _) ?_
  rintro k hk
  refine At.seq ?_
  refine At.seq ?_
  refine At.region ?_
  refine At.op rfl (op_move rfl rfl ?_)
  refine At.op rfl (op_move rfl rfl ?_)
  refine At.op rfl (op_bin rfl rfl b_lt rfl ?_)
  refine At.nil ?_
  refine At.then_n ?_
  refine At.cond_p rfl (fun hlt => ?_) (fun hlt => ?_)
  ·
    refine At.skip ?_
    refine At.then_n ?_
    refine At.seq ?_
    refine At.block ?_
    refine At.region ?_
    refine At.op rfl (op_move rfl rfl ?_)
    refine At.op rfl (op_bin rfl rfl (b64_quo (rotr x k).toUInt64 (2 : UInt64) (by decide)) rfl ?_)
    refine At.op rfl (op_move rfl rfl ?_)
    refine At.op rfl (op_bin rfl rfl (b64_rem (rotr x k).toUInt64 (2 : UInt64) (by decide)) rfl ?_)
    refine At.op rfl (op_bin rfl rfl (b64_mul _ (2147483648 : UInt64)) rfl ?_)
    refine At.op rfl (op_bin rfl rfl (Bin.cast (v' := w64 (rotr x (k + 1))) (b64_add _ _) (by rw [turn_step x k (by omega)]; rfl)) rfl ?_)
    refine At.op rfl (op_assign rfl rfl ?_)
    refine At.nil ?_
    refine At.blk_n ?_
    refine At.then_n ?_
    refine At.region ?_
    refine At.op rfl (op_move rfl rfl ?_)
    refine At.op rfl (op_bin rfl rfl (b_add (by omega) (by omega)) rfl ?_)
    refine At.op rfl (op_assign rfl rfl ?_)
    refine At.nil ?_
    refine At.then_n ?_
    exact At.back (kk := []) (k + 1) (by omega) (by omega) (.cons rfl (.cons rfl (.cons rfl .nil))) .nil
  ·
    obtain rfl : k = n := by omega
    refine At.exit ?_
    refine At.then_e ?_
    refine At.then_e ?_
    refine At.blk_e ?_
    refine At.then_n ?_
    refine At.seq ?_
    refine At.region ?_
    refine At.op rfl (op_move rfl rfl ?_)
    refine At.op rfl (op_assign rfl rfl ?_)
    refine At.nil ?_
    refine At.then_n ?_
    refine At.ret ?_
    exact At.fin1 rfl rfl rfl ⟨rfl, rfl⟩ .nil
theorem ref_Number (n : UInt64) (w : Nat) (h1 : 1 ≤ w) (h8 : w ≤ 8) (hn : n.toNat < 2 ^ (8 * w)) : Does Tryd.prog G 16 [u64 n, i64 w] [] (One (.tuple #[str (leB n.toNat w), i64 0])) := by
  refine Does.of Tryd.func16 rfl Tryd.ntmps16 rfl (fun w0 => ?_)
  refine At.keep [(0, _), (1, _)] (.cons rfl (.cons rfl .nil)) ?_
  refine At.seq ?_
  refine At.region ?_
  refine At.op rfl (op_assign rfl rfl ?_)
  refine At.op rfl (op_assign rfl rfl ?_)
  refine At.nil ?_
  refine At.then_n ?_
  refine At.seq ?_
  refine At.seq ?_
  refine At.region ?_
  refine At.op rfl (op_move rfl rfl ?_)
  refine At.op rfl (op_bin rfl rfl b_lt rfl ?_)
  refine At.op rfl (op_move rfl rfl ?_)
  refine At.dsplit (i := 10) rfl (fun hg1 => ?_) (fun hg1 => ?_)
  ·
    exfalso; omega
  ·
    refine At.opg rfl rfl rfl (op_move rfl rfl ?_)
    refine At.opg rfl rfl rfl (op_bin rfl rfl b_gt rfl ?_)
    refine At.op rfl (op_pick_f rfl rfl rfl ?_)
    refine At.nil ?_
    refine At.then_n ?_
    refine At.cond_p rfl (fun hc0 => ?_) (fun hc0 => ?_)
    ·
      exfalso; omega
    ·
      refine At.skip ?_
      refine At.then_n ?_
      refine At.seq ?_
      refine At.region ?_
      refine At.op rfl (op_buildSlice1 [] rfl rfl Tryd.underlying41 et5 rfl (by decide) (fun _ h => by cases h) rfl ?_)
      intro b0
      refine At.row_own (n := 0) (sz := 1) (by first | with_reducible exact Pull.p0 | with_reducible exact Pull.p1 | with_reducible exact Pull.p2 | with_reducible exact Pull.p3 | with_reducible exact Pull.p4 | with_reducible exact Pull.p5 | with_reducible exact Pull.p6 | with_reducible exact Pull.p7 | with_reducible exact Pull.p8 | with_reducible exact Pull.p9) rfl (by decide) ?_
      refine At.op rfl (op_assign rfl rfl ?_)
      refine At.nil ?_
      refine At.then_n ?_
      refine At.seq ?_
      refine At.seq ?_
      refine At.region ?_
      refine At.op rfl (op_assign rfl rfl ?_)
      refine At.nil ?_
      refine At.then_n ?_
      refine At.block ?_
      refine At.cut (rs' := (fun s => [ownS s.2.1 s.2.2 ((leB n.toNat s.1).map u8) 5 1]) ((0, some ⟨b0, 0, none⟩, 0) : Nat × Option Addr × Nat)) (.cons (by first | exact Pull.p0 | exact Pull.p1 | exact Pull.p2 | exact Pull.p3 | exact Pull.p4 | exact Pull.p5 | exact Pull.p6 | exact Pull.p7 | exact Pull.p8 | exact Pull.p9) .nil) ?_
      refine At.keep ((fun s => [(0, u64 (UInt64.ofNat (n.toNat / 256 ^ s.1))), (1, i64 w), (6, .slice s.2.1 s.1 s.2.2), (7, i64 s.1)]) ((0, some ⟨b0, 0, none⟩, 0) : Nat × Option Addr × Nat)) (.cons (by dsimp only; rw [Nat.pow_zero, Nat.div_one, UInt64.ofNat_toNat]; rfl) (.cons rfl (.cons rfl (.cons rfl .nil)))) ?_
      refine At.loop (σ := Nat × Option Addr × Nat) (fun s => s.1 ≤ w) (fun s => [(0, u64 (UInt64.ofNat (n.toNat / 256 ^ s.1))), (1, i64 w), (6, .slice s.2.1 s.1 s.2.2), (7, i64 s.1)]) (fun s => [ownS s.2.1 s.2.2 ((leB n.toNat s.1).map u8) 5 1]) (fun s => w - s.1) ((0, some ⟨b0, 0, none⟩, 0) : Nat × Option Addr × Nat) (Nat.zero_le _) ?_
      rintro ⟨k, ad, cap⟩ hk
      dsimp only at hk ⊢
      refine At.seq ?_
      refine At.seq ?_
      refine At.region ?_
      refine At.op rfl (op_move rfl rfl ?_)
      refine At.op rfl (op_move rfl rfl ?_)
      refine At.op rfl (op_bin rfl rfl b_lt rfl ?_)
      refine At.nil ?_
      refine At.then_n ?_
      refine At.cond_p rfl (fun hlt => ?_) (fun hlt => ?_)
      ·
        refine At.skip ?_
        refine At.then_n ?_
        refine At.seq ?_
        refine At.block ?_
        refine At.seq ?_
        refine At.region ?_
        refine At.op rfl (op_move rfl rfl ?_)
        refine At.op rfl (op_move rfl rfl ?_)
        refine At.op rfl (op_bin rfl rfl (b64_rem (UInt64.ofNat (n.toNat / 256 ^ k)) (256 : UInt64) (by decide)) rfl ?_)
        refine At.op rfl (op_conv rfl (cv_u64_u8 Tryd.underlying22 Tryd.underlying5 _) rfl ?_)
        refine At.op rfl (op_buildSlice1 [_] rfl rfl Tryd.underlying41 et5 rfl (by decide) (List.forall_mem_cons.2 ⟨rfl, (fun _ h => by cases h)⟩) rfl ?_)
        intro b1
        refine At.op rfl (op_append rfl rfl Tryd.underlying41 et5 (by first | with_reducible exact Pull.p0 | with_reducible exact Pull.p1 | with_reducible exact Pull.p2 | with_reducible exact Pull.p3 | with_reducible exact Pull.p4 | with_reducible exact Pull.p5 | with_reducible exact Pull.p6 | with_reducible exact Pull.p7 | with_reducible exact Pull.p8 | with_reducible exact Pull.p9) (by first | with_reducible exact Pull.p0 | with_reducible exact Pull.p1 | with_reducible exact Pull.p2 | with_reducible exact Pull.p3 | with_reducible exact Pull.p4 | with_reducible exact Pull.p5 | with_reducible exact Pull.p6 | with_reducible exact Pull.p7 | with_reducible exact Pull.p8 | with_reducible exact Pull.p9) (by rw [List.length_map, leB_length, Nat.mul_one]) rfl (by decide) (List.forall_mem_cons.2 ⟨rfl, (fun _ h => by cases h)⟩) (by omega) (by omega) rfl ?_)
        intro a2 ca2 ha2
        rw [num_byte, show (leB n.toNat k).map u8 ++ [u8 (UInt8.ofNat (n.toNat / 256 ^ k))] = (leB n.toNat (k + 1)).map u8 by rw [leB_snoc, List.map_append]; rfl]
        refine At.op rfl (op_assign rfl rfl ?_)
        refine At.nil ?_
        refine At.then_n ?_
        refine At.region ?_
        refine At.op rfl (op_move rfl rfl ?_)
        refine At.op rfl (op_bin rfl rfl (Bin.cast (v' := u64 (UInt64.ofNat (n.toNat / 256 ^ (k + 1)))) (b64_quo (UInt64.ofNat (n.toNat / 256 ^ k)) (256 : UInt64) (by decide)) (by rw [num_div _ _ (by have := n.toNat_lt; omega)])) rfl ?_)
        refine At.op rfl (op_assign rfl rfl ?_)
        refine At.nil ?_
        refine At.blk_n ?_
        refine At.then_n ?_
        refine At.region ?_
        refine At.op rfl (op_move rfl rfl ?_)
        refine At.op rfl (op_bin rfl rfl (b_add (by omega) (by omega)) rfl ?_)
        refine At.op rfl (op_assign rfl rfl ?_)
        refine At.nil ?_
        refine At.then_n ?_
        exact At.back (k + 1, a2, ca2) (by dsimp only; omega) (by dsimp only; omega) (.cons rfl (.cons rfl (.cons rfl (.cons rfl .nil)))) (.cons (by first | with_reducible exact Pull.p0 | with_reducible exact Pull.p1 | with_reducible exact Pull.p2 | with_reducible exact Pull.p3 | with_reducible exact Pull.p4 | with_reducible exact Pull.p5 | with_reducible exact Pull.p6 | with_reducible exact Pull.p7 | with_reducible exact Pull.p8 | with_reducible exact Pull.p9) .nil)
      ·
        obtain rfl : k = w := by omega
        refine At.exit ?_
        refine At.then_e ?_
        refine At.then_e ?_
        refine At.blk_e ?_
        refine At.then_n ?_
        refine At.seq ?_
        refine At.seq ?_
        refine At.region ?_
        refine At.op rfl (op_move rfl rfl ?_)
        refine At.op rfl (op_bin rfl rfl (b64_gt (UInt64.ofNat (n.toNat / 256 ^ k)) (0 : UInt64)) rfl ?_)
        refine At.nil ?_
        refine At.then_n ?_
        refine At.cond_p rfl (fun h0 => ?_) (fun h0 => ?_)
        ·
          exfalso
          rw [Nat.div_eq_of_lt (by rw [pow256]; exact hn)] at h0
          exact absurd h0 (by decide)
        ·
          refine At.skip ?_
          refine At.then_n ?_
          refine At.seq ?_
          refine At.region ?_
          refine At.op rfl (op_move rfl rfl ?_)
          refine At.op rfl (op_b2sO rfl Tryd.underlying41 Tryd.underlying9 Tryd.underlying5 (by first | with_reducible exact Pull.p0 | with_reducible exact Pull.p1 | with_reducible exact Pull.p2 | with_reducible exact Pull.p3 | with_reducible exact Pull.p4 | with_reducible exact Pull.p5 | with_reducible exact Pull.p6 | with_reducible exact Pull.p7 | with_reducible exact Pull.p8 | with_reducible exact Pull.p9) (leB_length _ _) rfl ?_)
          refine At.op rfl (op_assign rfl rfl ?_)
          refine At.op rfl (op_assign rfl rfl ?_)
          refine At.nil ?_
          refine At.then_n ?_
          refine At.ret ?_
          exact At.fin2 rfl rfl rfl rfl ⟨rfl, rfl⟩ .nil
theorem ref_TakeNumber (s : List UInt8) (w : Nat) (h1 : 1 ≤ w) (h8 : w ≤ 8) (hs : s.length < 100000000) : Does Tryd.prog G 27 [str s, i64 w] [] (One (if s.length < w then .tuple #[u64 0, str [], i64 10] else .tuple #[u64 (UInt64.ofNat (leN (s.take w))), str (s.drop w), i64 0])) := by
  refine Does.of Tryd.func27 rfl Tryd.ntmps27 rfl (fun w0 => ?_)
  refine At.keep [(0, _), (1, _)] (.cons rfl (.cons rfl .nil)) ?_
  refine At.seq ?_
  refine At.region ?_
  refine At.op rfl (op_assign rfl rfl ?_)
  refine At.op rfl (op_assign rfl rfl ?_)
  refine At.op rfl (op_assign rfl rfl ?_)
  refine At.nil ?_
  refine At.then_n ?_
  refine At.seq ?_
  refine At.seq ?_
  refine At.region ?_
  refine At.op rfl (op_move rfl rfl ?_)
  refine At.op rfl (op_bin rfl rfl b_lt rfl ?_)
  refine At.op rfl (op_move rfl rfl ?_)
  refine At.dsplit (i := 11) rfl (fun hg1 => ?_) (fun hg1 => ?_)
  ·
    exfalso; omega
  ·
    refine At.opg rfl rfl rfl (op_move rfl rfl ?_)
    refine At.opg rfl rfl rfl (op_bin rfl rfl b_gt rfl ?_)
    refine At.op rfl (op_pick_f rfl rfl rfl ?_)
    refine At.nil ?_
    refine At.then_n ?_
    refine At.cond_p rfl (fun hc0 => ?_) (fun hc0 => ?_)
    ·
      exfalso; omega
    ·
      refine At.skip ?_
      refine At.then_n ?_
      refine At.seq ?_
      refine At.seq ?_
      refine At.region ?_
      refine At.op rfl (op_move rfl rfl ?_)
      refine At.op rfl (op_len_str rfl Tryd.underlying9 rfl ?_)
      refine At.op rfl (op_move rfl rfl ?_)
      refine At.op rfl (op_bin rfl rfl b_lt rfl ?_)
      refine At.nil ?_
      refine At.then_n ?_
      refine At.cond_p rfl (fun hc1 => ?_) (fun hc1 => ?_)
      ·
        refine At.seq ?_
        refine At.region ?_
        refine At.op rfl (op_assign rfl rfl ?_)
        refine At.op rfl (op_assign rfl rfl ?_)
        refine At.op rfl (op_assign rfl rfl ?_)
        refine At.nil ?_
        refine At.then_n ?_
        refine At.ret ?_
        refine At.then_r ?_
        refine At.fin3 rfl rfl rfl rfl rfl ⟨?_, rfl⟩ .nil
        rw [if_pos (by omega)]; rfl
      ·
        refine At.skip ?_
        refine At.then_n ?_
        refine At.seq ?_
        refine At.region ?_
        refine At.op rfl (op_assign rfl rfl ?_)
        refine At.nil ?_
        refine At.then_n ?_
        refine At.seq ?_
        refine At.seq ?_
        refine At.region ?_
        refine At.op rfl (op_move rfl rfl ?_)
        refine At.op rfl (op_bin rfl rfl (b_sub (by omega) (by omega)) rfl ?_)
        refine At.op rfl (op_assign rfl rfl ?_)
        refine At.nil ?_
        refine At.then_n ?_
        refine At.block ?_
        refine At.keep ((fun j => [(0, str s), (1, i64 w), (7, u64 (UInt64.ofNat (leN ((s.take w).drop (w - j))))), (8, i64 ((w : Int) - 1 - (j : Int)))]) (0 : Nat)) (.cons rfl (.cons rfl (.cons (by rw [Nat.sub_zero, List.drop_of_length_le (by rw [List.length_take]; omega)]; rfl) (.cons (by rw [show ((w : Int) - 1 - ((0 : Nat) : Int)) = (w : Int) - 1 by omega]; rfl) .nil)))) ?_
        refine At.loop (σ := Nat) (fun j => j ≤ w) (fun j => [(0, str s), (1, i64 w), (7, u64 (UInt64.ofNat (leN ((s.take w).drop (w - j))))), (8, i64 ((w : Int) - 1 - (j : Int)))]) (fun _ => _) (fun j => w - j) (0 : Nat) (Nat.zero_le _) ?_
        rintro j hj
        refine At.seq ?_
        refine At.seq ?_
        refine At.region ?_
        refine At.op rfl (op_move rfl rfl ?_)
        refine At.op rfl (op_bin rfl rfl b_ge rfl ?_)
        refine At.nil ?_
        refine At.then_n ?_
        refine At.cond_p rfl (fun hge => ?_) (fun hge => ?_)
        ·
          obtain ⟨x, hx⟩ : ∃ x, s[w - 1 - j]? = some x := ⟨_, List.getElem?_eq_getElem (by omega)⟩
          have hd : (s.take w).drop (w - (j + 1)) = x :: (s.take w).drop (w - j) := by
            rw [show w - j = w - (j + 1) + 1 by omega, List.drop_eq_getElem_cons (by rw [List.length_take]; omega), List.getElem_take]
            congr 1
            rw [← (List.getElem?_eq_some_iff.1 hx).2]
            congr 1
            omega
          refine At.skip ?_
          refine At.then_n ?_
          refine At.seq ?_
          refine At.block ?_
          refine At.region ?_
          refine At.op rfl (op_move rfl rfl ?_)
          refine At.op rfl (op_bin rfl rfl (b64_mul (UInt64.ofNat (leN ((s.take w).drop (w - j)))) (256 : UInt64)) rfl ?_)
          refine At.op rfl (op_move rfl rfl ?_)
          refine At.op rfl (op_move rfl rfl ?_)
          refine At.op rfl (op_indexStr rfl rfl Tryd.underlying9 (by omega) (by rw [show ((w : Int) - 1 - j).toNat = w - 1 - j by omega]; exact hx) rfl ?_)
          refine At.op rfl (op_conv rfl (cv_u8_u64 Tryd.underlying5 Tryd.underlying22 _) rfl ?_)
          refine At.op rfl (op_bin rfl rfl (Bin.cast (v' := u64 (UInt64.ofNat (leN ((s.take w).drop (w - (j + 1)))))) (b64_add _ _) (by rw [take_num, hd]; rfl)) rfl ?_)
          refine At.op rfl (op_assign rfl rfl ?_)
          refine At.nil ?_
          refine At.blk_n ?_
          refine At.then_n ?_
          refine At.region ?_
          refine At.op rfl (op_move rfl rfl ?_)
          refine At.op rfl (op_bin rfl rfl (Bin.cast (v' := i64 ((w : Int) - 1 - ((j + 1 : Nat) : Int))) (b_sub (by omega) (by omega)) (by congr 1; omega)) rfl ?_)
          refine At.op rfl (op_assign rfl rfl ?_)
          refine At.nil ?_
          refine At.then_n ?_
          exact At.back (kk := []) (j + 1) (by omega) (by omega) (.cons rfl (.cons rfl (.cons rfl (.cons rfl .nil)))) .nil
        ·
          obtain rfl : j = w := by omega
          rw [Nat.sub_self, List.drop_zero]
          refine At.exit ?_
          refine At.then_e ?_
          refine At.then_e ?_
          refine At.blk_e ?_
          refine At.then_n ?_
          refine At.seq ?_
          refine At.drawC [_, _, _, _, _, _, _] (by kernel_rfl) (by decide) (by kernel_rfl) 
            (Steps'.cons (Step.op rfl (fun D h1 h2 h3 K hK => op_move (mD_base rfl rfl) rfl hK))
            (Steps'.cons (Step.op rfl (fun D h1 h2 h3 K hK => op_move (mD_base rfl rfl) rfl hK))
            (Steps'.cons (Step.op rfl (fun D h1 h2 h3 K hK => op_move (mD_base rfl rfl) rfl hK))
            (Steps'.cons (Step.op rfl (fun D h1 h2 h3 K hK => op_sl_str_lo (mD_done 1 (by decide) (pre_at h2 0 rfl rfl) rfl rfl rfl) (mD_done 2 (by decide) (pre_at h2 1 rfl rfl) rfl rfl rfl) Tryd.underlying9 (by omega) (by omega) rfl hK))
            (Steps'.cons (Step.op rfl (fun D h1 h2 h3 K hK => op_assign (mD_done 0 (by decide) (pre_at h2 0 rfl rfl) rfl rfl rfl) rfl hK))
            (Steps'.cons (Step.op rfl (fun D h1 h2 h3 K hK => op_assign (mD_done 3 (by decide) (pre_at h2 0 rfl rfl) rfl rfl rfl) rfl hK))
            (Steps'.cons (Step.op rfl (fun D h1 h2 h3 K hK => op_assign rfl rfl hK))
            Steps'.nil))))))) ?_
          refine At.keep [(4, _), (5, _), (6, _)] (.cons rfl (.cons rfl (.cons rfl .nil))) ?_
          refine At.then_n ?_
          refine At.ret ?_
          refine At.fin3 rfl rfl rfl rfl rfl ⟨?_, rfl⟩ .nil
          rw [if_neg (by omega)]; rfl
end Go.Proofs.YtcppimolaiinhaaDoor
