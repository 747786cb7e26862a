/- Walks of the program's functions. -/
import Derived.Test.YteckdahgkkmlaaaGreatDoorSLLib
import Derived.Test.YteckdahgkkmlaaaGreatDoorSLBuilder
import Derived.Test.YteckdahgkkmlaaaGreatDoorSLSpecA
import Derived.KernelRfl
set_option maxRecDepth 20000
set_option linter.unusedVariables false
set_option linter.unusedSimpArgs false
namespace Go.Proofs.YteckdahgkkmlaaaGreatDoor
open Go SL
variable {G : List (Nat × Obj)}
theorem field_Number (n : UInt64) (w : Nat) (h1 : 1 ≤ w) (h8 : w ≤ 8) (hn : n.toNat < 2 ^ (8 * w)) : Does Tryz.prog G 40 [u64 n, i64 w] [] (One (.tuple #[str (leB n.toNat w), i64 0])) := by
  refine Does.of Tryz.func40 rfl Tryz.ntmps40 rfl (fun w0 => ?_)
  refine At.keep [(0, _), (1, _)] (.cons rfl (.cons rfl .nil)) ?_
  refine At.seq ?_
  refine At.region ?_
  refine At.op rfl (op_assign rfl rfl ?_)
  refine At.op rfl (op_assign rfl rfl ?_)
  refine At.nil ?_
  refine At.then_n ?_
  refine At.seq ?_
  refine At.seq ?_
  refine At.region ?_
  refine At.op rfl (op_move rfl rfl ?_)
  refine At.op rfl (op_bin rfl rfl b_lt rfl ?_)
  refine At.op rfl (op_move rfl rfl ?_)
  refine At.dsplit (i := 10) rfl (fun hg1 => ?_) (fun hg1 => ?_)
  ·
    exfalso; omega
  ·
    refine At.opg rfl rfl rfl (op_move rfl rfl ?_)
    refine At.opg rfl rfl rfl (op_bin rfl rfl b_gt rfl ?_)
    refine At.op rfl (op_pick_f rfl rfl rfl ?_)
    refine At.op rfl (op_move rfl rfl ?_)
    refine At.dsplit (i := 14) rfl (fun hg1 => ?_) (fun hg1 => ?_)
    ·
      exfalso; omega
    ·
      refine At.opg rfl rfl rfl (op_move rfl rfl ?_)
      refine At.opg rfl rfl rfl (op_call1 rfl Tryz.call61 (bits_Len64 n) rfl ?_)
      refine At.opg rfl rfl rfl (op_move rfl rfl ?_)
      refine At.opg rfl rfl rfl (op_bin rfl rfl (b_mul (by omega) (by omega)) rfl ?_)
      refine At.opg rfl rfl rfl (op_bin rfl rfl b_gt rfl ?_)
      refine At.op rfl (op_pick_f rfl rfl rfl ?_)
      refine At.nil ?_
      refine At.then_n ?_
      refine At.cond_p rfl (fun hc0 => ?_) (fun hc0 => ?_)
      ·
        have := bitLen_le (k := 8 * w) hn; exfalso; omega
      ·
        refine At.skip ?_
        refine At.then_n ?_
        refine At.seq ?_
        refine At.keep [(0, _), (1, _), (4, _), (5, _)] (.cons rfl (.cons rfl (.cons rfl (.cons rfl .nil)))) ?_
        refine At.region ?_
        refine At.op rfl (op_alloc Tryz.zeroValue110 rfl rfl ?_)
        intro b
        refine At.own0 5 1 ?_
        refine At.nil ?_
        refine At.then_n ?_
        refine At.seq ?_
        refine At.seq ?_
        refine At.region ?_
        refine At.op rfl (op_move rfl rfl ?_)
        refine At.op rfl (op_move rfl rfl ?_)
        refine At.nil ?_
        refine At.then_n ?_
        refine At.block ?_
        refine At.cut (rs' := (fun s => [row b [s.2.2.2, .slice s.2.1 (leB n.toNat s.1).length s.2.2.1] 110 (0, 0), ownS s.2.1 s.2.2.1 ((leB n.toNat s.1).map u8) 5 1]) ((0, none, 0, .pointer none) : Nat × Option Addr × Nat × Value)) (.cons (by first | exact Pull.p0 | exact Pull.p1 | exact Pull.p2 | exact Pull.p3 | exact Pull.p4 | exact Pull.p5 | exact Pull.p6 | exact Pull.p7 | exact Pull.p8 | exact Pull.p9) (.cons (by first | exact Pull.p0 | exact Pull.p1 | exact Pull.p2 | exact Pull.p3 | exact Pull.p4 | exact Pull.p5 | exact Pull.p6 | exact Pull.p7 | exact Pull.p8 | exact Pull.p9) .nil)) ?_
        refine At.keep ((fun s => [(0, u64 n), (1, i64 w), (6, ptr b 0), (21, i64 w), (22, i64 s.1)]) ((0, none, 0, .pointer none) : Nat × Option Addr × Nat × Value)) (.cons rfl (.cons rfl (.cons rfl (.cons rfl (.cons rfl .nil))))) ?_
        refine At.loop (σ := Nat × Option Addr × Nat × Value) (fun s => s.1 ≤ w ∧ (s.2.2.2 = .pointer none ∨ s.2.2.2 = ptr b 0)) (fun s => [(0, u64 n), (1, i64 w), (6, ptr b 0), (21, i64 w), (22, i64 s.1)]) (fun s => [row b [s.2.2.2, .slice s.2.1 (leB n.toNat s.1).length s.2.2.1] 110 (0, 0), ownS s.2.1 s.2.2.1 ((leB n.toNat s.1).map u8) 5 1]) (fun s => w - s.1) ((0, none, 0, .pointer none) : Nat × Option Addr × Nat × Value) ⟨Nat.zero_le _, .inl rfl⟩ ?_
        rintro ⟨k, ad, cap, p⟩ ⟨hk, hp⟩
        dsimp only at hk hp ⊢
        refine At.seq ?_
        refine At.region ?_
        refine At.op rfl (op_bin rfl rfl b_lt rfl ?_)
        refine At.nil ?_
        refine At.then_n ?_
        refine At.seq ?_
        refine At.cond_p rfl (fun hc1 => ?_) (fun hc1 => ?_)
        ·
          refine At.skip ?_
          refine At.then_n ?_
          refine At.seq ?_
          refine At.block ?_
          refine At.seq ?_
          refine At.region ?_
          refine At.op rfl (op_move rfl rfl ?_)
          refine At.op rfl (op_assign rfl rfl ?_)
          refine At.nil ?_
          refine At.then_n ?_
          refine At.region ?_
          refine At.op rfl (op_move rfl rfl ?_)
          refine At.op rfl (op_move rfl rfl ?_)
          refine At.op rfl (op_bin rfl rfl (Bin.cast (v' := i64 ((8 * k : Nat) : Int)) (b_mul (by omega) (by omega)) (by simp [i64])) rfl ?_)
          refine At.op rfl (op_bin rfl rfl (b64_shr n _ (8 * k) (by omega)) rfl ?_)
          refine At.op rfl (op_conv rfl (cv_u64_u8 Tryz.underlying40 Tryz.underlying5 _) rfl ?_)
          refine At.op rfl (op_callF rfl Tryz.call62 (WriteByte_any b (leB n.toNat k).length cap ad p ((leB n.toNat k).map u8) _ hp (by simp) (by rw [leB_length]; omega)) (.cons (by first | with_reducible exact Pull.p0 | with_reducible exact Pull.p1 | with_reducible exact Pull.p2 | with_reducible exact Pull.p3 | with_reducible exact Pull.p4 | with_reducible exact Pull.p5 | with_reducible exact Pull.p6 | with_reducible exact Pull.p7 | with_reducible exact Pull.p8 | with_reducible exact Pull.p9) (.cons (by first | with_reducible exact Pull.p0 | with_reducible exact Pull.p1 | with_reducible exact Pull.p2 | with_reducible exact Pull.p3 | with_reducible exact Pull.p4 | with_reducible exact Pull.p5 | with_reducible exact Pull.p6 | with_reducible exact Pull.p7 | with_reducible exact Pull.p8 | with_reducible exact Pull.p9) .nil)) rfl ?_)
          rintro v _ ⟨ad2, cap2, rfl, rfl⟩
          refine At.app2 ?_
          refine At.nil ?_
          refine At.blk_n ?_
          refine At.then_n ?_
          refine At.region ?_
          refine At.op rfl (op_bin rfl rfl (b_add (by omega) (by omega)) rfl ?_)
          refine At.op rfl (op_move rfl rfl ?_)
          refine At.nil ?_
          refine At.then_n ?_
          rw [show (leB n.toNat k).map u8 ++ [u8 (n >>> UInt64.ofNat (8 * k)).toUInt8] = (leB n.toNat (k + 1)).map u8 by rw [leB_snoc, shr_byte n k (by omega), List.map_append]; rfl, show (leB n.toNat k).length + 1 = (leB n.toNat (k + 1)).length by simp [leB_length]]
          exact At.back (k + 1, ad2, cap2, ptr b 0) ⟨by dsimp only; omega, .inr rfl⟩ (by dsimp only; omega) (.cons rfl (.cons rfl (.cons rfl (.cons rfl (.cons rfl .nil))))) (.cons (by first | with_reducible exact Pull.p0 | with_reducible exact Pull.p1 | with_reducible exact Pull.p2 | with_reducible exact Pull.p3 | with_reducible exact Pull.p4 | with_reducible exact Pull.p5 | with_reducible exact Pull.p6 | with_reducible exact Pull.p7 | with_reducible exact Pull.p8 | with_reducible exact Pull.p9) (.cons (by first | with_reducible exact Pull.p0 | with_reducible exact Pull.p1 | with_reducible exact Pull.p2 | with_reducible exact Pull.p3 | with_reducible exact Pull.p4 | with_reducible exact Pull.p5 | with_reducible exact Pull.p6 | with_reducible exact Pull.p7 | with_reducible exact Pull.p8 | with_reducible exact Pull.p9) .nil))
        ·
          refine At.exit ?_
          refine At.then_e ?_
          refine At.then_e ?_
          refine At.blk_e ?_
          refine At.then_n ?_
          refine At.seq ?_
          refine At.region ?_
          refine At.op rfl (op_callF rfl Tryz.call63 (String_any b cap ad p (leB n.toNat k) (by intro e; have := congrArg List.length e; rw [leB_length] at this; simp at this; omega)) (.cons (by first | with_reducible exact Pull.p0 | with_reducible exact Pull.p1 | with_reducible exact Pull.p2 | with_reducible exact Pull.p3 | with_reducible exact Pull.p4 | with_reducible exact Pull.p5 | with_reducible exact Pull.p6 | with_reducible exact Pull.p7 | with_reducible exact Pull.p8 | with_reducible exact Pull.p9) (.cons (by first | with_reducible exact Pull.p0 | with_reducible exact Pull.p1 | with_reducible exact Pull.p2 | with_reducible exact Pull.p3 | with_reducible exact Pull.p4 | with_reducible exact Pull.p5 | with_reducible exact Pull.p6 | with_reducible exact Pull.p7 | with_reducible exact Pull.p8 | with_reducible exact Pull.p9) .nil)) rfl ?_)
          rintro v _ ⟨rfl, rfl⟩
          refine At.app0 ?_
          obtain rfl : k = w := by omega
          refine At.op rfl (op_assign rfl rfl ?_)
          refine At.op rfl (op_assign rfl rfl ?_)
          refine At.nil ?_
          refine At.then_n ?_
          refine At.ret ?_
          exact At.fin2 rfl rfl rfl rfl ⟨rfl, rfl⟩ .nil
theorem field_Text (s : List UInt8) (hs : s.length ≤ 1000) : Does Tryz.prog G 41 [str s] [] (One (.tuple #[str (leB s.length 2 ++ s), i64 0])) := by
  refine Does.of Tryz.func41 rfl Tryz.ntmps41 rfl (fun w0 => ?_)
  refine At.keep [(0, _)] (.cons rfl .nil) ?_
  refine At.seq ?_
  refine At.region ?_
  refine At.op rfl (op_assign rfl rfl ?_)
  refine At.op rfl (op_assign rfl rfl ?_)
  refine At.nil ?_
  refine At.then_n ?_
  refine At.seq ?_
  refine At.seq ?_
  refine At.region ?_
  refine At.op rfl (op_move rfl rfl ?_)
  refine At.op rfl (op_len_str rfl Tryz.underlying9 rfl ?_)
  refine At.op rfl (op_bin rfl rfl b_gt rfl ?_)
  refine At.nil ?_
  refine At.then_n ?_
  refine At.cond_p rfl (fun hc0 => ?_) (fun hc0 => ?_)
  ·
    exfalso; omega
  ·
    refine At.skip ?_
    refine At.then_n ?_
    refine At.seq ?_
    refine At.region ?_
    refine At.op rfl (op_move rfl rfl ?_)
    refine At.op rfl (op_len_str rfl Tryz.underlying9 rfl ?_)
    refine At.op rfl (op_conv rfl (cv_i64_u64 Tryz.underlying3 Tryz.underlying40 s.length) rfl ?_)
    refine At.op rfl (op_call1 rfl Tryz.call40 (field_Number (UInt64.ofNat s.length) 2 (by decide) (by decide) (by rw [UInt64.toNat_ofNat']; omega)) rfl ?_)
    refine At.op rfl (op_move rfl rfl ?_)
    refine At.op rfl (op_extractL rfl .zero rfl ?_)
    refine At.op rfl (op_extractL rfl (.succ .zero) rfl ?_)
    refine At.op rfl (op_assign rfl rfl ?_)
    refine At.op rfl (op_assign rfl rfl ?_)
    refine At.nil ?_
    refine At.then_n ?_
    refine At.seq ?_
    refine At.region ?_
    refine At.op rfl (op_move rfl rfl ?_)
    refine At.op rfl (op_move rfl rfl ?_)
    refine At.op rfl (op_bin rfl rfl (b_cat (by rw [leB_length]; omega)) rfl ?_)
    refine At.op rfl (op_assign rfl rfl ?_)
    refine At.op rfl (op_assign rfl rfl ?_)
    refine At.nil ?_
    refine At.then_n ?_
    refine At.ret ?_
    refine At.fin2 rfl rfl rfl rfl ⟨?_, rfl⟩ .nil
    rw [UInt64.toNat_ofNat', Nat.mod_eq_of_lt (by omega)]
theorem field_TakeNumber (s : List UInt8) (w : Nat) (h1 : 1 ≤ w) (h8 : w ≤ 8) (hs : s.length < 100000000) : Does Tryz.prog G 56 [str s, i64 w] [] (One (if s.length < w then .tuple #[u64 0, str [], i64 10] else .tuple #[u64 (UInt64.ofNat (leN (s.take w))), str (s.drop w), i64 0])) := by
  refine Does.of Tryz.func56 rfl Tryz.ntmps56 rfl (fun w0 => ?_)
  refine At.keep [(0, _), (1, _)] (.cons rfl (.cons rfl .nil)) ?_
  refine At.seq ?_
  refine At.region ?_
  refine At.op rfl (op_assign rfl rfl ?_)
  refine At.op rfl (op_assign rfl rfl ?_)
  refine At.op rfl (op_assign rfl rfl ?_)
  refine At.nil ?_
  refine At.then_n ?_
  refine At.seq ?_
  refine At.block ?_
  refine At.seq ?_
  refine At.region ?_
  refine At.op rfl (op_move rfl rfl ?_)
  refine At.op rfl (op_bin rfl rfl b_lt rfl ?_)
  refine At.op rfl (op_move rfl rfl ?_)
  refine At.dsplit (i := 13) rfl (fun hg1 => ?_) (fun hg1 => ?_)
  ·
    exfalso; omega
  ·
    refine At.opg rfl rfl rfl (op_move rfl rfl ?_)
    refine At.opg rfl rfl rfl (op_bin rfl rfl b_gt rfl ?_)
    refine At.op rfl (op_pick_f rfl rfl rfl ?_)
    refine At.op rfl (op_assign rfl rfl ?_)
    refine At.nil ?_
    refine At.then_n ?_
    refine At.cond_p rfl (fun hc0 => ?_) (fun hc0 => ?_)
    ·
      exfalso; omega
    ·
      refine At.seq ?_
      refine At.region ?_
      refine At.op rfl (op_move rfl rfl ?_)
      refine At.op rfl (op_len_str rfl Tryz.underlying9 rfl ?_)
      refine At.op rfl (op_move rfl rfl ?_)
      refine At.op rfl (op_bin rfl rfl b_lt rfl ?_)
      refine At.op rfl (op_assign rfl rfl ?_)
      refine At.nil ?_
      refine At.then_n ?_
      refine At.cond_p rfl (fun hc1 => ?_) (fun hc1 => ?_)
      ·
        refine At.seq ?_
        refine At.keep [(0, _), (1, _), (4, _), (5, _), (6, _)] (.cons rfl (.cons rfl (.cons rfl (.cons rfl (.cons rfl .nil))))) ?_
        refine At.region ?_
        refine At.op rfl (op_assign rfl rfl ?_)
        refine At.op rfl (op_assign rfl rfl ?_)
        refine At.op rfl (op_assign rfl rfl ?_)
        refine At.nil ?_
        refine At.then_n ?_
        refine At.ret ?_
        refine At.blk_r ?_
        refine At.then_r ?_
        refine At.fin3 rfl rfl rfl rfl rfl ⟨?_, rfl⟩ .nil
        rw [if_pos (by omega)]; rfl
      ·
        refine At.skip ?_
        refine At.blk_n ?_
        refine At.then_n ?_
        refine At.seq ?_
        refine At.keep [(0, _), (1, _), (4, _), (5, _), (6, _)] (.cons rfl (.cons rfl (.cons rfl (.cons rfl (.cons rfl .nil))))) ?_
        refine At.region ?_
        refine At.op rfl (op_assign rfl rfl ?_)
        refine At.nil ?_
        refine At.then_n ?_
        refine At.seq ?_
        refine At.seq ?_
        refine At.region ?_
        refine At.op rfl (op_move rfl rfl ?_)
        refine At.op rfl (op_move rfl rfl ?_)
        refine At.op rfl (op_sl_str_hi rfl rfl Tryz.underlying9 (by omega) (by omega) rfl ?_)
        rw [Int.toNat_natCast]
        have hl : (s.take w).length = w := by rw [List.length_take]; omega
        refine At.op rfl (op_bytes rfl Tryz.underlying9 Tryz.underlying47 Tryz.underlying5 rfl ?_)
        intro b cb hcb
        refine At.op rfl (op_len_slc rfl Tryz.underlying47 rfl ?_)
        refine At.op rfl (op_move rfl rfl ?_)
        refine At.nil ?_
        refine At.then_n ?_
        refine At.block ?_
        refine At.cut (rs' := (fun _ => [row b ((s.take w).map u8 ++ List.replicate (cb - (s.take w).length) (u8 0)) 5 (cb, cb + 1)]) (0 : Nat)) (.cons (by first | exact Pull.p0 | exact Pull.p1 | exact Pull.p2 | exact Pull.p3 | exact Pull.p4 | exact Pull.p5 | exact Pull.p6 | exact Pull.p7 | exact Pull.p8 | exact Pull.p9) .nil) ?_
        refine At.keep ((fun k => [(0, str s), (1, i64 w), (7, u64 (UInt64.ofNat (leN ((s.take w).take k)))), (25, slc b 0 (s.take w).length cb), (26, i64 (s.take w).length), (27, i64 k)]) (0 : Nat)) (.cons rfl (.cons rfl (.cons rfl (.cons rfl (.cons rfl (.cons rfl .nil)))))) ?_
        refine At.loop (σ := Nat) (fun k => k ≤ w) (fun k => [(0, str s), (1, i64 w), (7, u64 (UInt64.ofNat (leN ((s.take w).take k)))), (25, slc b 0 (s.take w).length cb), (26, i64 (s.take w).length), (27, i64 k)]) (fun _ => [row b ((s.take w).map u8 ++ List.replicate (cb - (s.take w).length) (u8 0)) 5 (cb, cb + 1)]) (fun k => w - k) (0 : Nat) (Nat.zero_le _) ?_
        rintro k hk
        refine At.seq ?_
        refine At.region ?_
        refine At.op rfl (op_bin rfl rfl b_lt rfl ?_)
        refine At.nil ?_
        refine At.then_n ?_
        refine At.seq ?_
        refine At.cond_p rfl (fun hlt => ?_) (fun hlt => ?_)
        ·
          obtain ⟨x, hx⟩ : ∃ x, (s.take w)[k]? = some x := ⟨_, List.getElem?_eq_getElem (by omega)⟩
          refine At.skip ?_
          refine At.then_n ?_
          refine At.seq ?_
          refine At.block ?_
          refine At.seq ?_
          refine At.region ?_
          refine At.op rfl (op_move rfl rfl ?_)
          refine At.op rfl (op_indexS rfl rfl Tryz.underlying47 Tryz.sizeOf5 (by omega) (by omega) rfl ?_)
          refine At.op rfl (op_load rfl Tryz.isAgg5 (by first | with_reducible exact Pull.p0 | with_reducible exact Pull.p1 | with_reducible exact Pull.p2 | with_reducible exact Pull.p3 | with_reducible exact Pull.p4 | with_reducible exact Pull.p5 | with_reducible exact Pull.p6 | with_reducible exact Pull.p7 | with_reducible exact Pull.p8 | with_reducible exact Pull.p9) (map_get _ hx) rfl ?_)
          refine At.op rfl (op_assign rfl rfl ?_)
          refine At.op rfl (op_assign rfl rfl ?_)
          refine At.nil ?_
          refine At.then_n ?_
          refine At.region ?_
          refine At.op rfl (op_move rfl rfl ?_)
          refine At.op rfl (op_move rfl rfl ?_)
          refine At.op rfl (op_conv rfl (cv_u8_u64 Tryz.underlying5 Tryz.underlying40 _) rfl ?_)
          refine At.op rfl (op_move rfl rfl ?_)
          refine At.op rfl (op_bin rfl rfl (Bin.cast (v' := i64 ((8 * k : Nat) : Int)) (b_mul (by omega) (by omega)) (by simp [i64])) rfl ?_)
          refine At.op rfl (op_bin rfl rfl (b64_shl x.toUInt64 _ (8 * k) (by omega)) rfl ?_)
          refine At.op rfl (op_bin rfl rfl (b64_or _ _) rfl ?_)
          refine At.op rfl (op_assign rfl rfl ?_)
          refine At.nil ?_
          refine At.blk_n ?_
          refine At.then_n ?_
          refine At.keep [(0, _), (1, _), (25, _), (26, _), (27, _), (7, _)] (.cons rfl (.cons rfl (.cons rfl (.cons rfl (.cons rfl (.cons rfl .nil)))))) ?_
          refine At.region ?_
          refine At.op rfl (op_bin rfl rfl (b_add (by omega) (by omega)) rfl ?_)
          refine At.op rfl (op_move rfl rfl ?_)
          refine At.nil ?_
          refine At.then_n ?_
          have e2 : ((s.take w).take k).length = k := by rw [List.length_take]; omega
          have e3 := or_byte ((s.take w).take k) x (by omega)
          rw [e2, ← take_snoc _ k x hx] at e3
          rw [e3]
          exact At.back (k + 1) (by omega) (by omega) (.cons rfl (.cons rfl (.cons rfl (.cons rfl (.cons rfl (.cons rfl .nil)))))) (.cons (by first | with_reducible exact Pull.p0 | with_reducible exact Pull.p1 | with_reducible exact Pull.p2 | with_reducible exact Pull.p3 | with_reducible exact Pull.p4 | with_reducible exact Pull.p5 | with_reducible exact Pull.p6 | with_reducible exact Pull.p7 | with_reducible exact Pull.p8 | with_reducible exact Pull.p9) .nil)
        ·
          have hk2 : (s.take w).take k = s.take w := List.take_of_length_le (by omega)
          refine At.exit ?_
          refine At.then_e ?_
          refine At.then_e ?_
          refine At.blk_e ?_
          refine At.then_n ?_
          refine At.seq ?_
          refine At.drawC [_, _, _, _, _, _, _] (by kernel_rfl) (by decide) (by kernel_rfl) 
            (Steps'.cons (Step.op rfl (fun D h1 h2 h3 K hK => op_move (mD_base rfl rfl) rfl hK))
            (Steps'.cons (Step.op rfl (fun D h1 h2 h3 K hK => op_move (mD_base rfl rfl) rfl hK))
            (Steps'.cons (Step.op rfl (fun D h1 h2 h3 K hK => op_move (mD_base rfl rfl) rfl hK))
            (Steps'.cons (Step.op rfl (fun D h1 h2 h3 K hK => op_sl_str_lo (mD_done 1 (by decide) (pre_at h2 0 rfl rfl) rfl rfl rfl) (mD_done 2 (by decide) (pre_at h2 1 rfl rfl) rfl rfl rfl) Tryz.underlying9 (by omega) (by omega) rfl hK))
            (Steps'.cons (Step.op rfl (fun D h1 h2 h3 K hK => op_assign (mD_done 0 (by decide) (pre_at h2 0 rfl rfl) rfl rfl rfl) rfl hK))
            (Steps'.cons (Step.op rfl (fun D h1 h2 h3 K hK => op_assign (mD_done 3 (by decide) (pre_at h2 0 rfl rfl) rfl rfl rfl) rfl hK))
            (Steps'.cons (Step.op rfl (fun D h1 h2 h3 K hK => op_assign rfl rfl hK))
            Steps'.nil))))))) ?_
          refine At.keep [(4, _), (5, _), (6, _)] (.cons rfl (.cons rfl (.cons rfl .nil))) ?_
          refine At.then_n ?_
          refine At.ret ?_
          refine At.fin3 rfl rfl rfl rfl rfl ⟨?_, rfl⟩ .nil
          rw [if_neg (by omega), hk2]; rfl
theorem field_TakeText_1 (n : Nat) (s : List UInt8) : Does Tryz.prog G 72 [i64 n, str s] [] (One (if 1000 < n then .tuple #[str [], str [], i64 11] else if s.length < n then .tuple #[str [], str [], i64 10] else .tuple #[str (s.take n), str (s.drop n), i64 0])) := by
  refine Does.of Tryz.func72 rfl Tryz.ntmps72 rfl (fun w0 => ?_)
  refine At.keep [(0, _), (1, _)] (.cons rfl (.cons rfl .nil)) ?_
  refine At.seq ?_
  refine At.region ?_
  refine At.op rfl (op_assign rfl rfl ?_)
  refine At.op rfl (op_assign rfl rfl ?_)
  refine At.op rfl (op_assign rfl rfl ?_)
  refine At.nil ?_
  refine At.then_n ?_
  refine At.seq ?_
  refine At.block ?_
  refine At.seq ?_
  refine At.region ?_
  refine At.op rfl (op_move rfl rfl ?_)
  refine At.op rfl (op_bin rfl rfl b_gt rfl ?_)
  refine At.op rfl (op_assign rfl rfl ?_)
  refine At.nil ?_
  refine At.then_n ?_
  refine At.cond_p rfl (fun hc0 => ?_) (fun hc0 => ?_)
  ·
    refine At.seq ?_
    refine At.region ?_
    refine At.op rfl (op_assign rfl rfl ?_)
    refine At.op rfl (op_assign rfl rfl ?_)
    refine At.op rfl (op_assign rfl rfl ?_)
    refine At.nil ?_
    refine At.then_n ?_
    refine At.ret ?_
    refine At.blk_r ?_
    refine At.then_r ?_
    refine At.fin3 rfl rfl rfl rfl rfl ⟨?_, rfl⟩ .nil
    rw [if_pos (by omega)]; rfl
  ·
    refine At.seq ?_
    refine At.region ?_
    refine At.op rfl (op_move rfl rfl ?_)
    refine At.op rfl (op_move rfl rfl ?_)
    refine At.op rfl (op_len_str rfl Tryz.underlying9 rfl ?_)
    refine At.op rfl (op_bin rfl rfl b_gt rfl ?_)
    refine At.op rfl (op_assign rfl rfl ?_)
    refine At.nil ?_
    refine At.then_n ?_
    refine At.cond_p rfl (fun hc1 => ?_) (fun hc1 => ?_)
    ·
      refine At.seq ?_
      refine At.region ?_
      refine At.op rfl (op_assign rfl rfl ?_)
      refine At.op rfl (op_assign rfl rfl ?_)
      refine At.op rfl (op_assign rfl rfl ?_)
      refine At.nil ?_
      refine At.then_n ?_
      refine At.ret ?_
      refine At.blk_r ?_
      refine At.then_r ?_
      refine At.fin3 rfl rfl rfl rfl rfl ⟨?_, rfl⟩ .nil
      rw [if_neg (by omega), if_pos (by omega)]; rfl
    ·
      refine At.skip ?_
      refine At.blk_n ?_
      refine At.then_n ?_
      refine At.seq ?_
      refine At.drawC [_, _, _, _, _, _, _, _, _] (by kernel_rfl) (by decide) (by kernel_rfl) 
        (Steps'.cons (Step.op rfl (fun D h1 h2 h3 K hK => op_move (mD_base rfl rfl) rfl hK))
        (Steps'.cons (Step.op rfl (fun D h1 h2 h3 K hK => op_move (mD_base rfl rfl) rfl hK))
        (Steps'.cons (Step.op rfl (fun D h1 h2 h3 K hK => op_sl_str_hi (mD_done 0 (by decide) (pre_at h2 0 rfl rfl) rfl rfl rfl) (mD_done 1 (by decide) (pre_at h2 1 rfl rfl) rfl rfl rfl) Tryz.underlying9 (by omega) (by omega) rfl hK))
        (Steps'.cons (Step.op rfl (fun D h1 h2 h3 K hK => op_move (mD_base rfl rfl) rfl hK))
        (Steps'.cons (Step.op rfl (fun D h1 h2 h3 K hK => op_move (mD_base rfl rfl) rfl hK))
        (Steps'.cons (Step.op rfl (fun D h1 h2 h3 K hK => op_sl_str_lo (mD_done 3 (by decide) (pre_at h2 0 rfl rfl) rfl rfl rfl) (mD_done 4 (by decide) (pre_at h2 1 rfl rfl) rfl rfl rfl) Tryz.underlying9 (by omega) (by omega) rfl hK))
        (Steps'.cons (Step.op rfl (fun D h1 h2 h3 K hK => op_assign (mD_done 2 (by decide) (pre_at h2 0 rfl rfl) rfl rfl rfl) rfl hK))
        (Steps'.cons (Step.op rfl (fun D h1 h2 h3 K hK => op_assign (mD_done 5 (by decide) (pre_at h2 0 rfl rfl) rfl rfl rfl) rfl hK))
        (Steps'.cons (Step.op rfl (fun D h1 h2 h3 K hK => op_assign rfl rfl hK))
        Steps'.nil))))))))) ?_
      refine At.keep [(4, _), (5, _), (6, _)] (.cons rfl (.cons rfl (.cons rfl .nil))) ?_
      refine At.then_n ?_
      refine At.ret ?_
      refine At.fin3 rfl rfl rfl rfl rfl ⟨?_, rfl⟩ .nil
      rw [if_neg (by omega), if_neg (by omega)]; rfl
def ttE (s : List UInt8) : Nat :=
  if s.length < 2 then 10 else if 1000 < leN (s.take 2) then 11 else if s.length - 2 < leN (s.take 2) then 10 else 0
def ttT (s : List UInt8) : List UInt8 := if ttE s = 0 then (s.drop 2).take (leN (s.take 2)) else []
def ttR (s : List UInt8) : List UInt8 := if ttE s = 0 then (s.drop 2).drop (leN (s.take 2)) else []
def ttV (s : List UInt8) : Value := .tuple #[str (ttT s), str (ttR s), i64 (ttE s)]
theorem ttV_short (s : List UInt8) (h : s.length < 2) : ttV s = .tuple #[str [], str [], i64 10] := by
  have e : ttE s = 10 := by simp [ttE, h]
  simp [ttV, ttT, ttR, e]
theorem ttV_long (s : List UInt8) (h : ¬ s.length < 2) : (if 1000 < leN (s.take 2) then Value.tuple #[str [], str [], i64 11] else if (s.drop 2).length < leN (s.take 2) then .tuple #[str [], str [], i64 10] else .tuple #[str ((s.drop 2).take (leN (s.take 2))), str ((s.drop 2).drop (leN (s.take 2))), i64 0]) = ttV s := by
  rw [List.length_drop]
  split
  · rename_i h3
    have e : ttE s = 11 := by simp [ttE, h, h3]
    simp [ttV, ttT, ttR, e]
  · rename_i h3
    split
    · rename_i h4
      have e : ttE s = 10 := by simp [ttE, h, h3, h4]
      simp [ttV, ttT, ttR, e]
    · rename_i h4
      have e : ttE s = 0 := by simp [ttE, h, h3, h4]
      simp [ttV, ttT, ttR, e]
theorem field_taken (s : List UInt8) (hs : s.length < 100000000) : Does Tryz.prog G 71 [str s, i64 2, .func (.func 72) #[] #[]] [] (One (ttV s)) := by
  refine Does.of Tryz.func71 rfl Tryz.ntmps71 rfl (fun w0 => ?_)
  refine At.keep [(0, _), (1, _), (2, _)] (.cons rfl (.cons rfl (.cons rfl .nil))) ?_
  refine At.seq ?_
  refine At.region ?_
  refine At.op rfl (op_assign rfl rfl ?_)
  refine At.op rfl (op_assign rfl rfl ?_)
  refine At.op rfl (op_assign rfl rfl ?_)
  refine At.nil ?_
  refine At.then_n ?_
  refine At.seq ?_
  refine At.region ?_
  refine At.op rfl (op_move rfl rfl ?_)
  refine At.op rfl (op_move rfl rfl ?_)
  refine At.op rfl (op_callF rfl Tryz.call56 (field_TakeNumber s 2 (by decide) (by decide) hs) .nil rfl ?_)
  rintro v _ ⟨hv, rfl⟩
  refine At.app0 ?_
  rcases Decidable.em (s.length < 2) with hlt | hlt
  ·
    rw [if_pos hlt] at hv
    subst hv
    refine At.op rfl (op_move rfl rfl ?_)
    refine At.op rfl (op_extractL rfl .zero rfl ?_)
    refine At.op rfl (op_extractL rfl (.succ .zero) rfl ?_)
    refine At.op rfl (op_extractL rfl (.succ (.succ .zero)) rfl ?_)
    refine At.op rfl (op_assign rfl rfl ?_)
    refine At.op rfl (op_assign rfl rfl ?_)
    refine At.op rfl (op_assign rfl rfl ?_)
    refine At.nil ?_
    refine At.then_n ?_
    refine At.seq ?_
    refine At.seq ?_
    refine At.region ?_
    refine At.op rfl (op_move rfl rfl ?_)
    refine At.op rfl (op_bin rfl rfl b_ne rfl ?_)
    refine At.nil ?_
    refine At.then_n ?_
    refine At.cond_np rfl (fun hc0 => ?_) (fun hc0 => ?_)
    ·
      refine At.seq ?_
      refine At.region ?_
      refine At.op rfl (op_move rfl rfl ?_)
      refine At.op rfl (op_move rfl rfl ?_)
      refine At.op rfl (op_assign rfl rfl ?_)
      refine At.op rfl (op_assign rfl rfl ?_)
      refine At.op rfl (op_assign rfl rfl ?_)
      refine At.nil ?_
      refine At.then_n ?_
      refine At.ret ?_
      refine At.then_r ?_
      refine At.fin3 rfl rfl rfl rfl rfl ⟨?_, rfl⟩ .nil
      rw [ttV_short s hlt]; rfl
    ·
      omega
  ·
    rw [if_neg hlt] at hv
    subst hv
    have hb : leN (s.take 2) < 65536 := by
      have := leN_lt (s.take 2)
      rw [show (s.take 2).length = 2 by rw [List.length_take]; omega] at this
      exact this
    have hb2 : (UInt64.ofNat (leN (s.take 2))).toNat = leN (s.take 2) := by rw [UInt64.toNat_ofNat']; omega
    refine At.op rfl (op_move rfl rfl ?_)
    refine At.op rfl (op_extractL rfl .zero rfl ?_)
    refine At.op rfl (op_extractL rfl (.succ .zero) rfl ?_)
    refine At.op rfl (op_extractL rfl (.succ (.succ .zero)) rfl ?_)
    refine At.op rfl (op_assign rfl rfl ?_)
    refine At.op rfl (op_assign rfl rfl ?_)
    refine At.op rfl (op_assign rfl rfl ?_)
    refine At.nil ?_
    refine At.then_n ?_
    refine At.seq ?_
    refine At.seq ?_
    refine At.region ?_
    refine At.op rfl (op_move rfl rfl ?_)
    refine At.op rfl (op_bin rfl rfl b_ne rfl ?_)
    refine At.nil ?_
    refine At.then_n ?_
    refine At.cond_np rfl (fun hc0 => ?_) (fun hc0 => ?_)
    ·
      omega
    ·
      refine At.skip ?_
      refine At.then_n ?_
      refine At.seq ?_
      refine At.region ?_
      refine At.op rfl (op_move rfl rfl ?_)
      refine At.op rfl (op_move rfl rfl ?_)
      refine At.op rfl (op_conv rfl (show ∀ w, (convert 40 3 (u64 (UInt64.ofNat (leN (s.take 2))))).run Tryz.prog w = .ok (i64 (leN (s.take 2))) w from fun w => by rw [cv_u64_i64 Tryz.underlying40 Tryz.underlying3 (UInt64.ofNat (leN (s.take 2))) (by rw [hb2]; omega) w, hb2]) rfl ?_)
      refine At.op rfl (op_move rfl rfl ?_)
      refine At.op rfl (op_callC (fs := []) (cap := []) rfl rfl Tryz.call72 rfl (field_TakeText_1 (leN (s.take 2)) (s.drop 2)) .nil rfl ?_)
      rintro v _ ⟨hv, rfl⟩
      refine At.app0 ?_
      rw [ttV_long s hlt] at hv
      subst hv
      refine At.op rfl (op_extractL rfl .zero rfl ?_)
      refine At.op rfl (op_extractL rfl (.succ .zero) rfl ?_)
      refine At.op rfl (op_extractL rfl (.succ (.succ .zero)) rfl ?_)
      refine At.op rfl (op_assign rfl rfl ?_)
      refine At.op rfl (op_assign rfl rfl ?_)
      refine At.op rfl (op_assign rfl rfl ?_)
      refine At.nil ?_
      refine At.then_n ?_
      refine At.ret ?_
      refine At.fin3 rfl rfl rfl rfl rfl ⟨?_, rfl⟩ .nil
      rfl
theorem field_TakeText (s : List UInt8) (hs : s.length < 100000000) : Does Tryz.prog G 57 [str s] [] (One (ttV s)) := by
  refine Does.of Tryz.func57 rfl Tryz.ntmps57 rfl (fun w0 => ?_)
  refine At.keep [(0, _)] (.cons rfl .nil) ?_
  refine At.seq ?_
  refine At.region ?_
  refine At.op rfl (op_assign rfl rfl ?_)
  refine At.op rfl (op_assign rfl rfl ?_)
  refine At.op rfl (op_assign rfl rfl ?_)
  refine At.nil ?_
  refine At.then_n ?_
  refine At.seq ?_
  refine At.region ?_
  refine At.op rfl (op_move rfl rfl ?_)
  refine At.op rfl (op_call1 rfl Tryz.call71 (field_taken s hs) rfl ?_)
  refine At.op rfl (op_extractL rfl .zero rfl ?_)
  refine At.op rfl (op_extractL rfl (.succ .zero) rfl ?_)
  refine At.op rfl (op_extractL rfl (.succ (.succ .zero)) rfl ?_)
  refine At.op rfl (op_assign rfl rfl ?_)
  refine At.op rfl (op_assign rfl rfl ?_)
  refine At.op rfl (op_assign rfl rfl ?_)
  refine At.nil ?_
  refine At.then_n ?_
  refine At.ret ?_
  exact At.fin3 rfl rfl rfl rfl rfl ⟨rfl, rfl⟩ .nil
end Go.Proofs.YteckdahgkkmlaaaGreatDoor
