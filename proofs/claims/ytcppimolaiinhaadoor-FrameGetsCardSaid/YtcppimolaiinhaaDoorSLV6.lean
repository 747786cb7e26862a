/- Walks of the program's functions. -/
import Derived.Test.YtcppimolaiinhaaDoorSLV4
import Derived.Test.YtcppimolaiinhaaDoorSLW10
import Derived.KernelRfl
set_option maxRecDepth 20000
set_option linter.unusedVariables false
set_option linter.unusedSimpArgs false
namespace Go.Proofs.YtcppimolaiinhaaDoor
open Go SL
variable {G : List (Nat × Obj)}
/-- what the reference takes out of a page -/
def rN (s : List UInt8) : Nat := leN ((s.drop 9).take 2)
def rQ (s : List UInt8) : UInt64 := UInt64.ofNat (leN ((s.drop 1).take 8))
def rT (s : List UInt8) : List UInt8 := (s.take (11 + rN s)).drop 11
def rGetV (s : List UInt8) : Value :=
  if s.length = 256 ∧ rN s ≤ 229 ∧ s.getD 0 0 ≠ 0 ∧ (rT s).length ≤ 229 ∧ putS (s.getD 0 0) (rQ s) (rT s) = s then .tuple #[frmV (s.getD 0 0) (rQ s) (rT s), i64 0] else .tuple #[frmV 0 0 [], i64 120]
theorem tup_inj (a b : List UInt8) (e f : Int) : Value.tuple #[str a, i64 e] = .tuple #[str b, i64 f] ↔ a = b ∧ e = f := by
  simp [str, i64]
theorem put_ok {k : UInt8} {q : UInt64} {t S1 : List UInt8} {e1 : Nat} (hv : putV k q t = .tuple #[str S1, i64 e1]) (hk : k ≠ 0) (ht : t.length ≤ 229) : S1 = putS k q t ∧ (e1 : Int) = 0 := by
  unfold putV at hv
  rw [if_neg hk, if_neg (by omega), tup_inj] at hv
  exact ⟨hv.1.symm, hv.2.symm⟩
theorem rN_lt (s : List UInt8) : rN s < 65536 := by
  have := leN_lt ((s.drop 9).take 2)
  have h2 : ((s.drop 9).take 2).length ≤ 2 := by rw [List.length_take]; omega
  have h3 : (256 : Nat) ^ ((s.drop 9).take 2).length ≤ 256 ^ 2 := Nat.pow_le_pow_right (by decide) h2
  unfold rN; omega
theorem ref_Get (s : List UInt8) (hs : s.length < 1000000) : Does Tryd.prog G 10 [str s] [] (One (rGetV s)) := by
  refine Does.of Tryd.func10 rfl Tryd.ntmps10 rfl (fun w0 => ?_)
  refine At.keep [(0, _)] (.cons rfl .nil) ?_
  refine At.seq ?_
  refine At.region ?_
  refine At.op rfl (op_alloc Tryd.zeroValue30 rfl rfl ?_)
  intro b2
  refine At.op rfl (op_assign rfl rfl ?_)
  refine At.nil ?_
  refine At.then_n ?_
  refine At.seq ?_
  refine At.seq ?_
  refine At.region ?_
  refine At.op rfl (op_move rfl rfl ?_)
  refine At.op rfl (op_len_str rfl Tryd.underlying9 rfl ?_)
  refine At.op rfl (op_bin rfl rfl b_ne rfl ?_)
  refine At.nil ?_
  refine At.then_n ?_
  refine At.cond_np rfl (fun hlen => ?_) (fun hlen => ?_)
  ·
    refine At.seq ?_
    refine At.region ?_
    refine At.op rfl (op_build (v := frmV 0 0 []) rfl (fun w => run_build w _ _ _ (by kernel_rfl)) rfl ?_)
    refine At.op rfl (op_storeW rfl rfl Tryd.sizeOf30 (by repeat' (first | refine List.forall_mem_cons.2 ⟨rfl, ?_⟩ | exact (fun _ h => by cases h))) (by first | with_reducible exact Pull.p0 | with_reducible exact Pull.p1 | with_reducible exact Pull.p2 | with_reducible exact Pull.p3 | with_reducible exact Pull.p4 | with_reducible exact Pull.p5 | with_reducible exact Pull.p6 | with_reducible exact Pull.p7 | with_reducible exact Pull.p8 | with_reducible exact Pull.p9) rfl rfl ?_)
    refine At.op rfl (op_assign rfl rfl ?_)
    refine At.nil ?_
    refine At.then_n ?_
    refine At.ret ?_
    refine At.then_r ?_
    refine At.fin _ (.inl rfl) (l := [.cell 2 30, .tmp 3]) rfl rfl (.agg rfl (by first | with_reducible exact Pull.p0 | with_reducible exact Pull.p1 | with_reducible exact Pull.p2 | with_reducible exact Pull.p3 | with_reducible exact Pull.p4 | with_reducible exact Pull.p5 | with_reducible exact Pull.p6 | with_reducible exact Pull.p7 | with_reducible exact Pull.p8 | with_reducible exact Pull.p9) Tryd.isAgg30 Tryd.sizeOf30 rfl (.tmp rfl .nil)) rfl ⟨?_, rfl⟩ .nil
    unfold rGetV; rw [if_neg (fun h => by omega)]; rfl
  ·
    refine At.skip ?_
    refine At.then_n ?_
    refine At.seq ?_
    refine At.region ?_
    refine At.op rfl (op_move rfl rfl ?_)
    refine At.op rfl (op_sl_str_lo rfl rfl Tryd.underlying9 (by omega) (by omega) rfl ?_)
    refine At.op rfl (op_call1 rfl Tryd.call27 (ref_TakeNumber (s.drop (Int.toNat 1)) 8 (by decide) (by decide) (by rw [List.length_drop]; omega)) rfl ?_)
    rw [if_neg (by rw [List.length_drop]; show ¬ s.length - 1 < 8; omega)]
    refine At.op rfl (op_move rfl rfl ?_)
    refine At.op rfl (op_extractL rfl .zero rfl ?_)
    refine At.op rfl (op_extractL rfl (.succ .zero) rfl ?_)
    refine At.op rfl (op_extractL rfl (.succ (.succ .zero)) rfl ?_)
    refine At.op rfl (op_assign rfl rfl ?_)
    refine At.op rfl (op_assign rfl rfl ?_)
    refine At.op rfl (op_assign rfl rfl ?_)
    refine At.nil ?_
    refine At.then_n ?_
    refine At.seq ?_
    refine At.keep [(0, _), (2, _), (3, _), (4, _)] (.cons rfl (.cons rfl (.cons rfl (.cons rfl .nil)))) ?_
    refine At.region ?_
    refine At.op rfl (op_move rfl rfl ?_)
    refine At.op rfl (op_sl_str_lo rfl rfl Tryd.underlying9 (by omega) (by omega) rfl ?_)
    refine At.op rfl (op_call1 rfl Tryd.call27 (ref_TakeNumber (s.drop (Int.toNat 9)) 2 (by decide) (by decide) (by rw [List.length_drop]; omega)) rfl ?_)
    rw [if_neg (by rw [List.length_drop]; show ¬ s.length - 9 < 2; omega)]
    rw [show UInt64.ofNat (leN ((s.drop (Int.toNat 9)).take 2)) = UInt64.ofNat (rN s) from rfl, show UInt64.ofNat (leN ((s.drop (Int.toNat 1)).take 8)) = rQ s from rfl]
    refine At.op rfl (op_move rfl rfl ?_)
    refine At.op rfl (op_extractL rfl .zero rfl ?_)
    refine At.op rfl (op_extractL rfl (.succ .zero) rfl ?_)
    refine At.op rfl (op_extractL rfl (.succ (.succ .zero)) rfl ?_)
    refine At.op rfl (op_assign rfl rfl ?_)
    refine At.op rfl (op_assign rfl rfl ?_)
    refine At.op rfl (op_assign rfl rfl ?_)
    refine At.nil ?_
    refine At.then_n ?_
    refine At.seq ?_
    refine At.seq ?_
    refine At.region ?_
    refine At.op rfl (op_move rfl rfl ?_)
    refine At.op rfl (op_bin rfl rfl (b64_gt (UInt64.ofNat (rN s)) (229 : UInt64)) rfl ?_)
    refine At.nil ?_
    refine At.then_n ?_
    refine At.cond_p rfl (fun hwide => ?_) (fun hwide => ?_)
    ·
      have hw2 : 229 < rN s := by
        have := (UInt64.lt_iff_toNat_lt).1 hwide
        rw [UInt64.toNat_ofNat', show (229 : UInt64).toNat = 229 from rfl] at this
        have := rN_lt s
        omega
      refine At.seq ?_
      refine At.region ?_
      refine At.op rfl (op_build (v := frmV 0 0 []) rfl (fun w => run_build w _ _ _ (by kernel_rfl)) rfl ?_)
      refine At.op rfl (op_storeW rfl rfl Tryd.sizeOf30 (by repeat' (first | refine List.forall_mem_cons.2 ⟨rfl, ?_⟩ | exact (fun _ h => by cases h))) (by first | with_reducible exact Pull.p0 | with_reducible exact Pull.p1 | with_reducible exact Pull.p2 | with_reducible exact Pull.p3 | with_reducible exact Pull.p4 | with_reducible exact Pull.p5 | with_reducible exact Pull.p6 | with_reducible exact Pull.p7 | with_reducible exact Pull.p8 | with_reducible exact Pull.p9) rfl rfl ?_)
      refine At.op rfl (op_assign rfl rfl ?_)
      refine At.nil ?_
      refine At.then_n ?_
      refine At.ret ?_
      refine At.then_r ?_
      refine At.fin _ (.inl rfl) (l := [.cell 2 30, .tmp 3]) rfl rfl (.agg rfl (by first | with_reducible exact Pull.p0 | with_reducible exact Pull.p1 | with_reducible exact Pull.p2 | with_reducible exact Pull.p3 | with_reducible exact Pull.p4 | with_reducible exact Pull.p5 | with_reducible exact Pull.p6 | with_reducible exact Pull.p7 | with_reducible exact Pull.p8 | with_reducible exact Pull.p9) Tryd.isAgg30 Tryd.sizeOf30 rfl (.tmp rfl .nil)) rfl ⟨?_, rfl⟩ .nil
      unfold rGetV; rw [if_neg (fun h => by omega)]; rfl
    ·
      have hrl := rN_lt s
      have hrn : (UInt64.ofNat (rN s)).toNat = rN s := by rw [UInt64.toNat_ofNat']; omega
      have hw2 : ¬ 229 < rN s := fun h => hwide ((UInt64.lt_iff_toNat_lt).2 (by rw [hrn]; exact h))
      refine At.skip ?_
      refine At.then_n ?_
      refine At.seq ?_
      refine At.drawAl 9 [10] (fun b10 => _) (fun b10 => [_]) (fun b10 => [_, _, _, _, _, _, _, _, _, ptr b10 0, undef]) (by kernel_rfl) (by decide) (by kernel_rfl) rfl rfl rfl (by kernel_rfl) (fun _ => rfl) (fun _ => rfl) (by
            intro b b' j
            rcases j with _ | j
            · first | exact .inr (.inr rfl) | exact .inl rfl | exact .inr (.inl (by kernel_rfl))
            rcases j with _ | j
            · first | exact .inr (.inr rfl) | exact .inl rfl | exact .inr (.inl (by kernel_rfl))
            rcases j with _ | j
            · first | exact .inr (.inr rfl) | exact .inl rfl | exact .inr (.inl (by kernel_rfl))
            rcases j with _ | j
            · first | exact .inr (.inr rfl) | exact .inl rfl | exact .inr (.inl (by kernel_rfl))
            rcases j with _ | j
            · first | exact .inr (.inr rfl) | exact .inl rfl | exact .inr (.inl (by kernel_rfl))
            rcases j with _ | j
            · first | exact .inr (.inr rfl) | exact .inl rfl | exact .inr (.inl (by kernel_rfl))
            rcases j with _ | j
            · first | exact .inr (.inr rfl) | exact .inl rfl | exact .inr (.inl (by kernel_rfl))
            rcases j with _ | j
            · first | exact .inr (.inr rfl) | exact .inl rfl | exact .inr (.inl (by kernel_rfl))
            rcases j with _ | j
            · first | exact .inr (.inr rfl) | exact .inl rfl | exact .inr (.inl (by kernel_rfl))
            rcases j with _ | j
            · first | exact .inr (.inr rfl) | exact .inl rfl | exact .inr (.inl (by kernel_rfl))
            rcases j with _ | j
            · first | exact .inr (.inr rfl) | exact .inl rfl | exact .inr (.inl (by kernel_rfl))
            exact .inr (.inr rfl)) (fun g D K hD hK => op_alloc Tryd.zeroValue30 rfl rfl hK) (fun b10 => 
        (.quiet 1 (by kernel_rfl) (by kernel_rfl) (.cons (Step.op rfl (fun D h1 h2 h3 K hK => op_move (mD_base rfl rfl) rfl hK)) (.cons (Step.op rfl (fun D h1 h2 h3 K hK => op_move (mD_base rfl rfl) rfl hK)) .nil))
        (.quiet 1 (by kernel_rfl) (by kernel_rfl) (.cons (Step.op rfl (fun D h1 h2 h3 K hK => op_indexStr (mD_done 0 (by decide) (pre_at h2 0 rfl rfl) rfl rfl rfl) rfl Tryd.underlying9 (by omega) (sgetD s 0 _ (by rfl) (by omega)) rfl hK)) (.cons (Step.op rfl (fun D h1 h2 h3 K hK => op_indexStr (mD_done 0 (by decide) (pre_at h2 0 rfl rfl) rfl rfl rfl) rfl Tryd.underlying9 (by omega) (sgetD s 0 _ (by rfl) (by omega)) rfl hK)) .nil))
        (.quiet 1 (by kernel_rfl) (by kernel_rfl) (.cons (Step.op rfl (fun D h1 h2 h3 K hK => op_move (mD_base rfl rfl) rfl hK)) (.cons (Step.op rfl (fun D h1 h2 h3 K hK => op_move (mD_base rfl rfl) rfl hK)) .nil))
        (.quiet 1 (by kernel_rfl) (by kernel_rfl) (.cons (Step.op rfl (fun D h1 h2 h3 K hK => op_move (mD_base rfl rfl) rfl hK)) (.cons (Step.op rfl (fun D h1 h2 h3 K hK => op_move (mD_base rfl rfl) rfl hK)) .nil))
        (.quiet 1 (by kernel_rfl) (by kernel_rfl) (.cons (Step.op rfl (fun D h1 h2 h3 K hK => op_move (mD_base rfl rfl) rfl hK)) (.cons (Step.op rfl (fun D h1 h2 h3 K hK => op_move (mD_base rfl rfl) rfl hK)) .nil))
        (.quiet 1 (by kernel_rfl) (by kernel_rfl) (.cons (Step.op rfl (fun D h1 h2 h3 K hK => op_conv (mD_done 4 (by decide) (pre_at h2 0 rfl rfl) rfl rfl rfl) (show ∀ w, (convert 22 3 (u64 (UInt64.ofNat (rN s)))).run Tryd.prog w = .ok (i64 (rN s)) w from fun w => by rw [cv_u64_i64 Tryd.underlying22 Tryd.underlying3 (UInt64.ofNat (rN s)) (by rw [hrn]; omega) w, hrn]) rfl hK)) (.cons (Step.op rfl (fun D h1 h2 h3 K hK => op_conv (mD_done 4 (by decide) (pre_at h2 0 rfl rfl) rfl rfl rfl) (show ∀ w, (convert 22 3 (u64 (UInt64.ofNat (rN s)))).run Tryd.prog w = .ok (i64 (rN s)) w from fun w => by rw [cv_u64_i64 Tryd.underlying22 Tryd.underlying3 (UInt64.ofNat (rN s)) (by rw [hrn]; omega) w, hrn]) rfl hK)) .nil))
        (.quiet 1 (by kernel_rfl) (by kernel_rfl) (.cons (Step.op rfl (fun D h1 h2 h3 K hK => op_bin rfl (mD_done 5 (by decide) (pre_at h2 0 rfl rfl) rfl rfl rfl) (Bin.cast (v' := i64 ((11 + rN s : Nat) : Int)) (b_add (by omega) (by omega)) (by congr 1)) rfl hK)) (.cons (Step.op rfl (fun D h1 h2 h3 K hK => op_bin rfl (mD_done 5 (by decide) (pre_at h2 0 rfl rfl) rfl rfl rfl) (Bin.cast (v' := i64 ((11 + rN s : Nat) : Int)) (b_add (by omega) (by omega)) (by congr 1)) rfl hK)) .nil))
        (.quiet 1 (by kernel_rfl) (by kernel_rfl) (.cons (Step.op rfl (fun D h1 h2 h3 K hK => op_sl_str (mD_done 3 (by decide) (pre_at h2 0 rfl rfl) rfl rfl rfl) rfl (mD_done 6 (by decide) (pre_at h2 1 rfl rfl) rfl rfl rfl) Tryd.underlying9 (by omega) (by omega) (by omega) rfl hK)) (.cons (Step.op rfl (fun D h1 h2 h3 K hK => op_sl_str (mD_done 3 (by decide) (pre_at h2 0 rfl rfl) rfl rfl rfl) rfl (mD_done 6 (by decide) (pre_at h2 1 rfl rfl) rfl rfl rfl) Tryd.underlying9 (by omega) (by omega) (by omega) rfl hK)) .nil))
        (.quiet 1 (by kernel_rfl) (by kernel_rfl) (.cons (Step.op rfl (fun D h1 h2 h3 K hK => op_build (v := frmV (s.getD 0 0) (rQ s) (rT s)) (evp_cons (mD_done 1 (by decide) (pre_at h2 0 rfl rfl) rfl rfl rfl) (evp_cons (mD_done 2 (by decide) (pre_at h2 1 rfl rfl) rfl rfl rfl) (evp_cons (mD_done 7 (by decide) (pre_at h2 2 rfl rfl) rfl rfl rfl) evp_nil))) (fun w => run_build w _ _ _ (by kernel_rfl)) rfl hK)) (.cons (Step.op rfl (fun D h1 h2 h3 K hK => op_build (v := frmV (s.getD 0 0) (rQ s) (rT s)) (evp_cons (mD_done 1 (by decide) (pre_at h2 0 rfl rfl) rfl rfl rfl) (evp_cons (mD_done 2 (by decide) (pre_at h2 1 rfl rfl) rfl rfl rfl) (evp_cons (mD_done 7 (by decide) (pre_at h2 2 rfl rfl) rfl rfl rfl) evp_nil))) (fun w => run_build w _ _ _ (by kernel_rfl)) rfl hK)) .nil))
        (.skip 
        (.eff 1 rfl (by kernel_rfl) (by kernel_rfl) rfl rfl (Last.op rfl (fun D h2 K hK => op_storeW (mD_done 9 (by decide) (pre_at h2 0 rfl rfl) rfl rfl rfl) (mD_done 8 (by decide) (pre_at h2 1 rfl rfl) rfl rfl rfl) Tryd.sizeOf30 (fun v hv => by simp only [List.mem_cons, List.not_mem_nil, or_false] at hv; rcases hv with rfl | rfl | rfl <;> rfl) (by first | with_reducible exact Pull.p0 | with_reducible exact Pull.p1 | with_reducible exact Pull.p2 | with_reducible exact Pull.p3 | with_reducible exact Pull.p4 | with_reducible exact Pull.p5 | with_reducible exact Pull.p6 | with_reducible exact Pull.p7 | with_reducible exact Pull.p8 | with_reducible exact Pull.p9) rfl rfl hK))
        .nil)))))))))))) (fun b10 => ?_)
      show At _ _ [row b10 [u8 (s.getD 0 0), u64 (rQ s), str (rT s)] 30 (0, 0), row b2 [u8 0, u64 0, str []] 30 (0, 0)] _
      refine At.keep [(0, _), (2, _), (3, _), (10, _)] (.cons rfl (.cons rfl (.cons rfl (.cons rfl .nil)))) ?_
      refine At.then_n ?_
      refine At.seq ?_
      refine At.region ?_
      refine At.op rfl (op_loadW rfl Tryd.isAgg30 Tryd.sizeOf30 (by first | with_reducible exact Pull.p0 | with_reducible exact Pull.p1 | with_reducible exact Pull.p2 | with_reducible exact Pull.p3 | with_reducible exact Pull.p4 | with_reducible exact Pull.p5 | with_reducible exact Pull.p6 | with_reducible exact Pull.p7 | with_reducible exact Pull.p8 | with_reducible exact Pull.p9) rfl rfl ?_)
      refine At.op rfl (op_call1 rfl Tryd.call8 (ref_Put (s.getD 0 0) (rQ s) (rT s) (by unfold rT; rw [List.length_drop, List.length_take]; omega)) rfl ?_)
      obtain ⟨S1, e1, hv1, hp1⟩ := putV_split (s.getD 0 0) (rQ s) (rT s)
      rw [hv1]
      refine At.op rfl (op_move rfl rfl ?_)
      refine At.op rfl (op_extractL rfl .zero rfl ?_)
      refine At.op rfl (op_extractL rfl (.succ .zero) rfl ?_)
      refine At.op rfl (op_assign rfl rfl ?_)
      refine At.op rfl (op_assign rfl rfl ?_)
      refine At.nil ?_
      refine At.then_n ?_
      refine At.seq ?_
      refine At.seq ?_
      refine At.region ?_
      refine At.op rfl (op_move rfl rfl ?_)
      refine At.op rfl (op_bin rfl rfl b_ne rfl ?_)
      refine At.op rfl (op_move rfl rfl ?_)
      refine At.nsplit (i := 50) rfl (fun hg9 => ?_) (fun hg9 => ?_)
      ·
        refine At.opk (want := true) rfl rfl rfl rfl rfl ?_
        refine At.opk (want := true) rfl rfl rfl rfl rfl ?_
        refine At.opk (want := true) rfl rfl rfl rfl rfl ?_
        refine At.op rfl (op_pick_t rfl rfl rfl ?_)
        refine At.nil ?_
        refine At.then_n ?_
        refine At.cond_t rfl ?_
        refine At.seq ?_
        refine At.keep [(2, _), (3, _), (10, _)] (.cons rfl (.cons rfl (.cons rfl .nil))) ?_
        refine At.region ?_
        refine At.op rfl (op_build (v := frmV 0 0 []) rfl (fun w => run_build w _ _ _ (by kernel_rfl)) rfl ?_)
        refine At.op rfl (op_storeW rfl rfl Tryd.sizeOf30 (by repeat' (first | refine List.forall_mem_cons.2 ⟨rfl, ?_⟩ | exact (fun _ h => by cases h))) (by first | with_reducible exact Pull.p0 | with_reducible exact Pull.p1 | with_reducible exact Pull.p2 | with_reducible exact Pull.p3 | with_reducible exact Pull.p4 | with_reducible exact Pull.p5 | with_reducible exact Pull.p6 | with_reducible exact Pull.p7 | with_reducible exact Pull.p8 | with_reducible exact Pull.p9) rfl rfl ?_)
        refine At.op rfl (op_assign rfl rfl ?_)
        refine At.nil ?_
        refine At.then_n ?_
        refine At.ret ?_
        refine At.then_r ?_
        refine At.fin _ (.inl rfl) (l := [.cell 2 30, .tmp 3]) rfl rfl (.agg rfl (by first | with_reducible exact Pull.p0 | with_reducible exact Pull.p1 | with_reducible exact Pull.p2 | with_reducible exact Pull.p3 | with_reducible exact Pull.p4 | with_reducible exact Pull.p5 | with_reducible exact Pull.p6 | with_reducible exact Pull.p7 | with_reducible exact Pull.p8 | with_reducible exact Pull.p9) Tryd.isAgg30 Tryd.sizeOf30 rfl (.tmp rfl .nil)) rfl ⟨?_, rfl⟩ .nil
        unfold rGetV; rw [if_neg (fun h => hg9 (put_ok hv1 h.2.2.1 h.2.2.2.1).2)]; rfl
      ·
        refine At.opg rfl rfl rfl (op_move rfl rfl ?_)
        refine At.opg rfl rfl rfl (op_move rfl rfl ?_)
        refine At.opg rfl rfl rfl (op_bin rfl rfl (b_sne  ) rfl ?_)
        refine At.op rfl (op_pick_f rfl rfl rfl ?_)
        refine At.nil ?_
        refine At.then_n ?_
        refine At.cond_np rfl (fun hc2 => ?_) (fun hc2 => ?_)
        ·
          refine At.seq ?_
          refine At.keep [(2, _), (3, _), (10, _)] (.cons rfl (.cons rfl (.cons rfl .nil))) ?_
          refine At.region ?_
          refine At.op rfl (op_build (v := frmV 0 0 []) rfl (fun w => run_build w _ _ _ (by kernel_rfl)) rfl ?_)
          refine At.op rfl (op_storeW rfl rfl Tryd.sizeOf30 (by repeat' (first | refine List.forall_mem_cons.2 ⟨rfl, ?_⟩ | exact (fun _ h => by cases h))) (by first | with_reducible exact Pull.p0 | with_reducible exact Pull.p1 | with_reducible exact Pull.p2 | with_reducible exact Pull.p3 | with_reducible exact Pull.p4 | with_reducible exact Pull.p5 | with_reducible exact Pull.p6 | with_reducible exact Pull.p7 | with_reducible exact Pull.p8 | with_reducible exact Pull.p9) rfl rfl ?_)
          refine At.op rfl (op_assign rfl rfl ?_)
          refine At.nil ?_
          refine At.then_n ?_
          refine At.ret ?_
          refine At.then_r ?_
          refine At.fin _ (.inl rfl) (l := [.cell 2 30, .tmp 3]) rfl rfl (.agg rfl (by first | with_reducible exact Pull.p0 | with_reducible exact Pull.p1 | with_reducible exact Pull.p2 | with_reducible exact Pull.p3 | with_reducible exact Pull.p4 | with_reducible exact Pull.p5 | with_reducible exact Pull.p6 | with_reducible exact Pull.p7 | with_reducible exact Pull.p8 | with_reducible exact Pull.p9) Tryd.isAgg30 Tryd.sizeOf30 rfl (.tmp rfl .nil)) rfl ⟨?_, rfl⟩ .nil
          unfold rGetV; rw [if_neg (fun h => hc2 ((put_ok hv1 h.2.2.1 h.2.2.2.1).1.trans h.2.2.2.2))]; rfl
        ·
          refine At.skip ?_
          refine At.then_n ?_
          refine At.seq ?_
          refine At.keep [(2, _), (3, _), (10, _)] (.cons rfl (.cons rfl (.cons rfl .nil))) ?_
          refine At.region ?_
          refine At.op rfl (op_loadW rfl Tryd.isAgg30 Tryd.sizeOf30 (by first | with_reducible exact Pull.p0 | with_reducible exact Pull.p1 | with_reducible exact Pull.p2 | with_reducible exact Pull.p3 | with_reducible exact Pull.p4 | with_reducible exact Pull.p5 | with_reducible exact Pull.p6 | with_reducible exact Pull.p7 | with_reducible exact Pull.p8 | with_reducible exact Pull.p9) rfl rfl ?_)
          refine At.op rfl (op_storeW rfl rfl Tryd.sizeOf30 (by repeat' (first | refine List.forall_mem_cons.2 ⟨rfl, ?_⟩ | exact (fun _ h => by cases h))) (by first | with_reducible exact Pull.p0 | with_reducible exact Pull.p1 | with_reducible exact Pull.p2 | with_reducible exact Pull.p3 | with_reducible exact Pull.p4 | with_reducible exact Pull.p5 | with_reducible exact Pull.p6 | with_reducible exact Pull.p7 | with_reducible exact Pull.p8 | with_reducible exact Pull.p9) rfl rfl ?_)
          refine At.op rfl (op_assign rfl rfl ?_)
          refine At.nil ?_
          refine At.then_n ?_
          refine At.ret ?_
          refine At.fin _ (.inl rfl) (l := [.cell 2 30, .tmp 3]) rfl rfl (.agg rfl (by first | with_reducible exact Pull.p0 | with_reducible exact Pull.p1 | with_reducible exact Pull.p2 | with_reducible exact Pull.p3 | with_reducible exact Pull.p4 | with_reducible exact Pull.p5 | with_reducible exact Pull.p6 | with_reducible exact Pull.p7 | with_reducible exact Pull.p8 | with_reducible exact Pull.p9) Tryd.isAgg30 Tryd.sizeOf30 rfl (.tmp rfl .nil)) rfl ⟨?_, rfl⟩ .nil
          unfold rGetV; rcases hp1 with ⟨_, h1, h2, h3⟩ | ⟨h, _⟩
          · rw [if_pos ⟨by omega, by omega, h2, h3, h1 ▸ hc2⟩]; rfl
          · omega
theorem trim_nil (l : List UInt8) (h : Lib.trimB l 0 = []) : l = List.replicate l.length 0 := by
  have key : ∀ l : List UInt8, l.dropWhile (· == 0) = [] → ∀ x ∈ l, x = 0 := by
    intro l
    induction l with
    | nil => intro _ x hx; cases hx
    | cons a l ih =>
      intro hd x hx
      by_cases ha : a = 0
      · rw [List.dropWhile_cons_of_pos (by simp [ha])] at hd
        rcases List.mem_cons.1 hx with rfl | hx
        · exact ha
        · exact ih hd x hx
      · rw [List.dropWhile_cons_of_neg (by simpa using ha)] at hd
        cases hd
  have h1 : ∀ x ∈ Lib.trimRightB l 0, x = 0 := key _ h
  have h2 : l.reverse.dropWhile (· == 0) = [] := by
    cases hq : l.reverse.dropWhile (· == 0) with
    | nil => rfl
    | cons a t =>
      have hm : a ∈ Lib.trimRightB l 0 := by
        unfold Lib.trimRightB
        rw [hq]; simp
      have ha := h1 a hm
      have := List.head?_dropWhile_not (p := (· == (0 : UInt8))) (l := l.reverse)
      rw [hq] at this
      simp [ha] at this
  have h3 := key _ h2
  exact List.eq_replicate_of_mem fun x hx => h3 x (List.mem_reverse.2 hx)
theorem getOK_cond (s : List UInt8) (h : getOK s = true) : s.length = 256 ∧ rN s ≤ 229 ∧ s.getD 0 0 ≠ 0 ∧ (rT s).length ≤ 229 ∧ putS (s.getD 0 0) (rQ s) (rT s) = s := by
  unfold getOK at h
  simp only [Bool.and_eq_true, decide_eq_true_eq, Bool.not_eq_true', decide_eq_false_iff_not] at h
  obtain ⟨hl, hsum, h0, hE, hz⟩ := h
  rw [show Int.toNat 240 = 240 from rfl] at hsum
  have er : rr s = (s.drop 1).take 239 := by
    show (s.take 240).drop 1 = _
    rw [List.drop_take]
  have e8 : (rr s).drop 8 = (s.drop 9).take 231 := by rw [er, List.drop_take, List.drop_drop]
  have e2 : ((rr s).drop 8).take 2 = (s.drop 9).take 2 := by rw [e8, List.take_take]; rfl
  have en : leN (((rr s).drop 8).take 2) = rN s := by rw [e2]; rfl
  have el : ((rr s).drop 8).length = 231 := by rw [e8, List.length_take, List.length_drop]; omega
  have hn : rN s ≤ 229 := by
    have hE' : ttE ((rr s).drop 8) = 0 := by omega
    unfold ttE at hE'
    rw [en, el] at hE'
    split at hE'
    · omega
    · split at hE'
      · omega
      · split at hE' <;> omega
  have hE' : ttE ((rr s).drop 8) = 0 := by omega
  have eT : rT s = (s.drop 11).take (rN s) := by
    unfold rT; rw [List.drop_take, show 11 + rN s - 11 = rN s by omega]
  have eTl : (rT s).length = rN s := by rw [eT, List.length_take, List.length_drop]; omega
  have eR : ttR ((rr s).drop 8) = ((s.drop 11).take 229).drop (rN s) := by
    unfold ttR
    rw [if_pos hE', en, e8, List.drop_take, List.drop_drop]
  have hz' := trim_nil _ hz
  rw [eR] at hz'
  have eRl : (((s.drop 11).take 229).drop (rN s)).length = 229 - rN s := by rw [List.length_drop, List.length_take, List.length_drop]; omega
  rw [eRl] at hz'
  refine ⟨hl, hn, h0, by omega, ?_⟩
  have hq : leB (rQ s).toNat 8 = (s.drop 1).take 8 := by
    have h8 : ((s.drop 1).take 8).length = 8 := by rw [List.length_take, List.length_drop]; omega
    have hlt := leN_lt ((s.drop 1).take 8)
    rw [h8] at hlt
    unfold rQ
    rw [UInt64.toNat_ofNat', Nat.mod_eq_of_lt (by omega)]
    have := leB_leN ((s.drop 1).take 8)
    rwa [h8] at this
  have hm : leB (rT s).length 2 = (s.drop 9).take 2 := by
    have h2 : ((s.drop 9).take 2).length = 2 := by rw [List.length_take, List.length_drop]; omega
    rw [eTl]
    unfold rN
    have := leB_leN ((s.drop 9).take 2)
    rwa [h2] at this
  have hb : putB (s.getD 0 0) (rQ s) (rT s) = s.take 240 := by
    unfold putB
    rw [bodyF_length, eTl, show 240 - (11 + rN s) = 229 - rN s by omega, ← hz']
    unfold bodyF
    rw [hq, hm, eT]
    have hd1 : s.take 240 = s.getD 0 0 :: (s.drop 1).take 239 := by
      cases s with
      | nil => simp at hl
      | cons a s => simp
    have hsp : ∀ (l : List UInt8) (a b : Nat), l.take (a + b) = l.take a ++ (l.drop a).take b := fun l a b => by rw [List.take_add]
    rw [hd1, show 239 = 8 + (2 + 229) from rfl, hsp (s.drop 1) 8 (2 + 229), List.drop_drop, hsp (s.drop (1 + 8)) 2 229, List.drop_drop, show 1 + 8 = 9 from rfl, show 9 + 2 = 11 from rfl]
    have h3 : (s.drop 11).take 229 = (s.drop 11).take (rN s) ++ ((s.drop 11).take 229).drop (rN s) := by
      conv => lhs; rw [← List.take_append_drop (rN s) ((s.drop 11).take 229)]
      rw [List.take_take, Nat.min_eq_left hn]
    conv => rhs; rw [h3]
    simp only [List.cons_append, List.nil_append, List.append_assoc]
  unfold putS
  rw [hb, hsum]
  exact List.take_append_drop 240 s
theorem get_eq (s : List UInt8) : getV s = rGetV s := by
  unfold rGetV
  split
  · rename_i h
    obtain ⟨hl, hn, h0, ht, hp⟩ := h
    have := get_put (s.getD 0 0) (rQ s) (rT s) h0 ht
    rw [hp] at this
    exact this
  · rename_i h
    unfold getV
    rw [if_neg (fun hok => h (getOK_cond s hok))]
theorem getV_split (s : List UInt8) : ∃ (k : UInt8) (q : UInt64) (t : List UInt8) (e : Int), getV s = .tuple #[frmV k q t, i64 e] := by
  unfold getV
  split
  · exact ⟨_, _, _, 0, rfl⟩
  · exact ⟨_, _, _, 120, rfl⟩
theorem law12_FrameGets (hG : GOK G) (s : List UInt8) : Does Tryd.prog G 4 [str s] [] (One (.bool true)) := by
  refine Does.of Tryd.func4 rfl Tryd.ntmps4 rfl (fun w0 => ?_)
  refine At.keep [(0, _)] (.cons rfl .nil) ?_
  refine At.seq ?_
  refine At.region ?_
  refine At.op rfl (op_assign rfl rfl ?_)
  refine At.nil ?_
  refine At.then_n ?_
  refine At.seq ?_
  refine At.seq ?_
  refine At.region ?_
  refine At.op rfl (op_move rfl rfl ?_)
  refine At.op rfl (op_len_str rfl Tryd.underlying9 rfl ?_)
  refine At.op rfl (op_bin rfl rfl b_gt rfl ?_)
  refine At.op rfl (op_move rfl rfl ?_)
  refine At.dsplit (i := 10) rfl (fun hg1 => ?_) (fun hg1 => ?_)
  ·
    refine At.opk (want := true) rfl rfl rfl rfl rfl ?_
    refine At.opk (want := true) rfl rfl rfl rfl rfl ?_
    refine At.op rfl (op_pick_t rfl rfl rfl ?_)
    refine At.nil ?_
    refine At.then_n ?_
    refine At.cond_t rfl ?_
    refine At.seq ?_
    refine At.region ?_
    refine At.op rfl (op_call1 rfl Tryd.call6 (law12_shown hG) rfl ?_)
    refine At.op rfl (op_assign rfl rfl ?_)
    refine At.nil ?_
    refine At.then_n ?_
    refine At.ret ?_
    refine At.then_r ?_
    exact At.fin1 rfl rfl rfl ⟨rfl, rfl⟩ .nil
  ·
    refine At.opg rfl rfl rfl (op_call1 rfl Tryd.call6 (law12_shown hG) rfl ?_)
    refine At.opg rfl rfl rfl (op_not rfl rfl ?_)
    refine At.op rfl (op_pick_f rfl rfl rfl ?_)
    refine At.nil ?_
    refine At.then_n ?_
    refine At.cond_f rfl ?_
    refine At.skip ?_
    refine At.then_n ?_
    refine At.seq ?_
    refine At.region ?_
    refine At.op rfl (op_move rfl rfl ?_)
    refine At.op rfl (op_call1 rfl Tryd.call9 (frame_Get hG s (by omega)) rfl ?_)
    obtain ⟨k, q, t, e, hv⟩ := getV_split s
    rw [hv]
    refine At.op rfl (op_move rfl rfl ?_)
    refine At.op rfl (op_extractL rfl .zero rfl ?_)
    refine At.op rfl (op_extractL rfl (.succ .zero) rfl ?_)
    refine At.op rfl (op_alloc Tryd.zeroValue24 rfl rfl ?_)
    intro b3
    refine At.op rfl (op_storeW rfl rfl Tryd.sizeOf24 (by repeat' (first | refine List.forall_mem_cons.2 ⟨rfl, ?_⟩ | exact (fun _ h => by cases h))) (by first | with_reducible exact Pull.p0 | with_reducible exact Pull.p1 | with_reducible exact Pull.p2 | with_reducible exact Pull.p3 | with_reducible exact Pull.p4 | with_reducible exact Pull.p5 | with_reducible exact Pull.p6 | with_reducible exact Pull.p7 | with_reducible exact Pull.p8 | with_reducible exact Pull.p9) rfl rfl ?_)
    refine At.op rfl (op_assign rfl rfl ?_)
    refine At.nil ?_
    refine At.then_n ?_
    refine At.seq ?_
    refine At.keep [(0, _), (2, _), (3, _), (4, _)] (.cons rfl (.cons rfl (.cons rfl (.cons rfl .nil)))) ?_
    refine At.region ?_
    refine At.op rfl (op_move rfl rfl ?_)
    refine At.op rfl (op_call1 rfl Tryd.call10 (ref_Get s (by omega)) rfl ?_)
    rw [← get_eq s, hv]
    refine At.op rfl (op_move rfl rfl ?_)
    refine At.op rfl (op_extractL rfl .zero rfl ?_)
    refine At.op rfl (op_extractL rfl (.succ .zero) rfl ?_)
    refine At.op rfl (op_alloc Tryd.zeroValue30 rfl rfl ?_)
    intro b5
    refine At.op rfl (op_storeW rfl rfl Tryd.sizeOf30 (by repeat' (first | refine List.forall_mem_cons.2 ⟨rfl, ?_⟩ | exact (fun _ h => by cases h))) (by first | with_reducible exact Pull.p0 | with_reducible exact Pull.p1 | with_reducible exact Pull.p2 | with_reducible exact Pull.p3 | with_reducible exact Pull.p4 | with_reducible exact Pull.p5 | with_reducible exact Pull.p6 | with_reducible exact Pull.p7 | with_reducible exact Pull.p8 | with_reducible exact Pull.p9) rfl rfl ?_)
    refine At.op rfl (op_assign rfl rfl ?_)
    refine At.nil ?_
    refine At.then_n ?_
    refine At.seq ?_
    refine At.region ?_
    refine At.op rfl (op_loadW rfl Tryd.isAgg24 Tryd.sizeOf24 (by first | with_reducible exact Pull.p0 | with_reducible exact Pull.p1 | with_reducible exact Pull.p2 | with_reducible exact Pull.p3 | with_reducible exact Pull.p4 | with_reducible exact Pull.p5 | with_reducible exact Pull.p6 | with_reducible exact Pull.p7 | with_reducible exact Pull.p8 | with_reducible exact Pull.p9) rfl rfl ?_)
    refine At.op rfl (op_loadW rfl Tryd.isAgg30 Tryd.sizeOf30 (by first | with_reducible exact Pull.p0 | with_reducible exact Pull.p1 | with_reducible exact Pull.p2 | with_reducible exact Pull.p3 | with_reducible exact Pull.p4 | with_reducible exact Pull.p5 | with_reducible exact Pull.p6 | with_reducible exact Pull.p7 | with_reducible exact Pull.p8 | with_reducible exact Pull.p9) rfl rfl ?_)
    refine At.op rfl (op_bin rfl rfl (Bin.cast (v' := .bool true) (b_steq Tryd.underlying30 (by kernel_rfl) (by kernel_rfl) (eqf_cons (by decide) Tryd.isAgg5 rfl rfl (eq8 Tryd.underlying5) (eqf_cons (by decide) Tryd.isAgg22 rfl rfl (eq64 Tryd.underlying22) (eqf_cons (by decide) Tryd.isAgg9 rfl rfl (eqs' Tryd.underlying9) eqf_nil)))) (by simp)) rfl ?_)
    refine At.op rfl (op_move rfl rfl ?_)
    refine At.opg rfl rfl rfl (op_move rfl rfl ?_)
    refine At.opg rfl rfl rfl (op_move rfl rfl ?_)
    refine At.opg rfl rfl rfl (op_bin rfl rfl (Bin.cast (v' := .bool true) b_eq (by simp)) rfl ?_)
    refine At.op rfl (op_pick_t rfl rfl rfl ?_)
    refine At.op rfl (op_assign rfl rfl ?_)
    refine At.nil ?_
    refine At.then_n ?_
    refine At.ret ?_
    exact At.fin1 rfl rfl rfl ⟨rfl, rfl⟩ .nil
end Go.Proofs.YtcppimolaiinhaaDoor
