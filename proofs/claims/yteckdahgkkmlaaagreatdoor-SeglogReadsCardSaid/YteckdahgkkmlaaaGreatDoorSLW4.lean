/- Walks of the program's functions. -/
import Derived.Test.YteckdahgkkmlaaaGreatDoorSLW3
import Derived.KernelRfl
set_option maxRecDepth 20000
set_option linter.unusedVariables false
set_option linter.unusedSimpArgs false
namespace Go.Proofs.YteckdahgkkmlaaaGreatDoor
open Go SL
variable {G : List (Nat × Obj)}
/-- the table of the sum's constants lies where it lay -/
def GOK (G : List (Nat × Obj)) : Prop := ∀ w : World, (∀ p ∈ G, w.heap[p.1]? = some p.2) → ∀ j v, (shaK.map u32)[j]? = some v → w.cell? ⟨0, j, none⟩ = some v
def addP (v h : V8) (k : Nat) : List UInt32 := (List.range 8).map fun i => if i < k then v.list.getD i 0 + h.list.getD i 0 else v.list.getD i 0
theorem addP_get (v h : V8) (k : Nat) (hk : k < 8) : (addP v h k).getD k 0 = v.list.getD k 0 := by
  obtain rfl | rfl | rfl | rfl | rfl | rfl | rfl | rfl : k = 0 ∨ k = 1 ∨ k = 2 ∨ k = 3 ∨ k = 4 ∨ k = 5 ∨ k = 6 ∨ k = 7 := by omega
  all_goals rfl
theorem addP_step (v h : V8) (k : Nat) (hk : k < 8) : (addP v h k).set k ((addP v h k).getD k 0 + h.list.getD k 0) = addP v h (k + 1) := by
  obtain rfl | rfl | rfl | rfl | rfl | rfl | rfl | rfl : k = 0 ∨ k = 1 ∨ k = 2 ∨ k = 3 ∨ k = 4 ∨ k = 5 ∨ k = 6 ∨ k = 7 := by omega
  all_goals rfl
theorem hgetV (h : V8) (k j : Nat) (hj : j = k) (hk : k < 8) : [u32 h.a, u32 h.b, u32 h.c, u32 h.d, u32 h.e, u32 h.f, u32 h.g, u32 h.h][j]? = some (u32 (h.list.getD k 0)) := mget h.list k j hj hk
theorem addP_length (v h : V8) (k : Nat) : (addP v h k).length = 8 := by simp [addP]
theorem sha_Step (hG : GOK G) (h : V8) (s : List UInt8) (hs : s.length = 64) : Does Tryz.prog G 87 [h.val, str s] [] (One (stepS h s).val) := by
  refine Does.of Tryz.func87 rfl Tryz.ntmps87 rfl (fun w0 => ?_)
  refine At.keep [(0, _), (1, _)] (.cons rfl (.cons rfl .nil)) ?_
  refine At.seq ?_
  refine At.region ?_
  refine At.op rfl (op_box rfl rfl rfl ?_)
  intro b2
  refine At.op rfl (op_alloc Tryz.zeroValue144 rfl rfl ?_)
  intro b4
  refine At.nil ?_
  refine At.then_n ?_
  refine At.seq ?_
  refine At.seq ?_
  refine At.region ?_
  refine At.op rfl (op_move rfl rfl ?_)
  refine At.op rfl (op_len_str rfl Tryz.underlying9 rfl ?_)
  refine At.op rfl (op_bin rfl rfl b_ne rfl ?_)
  refine At.nil ?_
  refine At.then_n ?_
  refine At.cond_np rfl (fun hc0 => ?_) (fun hc0 => ?_)
  ·
    exfalso; omega
  ·
    refine At.skip ?_
    refine At.then_n ?_
    refine At.seq ?_
    refine At.region ?_
    refine At.op rfl (op_assign rfl rfl ?_)
    refine At.nil ?_
    refine At.then_n ?_
    refine At.seq ?_
    refine At.region ?_
    refine At.op rfl (op_alloc Tryz.zeroValue156 rfl rfl ?_)
    intro b6
    refine At.nil ?_
    refine At.then_n ?_
    refine At.seq ?_
    refine At.seq ?_
    refine At.region ?_
    refine At.op rfl (op_move rfl rfl ?_)
    refine At.op rfl (op_bytes rfl Tryz.underlying9 Tryz.underlying47 Tryz.underlying5 rfl ?_)
    intro bb cbb hcbb
    refine At.op rfl (op_len_slc rfl Tryz.underlying47 rfl ?_)
    refine At.op rfl (op_move rfl rfl ?_)
    refine At.nil ?_
    refine At.then_n ?_
    refine At.block ?_
    rw [show [Value.int IntKind.u32 0, .int .u32 0, .int .u32 0, .int .u32 0, .int .u32 0, .int .u32 0, .int .u32 0, .int .u32 0, .int .u32 0, .int .u32 0, .int .u32 0, .int .u32 0, .int .u32 0, .int .u32 0, .int .u32 0, .int .u32 0] = (wAcc s 0).map u32 from (wAcc_zero s).symm]
    refine At.cut (rs' := (fun k => [row b2 [u32 h.a, u32 h.b, u32 h.c, u32 h.d, u32 h.e, u32 h.f, u32 h.g, u32 h.h] 144 (0, 0), row b4 (List.replicate 8 (Value.int .u32 0)) 144 (0, 0), row b6 ((wAcc s k).map u32) 156 (0, 0), row bb (s.map u8 ++ List.replicate (cbb - s.length) (u8 0)) 5 (cbb, cbb + 1)]) (0 : Nat)) (.cons (by first | exact Pull.p0 | exact Pull.p1 | exact Pull.p2 | exact Pull.p3 | exact Pull.p4 | exact Pull.p5 | exact Pull.p6 | exact Pull.p7 | exact Pull.p8 | exact Pull.p9) (.cons (by first | exact Pull.p0 | exact Pull.p1 | exact Pull.p2 | exact Pull.p3 | exact Pull.p4 | exact Pull.p5 | exact Pull.p6 | exact Pull.p7 | exact Pull.p8 | exact Pull.p9) (.cons (by first | exact Pull.p0 | exact Pull.p1 | exact Pull.p2 | exact Pull.p3 | exact Pull.p4 | exact Pull.p5 | exact Pull.p6 | exact Pull.p7 | exact Pull.p8 | exact Pull.p9) (.cons (by first | exact Pull.p0 | exact Pull.p1 | exact Pull.p2 | exact Pull.p3 | exact Pull.p4 | exact Pull.p5 | exact Pull.p6 | exact Pull.p7 | exact Pull.p8 | exact Pull.p9) .nil)))) ?_
    refine At.keep ((fun k => [(2, ptr b2 0), (4, ptr b4 0), (5, .func (.func 96) #[] #[]), (6, ptr b6 0), (25, slc bb 0 s.length cbb), (26, i64 s.length), (27, i64 k)]) (0 : Nat)) (.cons rfl (.cons rfl (.cons rfl (.cons rfl (.cons rfl (.cons rfl (.cons rfl .nil))))))) ?_
    refine At.loop (σ := Nat) (fun k => k ≤ 64) (fun k => [(2, ptr b2 0), (4, ptr b4 0), (5, .func (.func 96) #[] #[]), (6, ptr b6 0), (25, slc bb 0 s.length cbb), (26, i64 s.length), (27, i64 k)]) (fun k => [row b2 [u32 h.a, u32 h.b, u32 h.c, u32 h.d, u32 h.e, u32 h.f, u32 h.g, u32 h.h] 144 (0, 0), row b4 (List.replicate 8 (Value.int .u32 0)) 144 (0, 0), row b6 ((wAcc s k).map u32) 156 (0, 0), row bb (s.map u8 ++ List.replicate (cbb - s.length) (u8 0)) 5 (cbb, cbb + 1)]) (fun k => 64 - k) (0 : Nat) (Nat.zero_le _) ?_
    rintro k hk
    refine At.seq ?_
    refine At.region ?_
    refine At.op rfl (op_bin rfl rfl b_lt rfl ?_)
    refine At.nil ?_
    refine At.then_n ?_
    refine At.seq ?_
    refine At.cond_p rfl (fun hlt => ?_) (fun hlt => ?_)
    ·
      refine At.skip ?_
      refine At.then_n ?_
      refine At.seq ?_
      refine At.block ?_
      refine At.seq ?_
      refine At.region ?_
      refine At.op rfl (op_move rfl rfl ?_)
      refine At.op rfl (op_indexS rfl rfl Tryz.underlying47 Tryz.sizeOf5 (by omega) (by omega) rfl ?_)
      refine At.op rfl (op_load rfl Tryz.isAgg5 (by first | with_reducible exact Pull.p0 | with_reducible exact Pull.p1 | with_reducible exact Pull.p2 | with_reducible exact Pull.p3 | with_reducible exact Pull.p4 | with_reducible exact Pull.p5 | with_reducible exact Pull.p6 | with_reducible exact Pull.p7 | with_reducible exact Pull.p8 | with_reducible exact Pull.p9) (bget s _ k _ (by omega) (by omega)) rfl ?_)
      refine At.op rfl (op_assign rfl rfl ?_)
      refine At.op rfl (op_assign rfl rfl ?_)
      refine At.nil ?_
      refine At.then_n ?_
      refine At.region ?_
      refine At.op rfl (op_move rfl rfl ?_)
      refine At.op rfl (op_bin rfl rfl (b_quo (by omega) (by omega) (by decide)) rfl ?_)
      refine At.op rfl (op_move rfl rfl ?_)
      refine At.op rfl (op_bin rfl rfl (b_quo (by omega) (by omega) (by decide)) rfl ?_)
      refine At.op rfl (op_indexA rfl rfl Tryz.underlying156 Tryz.sizeOf137 (by omega) (by omega) rfl ?_)
      refine At.op rfl (op_load rfl Tryz.isAgg137 (by first | with_reducible exact Pull.p0 | with_reducible exact Pull.p1 | with_reducible exact Pull.p2 | with_reducible exact Pull.p3 | with_reducible exact Pull.p4 | with_reducible exact Pull.p5 | with_reducible exact Pull.p6 | with_reducible exact Pull.p7 | with_reducible exact Pull.p8 | with_reducible exact Pull.p9) (mget (wAcc s k) (k / 4) _ (by omega) (by rw [wAcc_length]; omega)) rfl ?_)
      refine At.op rfl (op_bin rfl rfl (b32_shl _ _ 8 (by decide)) rfl ?_)
      refine At.op rfl (op_move rfl rfl ?_)
      refine At.op rfl (op_conv rfl (cv_u8_u32 Tryz.underlying5 Tryz.underlying137 _) rfl ?_)
      refine At.op rfl (op_bin rfl rfl (b32_or _ _) rfl ?_)
      refine At.op rfl (op_indexA rfl rfl Tryz.underlying156 Tryz.sizeOf137 (by omega) (by omega) rfl ?_)
      refine At.op rfl (op_store rfl rfl Tryz.sizeOf137 rfl rfl (by first | with_reducible exact Pull.p0 | with_reducible exact Pull.p1 | with_reducible exact Pull.p2 | with_reducible exact Pull.p3 | with_reducible exact Pull.p4 | with_reducible exact Pull.p5 | with_reducible exact Pull.p6 | with_reducible exact Pull.p7 | with_reducible exact Pull.p8 | with_reducible exact Pull.p9) (mset (wAcc s k) (k / 4) _ _ (by omega) (by rw [wAcc_length]; omega)) rfl ?_)
      refine At.nil ?_
      refine At.blk_n ?_
      refine At.then_n ?_
      refine At.keep [(2, _), (4, _), (5, _), (6, _), (25, _), (26, _), (27, _)] (.cons rfl (.cons rfl (.cons rfl (.cons rfl (.cons rfl (.cons rfl (.cons rfl .nil))))))) ?_
      refine At.region ?_
      refine At.op rfl (op_bin rfl rfl (b_add (by omega) (by omega)) rfl ?_)
      refine At.op rfl (op_move rfl rfl ?_)
      refine At.nil ?_
      refine At.then_n ?_
      rw [← wAcc_succ]
      exact At.back (k + 1) (by omega) (by omega) (.cons rfl (.cons rfl (.cons rfl (.cons rfl (.cons rfl (.cons rfl (.cons rfl .nil))))))) (.cons (by first | with_reducible exact Pull.p0 | with_reducible exact Pull.p1 | with_reducible exact Pull.p2 | with_reducible exact Pull.p3 | with_reducible exact Pull.p4 | with_reducible exact Pull.p5 | with_reducible exact Pull.p6 | with_reducible exact Pull.p7 | with_reducible exact Pull.p8 | with_reducible exact Pull.p9) (.cons (by first | with_reducible exact Pull.p0 | with_reducible exact Pull.p1 | with_reducible exact Pull.p2 | with_reducible exact Pull.p3 | with_reducible exact Pull.p4 | with_reducible exact Pull.p5 | with_reducible exact Pull.p6 | with_reducible exact Pull.p7 | with_reducible exact Pull.p8 | with_reducible exact Pull.p9) (.cons (by first | with_reducible exact Pull.p0 | with_reducible exact Pull.p1 | with_reducible exact Pull.p2 | with_reducible exact Pull.p3 | with_reducible exact Pull.p4 | with_reducible exact Pull.p5 | with_reducible exact Pull.p6 | with_reducible exact Pull.p7 | with_reducible exact Pull.p8 | with_reducible exact Pull.p9) (.cons (by first | with_reducible exact Pull.p0 | with_reducible exact Pull.p1 | with_reducible exact Pull.p2 | with_reducible exact Pull.p3 | with_reducible exact Pull.p4 | with_reducible exact Pull.p5 | with_reducible exact Pull.p6 | with_reducible exact Pull.p7 | with_reducible exact Pull.p8 | with_reducible exact Pull.p9) .nil))))
    ·
      obtain rfl : k = 64 := by omega
      refine At.exit ?_
      refine At.then_e ?_
      refine At.then_e ?_
      refine At.blk_e ?_
      refine At.then_n ?_
      refine At.seq ?_
      refine At.region ?_
      refine At.op rfl (op_loadW rfl Tryz.isAgg144 Tryz.sizeOf144 (by first | with_reducible exact Pull.p0 | with_reducible exact Pull.p1 | with_reducible exact Pull.p2 | with_reducible exact Pull.p3 | with_reducible exact Pull.p4 | with_reducible exact Pull.p5 | with_reducible exact Pull.p6 | with_reducible exact Pull.p7 | with_reducible exact Pull.p8 | with_reducible exact Pull.p9) rfl rfl ?_)
      refine At.op rfl (op_alloc Tryz.zeroValue144 rfl rfl ?_)
      intro b9
      refine At.op rfl (op_storeW rfl rfl Tryz.sizeOf144 (by repeat' (first | refine List.forall_mem_cons.2 ⟨rfl, ?_⟩ | exact (fun _ h => by cases h))) (by first | with_reducible exact Pull.p0 | with_reducible exact Pull.p1 | with_reducible exact Pull.p2 | with_reducible exact Pull.p3 | with_reducible exact Pull.p4 | with_reducible exact Pull.p5 | with_reducible exact Pull.p6 | with_reducible exact Pull.p7 | with_reducible exact Pull.p8 | with_reducible exact Pull.p9) rfl rfl ?_)
      refine At.nil ?_
      refine At.then_n ?_
      refine At.seq ?_
      refine At.seq ?_
      refine At.region ?_
      refine At.op rfl (op_loadGlob (us := shaK.map u32) hG Tryz.isAgg157 Tryz.sizeOf157 rfl rfl ?_)
      refine At.op rfl (op_move rfl rfl ?_)
      refine At.nil ?_
      refine At.then_n ?_
      refine At.block ?_
      refine At.cut (rs' := (fun k => [row b2 [u32 h.a, u32 h.b, u32 h.c, u32 h.d, u32 h.e, u32 h.f, u32 h.g, u32 h.h] 144 (0, 0), row b4 (List.replicate 8 (Value.int .u32 0)) 144 (0, 0), row b6 ((it h (wAcc s 64) k).2.map u32) 156 (0, 0), row b9 [u32 (it h (wAcc s 64) k).1.a, u32 (it h (wAcc s 64) k).1.b, u32 (it h (wAcc s 64) k).1.c, u32 (it h (wAcc s 64) k).1.d, u32 (it h (wAcc s 64) k).1.e, u32 (it h (wAcc s 64) k).1.f, u32 (it h (wAcc s 64) k).1.g, u32 (it h (wAcc s 64) k).1.h] 144 (0, 0)]) (0 : Nat)) (.cons (by first | exact Pull.p0 | exact Pull.p1 | exact Pull.p2 | exact Pull.p3 | exact Pull.p4 | exact Pull.p5 | exact Pull.p6 | exact Pull.p7 | exact Pull.p8 | exact Pull.p9) (.cons (by first | exact Pull.p0 | exact Pull.p1 | exact Pull.p2 | exact Pull.p3 | exact Pull.p4 | exact Pull.p5 | exact Pull.p6 | exact Pull.p7 | exact Pull.p8 | exact Pull.p9) (.cons (by first | exact Pull.p0 | exact Pull.p1 | exact Pull.p2 | exact Pull.p3 | exact Pull.p4 | exact Pull.p5 | exact Pull.p6 | exact Pull.p7 | exact Pull.p8 | exact Pull.p9) (.cons (by first | exact Pull.p0 | exact Pull.p1 | exact Pull.p2 | exact Pull.p3 | exact Pull.p4 | exact Pull.p5 | exact Pull.p6 | exact Pull.p7 | exact Pull.p8 | exact Pull.p9) .nil)))) ?_
      refine At.keep ((fun k => [(2, ptr b2 0), (4, ptr b4 0), (5, .func (.func 96) #[] #[]), (6, ptr b6 0), (9, ptr b9 0), (45, .agg (shaK.map u32).toArray), (46, i64 k)]) (0 : Nat)) (.cons rfl (.cons rfl (.cons rfl (.cons rfl (.cons rfl (.cons rfl (.cons rfl .nil))))))) ?_
      refine At.loop (σ := Nat) (fun k => k ≤ 64) (fun k => [(2, ptr b2 0), (4, ptr b4 0), (5, .func (.func 96) #[] #[]), (6, ptr b6 0), (9, ptr b9 0), (45, .agg (shaK.map u32).toArray), (46, i64 k)]) (fun k => [row b2 [u32 h.a, u32 h.b, u32 h.c, u32 h.d, u32 h.e, u32 h.f, u32 h.g, u32 h.h] 144 (0, 0), row b4 (List.replicate 8 (Value.int .u32 0)) 144 (0, 0), row b6 ((it h (wAcc s 64) k).2.map u32) 156 (0, 0), row b9 [u32 (it h (wAcc s 64) k).1.a, u32 (it h (wAcc s 64) k).1.b, u32 (it h (wAcc s 64) k).1.c, u32 (it h (wAcc s 64) k).1.d, u32 (it h (wAcc s 64) k).1.e, u32 (it h (wAcc s 64) k).1.f, u32 (it h (wAcc s 64) k).1.g, u32 (it h (wAcc s 64) k).1.h] 144 (0, 0)]) (fun k => 64 - k) (0 : Nat) (Nat.zero_le _) ?_
      rintro k hk
      rcases hit : (it h (wAcc s 64) k) with ⟨⟨va, vb, vc, vd, ve, vf, vg, vh⟩, ws⟩
      have hwl : ws.length = 16 := by
        have := it_length h (wAcc s 64) (wAcc_length s 64) k
        rw [hit] at this
        exact this
      dsimp only
      refine At.seq ?_
      refine At.region ?_
      refine At.op rfl (op_bin rfl rfl b_lt rfl ?_)
      refine At.nil ?_
      refine At.then_n ?_
      refine At.seq ?_
      refine At.cond_p rfl (fun hlt => ?_) (fun hlt => ?_)
      ·
        refine At.skip ?_
        refine At.then_n ?_
        refine At.seq ?_
        refine At.block ?_
        refine At.seq ?_
        refine At.region ?_
        refine At.op rfl (op_move rfl rfl ?_)
        refine At.op rfl (op_indexV rfl rfl Tryz.underlying157 Tryz.sizeOf137 Tryz.isAgg137 (by omega) (by omega) (mgetA shaK k _ (by omega) (by rw [shaK_length]; omega)) rfl ?_)
        refine At.op rfl (op_assign rfl rfl ?_)
        refine At.op rfl (op_assign rfl rfl ?_)
        refine At.nil ?_
        refine At.then_n ?_
        refine At.seq ?_
        refine At.region ?_
        refine At.op rfl (op_move rfl rfl ?_)
        refine At.op rfl (op_bin rfl rfl (b_rem (by omega) (by decide)) rfl ?_)
        refine At.op rfl (op_assign rfl rfl ?_)
        refine At.nil ?_
        refine At.then_n ?_
        refine At.seq_meet (r := _) (fun w2 : List UInt32 => w2 = sched k ws) (fun _ : List UInt32 => [(2, ptr b2 0), (4, ptr b4 0), (5, .func (.func 96) #[] #[]), (6, ptr b6 0), (9, ptr b9 0), (45, .agg (shaK.map u32).toArray), (46, i64 k), (10, i64 k), (11, u32 (shaK.getD k 0)), (12, i64 ((k : Int) % 16))]) (fun w2 => [row b2 [u32 h.a, u32 h.b, u32 h.c, u32 h.d, u32 h.e, u32 h.f, u32 h.g, u32 h.h] 144 (0, 0), row b4 (List.replicate 8 (Value.int .u32 0)) 144 (0, 0), row b6 (w2.map u32) 156 (0, 0), row b9 [u32 va, u32 vb, u32 vc, u32 vd, u32 ve, u32 vf, u32 vg, u32 vh] 144 (0, 0)]) ?_ ?_
        ·
          refine At.seq ?_
          refine At.region ?_
          refine At.op rfl (op_move rfl rfl ?_)
          refine At.op rfl (op_bin rfl rfl b_ge rfl ?_)
          refine At.nil ?_
          refine At.then_n ?_
          refine At.cond_p rfl (fun h16 => ?_) (fun h16 => ?_)
          ·
            refine At.seq ?_
            refine At.drawC [_, _, _, _, _, _, _, _, _, _, _, _] (by kernel_rfl) (by decide) (by kernel_rfl) 
              (Steps'.cons (Step.op rfl (fun D h1 h2 h3 K hK => op_move (mD_base rfl rfl) rfl hK))
              (Steps'.cons (Step.op rfl (fun D h1 h2 h3 K hK => op_bin (mD_done 0 (by decide) (pre_at h2 0 rfl rfl) rfl rfl rfl) rfl (b_add (by omega) (by omega)) rfl hK))
              (Steps'.cons (Step.op rfl (fun D h1 h2 h3 K hK => op_bin (mD_done 1 (by decide) (pre_at h2 0 rfl rfl) rfl rfl rfl) rfl (b_rem (by omega) (by decide)) rfl hK))
              (Steps'.cons (Step.op rfl (fun D h1 h2 h3 K hK => op_indexA (mD_base rfl rfl) (mD_done 2 (by decide) (pre_at h2 0 rfl rfl) rfl rfl rfl) Tryz.underlying156 Tryz.sizeOf137 (by omega) (by omega) rfl hK))
              (Steps'.cons (Step.op rfl (fun D h1 h2 h3 K hK => op_load (mD_done 3 (by decide) (pre_at h2 0 rfl rfl) rfl rfl rfl) Tryz.isAgg137 (by first | with_reducible exact Pull.p0 | with_reducible exact Pull.p1 | with_reducible exact Pull.p2 | with_reducible exact Pull.p3 | with_reducible exact Pull.p4 | with_reducible exact Pull.p5 | with_reducible exact Pull.p6 | with_reducible exact Pull.p7 | with_reducible exact Pull.p8 | with_reducible exact Pull.p9) (mget ws ((k + 1) % 16) _ (by omega) (by rw [hwl]; omega)) rfl hK))
              (Steps'.cons (Step.op rfl (fun D h1 h2 h3 K hK => op_move (mD_base rfl rfl) rfl hK))
              (Steps'.cons (Step.op rfl (fun D h1 h2 h3 K hK => op_bin (mD_done 5 (by decide) (pre_at h2 0 rfl rfl) rfl rfl rfl) rfl (b_add (by omega) (by omega)) rfl hK))
              (Steps'.cons (Step.op rfl (fun D h1 h2 h3 K hK => op_bin (mD_done 6 (by decide) (pre_at h2 0 rfl rfl) rfl rfl rfl) rfl (b_rem (by omega) (by decide)) rfl hK))
              (Steps'.cons (Step.op rfl (fun D h1 h2 h3 K hK => op_indexA (mD_base rfl rfl) (mD_done 7 (by decide) (pre_at h2 0 rfl rfl) rfl rfl rfl) Tryz.underlying156 Tryz.sizeOf137 (by omega) (by omega) rfl hK))
              (Steps'.cons (Step.op rfl (fun D h1 h2 h3 K hK => op_load (mD_done 8 (by decide) (pre_at h2 0 rfl rfl) rfl rfl rfl) Tryz.isAgg137 (by first | with_reducible exact Pull.p0 | with_reducible exact Pull.p1 | with_reducible exact Pull.p2 | with_reducible exact Pull.p3 | with_reducible exact Pull.p4 | with_reducible exact Pull.p5 | with_reducible exact Pull.p6 | with_reducible exact Pull.p7 | with_reducible exact Pull.p8 | with_reducible exact Pull.p9) (mget ws ((k + 14) % 16) _ (by omega) (by rw [hwl]; omega)) rfl hK))
              (Steps'.cons (Step.op rfl (fun D h1 h2 h3 K hK => op_assign (mD_done 4 (by decide) (pre_at h2 0 rfl rfl) rfl rfl rfl) rfl hK))
              (Steps'.cons (Step.op rfl (fun D h1 h2 h3 K hK => op_assign (mD_done 9 (by decide) (pre_at h2 0 rfl rfl) rfl rfl rfl) rfl hK))
              Steps'.nil)))))))))))) ?_
            refine At.keep [(2, _), (4, _), (5, _), (6, _), (9, _), (45, _), (46, _), (10, _), (11, _), (12, _), (13, _), (14, _)] (.cons rfl (.cons rfl (.cons rfl (.cons rfl (.cons rfl (.cons rfl (.cons rfl (.cons rfl (.cons rfl (.cons rfl (.cons rfl (.cons rfl .nil)))))))))))) ?_
            refine At.then_n ?_
            refine At.drawL _ [_, _, _, _, _, _, _, _, _, _, _, _, _, _, _, _, _, _, _, _, _, _, _, _, _, _, _, _, _, _, _, _, undef] (by kernel_rfl) (by decide) (by kernel_rfl) (by kernel_rfl) 
              (.cons (Step.op rfl (fun D h1 h2 h3 K hK => op_move (mD_base rfl rfl) rfl hK))
              (.cons (Step.op rfl (fun D h1 h2 h3 K hK => op_indexA (mD_base rfl rfl) (mD_done 0 (by decide) (pre_at h2 0 rfl rfl) rfl rfl rfl) Tryz.underlying156 Tryz.sizeOf137 (by omega) (by omega) rfl hK))
              (.cons (Step.op rfl (fun D h1 h2 h3 K hK => op_load (mD_done 1 (by decide) (pre_at h2 0 rfl rfl) rfl rfl rfl) Tryz.isAgg137 (by first | with_reducible exact Pull.p0 | with_reducible exact Pull.p1 | with_reducible exact Pull.p2 | with_reducible exact Pull.p3 | with_reducible exact Pull.p4 | with_reducible exact Pull.p5 | with_reducible exact Pull.p6 | with_reducible exact Pull.p7 | with_reducible exact Pull.p8 | with_reducible exact Pull.p9) (mget ws (k % 16) _ (by omega) (by rw [hwl]; omega)) rfl hK))
              (.cons (Step.op rfl (fun D h1 h2 h3 K hK => op_move (mD_base rfl rfl) rfl hK))
              (.cons (Step.op rfl (fun D h1 h2 h3 K hK => op_move (mD_base rfl rfl) rfl hK))
              (.cons (Step.op rfl (fun D h1 h2 h3 K hK => op_callC1 (fs := []) (cap := []) (mD_done 3 (by decide) (pre_at h2 0 rfl rfl) rfl rfl rfl) (evs_cons (mD_done 4 (by decide) (pre_at h2 1 rfl rfl) rfl rfl rfl) (evs_cons rfl evs_nil)) Tryz.call96 rfl (sha_Step_1 _ 7 (by decide) (by decide)) rfl hK))
              (.cons (Step.op rfl (fun D h1 h2 h3 K hK => op_move (mD_base rfl rfl) rfl hK))
              (.cons (Step.op rfl (fun D h1 h2 h3 K hK => op_move (mD_base rfl rfl) rfl hK))
              (.cons (Step.op rfl (fun D h1 h2 h3 K hK => op_callC1 (fs := []) (cap := []) (mD_done 6 (by decide) (pre_at h2 0 rfl rfl) rfl rfl rfl) (evs_cons (mD_done 7 (by decide) (pre_at h2 1 rfl rfl) rfl rfl rfl) (evs_cons rfl evs_nil)) Tryz.call96 rfl (sha_Step_1 _ 18 (by decide) (by decide)) rfl hK))
              (.cons (Step.op rfl (fun D h1 h2 h3 K hK => op_bin (mD_done 5 (by decide) (pre_at h2 0 rfl rfl) rfl rfl rfl) (mD_done 8 (by decide) (pre_at h2 1 rfl rfl) rfl rfl rfl) (b32_xor _ _) rfl hK))
              (.cons (Step.op rfl (fun D h1 h2 h3 K hK => op_move (mD_base rfl rfl) rfl hK))
              (.cons (Step.op rfl (fun D h1 h2 h3 K hK => op_bin (mD_done 10 (by decide) (pre_at h2 0 rfl rfl) rfl rfl rfl) rfl (b32_shr _ _ 3 (by decide)) rfl hK))
              (.cons (Step.op rfl (fun D h1 h2 h3 K hK => op_bin (mD_done 9 (by decide) (pre_at h2 0 rfl rfl) rfl rfl rfl) (mD_done 11 (by decide) (pre_at h2 1 rfl rfl) rfl rfl rfl) (b32_xor _ _) rfl hK))
              (.cons (Step.op rfl (fun D h1 h2 h3 K hK => op_move (mD_base rfl rfl) rfl hK))
              (.cons (Step.op rfl (fun D h1 h2 h3 K hK => op_bin (mD_done 13 (by decide) (pre_at h2 0 rfl rfl) rfl rfl rfl) rfl (b_add (by omega) (by omega)) rfl hK))
              (.cons (Step.op rfl (fun D h1 h2 h3 K hK => op_bin (mD_done 14 (by decide) (pre_at h2 0 rfl rfl) rfl rfl rfl) rfl (b_rem (by omega) (by decide)) rfl hK))
              (.cons (Step.op rfl (fun D h1 h2 h3 K hK => op_indexA (mD_base rfl rfl) (mD_done 15 (by decide) (pre_at h2 0 rfl rfl) rfl rfl rfl) Tryz.underlying156 Tryz.sizeOf137 (by omega) (by omega) rfl hK))
              (.cons (Step.op rfl (fun D h1 h2 h3 K hK => op_load (mD_done 16 (by decide) (pre_at h2 0 rfl rfl) rfl rfl rfl) Tryz.isAgg137 (by first | with_reducible exact Pull.p0 | with_reducible exact Pull.p1 | with_reducible exact Pull.p2 | with_reducible exact Pull.p3 | with_reducible exact Pull.p4 | with_reducible exact Pull.p5 | with_reducible exact Pull.p6 | with_reducible exact Pull.p7 | with_reducible exact Pull.p8 | with_reducible exact Pull.p9) (mget ws ((k + 9) % 16) _ (by omega) (by rw [hwl]; omega)) rfl hK))
              (.cons (Step.op rfl (fun D h1 h2 h3 K hK => op_bin (mD_done 12 (by decide) (pre_at h2 0 rfl rfl) rfl rfl rfl) (mD_done 17 (by decide) (pre_at h2 1 rfl rfl) rfl rfl rfl) (b32_add _ _) rfl hK))
              (.cons (Step.op rfl (fun D h1 h2 h3 K hK => op_move (mD_base rfl rfl) rfl hK))
              (.cons (Step.op rfl (fun D h1 h2 h3 K hK => op_move (mD_base rfl rfl) rfl hK))
              (.cons (Step.op rfl (fun D h1 h2 h3 K hK => op_callC1 (fs := []) (cap := []) (mD_done 19 (by decide) (pre_at h2 0 rfl rfl) rfl rfl rfl) (evs_cons (mD_done 20 (by decide) (pre_at h2 1 rfl rfl) rfl rfl rfl) (evs_cons rfl evs_nil)) Tryz.call96 rfl (sha_Step_1 _ 17 (by decide) (by decide)) rfl hK))
              (.cons (Step.op rfl (fun D h1 h2 h3 K hK => op_move (mD_base rfl rfl) rfl hK))
              (.cons (Step.op rfl (fun D h1 h2 h3 K hK => op_move (mD_base rfl rfl) rfl hK))
              (.cons (Step.op rfl (fun D h1 h2 h3 K hK => op_callC1 (fs := []) (cap := []) (mD_done 22 (by decide) (pre_at h2 0 rfl rfl) rfl rfl rfl) (evs_cons (mD_done 23 (by decide) (pre_at h2 1 rfl rfl) rfl rfl rfl) (evs_cons rfl evs_nil)) Tryz.call96 rfl (sha_Step_1 _ 19 (by decide) (by decide)) rfl hK))
              (.cons (Step.op rfl (fun D h1 h2 h3 K hK => op_bin (mD_done 21 (by decide) (pre_at h2 0 rfl rfl) rfl rfl rfl) (mD_done 24 (by decide) (pre_at h2 1 rfl rfl) rfl rfl rfl) (b32_xor _ _) rfl hK))
              (.cons (Step.op rfl (fun D h1 h2 h3 K hK => op_move (mD_base rfl rfl) rfl hK))
              (.cons (Step.op rfl (fun D h1 h2 h3 K hK => op_bin (mD_done 26 (by decide) (pre_at h2 0 rfl rfl) rfl rfl rfl) rfl (b32_shr _ _ 10 (by decide)) rfl hK))
              (.cons (Step.op rfl (fun D h1 h2 h3 K hK => op_bin (mD_done 25 (by decide) (pre_at h2 0 rfl rfl) rfl rfl rfl) (mD_done 27 (by decide) (pre_at h2 1 rfl rfl) rfl rfl rfl) (b32_xor _ _) rfl hK))
              (.cons (Step.op rfl (fun D h1 h2 h3 K hK => op_bin (mD_done 18 (by decide) (pre_at h2 0 rfl rfl) rfl rfl rfl) (mD_done 28 (by decide) (pre_at h2 1 rfl rfl) rfl rfl rfl) (b32_add _ _) rfl hK))
              (.cons (Step.op rfl (fun D h1 h2 h3 K hK => op_bin (mD_done 2 (by decide) (pre_at h2 0 rfl rfl) rfl rfl rfl) (mD_done 29 (by decide) (pre_at h2 1 rfl rfl) rfl rfl rfl) (b32_add _ _) rfl hK))
              (.cons (Step.op rfl (fun D h1 h2 h3 K hK => op_indexA (mD_base rfl rfl) (mD_done 0 (by decide) (pre_at h2 0 rfl rfl) rfl rfl rfl) Tryz.underlying156 Tryz.sizeOf137 (by omega) (by omega) rfl hK))
              (.last (Last.op rfl (fun D h2 K hK => op_store (mD_done 31 (by decide) (pre_at h2 0 rfl rfl) rfl rfl rfl) (mD_done 30 (by decide) (pre_at h2 1 rfl rfl) rfl rfl rfl) Tryz.sizeOf137 rfl rfl (by first | with_reducible exact Pull.p0 | with_reducible exact Pull.p1 | with_reducible exact Pull.p2 | with_reducible exact Pull.p3 | with_reducible exact Pull.p4 | with_reducible exact Pull.p5 | with_reducible exact Pull.p6 | with_reducible exact Pull.p7 | with_reducible exact Pull.p8 | with_reducible exact Pull.p9) (mset ws (k % 16) _ _ (by omega) (by rw [hwl]; omega)) rfl hK))
              ))))))))))))))))))))))))))))))))) ?_
            refine At.keep [(2, _), (4, _), (5, _), (6, _), (9, _), (45, _), (46, _), (10, _), (11, _), (12, _)] (.cons rfl (.cons rfl (.cons rfl (.cons rfl (.cons rfl (.cons rfl (.cons rfl (.cons rfl (.cons rfl (.cons rfl .nil)))))))))) ?_
            refine At.then_n ?_
            first
              | exact At.meet (ws.set (k % 16) (schedX k ws)) (if_pos (by omega)).symm (.cons rfl (.cons rfl (.cons rfl (.cons rfl (.cons rfl (.cons rfl (.cons rfl (.cons rfl (.cons rfl (.cons rfl .nil)))))))))) (.cons (by first | exact Pull.p0 | exact Pull.p1 | exact Pull.p2 | exact Pull.p3 | exact Pull.p4 | exact Pull.p5 | exact Pull.p6 | exact Pull.p7 | exact Pull.p8 | exact Pull.p9) (.cons (by first | exact Pull.p0 | exact Pull.p1 | exact Pull.p2 | exact Pull.p3 | exact Pull.p4 | exact Pull.p5 | exact Pull.p6 | exact Pull.p7 | exact Pull.p8 | exact Pull.p9) (.cons (by first | exact Pull.p0 | exact Pull.p1 | exact Pull.p2 | exact Pull.p3 | exact Pull.p4 | exact Pull.p5 | exact Pull.p6 | exact Pull.p7 | exact Pull.p8 | exact Pull.p9) (.cons (by first | exact Pull.p0 | exact Pull.p1 | exact Pull.p2 | exact Pull.p3 | exact Pull.p4 | exact Pull.p5 | exact Pull.p6 | exact Pull.p7 | exact Pull.p8 | exact Pull.p9) .nil))))
              | exact At.meet ws (if_neg (by omega)).symm (.cons rfl (.cons rfl (.cons rfl (.cons rfl (.cons rfl (.cons rfl (.cons rfl (.cons rfl (.cons rfl (.cons rfl .nil)))))))))) (.cons (by first | exact Pull.p0 | exact Pull.p1 | exact Pull.p2 | exact Pull.p3 | exact Pull.p4 | exact Pull.p5 | exact Pull.p6 | exact Pull.p7 | exact Pull.p8 | exact Pull.p9) (.cons (by first | exact Pull.p0 | exact Pull.p1 | exact Pull.p2 | exact Pull.p3 | exact Pull.p4 | exact Pull.p5 | exact Pull.p6 | exact Pull.p7 | exact Pull.p8 | exact Pull.p9) (.cons (by first | exact Pull.p0 | exact Pull.p1 | exact Pull.p2 | exact Pull.p3 | exact Pull.p4 | exact Pull.p5 | exact Pull.p6 | exact Pull.p7 | exact Pull.p8 | exact Pull.p9) (.cons (by first | exact Pull.p0 | exact Pull.p1 | exact Pull.p2 | exact Pull.p3 | exact Pull.p4 | exact Pull.p5 | exact Pull.p6 | exact Pull.p7 | exact Pull.p8 | exact Pull.p9) .nil))))
          ·
            refine At.skip ?_
            refine At.then_n ?_
            first
              | exact At.meet (ws.set (k % 16) (schedX k ws)) (if_pos (by omega)).symm (.cons rfl (.cons rfl (.cons rfl (.cons rfl (.cons rfl (.cons rfl (.cons rfl (.cons rfl (.cons rfl (.cons rfl .nil)))))))))) (.cons (by first | exact Pull.p0 | exact Pull.p1 | exact Pull.p2 | exact Pull.p3 | exact Pull.p4 | exact Pull.p5 | exact Pull.p6 | exact Pull.p7 | exact Pull.p8 | exact Pull.p9) (.cons (by first | exact Pull.p0 | exact Pull.p1 | exact Pull.p2 | exact Pull.p3 | exact Pull.p4 | exact Pull.p5 | exact Pull.p6 | exact Pull.p7 | exact Pull.p8 | exact Pull.p9) (.cons (by first | exact Pull.p0 | exact Pull.p1 | exact Pull.p2 | exact Pull.p3 | exact Pull.p4 | exact Pull.p5 | exact Pull.p6 | exact Pull.p7 | exact Pull.p8 | exact Pull.p9) (.cons (by first | exact Pull.p0 | exact Pull.p1 | exact Pull.p2 | exact Pull.p3 | exact Pull.p4 | exact Pull.p5 | exact Pull.p6 | exact Pull.p7 | exact Pull.p8 | exact Pull.p9) .nil))))
              | exact At.meet ws (if_neg (by omega)).symm (.cons rfl (.cons rfl (.cons rfl (.cons rfl (.cons rfl (.cons rfl (.cons rfl (.cons rfl (.cons rfl (.cons rfl .nil)))))))))) (.cons (by first | exact Pull.p0 | exact Pull.p1 | exact Pull.p2 | exact Pull.p3 | exact Pull.p4 | exact Pull.p5 | exact Pull.p6 | exact Pull.p7 | exact Pull.p8 | exact Pull.p9) (.cons (by first | exact Pull.p0 | exact Pull.p1 | exact Pull.p2 | exact Pull.p3 | exact Pull.p4 | exact Pull.p5 | exact Pull.p6 | exact Pull.p7 | exact Pull.p8 | exact Pull.p9) (.cons (by first | exact Pull.p0 | exact Pull.p1 | exact Pull.p2 | exact Pull.p3 | exact Pull.p4 | exact Pull.p5 | exact Pull.p6 | exact Pull.p7 | exact Pull.p8 | exact Pull.p9) (.cons (by first | exact Pull.p0 | exact Pull.p1 | exact Pull.p2 | exact Pull.p3 | exact Pull.p4 | exact Pull.p5 | exact Pull.p6 | exact Pull.p7 | exact Pull.p8 | exact Pull.p9) .nil))))
        ·
          rintro w2 hw2
          have hwl2 : w2.length = 16 := by rw [hw2, sched_length, hwl]
          refine At.seq ?_
          refine At.drawC [_, _, _, _, _, _] (by kernel_rfl) (by decide) (by kernel_rfl) 
            (Steps'.cons (Step.op rfl (fun D h1 h2 h3 K hK => op_indexA (mD_base rfl rfl) rfl Tryz.underlying144 Tryz.sizeOf137 (by decide) (by decide) rfl hK))
            (Steps'.cons (Step.op rfl (fun D h1 h2 h3 K hK => op_load (mD_done 0 (by decide) (pre_at h2 0 rfl rfl) rfl rfl rfl) Tryz.isAgg137 (by first | with_reducible exact Pull.p0 | with_reducible exact Pull.p1 | with_reducible exact Pull.p2 | with_reducible exact Pull.p3 | with_reducible exact Pull.p4 | with_reducible exact Pull.p5 | with_reducible exact Pull.p6 | with_reducible exact Pull.p7 | with_reducible exact Pull.p8 | with_reducible exact Pull.p9) rfl rfl hK))
            (Steps'.cons (Step.op rfl (fun D h1 h2 h3 K hK => op_indexA (mD_base rfl rfl) rfl Tryz.underlying144 Tryz.sizeOf137 (by decide) (by decide) rfl hK))
            (Steps'.cons (Step.op rfl (fun D h1 h2 h3 K hK => op_load (mD_done 2 (by decide) (pre_at h2 0 rfl rfl) rfl rfl rfl) Tryz.isAgg137 (by first | with_reducible exact Pull.p0 | with_reducible exact Pull.p1 | with_reducible exact Pull.p2 | with_reducible exact Pull.p3 | with_reducible exact Pull.p4 | with_reducible exact Pull.p5 | with_reducible exact Pull.p6 | with_reducible exact Pull.p7 | with_reducible exact Pull.p8 | with_reducible exact Pull.p9) rfl rfl hK))
            (Steps'.cons (Step.op rfl (fun D h1 h2 h3 K hK => op_assign (mD_done 1 (by decide) (pre_at h2 0 rfl rfl) rfl rfl rfl) rfl hK))
            (Steps'.cons (Step.op rfl (fun D h1 h2 h3 K hK => op_assign (mD_done 3 (by decide) (pre_at h2 0 rfl rfl) rfl rfl rfl) rfl hK))
            Steps'.nil)))))) ?_
          refine At.keep [(2, _), (4, _), (5, _), (6, _), (9, _), (45, _), (46, _), (11, _), (12, _), (15, _), (16, _)] (.cons rfl (.cons rfl (.cons rfl (.cons rfl (.cons rfl (.cons rfl (.cons rfl (.cons rfl (.cons rfl (.cons rfl (.cons rfl .nil))))))))))) ?_
          refine At.then_n ?_
          refine At.seq ?_
          refine At.drawC [_, _, _, _, _, _, _, _, _, _, _, _, _, _, _, _, _, _, _, _, _, _, _, _, _, _, _, _, _, _, _, _] (by kernel_rfl) (by decide) (by kernel_rfl) 
            (Steps'.cons (Step.op rfl (fun D h1 h2 h3 K hK => op_indexA (mD_base rfl rfl) rfl Tryz.underlying144 Tryz.sizeOf137 (by decide) (by decide) rfl hK))
            (Steps'.cons (Step.op rfl (fun D h1 h2 h3 K hK => op_load (mD_done 0 (by decide) (pre_at h2 0 rfl rfl) rfl rfl rfl) Tryz.isAgg137 (by first | with_reducible exact Pull.p0 | with_reducible exact Pull.p1 | with_reducible exact Pull.p2 | with_reducible exact Pull.p3 | with_reducible exact Pull.p4 | with_reducible exact Pull.p5 | with_reducible exact Pull.p6 | with_reducible exact Pull.p7 | with_reducible exact Pull.p8 | with_reducible exact Pull.p9) rfl rfl hK))
            (Steps'.cons (Step.op rfl (fun D h1 h2 h3 K hK => op_move (mD_base rfl rfl) rfl hK))
            (Steps'.cons (Step.op rfl (fun D h1 h2 h3 K hK => op_move (mD_base rfl rfl) rfl hK))
            (Steps'.cons (Step.op rfl (fun D h1 h2 h3 K hK => op_callC1 (fs := []) (cap := []) (mD_done 2 (by decide) (pre_at h2 0 rfl rfl) rfl rfl rfl) (evs_cons (mD_done 3 (by decide) (pre_at h2 1 rfl rfl) rfl rfl rfl) (evs_cons rfl evs_nil)) Tryz.call96 rfl (sha_Step_1 _ 6 (by decide) (by decide)) rfl hK))
            (Steps'.cons (Step.op rfl (fun D h1 h2 h3 K hK => op_move (mD_base rfl rfl) rfl hK))
            (Steps'.cons (Step.op rfl (fun D h1 h2 h3 K hK => op_move (mD_base rfl rfl) rfl hK))
            (Steps'.cons (Step.op rfl (fun D h1 h2 h3 K hK => op_callC1 (fs := []) (cap := []) (mD_done 5 (by decide) (pre_at h2 0 rfl rfl) rfl rfl rfl) (evs_cons (mD_done 6 (by decide) (pre_at h2 1 rfl rfl) rfl rfl rfl) (evs_cons rfl evs_nil)) Tryz.call96 rfl (sha_Step_1 _ 11 (by decide) (by decide)) rfl hK))
            (Steps'.cons (Step.op rfl (fun D h1 h2 h3 K hK => op_bin (mD_done 4 (by decide) (pre_at h2 0 rfl rfl) rfl rfl rfl) (mD_done 7 (by decide) (pre_at h2 1 rfl rfl) rfl rfl rfl) (b32_xor _ _) rfl hK))
            (Steps'.cons (Step.op rfl (fun D h1 h2 h3 K hK => op_move (mD_base rfl rfl) rfl hK))
            (Steps'.cons (Step.op rfl (fun D h1 h2 h3 K hK => op_move (mD_base rfl rfl) rfl hK))
            (Steps'.cons (Step.op rfl (fun D h1 h2 h3 K hK => op_callC1 (fs := []) (cap := []) (mD_done 9 (by decide) (pre_at h2 0 rfl rfl) rfl rfl rfl) (evs_cons (mD_done 10 (by decide) (pre_at h2 1 rfl rfl) rfl rfl rfl) (evs_cons rfl evs_nil)) Tryz.call96 rfl (sha_Step_1 _ 25 (by decide) (by decide)) rfl hK))
            (Steps'.cons (Step.op rfl (fun D h1 h2 h3 K hK => op_bin (mD_done 8 (by decide) (pre_at h2 0 rfl rfl) rfl rfl rfl) (mD_done 11 (by decide) (pre_at h2 1 rfl rfl) rfl rfl rfl) (b32_xor _ _) rfl hK))
            (Steps'.cons (Step.op rfl (fun D h1 h2 h3 K hK => op_bin (mD_done 1 (by decide) (pre_at h2 0 rfl rfl) rfl rfl rfl) (mD_done 12 (by decide) (pre_at h2 1 rfl rfl) rfl rfl rfl) (b32_add _ _) rfl hK))
            (Steps'.cons (Step.op rfl (fun D h1 h2 h3 K hK => op_move (mD_base rfl rfl) rfl hK))
            (Steps'.cons (Step.op rfl (fun D h1 h2 h3 K hK => op_indexA (mD_base rfl rfl) rfl Tryz.underlying144 Tryz.sizeOf137 (by decide) (by decide) rfl hK))
            (Steps'.cons (Step.op rfl (fun D h1 h2 h3 K hK => op_load (mD_done 15 (by decide) (pre_at h2 0 rfl rfl) rfl rfl rfl) Tryz.isAgg137 (by first | with_reducible exact Pull.p0 | with_reducible exact Pull.p1 | with_reducible exact Pull.p2 | with_reducible exact Pull.p3 | with_reducible exact Pull.p4 | with_reducible exact Pull.p5 | with_reducible exact Pull.p6 | with_reducible exact Pull.p7 | with_reducible exact Pull.p8 | with_reducible exact Pull.p9) rfl rfl hK))
            (Steps'.cons (Step.op rfl (fun D h1 h2 h3 K hK => op_bin (mD_done 14 (by decide) (pre_at h2 0 rfl rfl) rfl rfl rfl) (mD_done 16 (by decide) (pre_at h2 1 rfl rfl) rfl rfl rfl) (b32_and _ _) rfl hK))
            (Steps'.cons (Step.op rfl (fun D h1 h2 h3 K hK => op_move (mD_base rfl rfl) rfl hK))
            (Steps'.cons (Step.op rfl (fun D h1 h2 h3 K hK => op_un (mD_done 18 (by decide) (pre_at h2 0 rfl rfl) rfl rfl rfl) (un32_not _) rfl hK))
            (Steps'.cons (Step.op rfl (fun D h1 h2 h3 K hK => op_indexA (mD_base rfl rfl) rfl Tryz.underlying144 Tryz.sizeOf137 (by decide) (by decide) rfl hK))
            (Steps'.cons (Step.op rfl (fun D h1 h2 h3 K hK => op_load (mD_done 20 (by decide) (pre_at h2 0 rfl rfl) rfl rfl rfl) Tryz.isAgg137 (by first | with_reducible exact Pull.p0 | with_reducible exact Pull.p1 | with_reducible exact Pull.p2 | with_reducible exact Pull.p3 | with_reducible exact Pull.p4 | with_reducible exact Pull.p5 | with_reducible exact Pull.p6 | with_reducible exact Pull.p7 | with_reducible exact Pull.p8 | with_reducible exact Pull.p9) rfl rfl hK))
            (Steps'.cons (Step.op rfl (fun D h1 h2 h3 K hK => op_bin (mD_done 19 (by decide) (pre_at h2 0 rfl rfl) rfl rfl rfl) (mD_done 21 (by decide) (pre_at h2 1 rfl rfl) rfl rfl rfl) (b32_and _ _) rfl hK))
            (Steps'.cons (Step.op rfl (fun D h1 h2 h3 K hK => op_bin (mD_done 17 (by decide) (pre_at h2 0 rfl rfl) rfl rfl rfl) (mD_done 22 (by decide) (pre_at h2 1 rfl rfl) rfl rfl rfl) (b32_or _ _) rfl hK))
            (Steps'.cons (Step.op rfl (fun D h1 h2 h3 K hK => op_bin (mD_done 13 (by decide) (pre_at h2 0 rfl rfl) rfl rfl rfl) (mD_done 23 (by decide) (pre_at h2 1 rfl rfl) rfl rfl rfl) (b32_add _ _) rfl hK))
            (Steps'.cons (Step.op rfl (fun D h1 h2 h3 K hK => op_move (mD_base rfl rfl) rfl hK))
            (Steps'.cons (Step.op rfl (fun D h1 h2 h3 K hK => op_bin (mD_done 24 (by decide) (pre_at h2 0 rfl rfl) rfl rfl rfl) (mD_done 25 (by decide) (pre_at h2 1 rfl rfl) rfl rfl rfl) (b32_add _ _) rfl hK))
            (Steps'.cons (Step.op rfl (fun D h1 h2 h3 K hK => op_move (mD_base rfl rfl) rfl hK))
            (Steps'.cons (Step.op rfl (fun D h1 h2 h3 K hK => op_indexA (mD_base rfl rfl) (mD_done 27 (by decide) (pre_at h2 0 rfl rfl) rfl rfl rfl) Tryz.underlying156 Tryz.sizeOf137 (by omega) (by omega) rfl hK))
            (Steps'.cons (Step.op rfl (fun D h1 h2 h3 K hK => op_load (mD_done 28 (by decide) (pre_at h2 0 rfl rfl) rfl rfl rfl) Tryz.isAgg137 (by first | with_reducible exact Pull.p0 | with_reducible exact Pull.p1 | with_reducible exact Pull.p2 | with_reducible exact Pull.p3 | with_reducible exact Pull.p4 | with_reducible exact Pull.p5 | with_reducible exact Pull.p6 | with_reducible exact Pull.p7 | with_reducible exact Pull.p8 | with_reducible exact Pull.p9) (mget w2 (k % 16) _ (by omega) (by rw [hwl2]; omega)) rfl hK))
            (Steps'.cons (Step.op rfl (fun D h1 h2 h3 K hK => op_bin (mD_done 26 (by decide) (pre_at h2 0 rfl rfl) rfl rfl rfl) (mD_done 29 (by decide) (pre_at h2 1 rfl rfl) rfl rfl rfl) (b32_add _ _) rfl hK))
            (Steps'.cons (Step.op rfl (fun D h1 h2 h3 K hK => op_assign (mD_done 30 (by decide) (pre_at h2 0 rfl rfl) rfl rfl rfl) rfl hK))
            Steps'.nil)))))))))))))))))))))))))))))))) ?_
          refine At.keep [(2, _), (4, _), (5, _), (6, _), (9, _), (45, _), (46, _), (15, _), (17, _)] (.cons rfl (.cons rfl (.cons rfl (.cons rfl (.cons rfl (.cons rfl (.cons rfl (.cons rfl (.cons rfl .nil))))))))) ?_
          refine At.then_n ?_
          refine At.seq ?_
          refine At.drawC [_, _, _, _, _, _, _, _, _, _, _, _, _, _, _, _, _, _, _, _, _, _, _, _, _, _] (by kernel_rfl) (by decide) (by kernel_rfl) 
            (Steps'.cons (Step.op rfl (fun D h1 h2 h3 K hK => op_move (mD_base rfl rfl) rfl hK))
            (Steps'.cons (Step.op rfl (fun D h1 h2 h3 K hK => op_move (mD_base rfl rfl) rfl hK))
            (Steps'.cons (Step.op rfl (fun D h1 h2 h3 K hK => op_callC1 (fs := []) (cap := []) (mD_done 0 (by decide) (pre_at h2 0 rfl rfl) rfl rfl rfl) (evs_cons (mD_done 1 (by decide) (pre_at h2 1 rfl rfl) rfl rfl rfl) (evs_cons rfl evs_nil)) Tryz.call96 rfl (sha_Step_1 _ 2 (by decide) (by decide)) rfl hK))
            (Steps'.cons (Step.op rfl (fun D h1 h2 h3 K hK => op_move (mD_base rfl rfl) rfl hK))
            (Steps'.cons (Step.op rfl (fun D h1 h2 h3 K hK => op_move (mD_base rfl rfl) rfl hK))
            (Steps'.cons (Step.op rfl (fun D h1 h2 h3 K hK => op_callC1 (fs := []) (cap := []) (mD_done 3 (by decide) (pre_at h2 0 rfl rfl) rfl rfl rfl) (evs_cons (mD_done 4 (by decide) (pre_at h2 1 rfl rfl) rfl rfl rfl) (evs_cons rfl evs_nil)) Tryz.call96 rfl (sha_Step_1 _ 13 (by decide) (by decide)) rfl hK))
            (Steps'.cons (Step.op rfl (fun D h1 h2 h3 K hK => op_bin (mD_done 2 (by decide) (pre_at h2 0 rfl rfl) rfl rfl rfl) (mD_done 5 (by decide) (pre_at h2 1 rfl rfl) rfl rfl rfl) (b32_xor _ _) rfl hK))
            (Steps'.cons (Step.op rfl (fun D h1 h2 h3 K hK => op_move (mD_base rfl rfl) rfl hK))
            (Steps'.cons (Step.op rfl (fun D h1 h2 h3 K hK => op_move (mD_base rfl rfl) rfl hK))
            (Steps'.cons (Step.op rfl (fun D h1 h2 h3 K hK => op_callC1 (fs := []) (cap := []) (mD_done 7 (by decide) (pre_at h2 0 rfl rfl) rfl rfl rfl) (evs_cons (mD_done 8 (by decide) (pre_at h2 1 rfl rfl) rfl rfl rfl) (evs_cons rfl evs_nil)) Tryz.call96 rfl (sha_Step_1 _ 22 (by decide) (by decide)) rfl hK))
            (Steps'.cons (Step.op rfl (fun D h1 h2 h3 K hK => op_bin (mD_done 6 (by decide) (pre_at h2 0 rfl rfl) rfl rfl rfl) (mD_done 9 (by decide) (pre_at h2 1 rfl rfl) rfl rfl rfl) (b32_xor _ _) rfl hK))
            (Steps'.cons (Step.op rfl (fun D h1 h2 h3 K hK => op_move (mD_base rfl rfl) rfl hK))
            (Steps'.cons (Step.op rfl (fun D h1 h2 h3 K hK => op_indexA (mD_base rfl rfl) rfl Tryz.underlying144 Tryz.sizeOf137 (by decide) (by decide) rfl hK))
            (Steps'.cons (Step.op rfl (fun D h1 h2 h3 K hK => op_load (mD_done 12 (by decide) (pre_at h2 0 rfl rfl) rfl rfl rfl) Tryz.isAgg137 (by first | with_reducible exact Pull.p0 | with_reducible exact Pull.p1 | with_reducible exact Pull.p2 | with_reducible exact Pull.p3 | with_reducible exact Pull.p4 | with_reducible exact Pull.p5 | with_reducible exact Pull.p6 | with_reducible exact Pull.p7 | with_reducible exact Pull.p8 | with_reducible exact Pull.p9) rfl rfl hK))
            (Steps'.cons (Step.op rfl (fun D h1 h2 h3 K hK => op_indexA (mD_base rfl rfl) rfl Tryz.underlying144 Tryz.sizeOf137 (by decide) (by decide) rfl hK))
            (Steps'.cons (Step.op rfl (fun D h1 h2 h3 K hK => op_load (mD_done 14 (by decide) (pre_at h2 0 rfl rfl) rfl rfl rfl) Tryz.isAgg137 (by first | with_reducible exact Pull.p0 | with_reducible exact Pull.p1 | with_reducible exact Pull.p2 | with_reducible exact Pull.p3 | with_reducible exact Pull.p4 | with_reducible exact Pull.p5 | with_reducible exact Pull.p6 | with_reducible exact Pull.p7 | with_reducible exact Pull.p8 | with_reducible exact Pull.p9) rfl rfl hK))
            (Steps'.cons (Step.op rfl (fun D h1 h2 h3 K hK => op_bin (mD_done 13 (by decide) (pre_at h2 0 rfl rfl) rfl rfl rfl) (mD_done 15 (by decide) (pre_at h2 1 rfl rfl) rfl rfl rfl) (b32_or _ _) rfl hK))
            (Steps'.cons (Step.op rfl (fun D h1 h2 h3 K hK => op_bin (mD_done 11 (by decide) (pre_at h2 0 rfl rfl) rfl rfl rfl) (mD_done 16 (by decide) (pre_at h2 1 rfl rfl) rfl rfl rfl) (b32_and _ _) rfl hK))
            (Steps'.cons (Step.op rfl (fun D h1 h2 h3 K hK => op_indexA (mD_base rfl rfl) rfl Tryz.underlying144 Tryz.sizeOf137 (by decide) (by decide) rfl hK))
            (Steps'.cons (Step.op rfl (fun D h1 h2 h3 K hK => op_load (mD_done 18 (by decide) (pre_at h2 0 rfl rfl) rfl rfl rfl) Tryz.isAgg137 (by first | with_reducible exact Pull.p0 | with_reducible exact Pull.p1 | with_reducible exact Pull.p2 | with_reducible exact Pull.p3 | with_reducible exact Pull.p4 | with_reducible exact Pull.p5 | with_reducible exact Pull.p6 | with_reducible exact Pull.p7 | with_reducible exact Pull.p8 | with_reducible exact Pull.p9) rfl rfl hK))
            (Steps'.cons (Step.op rfl (fun D h1 h2 h3 K hK => op_indexA (mD_base rfl rfl) rfl Tryz.underlying144 Tryz.sizeOf137 (by decide) (by decide) rfl hK))
            (Steps'.cons (Step.op rfl (fun D h1 h2 h3 K hK => op_load (mD_done 20 (by decide) (pre_at h2 0 rfl rfl) rfl rfl rfl) Tryz.isAgg137 (by first | with_reducible exact Pull.p0 | with_reducible exact Pull.p1 | with_reducible exact Pull.p2 | with_reducible exact Pull.p3 | with_reducible exact Pull.p4 | with_reducible exact Pull.p5 | with_reducible exact Pull.p6 | with_reducible exact Pull.p7 | with_reducible exact Pull.p8 | with_reducible exact Pull.p9) rfl rfl hK))
            (Steps'.cons (Step.op rfl (fun D h1 h2 h3 K hK => op_bin (mD_done 19 (by decide) (pre_at h2 0 rfl rfl) rfl rfl rfl) (mD_done 21 (by decide) (pre_at h2 1 rfl rfl) rfl rfl rfl) (b32_and _ _) rfl hK))
            (Steps'.cons (Step.op rfl (fun D h1 h2 h3 K hK => op_bin (mD_done 17 (by decide) (pre_at h2 0 rfl rfl) rfl rfl rfl) (mD_done 22 (by decide) (pre_at h2 1 rfl rfl) rfl rfl rfl) (b32_or _ _) rfl hK))
            (Steps'.cons (Step.op rfl (fun D h1 h2 h3 K hK => op_bin (mD_done 10 (by decide) (pre_at h2 0 rfl rfl) rfl rfl rfl) (mD_done 23 (by decide) (pre_at h2 1 rfl rfl) rfl rfl rfl) (b32_add _ _) rfl hK))
            (Steps'.cons (Step.op rfl (fun D h1 h2 h3 K hK => op_assign (mD_done 24 (by decide) (pre_at h2 0 rfl rfl) rfl rfl rfl) rfl hK))
            Steps'.nil)))))))))))))))))))))))))) ?_
          refine At.keep [(2, _), (4, _), (5, _), (6, _), (9, _), (45, _), (46, _), (17, _), (18, _)] (.cons rfl (.cons rfl (.cons rfl (.cons rfl (.cons rfl (.cons rfl (.cons rfl (.cons rfl (.cons rfl .nil))))))))) ?_
          refine At.then_n ?_
          refine At.seq ?_
          refine At.drawL [row b9 [u32 va, u32 va, u32 vb, u32 vc, u32 vd, u32 ve, u32 vf, u32 vg] 144 (0, 0), row b2 [u32 h.a, u32 h.b, u32 h.c, u32 h.d, u32 h.e, u32 h.f, u32 h.g, u32 h.h] 144 (0, 0), row b4 (List.replicate 8 (Value.int .u32 0)) 144 (0, 0), row b6 (w2.map u32) 156 (0, 0)] [_, _, _] (by kernel_rfl) (by decide) (by kernel_rfl) (by kernel_rfl) 
            (.cons (Step.op rfl (fun D h1 h2 h3 K hK => op_sl_arr_lo (mD_base rfl rfl) rfl Tryz.underlying144 Tryz.sizeOf137 (by decide) (by decide) rfl hK))
            (.cons (Step.op rfl (fun D h1 h2 h3 K hK => op_sl_arr_all (mD_base rfl rfl) Tryz.underlying144 Tryz.sizeOf137 rfl hK))
            (.last (Last.op rfl (fun D h2 K hK => op_copySame (cs := [u32 va, u32 vb, u32 vc, u32 vd, u32 ve, u32 vf, u32 vg, u32 vh]) (us := [u32 va, u32 vb, u32 vc, u32 vd, u32 ve, u32 vf, u32 vg]) (mD_done 0 (by decide) (pre_at h2 0 rfl rfl) rfl rfl rfl) (mD_done 1 (by decide) (pre_at h2 1 rfl rfl) rfl rfl rfl) Tryz.underlying158 (by kernel_rfl) (by first | with_reducible exact Pull.p0 | with_reducible exact Pull.p1 | with_reducible exact Pull.p2 | with_reducible exact Pull.p3 | with_reducible exact Pull.p4 | with_reducible exact Pull.p5 | with_reducible exact Pull.p6 | with_reducible exact Pull.p7 | with_reducible exact Pull.p8 | with_reducible exact Pull.p9) rfl rfl (Nat.le_refl 8) (List.forall_mem_cons.2 ⟨rfl, (List.forall_mem_cons.2 ⟨rfl, (List.forall_mem_cons.2 ⟨rfl, (List.forall_mem_cons.2 ⟨rfl, (List.forall_mem_cons.2 ⟨rfl, (List.forall_mem_cons.2 ⟨rfl, (List.forall_mem_cons.2 ⟨rfl, (fun _ h => by cases h)⟩)⟩)⟩)⟩)⟩)⟩)⟩) rfl hK))
            ))) ?_
          refine At.keep [(2, _), (4, _), (5, _), (6, _), (9, _), (45, _), (46, _), (17, _), (18, _)] (.cons rfl (.cons rfl (.cons rfl (.cons rfl (.cons rfl (.cons rfl (.cons rfl (.cons rfl (.cons rfl .nil))))))))) ?_
          refine At.then_n ?_
          refine At.region ?_
          refine At.op rfl (op_move rfl rfl ?_)
          refine At.op rfl (op_move rfl rfl ?_)
          refine At.op rfl (op_bin rfl rfl (b32_add _ _) rfl ?_)
          refine At.op rfl (op_indexA rfl rfl Tryz.underlying144 Tryz.sizeOf137 (by decide) (by decide) rfl ?_)
          refine At.op rfl (op_load rfl Tryz.isAgg137 (by first | with_reducible exact Pull.p0 | with_reducible exact Pull.p1 | with_reducible exact Pull.p2 | with_reducible exact Pull.p3 | with_reducible exact Pull.p4 | with_reducible exact Pull.p5 | with_reducible exact Pull.p6 | with_reducible exact Pull.p7 | with_reducible exact Pull.p8 | with_reducible exact Pull.p9) rfl rfl ?_)
          refine At.op rfl (op_move rfl rfl ?_)
          refine At.op rfl (op_bin rfl rfl (b32_add _ _) rfl ?_)
          refine At.op rfl (op_indexA rfl rfl Tryz.underlying144 Tryz.sizeOf137 (by decide) (by decide) rfl ?_)
          refine At.op rfl (op_store rfl rfl Tryz.sizeOf137 rfl rfl (by first | with_reducible exact Pull.p0 | with_reducible exact Pull.p1 | with_reducible exact Pull.p2 | with_reducible exact Pull.p3 | with_reducible exact Pull.p4 | with_reducible exact Pull.p5 | with_reducible exact Pull.p6 | with_reducible exact Pull.p7 | with_reducible exact Pull.p8 | with_reducible exact Pull.p9) .zero rfl ?_)
          refine At.op rfl (op_indexA rfl rfl Tryz.underlying144 Tryz.sizeOf137 (by decide) (by decide) rfl ?_)
          refine At.op rfl (op_store rfl rfl Tryz.sizeOf137 rfl rfl (by first | with_reducible exact Pull.p0 | with_reducible exact Pull.p1 | with_reducible exact Pull.p2 | with_reducible exact Pull.p3 | with_reducible exact Pull.p4 | with_reducible exact Pull.p5 | with_reducible exact Pull.p6 | with_reducible exact Pull.p7 | with_reducible exact Pull.p8 | with_reducible exact Pull.p9) (.succ (.succ (.succ (.succ .zero)))) rfl ?_)
          refine At.nil ?_
          refine At.blk_n ?_
          refine At.then_n ?_
          refine At.region ?_
          refine At.op rfl (op_bin rfl rfl (b_add (by omega) (by omega)) rfl ?_)
          refine At.op rfl (op_move rfl rfl ?_)
          refine At.nil ?_
          refine At.then_n ?_
          have hit2 : it h (wAcc s 64) (k + 1) = (rnd k w2 ⟨va, vb, vc, vd, ve, vf, vg, vh⟩, w2) := by rw [it, hit, hw2]
          refine At.back (k + 1) (by omega) (by omega) (.cons rfl (.cons rfl (.cons rfl (.cons rfl (.cons rfl (.cons rfl (.cons rfl .nil))))))) (kk := []) ?_
          rw [hit2]
          exact (.cons (by first | exact Pull.p0 | exact Pull.p1 | exact Pull.p2 | exact Pull.p3 | exact Pull.p4 | exact Pull.p5 | exact Pull.p6 | exact Pull.p7 | exact Pull.p8 | exact Pull.p9) (.cons (by first | exact Pull.p0 | exact Pull.p1 | exact Pull.p2 | exact Pull.p3 | exact Pull.p4 | exact Pull.p5 | exact Pull.p6 | exact Pull.p7 | exact Pull.p8 | exact Pull.p9) (.cons (by first | exact Pull.p0 | exact Pull.p1 | exact Pull.p2 | exact Pull.p3 | exact Pull.p4 | exact Pull.p5 | exact Pull.p6 | exact Pull.p7 | exact Pull.p8 | exact Pull.p9) (.cons (by first | exact Pull.p0 | exact Pull.p1 | exact Pull.p2 | exact Pull.p3 | exact Pull.p4 | exact Pull.p5 | exact Pull.p6 | exact Pull.p7 | exact Pull.p8 | exact Pull.p9) .nil))))
      ·
        obtain rfl : k = 64 := by omega
        refine At.exit ?_
        refine At.then_e ?_
        refine At.then_e ?_
        refine At.blk_e ?_
        refine At.then_n ?_
        refine At.seq ?_
        refine At.seq ?_
        refine At.region ?_
        refine At.op rfl (op_move rfl rfl ?_)
        refine At.nil ?_
        refine At.then_n ?_
        refine At.block ?_
        obtain ⟨v, hv⟩ : ∃ v : V8, v = ⟨va, vb, vc, vd, ve, vf, vg, vh⟩ := ⟨_, rfl⟩
        rw [show [u32 va, u32 vb, u32 vc, u32 vd, u32 ve, u32 vf, u32 vg, u32 vh] = (addP v h 0).map u32 by rw [hv]; rfl]
        refine At.cut (rs' := (fun k => [row b2 [u32 h.a, u32 h.b, u32 h.c, u32 h.d, u32 h.e, u32 h.f, u32 h.g, u32 h.h] 144 (0, 0), row b4 (List.replicate 8 (Value.int .u32 0)) 144 (0, 0), row b9 ((addP v h k).map u32) 144 (0, 0)]) (0 : Nat)) (.cons (by first | exact Pull.p0 | exact Pull.p1 | exact Pull.p2 | exact Pull.p3 | exact Pull.p4 | exact Pull.p5 | exact Pull.p6 | exact Pull.p7 | exact Pull.p8 | exact Pull.p9) (.cons (by first | exact Pull.p0 | exact Pull.p1 | exact Pull.p2 | exact Pull.p3 | exact Pull.p4 | exact Pull.p5 | exact Pull.p6 | exact Pull.p7 | exact Pull.p8 | exact Pull.p9) (.cons (by first | exact Pull.p0 | exact Pull.p1 | exact Pull.p2 | exact Pull.p3 | exact Pull.p4 | exact Pull.p5 | exact Pull.p6 | exact Pull.p7 | exact Pull.p8 | exact Pull.p9) .nil))) ?_
        refine At.keep ((fun k => [(2, ptr b2 0), (4, ptr b4 0), (9, ptr b9 0), (169, i64 k)]) (0 : Nat)) (.cons rfl (.cons rfl (.cons rfl (.cons rfl .nil)))) ?_
        refine At.loop (σ := Nat) (fun k => k ≤ 8) (fun k => [(2, ptr b2 0), (4, ptr b4 0), (9, ptr b9 0), (169, i64 k)]) (fun k => [row b2 [u32 h.a, u32 h.b, u32 h.c, u32 h.d, u32 h.e, u32 h.f, u32 h.g, u32 h.h] 144 (0, 0), row b4 (List.replicate 8 (Value.int .u32 0)) 144 (0, 0), row b9 ((addP v h k).map u32) 144 (0, 0)]) (fun k => 8 - k) (0 : Nat) (Nat.zero_le _) ?_
        rintro k hk
        refine At.seq ?_
        refine At.region ?_
        refine At.op rfl (op_bin rfl rfl b_lt rfl ?_)
        refine At.nil ?_
        refine At.then_n ?_
        refine At.seq ?_
        refine At.cond_p rfl (fun hlt => ?_) (fun hlt => ?_)
        ·
          refine At.skip ?_
          refine At.then_n ?_
          refine At.seq ?_
          refine At.block ?_
          refine At.seq ?_
          refine At.region ?_
          refine At.op rfl (op_move rfl rfl ?_)
          refine At.op rfl (op_assign rfl rfl ?_)
          refine At.nil ?_
          refine At.then_n ?_
          refine At.drawL _ [_, _, _, _, _, _, _, _, undef] (by kernel_rfl) (by decide) (by kernel_rfl) (by kernel_rfl) 
            (.cons (Step.op rfl (fun D h1 h2 h3 K hK => op_move (mD_base rfl rfl) rfl hK))
            (.cons (Step.op rfl (fun D h1 h2 h3 K hK => op_indexA (mD_base rfl rfl) (mD_done 0 (by decide) (pre_at h2 0 rfl rfl) rfl rfl rfl) Tryz.underlying144 Tryz.sizeOf137 (by omega) (by omega) rfl hK))
            (.cons (Step.op rfl (fun D h1 h2 h3 K hK => op_load (mD_done 1 (by decide) (pre_at h2 0 rfl rfl) rfl rfl rfl) Tryz.isAgg137 (by first | with_reducible exact Pull.p0 | with_reducible exact Pull.p1 | with_reducible exact Pull.p2 | with_reducible exact Pull.p3 | with_reducible exact Pull.p4 | with_reducible exact Pull.p5 | with_reducible exact Pull.p6 | with_reducible exact Pull.p7 | with_reducible exact Pull.p8 | with_reducible exact Pull.p9) (mget (addP v h k) k _ (by omega) (by rw [addP_length]; omega)) rfl hK))
            (.cons (Step.op rfl (fun D h1 h2 h3 K hK => op_move (mD_base rfl rfl) rfl hK))
            (.cons (Step.op rfl (fun D h1 h2 h3 K hK => op_indexA (mD_base rfl rfl) (mD_done 3 (by decide) (pre_at h2 0 rfl rfl) rfl rfl rfl) Tryz.underlying144 Tryz.sizeOf137 (by omega) (by omega) rfl hK))
            (.cons (Step.op rfl (fun D h1 h2 h3 K hK => op_load (mD_done 4 (by decide) (pre_at h2 0 rfl rfl) rfl rfl rfl) Tryz.isAgg137 (by first | with_reducible exact Pull.p0 | with_reducible exact Pull.p1 | with_reducible exact Pull.p2 | with_reducible exact Pull.p3 | with_reducible exact Pull.p4 | with_reducible exact Pull.p5 | with_reducible exact Pull.p6 | with_reducible exact Pull.p7 | with_reducible exact Pull.p8 | with_reducible exact Pull.p9) (hgetV h k _ (by omega) (by omega)) rfl hK))
            (.cons (Step.op rfl (fun D h1 h2 h3 K hK => op_bin (mD_done 2 (by decide) (pre_at h2 0 rfl rfl) rfl rfl rfl) (mD_done 5 (by decide) (pre_at h2 1 rfl rfl) rfl rfl rfl) (b32_add _ _) rfl hK))
            (.cons (Step.op rfl (fun D h1 h2 h3 K hK => op_indexA (mD_base rfl rfl) (mD_done 0 (by decide) (pre_at h2 0 rfl rfl) rfl rfl rfl) Tryz.underlying144 Tryz.sizeOf137 (by omega) (by omega) rfl hK))
            (.last (Last.op rfl (fun D h2 K hK => op_store (mD_done 7 (by decide) (pre_at h2 0 rfl rfl) rfl rfl rfl) (mD_done 6 (by decide) (pre_at h2 1 rfl rfl) rfl rfl rfl) Tryz.sizeOf137 rfl rfl (by first | with_reducible exact Pull.p0 | with_reducible exact Pull.p1 | with_reducible exact Pull.p2 | with_reducible exact Pull.p3 | with_reducible exact Pull.p4 | with_reducible exact Pull.p5 | with_reducible exact Pull.p6 | with_reducible exact Pull.p7 | with_reducible exact Pull.p8 | with_reducible exact Pull.p9) (mset (addP v h k) k _ _ (by omega) (by rw [addP_length]; omega)) rfl hK))
            ))))))))) ?_
          refine At.keep [(2, _), (4, _), (9, _), (169, _)] (.cons rfl (.cons rfl (.cons rfl (.cons rfl .nil)))) ?_
          refine At.blk_n ?_
          refine At.then_n ?_
          refine At.region ?_
          refine At.op rfl (op_bin rfl rfl (b_add (by omega) (by omega)) rfl ?_)
          refine At.op rfl (op_move rfl rfl ?_)
          refine At.nil ?_
          refine At.then_n ?_
          rw [addP_step v h k (by omega)]
          exact At.back (k + 1) (by omega) (by omega) (.cons rfl (.cons rfl (.cons rfl (.cons rfl .nil)))) (.cons (by first | with_reducible exact Pull.p0 | with_reducible exact Pull.p1 | with_reducible exact Pull.p2 | with_reducible exact Pull.p3 | with_reducible exact Pull.p4 | with_reducible exact Pull.p5 | with_reducible exact Pull.p6 | with_reducible exact Pull.p7 | with_reducible exact Pull.p8 | with_reducible exact Pull.p9) (.cons (by first | with_reducible exact Pull.p0 | with_reducible exact Pull.p1 | with_reducible exact Pull.p2 | with_reducible exact Pull.p3 | with_reducible exact Pull.p4 | with_reducible exact Pull.p5 | with_reducible exact Pull.p6 | with_reducible exact Pull.p7 | with_reducible exact Pull.p8 | with_reducible exact Pull.p9) (.cons (by first | with_reducible exact Pull.p0 | with_reducible exact Pull.p1 | with_reducible exact Pull.p2 | with_reducible exact Pull.p3 | with_reducible exact Pull.p4 | with_reducible exact Pull.p5 | with_reducible exact Pull.p6 | with_reducible exact Pull.p7 | with_reducible exact Pull.p8 | with_reducible exact Pull.p9) .nil)))
        ·
          obtain rfl : k = 8 := by omega
          refine At.exit ?_
          refine At.then_e ?_
          refine At.then_e ?_
          refine At.blk_e ?_
          refine At.then_n ?_
          refine At.seq ?_
          refine At.region ?_
          refine At.op rfl (op_loadW rfl Tryz.isAgg144 Tryz.sizeOf144 (by first | with_reducible exact Pull.p0 | with_reducible exact Pull.p1 | with_reducible exact Pull.p2 | with_reducible exact Pull.p3 | with_reducible exact Pull.p4 | with_reducible exact Pull.p5 | with_reducible exact Pull.p6 | with_reducible exact Pull.p7 | with_reducible exact Pull.p8 | with_reducible exact Pull.p9) rfl rfl ?_)
          refine At.op rfl (op_storeW rfl rfl Tryz.sizeOf144 (fun v hv => by obtain ⟨x, _, rfl⟩ := List.mem_map.1 hv; rfl) (by first | with_reducible exact Pull.p0 | with_reducible exact Pull.p1 | with_reducible exact Pull.p2 | with_reducible exact Pull.p3 | with_reducible exact Pull.p4 | with_reducible exact Pull.p5 | with_reducible exact Pull.p6 | with_reducible exact Pull.p7 | with_reducible exact Pull.p8 | with_reducible exact Pull.p9) (by rw [List.length_map, addP_length]) rfl ?_)
          refine At.nil ?_
          refine At.then_n ?_
          refine At.ret ?_
          refine At.finA rfl rfl rfl (by first | with_reducible exact Pull.p0 | with_reducible exact Pull.p1 | with_reducible exact Pull.p2 | with_reducible exact Pull.p3 | with_reducible exact Pull.p4 | with_reducible exact Pull.p5 | with_reducible exact Pull.p6 | with_reducible exact Pull.p7 | with_reducible exact Pull.p8 | with_reducible exact Pull.p9) Tryz.isAgg144 Tryz.sizeOf144 (by rw [List.length_map, addP_length]) ⟨?_, rfl⟩ .nil
          rw [stepS, hit, ← hv]; rfl
end Go.Proofs.YteckdahgkkmlaaaGreatDoor
