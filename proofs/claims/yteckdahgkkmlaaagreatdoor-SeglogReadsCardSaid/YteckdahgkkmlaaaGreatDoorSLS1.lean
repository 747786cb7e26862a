/- Walks of the program's functions. -/
import Derived.Test.YteckdahgkkmlaaaGreatDoorSLN2
import Derived.Test.YteckdahgkkmlaaaGreatDoorSLC1
import Derived.KernelRfl
set_option maxRecDepth 20000
set_option linter.unusedVariables false
set_option linter.unusedSimpArgs false
namespace Go.Proofs.YteckdahgkkmlaaaGreatDoor
open Go SL
variable {G : List (Nat × Obj)}
theorem seglog_pages1 {σ : Type} (c : Chp) (hc : c.wf) (lg bb : Nat) (hd : σ → List Value) (base : σ → List Res) (y : Value) (inv : List Item → σ → Prop) (x0 : σ) (h0 : inv [] x0)
    (hy : ∀ (pre : List Item) (a : Item) (x : σ), a.seg < c.segs → a.page < c.pages → c.at a.seg a.page = some a.t → (∃ suf, c.items = pre ++ a :: suf) → inv pre x → CallY Tryz.prog G y [.agg [i64 a.seg, i64 a.page].toArray, str a.t] (row lg (ptr c.cb 0 :: hd x) 71 (0, 0) :: base x) true (fun rs' => ∃ x1, inv (pre ++ [a]) x1 ∧ rs' = row lg (ptr c.cb 0 :: hd x1) 71 (0, 0) :: base x1)) :
    Does Tryz.prog G 60 [y, ptr bb 0] (row bb [ptr lg 0] 26 (0, 0) :: chipR c :: row lg (ptr c.cb 0 :: hd x0) 71 (0, 0) :: base x0) (fun v rs' => ∃ x1, inv c.items x1 ∧ rs' = row bb [ptr lg 0] 26 (0, 0) :: chipR c :: row lg (ptr c.cb 0 :: hd x1) 71 (0, 0) :: base x1) := by
  refine Does.of Tryz.func60 rfl Tryz.ntmps60 rfl (fun w0 => ?_)
  refine At.keep [(0, _), (1, _)] (.cons rfl (.cons rfl .nil)) ?_
  have hb1 := hc.segs1
  have hb2 := hc.pages1
  refine At.seq ?_
  refine At.region ?_
  refine At.op rfl (op_load rfl Tryz.isAgg26 (by first | with_reducible exact Pull.p0 | with_reducible exact Pull.p1 | with_reducible exact Pull.p2 | with_reducible exact Pull.p3 | with_reducible exact Pull.p4 | with_reducible exact Pull.p5 | with_reducible exact Pull.p6 | with_reducible exact Pull.p7 | with_reducible exact Pull.p8 | with_reducible exact Pull.p9) rfl rfl ?_)
  refine At.op rfl (op_nilCheck rfl rfl ?_)
  refine At.op rfl (op_fieldAddr (o' := 0) rfl Tryz.underlying71 rfl Tryz.sizeOf22 rfl rfl ?_)
  refine At.op rfl (op_load rfl Tryz.isAgg22 (by first | with_reducible exact Pull.p0 | with_reducible exact Pull.p1 | with_reducible exact Pull.p2 | with_reducible exact Pull.p3 | with_reducible exact Pull.p4 | with_reducible exact Pull.p5 | with_reducible exact Pull.p6 | with_reducible exact Pull.p7 | with_reducible exact Pull.p8 | with_reducible exact Pull.p9) rfl rfl ?_)
  refine At.op rfl (op_nilCheck rfl rfl ?_)
  refine At.op rfl (op_fieldAddr (o' := 0) rfl Tryz.underlying55 rfl Tryz.sizeOf52 rfl rfl ?_)
  refine At.op rfl (op_loadGA (us := [i64 c.segs, i64 c.pages]) (chipR c) rfl Tryz.isAgg52 Tryz.sizeOf52 (by first | with_reducible exact Pull.p0 | with_reducible exact Pull.p1 | with_reducible exact Pull.p2 | with_reducible exact Pull.p3 | with_reducible exact Pull.p4 | with_reducible exact Pull.p5 | with_reducible exact Pull.p6 | with_reducible exact Pull.p7 | with_reducible exact Pull.p8 | with_reducible exact Pull.p9) (chip_size c) rfl rfl ?_)
  refine At.op rfl (op_call1 rfl Tryz.call28 (size_Segs c.segs c.pages) rfl ?_)
  refine At.op rfl (op_move rfl rfl ?_)
  refine At.nil ?_
  refine At.then_n ?_
  refine At.block ?_
  refine At.keep ((fun s => [(0, y), (1, ptr bb 0), (15, i64 c.segs), (16, i64 s.1)]) ((0, x0) : Nat × σ)) (.cons rfl (.cons rfl (.cons rfl (.cons rfl .nil)))) ?_
  refine At.loop (σ := Nat × σ) (fun s => s.1 ≤ c.segs ∧ inv (allItems 0 (c.l.take s.1)) s.2) (fun s => [(0, y), (1, ptr bb 0), (15, i64 c.segs), (16, i64 s.1)]) (fun s => row bb [ptr lg 0] 26 (0, 0) :: chipR c :: row lg (ptr c.cb 0 :: hd s.2) 71 (0, 0) :: base s.2) (fun s => c.segs - s.1) ((0, x0) : Nat × σ) ⟨Nat.zero_le _, h0⟩ ?_
  rintro ⟨k, x⟩ ⟨hk, hix⟩
  dsimp only at hk hix ⊢
  refine At.seq ?_
  refine At.region ?_
  refine At.op rfl (op_bin rfl rfl b_lt rfl ?_)
  refine At.nil ?_
  refine At.then_n ?_
  refine At.seq ?_
  refine At.cond_p rfl (fun hlt0 => ?_) (fun hlt0 => ?_)
  ·
    have hlt : k < c.segs := by omega
    obtain ⟨sg, hsg, hsl, _, _⟩ := hc.seg hlt
    refine At.skip ?_
    refine At.then_n ?_
    refine At.seq ?_
    refine At.block ?_
    refine At.seq ?_
    refine At.region ?_
    refine At.op rfl (op_move rfl rfl ?_)
    refine At.op rfl (op_assign rfl rfl ?_)
    refine At.nil ?_
    refine At.then_n ?_
    refine At.seq ?_
    refine At.region ?_
    refine At.op rfl (op_load rfl Tryz.isAgg26 (by first | with_reducible exact Pull.p0 | with_reducible exact Pull.p1 | with_reducible exact Pull.p2 | with_reducible exact Pull.p3 | with_reducible exact Pull.p4 | with_reducible exact Pull.p5 | with_reducible exact Pull.p6 | with_reducible exact Pull.p7 | with_reducible exact Pull.p8 | with_reducible exact Pull.p9) rfl rfl ?_)
    refine At.op rfl (op_nilCheck rfl rfl ?_)
    refine At.op rfl (op_fieldAddr (o' := 0) rfl Tryz.underlying71 rfl Tryz.sizeOf22 rfl rfl ?_)
    refine At.op rfl (op_load rfl Tryz.isAgg22 (by first | with_reducible exact Pull.p0 | with_reducible exact Pull.p1 | with_reducible exact Pull.p2 | with_reducible exact Pull.p3 | with_reducible exact Pull.p4 | with_reducible exact Pull.p5 | with_reducible exact Pull.p6 | with_reducible exact Pull.p7 | with_reducible exact Pull.p8 | with_reducible exact Pull.p9) rfl rfl ?_)
    refine At.op rfl (op_nilCheck rfl rfl ?_)
    refine At.op rfl (op_fieldAddr (o' := 0) rfl Tryz.underlying55 rfl Tryz.sizeOf52 rfl rfl ?_)
    refine At.op rfl (op_loadGA (us := [i64 c.segs, i64 c.pages]) (chipR c) rfl Tryz.isAgg52 Tryz.sizeOf52 (by first | with_reducible exact Pull.p0 | with_reducible exact Pull.p1 | with_reducible exact Pull.p2 | with_reducible exact Pull.p3 | with_reducible exact Pull.p4 | with_reducible exact Pull.p5 | with_reducible exact Pull.p6 | with_reducible exact Pull.p7 | with_reducible exact Pull.p8 | with_reducible exact Pull.p9) (chip_size c) rfl rfl ?_)
    refine At.op rfl (op_call1 rfl Tryz.call39 (size_Pages c.segs c.pages) rfl ?_)
    refine At.op rfl (op_move rfl rfl ?_)
    refine At.nil ?_
    refine At.then_n ?_
    refine At.block ?_
    refine At.keep ((fun s => [(0, y), (1, ptr bb 0), (3, i64 k), (15, i64 c.segs), (16, i64 k), (26, i64 c.pages), (27, i64 s.1)]) ((0, x) : Nat × σ)) (.cons rfl (.cons rfl (.cons rfl (.cons rfl (.cons rfl (.cons rfl (.cons rfl .nil))))))) ?_
    refine At.loop (σ := Nat × σ) (fun s => s.1 ≤ c.pages ∧ inv (allItems 0 (c.l.take k) ++ segItems k 0 (sg.pg.take s.1)) s.2) (fun s => [(0, y), (1, ptr bb 0), (3, i64 k), (15, i64 c.segs), (16, i64 k), (26, i64 c.pages), (27, i64 s.1)]) (fun s => row bb [ptr lg 0] 26 (0, 0) :: chipR c :: row lg (ptr c.cb 0 :: hd s.2) 71 (0, 0) :: base s.2) (fun s => c.pages - s.1) ((0, x) : Nat × σ) ⟨Nat.zero_le _, by simpa [segItems] using hix⟩ ?_
    rintro ⟨j, z⟩ ⟨hj, hi⟩
    dsimp only at hj hi ⊢
    refine At.seq ?_
    refine At.region ?_
    refine At.op rfl (op_bin rfl rfl b_lt rfl ?_)
    refine At.nil ?_
    refine At.then_n ?_
    refine At.seq ?_
    refine At.cond_p rfl (fun hlt1 => ?_) (fun hlt1 => ?_)
    ·
      have hlt2 : j < c.pages := by omega
      obtain ⟨p, hp⟩ : ∃ p, sg.pg[j]? = some p := ⟨_, List.getElem?_eq_getElem (by omega)⟩
      refine At.skip ?_
      refine At.then_n ?_
      refine At.seq ?_
      refine At.block ?_
      refine At.seq ?_
      refine At.region ?_
      refine At.op rfl (op_move rfl rfl ?_)
      refine At.op rfl (op_assign rfl rfl ?_)
      refine At.nil ?_
      refine At.then_n ?_
      refine At.seq ?_
      refine At.region ?_
      refine At.op rfl (op_load rfl Tryz.isAgg26 (by first | with_reducible exact Pull.p0 | with_reducible exact Pull.p1 | with_reducible exact Pull.p2 | with_reducible exact Pull.p3 | with_reducible exact Pull.p4 | with_reducible exact Pull.p5 | with_reducible exact Pull.p6 | with_reducible exact Pull.p7 | with_reducible exact Pull.p8 | with_reducible exact Pull.p9) rfl rfl ?_)
      refine At.op rfl (op_nilCheck rfl rfl ?_)
      refine At.op rfl (op_fieldAddr (o' := 0) rfl Tryz.underlying71 rfl Tryz.sizeOf22 rfl rfl ?_)
      refine At.op rfl (op_load rfl Tryz.isAgg22 (by first | with_reducible exact Pull.p0 | with_reducible exact Pull.p1 | with_reducible exact Pull.p2 | with_reducible exact Pull.p3 | with_reducible exact Pull.p4 | with_reducible exact Pull.p5 | with_reducible exact Pull.p6 | with_reducible exact Pull.p7 | with_reducible exact Pull.p8 | with_reducible exact Pull.p9) rfl rfl ?_)
      refine At.op rfl (op_move rfl rfl ?_)
      refine At.op rfl (op_move rfl rfl ?_)
      refine At.op rfl (op_callQ rfl Tryz.call19 (nand_Read c hc k j hlt hlt2) (.cons (by first | with_reducible exact Pull.p0 | with_reducible exact Pull.p1 | with_reducible exact Pull.p2 | with_reducible exact Pull.p3 | with_reducible exact Pull.p4 | with_reducible exact Pull.p5 | with_reducible exact Pull.p6 | with_reducible exact Pull.p7 | with_reducible exact Pull.p8 | with_reducible exact Pull.p9) .nil) rfl ?_)
      have hat := Chp.at_eq hsg hp
      rcases hv : p.view with _ | t <;> rw [hv] at hat <;> rw [hat]
      ·
        refine At.op rfl (op_move rfl rfl ?_)
        refine At.op rfl (op_extractL rfl .zero rfl ?_)
        refine At.op rfl (op_extractL rfl (.succ .zero) rfl ?_)
        refine At.op rfl (op_extractL rfl (.succ (.succ .zero)) rfl ?_)
        refine At.op rfl (op_assign rfl rfl ?_)
        refine At.op rfl (op_assign rfl rfl ?_)
        refine At.op rfl (op_assign rfl rfl ?_)
        refine At.nil ?_
        refine At.then_n ?_
        refine At.seq ?_
        refine At.keep [(0, _), (1, _), (3, _), (15, _), (16, _), (26, _), (27, _), (4, _), (5, _), (6, _), (7, _)] (.cons rfl (.cons rfl (.cons rfl (.cons rfl (.cons rfl (.cons rfl (.cons rfl (.cons rfl (.cons rfl (.cons rfl (.cons rfl .nil))))))))))) ?_
        refine At.region ?_
        refine At.op rfl (op_move rfl rfl ?_)
        refine At.op rfl (op_move rfl rfl ?_)
        refine At.opk (want := false) rfl rfl rfl rfl rfl ?_
        refine At.opk (want := false) rfl rfl rfl rfl rfl ?_
        refine At.op rfl (op_pick_f rfl rfl rfl ?_)
        refine At.op rfl (op_move rfl rfl ?_)
        refine At.opk (want := false) rfl rfl rfl rfl rfl ?_
        refine At.opk (want := false) rfl rfl rfl rfl rfl ?_
        refine At.opk (want := false) rfl rfl rfl rfl rfl ?_
        refine At.opk (want := false) rfl rfl rfl rfl rfl ?_
        refine At.opk (want := false) rfl rfl rfl rfl rfl ?_
        refine At.opk (want := false) rfl rfl rfl rfl rfl ?_
        refine At.opk (want := false) rfl rfl rfl rfl rfl ?_
        refine At.op rfl (op_pick_f rfl rfl rfl ?_)
        refine At.nil ?_
        refine At.then_n ?_
        refine At.cond_f rfl ?_
        refine At.skip ?_
        refine At.blk_n ?_
        refine At.then_n ?_
        refine At.keep [(0, _), (1, _), (3, _), (15, _), (16, _), (26, _), (27, _)] (.cons rfl (.cons rfl (.cons rfl (.cons rfl (.cons rfl (.cons rfl (.cons rfl .nil))))))) ?_
        refine At.region ?_
        refine At.op rfl (op_bin rfl rfl (b_add (by omega) (by omega)) rfl ?_)
        refine At.op rfl (op_move rfl rfl ?_)
        refine At.nil ?_
        refine At.then_n ?_
        first
          | exact At.back (kk := []) (j + 1, x1) ⟨by dsimp only; omega, by dsimp only; rw [segItems_take hp, hv, ← List.append_assoc]; exact hi1⟩ (by dsimp only; omega) (.cons rfl (.cons rfl (.cons rfl (.cons rfl (.cons rfl (.cons rfl (.cons rfl .nil))))))) (cut_all _)
          | exact At.back (kk := []) (j + 1, z) ⟨by dsimp only; omega, by dsimp only; rw [segItems_take hp, hv, List.append_nil]; exact hi⟩ (by dsimp only; omega) (.cons rfl (.cons rfl (.cons rfl (.cons rfl (.cons rfl (.cons rfl (.cons rfl .nil))))))) (cut_all _)
      ·
        refine At.op rfl (op_move rfl rfl ?_)
        refine At.op rfl (op_extractL rfl .zero rfl ?_)
        refine At.op rfl (op_extractL rfl (.succ .zero) rfl ?_)
        refine At.op rfl (op_extractL rfl (.succ (.succ .zero)) rfl ?_)
        refine At.op rfl (op_assign rfl rfl ?_)
        refine At.op rfl (op_assign rfl rfl ?_)
        refine At.op rfl (op_assign rfl rfl ?_)
        refine At.nil ?_
        refine At.then_n ?_
        refine At.seq ?_
        refine At.keep [(0, _), (1, _), (3, _), (15, _), (16, _), (26, _), (27, _), (4, _), (5, _), (6, _), (7, _)] (.cons rfl (.cons rfl (.cons rfl (.cons rfl (.cons rfl (.cons rfl (.cons rfl (.cons rfl (.cons rfl (.cons rfl (.cons rfl .nil))))))))))) ?_
        refine At.region ?_
        refine At.op rfl (op_move rfl rfl ?_)
        refine At.op rfl (op_move rfl rfl ?_)
        refine At.opg rfl rfl rfl (op_move rfl rfl ?_)
        refine At.opg rfl rfl rfl (op_bin rfl rfl (Bin.cast (v' := .bool true) b_eq (congrArg Value.bool (decide_eq_true rfl))) rfl ?_)
        refine At.op rfl (op_pick_t rfl rfl rfl ?_)
        refine At.op rfl (op_move rfl rfl ?_)
        refine At.opg rfl rfl rfl (op_move rfl rfl ?_)
        refine At.opg rfl rfl rfl (op_move rfl rfl ?_)
        refine At.opg rfl rfl rfl (op_move rfl rfl ?_)
        refine At.opg rfl rfl rfl (op_build (v := .agg [i64 k, i64 j].toArray) rfl (fun w => run_build w _ _ _ (by kernel_rfl)) rfl ?_)
        refine At.opg rfl rfl rfl (op_move rfl rfl ?_)
        refine At.opg rfl rfl rfl (op_callY rfl rfl (hy _ ⟨k, j, t⟩ z hlt hlt2 hat (items_split hsg hp hv) hi) (.cons Pull.p2 (cut_tail2 _ _ _)) rfl ?_)
        rintro _ ⟨x1, hi1, rfl⟩
        refine At.rot2 ?_
        refine At.opg rfl rfl rfl (op_not rfl rfl ?_)
        refine At.op rfl (op_pick_t rfl rfl rfl ?_)
        refine At.nil ?_
        refine At.then_n ?_
        refine At.cond_f rfl ?_
        refine At.skip ?_
        refine At.blk_n ?_
        refine At.then_n ?_
        refine At.keep [(0, _), (1, _), (3, _), (15, _), (16, _), (26, _), (27, _)] (.cons rfl (.cons rfl (.cons rfl (.cons rfl (.cons rfl (.cons rfl (.cons rfl .nil))))))) ?_
        refine At.region ?_
        refine At.op rfl (op_bin rfl rfl (b_add (by omega) (by omega)) rfl ?_)
        refine At.op rfl (op_move rfl rfl ?_)
        refine At.nil ?_
        refine At.then_n ?_
        first
          | exact At.back (kk := []) (j + 1, x1) ⟨by dsimp only; omega, by dsimp only; rw [segItems_take hp, hv, ← List.append_assoc]; exact hi1⟩ (by dsimp only; omega) (.cons rfl (.cons rfl (.cons rfl (.cons rfl (.cons rfl (.cons rfl (.cons rfl .nil))))))) (cut_all _)
          | exact At.back (kk := []) (j + 1, z) ⟨by dsimp only; omega, by dsimp only; rw [segItems_take hp, hv, List.append_nil]; exact hi⟩ (by dsimp only; omega) (.cons rfl (.cons rfl (.cons rfl (.cons rfl (.cons rfl (.cons rfl (.cons rfl .nil))))))) (cut_all _)
    ·
      obtain rfl : j = c.pages := by omega
      refine At.exit ?_
      refine At.then_e ?_
      refine At.then_e ?_
      refine At.blk_e ?_
      refine At.blk_n ?_
      refine At.then_n ?_
      refine At.region ?_
      refine At.op rfl (op_bin rfl rfl (b_add (by omega) (by omega)) rfl ?_)
      refine At.op rfl (op_move rfl rfl ?_)
      refine At.nil ?_
      refine At.then_n ?_
      refine At.back (kk := []) (k + 1, z) ⟨by dsimp only; omega, ?_⟩ (by dsimp only; omega) (.cons rfl (.cons rfl (.cons rfl (.cons rfl .nil)))) (cut_all _)
      dsimp only
      rw [List.take_of_length_le (l := sg.pg) (by omega)] at hi
      rw [allItems_take hsg]; exact hi
  ·
    obtain rfl : k = c.segs := by omega
    rw [List.take_of_length_le (by rw [hc.len]; exact Nat.le_refl _)] at hix
    refine At.exit ?_
    refine At.then_e ?_
    refine At.then_e ?_
    refine At.blk_e ?_
    exact At.fin0 _ (.inr rfl) rfl rfl ⟨x, hix, rfl⟩ (cut_all _)
theorem seglog_pages (lg : Nat) : Does Tryz.prog G 38 [ptr lg 0] [] (fun v rs' => ∃ bb, v = .func (.func 60) [].toArray [ptr bb 0].toArray ∧ rs' = [row bb [ptr lg 0] 26 (0, 0)]) := by
  refine Does.of Tryz.func38 rfl Tryz.ntmps38 rfl (fun w0 => ?_)
  refine At.keep [(0, _)] (.cons rfl .nil) ?_
  refine At.seq ?_
  refine At.region ?_
  refine At.op rfl (op_box rfl rfl rfl ?_)
  intro bb
  refine At.op rfl (op_assign rfl rfl ?_)
  refine At.nil ?_
  refine At.then_n ?_
  refine At.seq ?_
  refine At.region ?_
  refine At.op rfl (op_makeFunc rfl rfl rfl ?_)
  refine At.op rfl (op_assign rfl rfl ?_)
  refine At.nil ?_
  refine At.then_n ?_
  refine At.ret ?_
  exact At.fin1 rfl rfl rfl ⟨bb, rfl, rfl⟩ (.cons (by first | with_reducible exact Pull.p0 | with_reducible exact Pull.p1 | with_reducible exact Pull.p2 | with_reducible exact Pull.p3 | with_reducible exact Pull.p4 | with_reducible exact Pull.p5 | with_reducible exact Pull.p6 | with_reducible exact Pull.p7 | with_reducible exact Pull.p8 | with_reducible exact Pull.p9) .nil)
theorem seglog_frames (lg : Nat) : Does Tryz.prog G 20 [ptr lg 0] [] (fun v rs' => ∃ bb, v = .func (.func 37) [].toArray [ptr bb 0].toArray ∧ rs' = [row bb [ptr lg 0] 26 (0, 0)]) := by
  refine Does.of Tryz.func20 rfl Tryz.ntmps20 rfl (fun w0 => ?_)
  refine At.keep [(0, _)] (.cons rfl .nil) ?_
  refine At.seq ?_
  refine At.region ?_
  refine At.op rfl (op_box rfl rfl rfl ?_)
  intro bb
  refine At.op rfl (op_assign rfl rfl ?_)
  refine At.nil ?_
  refine At.then_n ?_
  refine At.seq ?_
  refine At.region ?_
  refine At.op rfl (op_makeFunc rfl rfl rfl ?_)
  refine At.op rfl (op_assign rfl rfl ?_)
  refine At.nil ?_
  refine At.then_n ?_
  refine At.ret ?_
  exact At.fin1 rfl rfl rfl ⟨bb, rfl, rfl⟩ (.cons (by first | with_reducible exact Pull.p0 | with_reducible exact Pull.p1 | with_reducible exact Pull.p2 | with_reducible exact Pull.p3 | with_reducible exact Pull.p4 | with_reducible exact Pull.p5 | with_reducible exact Pull.p6 | with_reducible exact Pull.p7 | with_reducible exact Pull.p8 | with_reducible exact Pull.p9) .nil)
end Go.Proofs.YteckdahgkkmlaaaGreatDoor
