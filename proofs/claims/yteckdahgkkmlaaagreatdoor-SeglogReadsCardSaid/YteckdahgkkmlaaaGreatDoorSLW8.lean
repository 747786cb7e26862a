/- Walks of the program's functions. -/
import Derived.Test.YteckdahgkkmlaaaGreatDoorSLW7
import Derived.Test.YteckdahgkkmlaaaGreatDoorSLEqs
import Derived.KernelRfl
set_option maxRecDepth 20000
set_option linter.unusedVariables false
set_option linter.unusedSimpArgs false
namespace Go.Proofs.YteckdahgkkmlaaaGreatDoor
open Go SL
variable {G : List (Nat × Obj)}
theorem fvget (l : List (Nat × List Value)) (i j : Nat) (h : j = i) {x : Nat × List Value} (hx : l[i]? = some x) : (l.map fv)[j]? = some (fv x) := by
  subst h
  rw [List.getElem?_map, hx]; rfl
theorem cut_refl : ∀ (RS : List Res), Cut RS RS []
  | [] => .nil
  | _ :: RS => .cons .here (cut_refl RS)
theorem frame_all (pb : Nat) (fs : List (Nat × List Value)) (RS RS2 : List Res) (b : Bool) (hl : fs.length < 1000000) (hch : Chain Tryz.prog G fs RS b RS2) : Does Tryz.prog G 51 [slc pb 0 fs.length fs.length] (row pb (fs.map fv) 30 (0, 0) :: RS) (OneR (.bool b) (row pb (fs.map fv) 30 (0, 0) :: RS2)) := by
  refine Does.of Tryz.func51 rfl Tryz.ntmps51 rfl (fun w0 => ?_)
  refine At.keep [(0, _)] (.cons rfl .nil) ?_
  refine At.seq ?_
  refine At.region ?_
  refine At.op rfl (op_assign rfl rfl ?_)
  refine At.nil ?_
  refine At.then_n ?_
  refine At.seq ?_
  refine At.seq ?_
  refine At.region ?_
  refine At.op rfl (op_move rfl rfl ?_)
  refine At.op rfl (op_len_slc rfl Tryz.underlying126 rfl ?_)
  refine At.op rfl (op_move rfl rfl ?_)
  refine At.nil ?_
  refine At.then_n ?_
  refine At.block ?_
  refine At.keep ((fun s => [(5, slc pb 0 fs.length fs.length), (6, i64 fs.length), (7, i64 s.1)]) ((0, RS) : Nat × List Res)) (.cons rfl (.cons rfl (.cons rfl .nil))) ?_
  refine At.loop (σ := Nat × List Res) (fun s => s.1 ≤ fs.length ∧ Chain Tryz.prog G (fs.drop s.1) s.2 b RS2) (fun s => [(5, slc pb 0 fs.length fs.length), (6, i64 fs.length), (7, i64 s.1)]) (fun s => row pb (fs.map fv) 30 (0, 0) :: s.2) (fun s => fs.length - s.1) ((0, RS) : Nat × List Res) ⟨Nat.zero_le _, hch⟩ ?_
  rintro ⟨k, RSk⟩ ⟨hk, hch⟩
  dsimp only at hk hch ⊢
  refine At.seq ?_
  refine At.region ?_
  refine At.op rfl (op_bin rfl rfl b_lt rfl ?_)
  refine At.nil ?_
  refine At.then_n ?_
  refine At.seq ?_
  refine At.cond_p rfl (fun hlt => ?_) (fun hlt => ?_)
  ·
    obtain ⟨x, hx⟩ : ∃ x, fs[k]? = some x := ⟨_, List.getElem?_eq_getElem (by omega)⟩
    have hd : fs.drop k = x :: fs.drop (k + 1) := by
      rw [List.drop_eq_getElem_cons (by omega)]
      rw [(List.getElem?_eq_some_iff.1 hx).2]
    rw [hd] at hch
    obtain ⟨b0, RS1, hcall, hf, hb1, hb2⟩ := hch.uncons
    refine At.skip ?_
    refine At.then_n ?_
    refine At.seq ?_
    refine At.block ?_
    refine At.seq ?_
    refine At.region ?_
    refine At.op rfl (op_indexS rfl rfl Tryz.underlying126 Tryz.sizeOf30 (by omega) (by omega) rfl ?_)
    refine At.op rfl (op_load rfl Tryz.isAgg30 (by first | with_reducible exact Pull.p0 | with_reducible exact Pull.p1 | with_reducible exact Pull.p2 | with_reducible exact Pull.p3 | with_reducible exact Pull.p4 | with_reducible exact Pull.p5 | with_reducible exact Pull.p6 | with_reducible exact Pull.p7 | with_reducible exact Pull.p8 | with_reducible exact Pull.p9) (fvget fs k _ (by omega) hx) rfl ?_)
    refine At.op rfl (op_assign rfl rfl ?_)
    refine At.nil ?_
    refine At.then_n ?_
    refine At.seq ?_
    refine At.region ?_
    refine At.op rfl (op_move rfl rfl ?_)
    refine At.op rfl (op_callC (fs := []) (cap := x.2) rfl rfl hcall rfl hf (cut_tail _ _) rfl ?_)
    rintro v us ⟨rfl, hus⟩
    rw [hus]
    refine At.swapR ?_
    refine At.op rfl (op_not rfl rfl ?_)
    refine At.nil ?_
    refine At.then_n ?_
    refine At.cond rfl (fun hb => ?_) (fun hb => ?_)
    ·
      obtain ⟨rfl, rfl⟩ := hb1 (by simpa using hb)
      refine At.seq ?_
      refine At.region ?_
      refine At.op rfl (op_assign rfl rfl ?_)
      refine At.nil ?_
      refine At.then_n ?_
      refine At.ret ?_
      refine At.blk_r ?_
      refine At.then_r ?_
      refine At.then_r ?_
      refine At.blk_r ?_
      refine At.then_r ?_
      exact At.fin1 rfl rfl rfl ⟨rfl, rfl⟩ (cut_refl _)
    ·
      have hch2 := hb2 (by simpa using hb)
      refine At.skip ?_
      refine At.blk_n ?_
      refine At.then_n ?_
      refine At.region ?_
      refine At.op rfl (op_bin rfl rfl (b_add (by omega) (by omega)) rfl ?_)
      refine At.op rfl (op_move rfl rfl ?_)
      refine At.nil ?_
      refine At.then_n ?_
      exact At.back (kk := []) (k + 1, RS1) ⟨by dsimp only; omega, hch2⟩ (by dsimp only; omega) (.cons rfl (.cons rfl (.cons rfl .nil))) (cut_refl _)
  ·
    rw [List.drop_of_length_le (by omega)] at hch
    obtain ⟨rfl, rfl⟩ := hch.of_nil
    refine At.exit ?_
    refine At.then_e ?_
    refine At.then_e ?_
    refine At.blk_e ?_
    refine At.then_n ?_
    refine At.seq ?_
    refine At.region ?_
    refine At.op rfl (op_assign rfl rfl ?_)
    refine At.nil ?_
    refine At.then_n ?_
    refine At.ret ?_
    exact At.fin1 rfl rfl rfl ⟨rfl, rfl⟩ (cut_refl _)
def rr (s : List UInt8) : List UInt8 := (s.take (Int.toNat 240)).drop (Int.toNat 1)
theorem rr_length (s : List UInt8) (h : s.length = 256) : (rr s).length = 239 := by simp [rr, h]
def getOK (s : List UInt8) : Bool :=
  decide (s.length = 256) && (decide ((shaB (s.take (Int.toNat 240))).take 16 = s.drop (Int.toNat 240)) && (!decide (s.getD 0 0 = 0) && (decide ((ttE ((rr s).drop 8) : Int) = 0) && decide (Lib.trimB (ttR ((rr s).drop 8)) 0 = []))))
def getV (s : List UInt8) : Value :=
  if getOK s = true then .tuple #[frmV (s.getD 0 0) (UInt64.ofNat (leN ((rr s).take 8))) (ttT ((rr s).drop 8)), i64 0] else .tuple #[frmV 0 0 [], i64 120]
theorem ttR_le (l : List UInt8) : (ttR l).length ≤ l.length := by
  unfold ttR; split <;> simp
theorem Get_chain (hG : GOK G) (bp be bf br : Nat) (s : List UInt8) (hs : s.length < 1000000) :
    (getOK s = true ∧ Chain Tryz.prog G [(52, [ptr bp 0, ptr be 0]), (54, [ptr bp 0, ptr be 0, ptr bf 0, ptr br 0]), (55, [ptr br 0, ptr bf 0]), (58, [ptr br 0])] [row bp [str s] 9 (0, 0), row be [i64 ((s.length : Int) - 16)] 3 (0, 0), row bf [u8 0, u64 0, str []] 43 (0, 0), row br [str []] 9 (0, 0)] true [row bp [str s] 9 (0, 0), row be [i64 ((s.length : Int) - 16)] 3 (0, 0), row bf [u8 (s.getD 0 0), u64 (UInt64.ofNat (leN ((rr s).take 8))), str (ttT ((rr s).drop 8))] 43 (0, 0), row br [str (ttR ((rr s).drop 8))] 9 (0, 0)]) ∨ (getOK s = false ∧ ∃ RS, Chain Tryz.prog G [(52, [ptr bp 0, ptr be 0]), (54, [ptr bp 0, ptr be 0, ptr bf 0, ptr br 0]), (55, [ptr br 0, ptr bf 0]), (58, [ptr br 0])] [row bp [str s] 9 (0, 0), row be [i64 ((s.length : Int) - 16)] 3 (0, 0), row bf [u8 0, u64 0, str []] 43 (0, 0), row br [str []] 9 (0, 0)] false RS) := by
  by_cases h : s.length = 256
  · have e : ((s.length : Int) - 16) = 240 := by omega
    rw [e]
    have h0 : s[0]? = some (s.getD 0 0) := by
      rw [List.getD_eq_getElem?_getD, List.getElem?_eq_getElem (by omega)]; rfl
    have c1 := (Get1_full hG bp be s h).frameR (rs := [row bp [str s] 9 (0, 0), row be [i64 240] 3 (0, 0), row bf [u8 0, u64 0, str []] 43 (0, 0), row br [str []] 9 (0, 0)]) (rs' := [row bp [str s] 9 (0, 0), row be [i64 240] 3 (0, 0), row bf [u8 0, u64 0, str []] 43 (0, 0), row br [str []] 9 (0, 0)]) (.cons (by first | with_reducible exact Pull.p0 | with_reducible exact Pull.p1 | with_reducible exact Pull.p2 | with_reducible exact Pull.p3 | with_reducible exact Pull.p4 | with_reducible exact Pull.p5 | with_reducible exact Pull.p6 | with_reducible exact Pull.p7 | with_reducible exact Pull.p8 | with_reducible exact Pull.p9) (.cons (by first | with_reducible exact Pull.p0 | with_reducible exact Pull.p1 | with_reducible exact Pull.p2 | with_reducible exact Pull.p3 | with_reducible exact Pull.p4 | with_reducible exact Pull.p5 | with_reducible exact Pull.p6 | with_reducible exact Pull.p7 | with_reducible exact Pull.p8 | with_reducible exact Pull.p9) .nil)) (.cons (by first | exact Pull.p0 | exact Pull.p1 | exact Pull.p2 | exact Pull.p3 | exact Pull.p4 | exact Pull.p5 | exact Pull.p6 | exact Pull.p7 | exact Pull.p8 | exact Pull.p9) (.cons (by first | exact Pull.p0 | exact Pull.p1 | exact Pull.p2 | exact Pull.p3 | exact Pull.p4 | exact Pull.p5 | exact Pull.p6 | exact Pull.p7 | exact Pull.p8 | exact Pull.p9) (.cons (by first | exact Pull.p0 | exact Pull.p1 | exact Pull.p2 | exact Pull.p3 | exact Pull.p4 | exact Pull.p5 | exact Pull.p6 | exact Pull.p7 | exact Pull.p8 | exact Pull.p9) (.cons (by first | exact Pull.p0 | exact Pull.p1 | exact Pull.p2 | exact Pull.p3 | exact Pull.p4 | exact Pull.p5 | exact Pull.p6 | exact Pull.p7 | exact Pull.p8 | exact Pull.p9) .nil))))
    have c2 := (Get2_any (G := G) bp be bf br s [] [] 0 (s.getD 0 0) 0 h h0)
    have c3 := (Get3_any (G := G) bf br (rr s) [] (s.getD 0 0) 0 (rr_length s h)).frameR (rs := [row bp [str s] 9 (0, 0), row be [i64 240] 3 (0, 0), row bf [u8 (s.getD 0 0), u64 0, str []] 43 (0, 0), row br [str (rr s)] 9 (0, 0)]) (rs' := [row bp [str s] 9 (0, 0), row be [i64 240] 3 (0, 0), row bf [u8 (s.getD 0 0), u64 (UInt64.ofNat (leN ((rr s).take 8))), str (ttT ((rr s).drop 8))] 43 (0, 0), row br [str (ttR ((rr s).drop 8))] 9 (0, 0)]) (.cons (by first | with_reducible exact Pull.p0 | with_reducible exact Pull.p1 | with_reducible exact Pull.p2 | with_reducible exact Pull.p3 | with_reducible exact Pull.p4 | with_reducible exact Pull.p5 | with_reducible exact Pull.p6 | with_reducible exact Pull.p7 | with_reducible exact Pull.p8 | with_reducible exact Pull.p9) (.cons (by first | with_reducible exact Pull.p0 | with_reducible exact Pull.p1 | with_reducible exact Pull.p2 | with_reducible exact Pull.p3 | with_reducible exact Pull.p4 | with_reducible exact Pull.p5 | with_reducible exact Pull.p6 | with_reducible exact Pull.p7 | with_reducible exact Pull.p8 | with_reducible exact Pull.p9) .nil)) (.cons (by first | exact Pull.p0 | exact Pull.p1 | exact Pull.p2 | exact Pull.p3 | exact Pull.p4 | exact Pull.p5 | exact Pull.p6 | exact Pull.p7 | exact Pull.p8 | exact Pull.p9) (.cons (by first | exact Pull.p0 | exact Pull.p1 | exact Pull.p2 | exact Pull.p3 | exact Pull.p4 | exact Pull.p5 | exact Pull.p6 | exact Pull.p7 | exact Pull.p8 | exact Pull.p9) (.cons (by first | exact Pull.p0 | exact Pull.p1 | exact Pull.p2 | exact Pull.p3 | exact Pull.p4 | exact Pull.p5 | exact Pull.p6 | exact Pull.p7 | exact Pull.p8 | exact Pull.p9) (.cons (by first | exact Pull.p0 | exact Pull.p1 | exact Pull.p2 | exact Pull.p3 | exact Pull.p4 | exact Pull.p5 | exact Pull.p6 | exact Pull.p7 | exact Pull.p8 | exact Pull.p9) .nil))))
    have c4 := (Get4_any (G := G) br (ttR ((rr s).drop 8)) (by have := ttR_le ((rr s).drop 8); have := rr_length s h; simp at *; omega)).frameR (rs := [row bp [str s] 9 (0, 0), row be [i64 240] 3 (0, 0), row bf [u8 (s.getD 0 0), u64 (UInt64.ofNat (leN ((rr s).take 8))), str (ttT ((rr s).drop 8))] 43 (0, 0), row br [str (ttR ((rr s).drop 8))] 9 (0, 0)]) (rs' := [row bp [str s] 9 (0, 0), row be [i64 240] 3 (0, 0), row bf [u8 (s.getD 0 0), u64 (UInt64.ofNat (leN ((rr s).take 8))), str (ttT ((rr s).drop 8))] 43 (0, 0), row br [str (ttR ((rr s).drop 8))] 9 (0, 0)]) (.cons (by first | with_reducible exact Pull.p0 | with_reducible exact Pull.p1 | with_reducible exact Pull.p2 | with_reducible exact Pull.p3 | with_reducible exact Pull.p4 | with_reducible exact Pull.p5 | with_reducible exact Pull.p6 | with_reducible exact Pull.p7 | with_reducible exact Pull.p8 | with_reducible exact Pull.p9) .nil) (.cons (by first | exact Pull.p0 | exact Pull.p1 | exact Pull.p2 | exact Pull.p3 | exact Pull.p4 | exact Pull.p5 | exact Pull.p6 | exact Pull.p7 | exact Pull.p8 | exact Pull.p9) (.cons (by first | exact Pull.p0 | exact Pull.p1 | exact Pull.p2 | exact Pull.p3 | exact Pull.p4 | exact Pull.p5 | exact Pull.p6 | exact Pull.p7 | exact Pull.p8 | exact Pull.p9) (.cons (by first | exact Pull.p0 | exact Pull.p1 | exact Pull.p2 | exact Pull.p3 | exact Pull.p4 | exact Pull.p5 | exact Pull.p6 | exact Pull.p7 | exact Pull.p8 | exact Pull.p9) (.cons (by first | exact Pull.p0 | exact Pull.p1 | exact Pull.p2 | exact Pull.p3 | exact Pull.p4 | exact Pull.p5 | exact Pull.p6 | exact Pull.p7 | exact Pull.p8 | exact Pull.p9) .nil))))
    unfold getOK
    rw [decide_eq_true h, Bool.true_and]
    by_cases g1 : (shaB (s.take (Int.toNat 240))).take 16 = s.drop (Int.toNat 240)
    · rw [decide_eq_true g1] at c1 ⊢
      rw [Bool.true_and]
      by_cases g2 : s.getD 0 0 = 0
      · rw [decide_eq_true g2] at c2 ⊢
        exact .inr ⟨rfl, _, .go Tryz.call52 c1 (.stop Tryz.call54 c2)⟩
      · rw [decide_eq_false g2] at c2 ⊢
        rw [Bool.not_false, Bool.true_and]
        by_cases g3 : (ttE ((rr s).drop 8) : Int) = 0
        · rw [decide_eq_true g3] at c3 ⊢
          rw [Bool.true_and]
          by_cases g4 : Lib.trimB (ttR ((rr s).drop 8)) 0 = []
          · rw [decide_eq_true g4] at c4 ⊢
            exact .inl ⟨rfl, .go Tryz.call52 c1 (.go Tryz.call54 c2 (.go Tryz.call55 c3 (.go Tryz.call58 c4 .nil)))⟩
          · rw [decide_eq_false g4] at c4 ⊢
            exact .inr ⟨rfl, _, .go Tryz.call52 c1 (.go Tryz.call54 c2 (.go Tryz.call55 c3 (.stop Tryz.call58 c4)))⟩
        · rw [decide_eq_false g3] at c3 ⊢
          exact .inr ⟨rfl, _, .go Tryz.call52 c1 (.go Tryz.call54 c2 (.stop Tryz.call55 c3))⟩
    · rw [decide_eq_false g1] at c1 ⊢
      exact .inr ⟨rfl, _, .stop Tryz.call52 c1⟩
  · refine .inr ⟨?_, _, .stop Tryz.call52 ((Get1_short bp be s ((s.length : Int) - 16) h).frameR (rs' := [row bp [str s] 9 (0, 0), row be [i64 ((s.length : Int) - 16)] 3 (0, 0), row bf [u8 0, u64 0, str []] 43 (0, 0), row br [str []] 9 (0, 0)]) (.cons (by first | with_reducible exact Pull.p0 | with_reducible exact Pull.p1 | with_reducible exact Pull.p2 | with_reducible exact Pull.p3 | with_reducible exact Pull.p4 | with_reducible exact Pull.p5 | with_reducible exact Pull.p6 | with_reducible exact Pull.p7 | with_reducible exact Pull.p8 | with_reducible exact Pull.p9) (.cons (by first | with_reducible exact Pull.p0 | with_reducible exact Pull.p1 | with_reducible exact Pull.p2 | with_reducible exact Pull.p3 | with_reducible exact Pull.p4 | with_reducible exact Pull.p5 | with_reducible exact Pull.p6 | with_reducible exact Pull.p7 | with_reducible exact Pull.p8 | with_reducible exact Pull.p9) .nil)) (.cons (by first | exact Pull.p0 | exact Pull.p1 | exact Pull.p2 | exact Pull.p3 | exact Pull.p4 | exact Pull.p5 | exact Pull.p6 | exact Pull.p7 | exact Pull.p8 | exact Pull.p9) (.cons (by first | exact Pull.p0 | exact Pull.p1 | exact Pull.p2 | exact Pull.p3 | exact Pull.p4 | exact Pull.p5 | exact Pull.p6 | exact Pull.p7 | exact Pull.p8 | exact Pull.p9) (.cons (by first | exact Pull.p0 | exact Pull.p1 | exact Pull.p2 | exact Pull.p3 | exact Pull.p4 | exact Pull.p5 | exact Pull.p6 | exact Pull.p7 | exact Pull.p8 | exact Pull.p9) (.cons (by first | exact Pull.p0 | exact Pull.p1 | exact Pull.p2 | exact Pull.p3 | exact Pull.p4 | exact Pull.p5 | exact Pull.p6 | exact Pull.p7 | exact Pull.p8 | exact Pull.p9) .nil)))))⟩
    unfold getOK
    rw [decide_eq_false h, Bool.false_and]
end Go.Proofs.YteckdahgkkmlaaaGreatDoor
