/- Walks of the program's functions. -/
import Derived.Test.YteckdahgkkmlaaaGreatDoorSLW8
import Derived.KernelRfl
set_option maxRecDepth 20000
set_option linter.unusedVariables false
set_option linter.unusedSimpArgs false
namespace Go.Proofs.YteckdahgkkmlaaaGreatDoor
open Go SL
variable {G : List (Nat × Obj)}
theorem frame_Get (hG : GOK G) (s : List UInt8) (hs : s.length < 1000000) : Does Tryz.prog G 30 [str s] [] (One (getV s)) := by
  refine Does.of Tryz.func30 rfl Tryz.ntmps30 rfl (fun w0 => ?_)
  refine At.keep [(0, _)] (.cons rfl .nil) ?_
  refine At.seq ?_
  refine At.region ?_
  refine At.op rfl (op_box rfl rfl rfl ?_)
  intro bp
  refine At.op rfl (op_alloc Tryz.zeroValue43 rfl rfl ?_)
  intro b2
  refine At.op rfl (op_assign rfl rfl ?_)
  refine At.nil ?_
  refine At.then_n ?_
  refine At.seq ?_
  refine At.region ?_
  refine At.op rfl (op_alloc Tryz.zeroValue43 rfl rfl ?_)
  intro bf
  refine At.nil ?_
  refine At.then_n ?_
  refine At.seq ?_
  refine At.region ?_
  refine At.op rfl (op_alloc Tryz.zeroValue9 rfl rfl ?_)
  intro br
  refine At.nil ?_
  refine At.then_n ?_
  refine At.seq ?_
  refine At.region ?_
  refine At.op rfl (op_load rfl Tryz.isAgg9 (by first | with_reducible exact Pull.p0 | with_reducible exact Pull.p1 | with_reducible exact Pull.p2 | with_reducible exact Pull.p3 | with_reducible exact Pull.p4 | with_reducible exact Pull.p5 | with_reducible exact Pull.p6 | with_reducible exact Pull.p7 | with_reducible exact Pull.p8 | with_reducible exact Pull.p9) rfl rfl ?_)
  refine At.op rfl (op_len_str rfl Tryz.underlying9 rfl ?_)
  refine At.op rfl (op_bin rfl rfl (b_sub (by omega) (by omega)) rfl ?_)
  refine At.op rfl (op_alloc Tryz.zeroValue3 rfl rfl ?_)
  intro be
  refine At.op rfl (op_store rfl rfl Tryz.sizeOf3 rfl rfl (by first | with_reducible exact Pull.p0 | with_reducible exact Pull.p1 | with_reducible exact Pull.p2 | with_reducible exact Pull.p3 | with_reducible exact Pull.p4 | with_reducible exact Pull.p5 | with_reducible exact Pull.p6 | with_reducible exact Pull.p7 | with_reducible exact Pull.p8 | with_reducible exact Pull.p9) .zero rfl ?_)
  refine At.nil ?_
  refine At.then_n ?_
  refine At.seq ?_
  refine At.region ?_
  refine At.op rfl (op_makeFunc rfl rfl rfl ?_)
  refine At.op rfl (op_makeFunc rfl rfl rfl ?_)
  refine At.op rfl (op_makeFunc rfl rfl rfl ?_)
  refine At.op rfl (op_makeFunc rfl rfl rfl ?_)
  refine At.op rfl (op_buildSlice1 [_, _, _, _] rfl rfl Tryz.underlying126 et30 rfl (by decide) (List.forall_mem_cons.2 ⟨rfl, (List.forall_mem_cons.2 ⟨rfl, (List.forall_mem_cons.2 ⟨rfl, (List.forall_mem_cons.2 ⟨rfl, (fun _ h => by cases h)⟩)⟩)⟩)⟩) rfl ?_)
  intro pb
  rcases Get_chain hG bp be bf br s hs with ⟨hok, hch⟩ | ⟨hok, RS, hch⟩
  ·
    refine At.op rfl (op_callR rfl Tryz.call51 (frame_all pb [(52, [ptr bp 0, ptr be 0]), (54, [ptr bp 0, ptr be 0, ptr bf 0, ptr br 0]), (55, [ptr br 0, ptr bf 0]), (58, [ptr br 0])] [row bp [str s] 9 (0, 0), row be [i64 ((s.length : Int) - 16)] 3 (0, 0), row bf [u8 0, u64 0, str []] 43 (0, 0), row br [str []] 9 (0, 0)] [row bp [str s] 9 (0, 0), row be [i64 ((s.length : Int) - 16)] 3 (0, 0), row bf [u8 (s.getD 0 0), u64 (UInt64.ofNat (leN ((rr s).take 8))), str (ttT ((rr s).drop 8))] 43 (0, 0), row br [str (ttR ((rr s).drop 8))] 9 (0, 0)] true (by simp) hch) (.cons (by first | exact Pull.p0 | exact Pull.p1 | exact Pull.p2 | exact Pull.p3 | exact Pull.p4 | exact Pull.p5 | exact Pull.p6 | exact Pull.p7 | exact Pull.p8 | exact Pull.p9) (.cons (by first | exact Pull.p0 | exact Pull.p1 | exact Pull.p2 | exact Pull.p3 | exact Pull.p4 | exact Pull.p5 | exact Pull.p6 | exact Pull.p7 | exact Pull.p8 | exact Pull.p9) (.cons (by first | exact Pull.p0 | exact Pull.p1 | exact Pull.p2 | exact Pull.p3 | exact Pull.p4 | exact Pull.p5 | exact Pull.p6 | exact Pull.p7 | exact Pull.p8 | exact Pull.p9) (.cons (by first | exact Pull.p0 | exact Pull.p1 | exact Pull.p2 | exact Pull.p3 | exact Pull.p4 | exact Pull.p5 | exact Pull.p6 | exact Pull.p7 | exact Pull.p8 | exact Pull.p9) (.cons (by first | exact Pull.p0 | exact Pull.p1 | exact Pull.p2 | exact Pull.p3 | exact Pull.p4 | exact Pull.p5 | exact Pull.p6 | exact Pull.p7 | exact Pull.p8 | exact Pull.p9) .nil))))) rfl ?_)
    refine At.app5 ?_
    refine At.op rfl (op_assign rfl rfl ?_)
    refine At.nil ?_
    refine At.then_n ?_
    refine At.seq ?_
    refine At.seq ?_
    refine At.keep [(2, _), (3, _), (4, _), (7, _)] (.cons rfl (.cons rfl (.cons rfl (.cons rfl .nil)))) ?_
    refine At.region ?_
    refine At.op rfl (op_move rfl rfl ?_)
    refine At.op rfl (op_not rfl rfl ?_)
    refine At.nil ?_
    refine At.then_n ?_
    refine At.cond_f rfl ?_
    refine At.skip ?_
    refine At.then_n ?_
    refine At.seq ?_
    refine At.region ?_
    refine At.op rfl (op_loadW rfl Tryz.isAgg43 Tryz.sizeOf43 (by first | with_reducible exact Pull.p0 | with_reducible exact Pull.p1 | with_reducible exact Pull.p2 | with_reducible exact Pull.p3 | with_reducible exact Pull.p4 | with_reducible exact Pull.p5 | with_reducible exact Pull.p6 | with_reducible exact Pull.p7 | with_reducible exact Pull.p8 | with_reducible exact Pull.p9) rfl rfl ?_)
    refine At.op rfl (op_storeW rfl rfl Tryz.sizeOf43 (by repeat' (first | refine List.forall_mem_cons.2 ⟨rfl, ?_⟩ | exact (fun _ h => by cases h))) (by first | with_reducible exact Pull.p0 | with_reducible exact Pull.p1 | with_reducible exact Pull.p2 | with_reducible exact Pull.p3 | with_reducible exact Pull.p4 | with_reducible exact Pull.p5 | with_reducible exact Pull.p6 | with_reducible exact Pull.p7 | with_reducible exact Pull.p8 | with_reducible exact Pull.p9) rfl rfl ?_)
    refine At.op rfl (op_assign rfl rfl ?_)
    refine At.nil ?_
    refine At.then_n ?_
    refine At.ret ?_
    refine At.fin _ (.inl rfl) (l := [.cell 2 43, .tmp 3]) rfl rfl (.agg rfl (by first | with_reducible exact Pull.p0 | with_reducible exact Pull.p1 | with_reducible exact Pull.p2 | with_reducible exact Pull.p3 | with_reducible exact Pull.p4 | with_reducible exact Pull.p5 | with_reducible exact Pull.p6 | with_reducible exact Pull.p7 | with_reducible exact Pull.p8 | with_reducible exact Pull.p9) Tryz.isAgg43 Tryz.sizeOf43 rfl (.tmp rfl .nil)) rfl ⟨?_, rfl⟩ .nil
    unfold getV; rw [hok]; rfl
  ·
    refine At.op rfl (op_callR rfl Tryz.call51 ((frame_all pb [(52, [ptr bp 0, ptr be 0]), (54, [ptr bp 0, ptr be 0, ptr bf 0, ptr br 0]), (55, [ptr br 0, ptr bf 0]), (58, [ptr br 0])] [row bp [str s] 9 (0, 0), row be [i64 ((s.length : Int) - 16)] 3 (0, 0), row bf [u8 0, u64 0, str []] 43 (0, 0), row br [str []] 9 (0, 0)] RS false (by simp) hch).frameR (rs := (row pb ([(52, [ptr bp 0, ptr be 0]), (54, [ptr bp 0, ptr be 0, ptr bf 0, ptr br 0]), (55, [ptr br 0, ptr bf 0]), (58, [ptr br 0])].map fv) 30 (0, 0) :: [row bp [str s] 9 (0, 0), row be [i64 ((s.length : Int) - 16)] 3 (0, 0), row bf [u8 0, u64 0, str []] 43 (0, 0), row br [str []] 9 (0, 0)])) (rs' := []) (cut_refl _) .nil) (.cons (by first | exact Pull.p0 | exact Pull.p1 | exact Pull.p2 | exact Pull.p3 | exact Pull.p4 | exact Pull.p5 | exact Pull.p6 | exact Pull.p7 | exact Pull.p8 | exact Pull.p9) (.cons (by first | exact Pull.p0 | exact Pull.p1 | exact Pull.p2 | exact Pull.p3 | exact Pull.p4 | exact Pull.p5 | exact Pull.p6 | exact Pull.p7 | exact Pull.p8 | exact Pull.p9) (.cons (by first | exact Pull.p0 | exact Pull.p1 | exact Pull.p2 | exact Pull.p3 | exact Pull.p4 | exact Pull.p5 | exact Pull.p6 | exact Pull.p7 | exact Pull.p8 | exact Pull.p9) (.cons (by first | exact Pull.p0 | exact Pull.p1 | exact Pull.p2 | exact Pull.p3 | exact Pull.p4 | exact Pull.p5 | exact Pull.p6 | exact Pull.p7 | exact Pull.p8 | exact Pull.p9) (.cons (by first | exact Pull.p0 | exact Pull.p1 | exact Pull.p2 | exact Pull.p3 | exact Pull.p4 | exact Pull.p5 | exact Pull.p6 | exact Pull.p7 | exact Pull.p8 | exact Pull.p9) .nil))))) rfl ?_)
    refine At.app0 ?_
    refine At.op rfl (op_assign rfl rfl ?_)
    refine At.nil ?_
    refine At.then_n ?_
    refine At.seq ?_
    refine At.seq ?_
    refine At.keep [(2, _), (3, _), (4, _), (7, _)] (.cons rfl (.cons rfl (.cons rfl (.cons rfl .nil)))) ?_
    refine At.region ?_
    refine At.op rfl (op_move rfl rfl ?_)
    refine At.op rfl (op_not rfl rfl ?_)
    refine At.nil ?_
    refine At.then_n ?_
    refine At.cond_t rfl ?_
    refine At.seq ?_
    refine At.region ?_
    refine At.op rfl (op_build (v := frmV 0 0 []) rfl (fun w => run_build w _ _ _ (by kernel_rfl)) rfl ?_)
    refine At.op rfl (op_storeW rfl rfl Tryz.sizeOf43 (by repeat' (first | refine List.forall_mem_cons.2 ⟨rfl, ?_⟩ | exact (fun _ h => by cases h))) (by first | with_reducible exact Pull.p0 | with_reducible exact Pull.p1 | with_reducible exact Pull.p2 | with_reducible exact Pull.p3 | with_reducible exact Pull.p4 | with_reducible exact Pull.p5 | with_reducible exact Pull.p6 | with_reducible exact Pull.p7 | with_reducible exact Pull.p8 | with_reducible exact Pull.p9) rfl rfl ?_)
    refine At.op rfl (op_assign rfl rfl ?_)
    refine At.nil ?_
    refine At.then_n ?_
    refine At.ret ?_
    refine At.then_r ?_
    refine At.fin _ (.inl rfl) (l := [.cell 2 43, .tmp 3]) rfl rfl (.agg rfl (by first | with_reducible exact Pull.p0 | with_reducible exact Pull.p1 | with_reducible exact Pull.p2 | with_reducible exact Pull.p3 | with_reducible exact Pull.p4 | with_reducible exact Pull.p5 | with_reducible exact Pull.p6 | with_reducible exact Pull.p7 | with_reducible exact Pull.p8 | with_reducible exact Pull.p9) Tryz.isAgg43 Tryz.sizeOf43 rfl (.tmp rfl .nil)) rfl ⟨?_, rfl⟩ .nil
    unfold getV; rw [hok]; rfl
theorem trimB_zeros (n : Nat) : Lib.trimB (List.replicate n 0) 0 = [] := by
  have h1 : ∀ n : Nat, (List.replicate n (0 : UInt8)).dropWhile (· == 0) = [] := fun n => by
    induction n with
    | zero => rfl
    | succ n ih => rw [List.replicate_succ, List.dropWhile_cons_of_pos (by rfl), ih]
  simp [Lib.trimB, Lib.trimRightB, Lib.trimLeftB, h1]
theorem putS_length (k : UInt8) (q : UInt64) (t : List UInt8) (h : t.length ≤ 229) : (putS k q t).length = 256 := by
  simp [putS, putB_length k q t h, shaB_length]
theorem putS_take (k : UInt8) (q : UInt64) (t : List UInt8) (h : t.length ≤ 229) : (putS k q t).take (Int.toNat 240) = putB k q t :=
  List.take_left' (putB_length k q t h)
theorem putS_drop (k : UInt8) (q : UInt64) (t : List UInt8) (h : t.length ≤ 229) : (putS k q t).drop (Int.toNat 240) = (shaB (putB k q t)).take 16 :=
  List.drop_left' (putB_length k q t h)
theorem putS_head (k : UInt8) (q : UInt64) (t : List UInt8) : (putS k q t).getD 0 0 = k := by
  simp [putS, putB, bodyF]
theorem putS_rr (k : UInt8) (q : UInt64) (t : List UInt8) (h : t.length ≤ 229) : rr (putS k q t) = leB q.toNat 8 ++ ((leB t.length 2 ++ t) ++ List.replicate (240 - (bodyF k q t).length) 0) := by
  unfold rr
  rw [putS_take k q t h]
  show (putB k q t).drop 1 = _
  simp [putB, bodyF]
theorem putS_n (k : UInt8) (q : UInt64) (t : List UInt8) (h : t.length ≤ 229) : UInt64.ofNat (leN ((rr (putS k q t)).take 8)) = q := by
  rw [putS_rr k q t h, List.take_left' (leB_length _ _), leN_leB _ _ (by have := q.toNat_lt; omega)]
  exact UInt64.ofNat_toNat
theorem putS_rest (k : UInt8) (q : UInt64) (t : List UInt8) (h : t.length ≤ 229) : (rr (putS k q t)).drop 8 = leB t.length 2 ++ (t ++ List.replicate (240 - (bodyF k q t).length) 0) := by
  rw [putS_rr k q t h, List.drop_left' (leB_length _ _), List.append_assoc]
theorem tt_of (t z : List UInt8) (h : t.length ≤ 1000) : ttE (leB t.length 2 ++ (t ++ z)) = 0 ∧ ttT (leB t.length 2 ++ (t ++ z)) = t ∧ ttR (leB t.length 2 ++ (t ++ z)) = z := by
  have e1 : (leB t.length 2 ++ (t ++ z)).take 2 = leB t.length 2 := List.take_left' (leB_length _ _)
  have e2 : leN (leB t.length 2) = t.length := leN_leB _ _ (by omega)
  have e3 : (leB t.length 2 ++ (t ++ z)).drop 2 = t ++ z := List.drop_left' (leB_length _ _)
  have e4 : (leB t.length 2 ++ (t ++ z)).length = 2 + (t.length + z.length) := by simp [leB_length]
  have h0 : ttE (leB t.length 2 ++ (t ++ z)) = 0 := by
    unfold ttE
    rw [e1, e2, if_neg (by omega), if_neg (by omega), if_neg (by omega)]
  refine ⟨h0, ?_, ?_⟩
  · unfold ttT; rw [if_pos h0, e1, e2, e3]; exact List.take_left' rfl
  · unfold ttR; rw [if_pos h0, e1, e2, e3]; exact List.drop_left' rfl
theorem get_put (k : UInt8) (q : UInt64) (t : List UInt8) (hk : k ≠ 0) (h : t.length ≤ 229) : getV (putS k q t) = .tuple #[frmV k q t, i64 0] := by
  obtain ⟨h1, h2, h3⟩ := tt_of t (List.replicate (240 - (bodyF k q t).length) 0) (by omega)
  rw [← putS_rest k q t h] at h1 h2 h3
  have hok : getOK (putS k q t) = true := by
    unfold getOK
    rw [putS_take k q t h, putS_drop k q t h, putS_head, h1, h3, putS_length k q t h, trimB_zeros]
    simp [hk]
  unfold getV
  rw [if_pos hok, putS_head, putS_n k q t h, h2]
theorem putS_inj (k k' : UInt8) (q q' : UInt64) (t t' : List UInt8) (hk : k ≠ 0) (h : t.length ≤ 229) (hk' : k' ≠ 0) (h' : t'.length ≤ 229) : putS k q t = putS k' q' t' ↔ (k = k' ∧ q = q' ∧ t = t') := by
  constructor
  · intro e
    have e1 := get_put k q t hk h
    rw [e, get_put k' q' t' hk' h'] at e1
    simp only [Value.tuple.injEq, frmV, Array.mk.injEq, List.cons.injEq, Value.agg.injEq, and_true] at e1
    obtain ⟨a1, a2, a3⟩ := e1
    refine ⟨?_, ?_, ?_⟩
    · exact (u8_inj.1 (by simpa [u8] using a1)).symm
    · exact (u64_inj.1 (by simpa [u64] using a2)).symm
    · simpa [str] using a3.symm
  · rintro ⟨rfl, rfl, rfl⟩; rfl
end Go.Proofs.YteckdahgkkmlaaaGreatDoor
