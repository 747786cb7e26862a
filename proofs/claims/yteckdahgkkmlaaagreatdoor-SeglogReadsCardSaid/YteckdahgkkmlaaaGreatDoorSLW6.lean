/- Walks of the program's functions. -/
import Derived.Test.YteckdahgkkmlaaaGreatDoorSLW2
import Derived.Test.YteckdahgkkmlaaaGreatDoorSLW5
import Derived.KernelRfl
set_option maxRecDepth 20000
set_option linter.unusedVariables false
set_option linter.unusedSimpArgs false
namespace Go.Proofs.YteckdahgkkmlaaaGreatDoor
open Go SL
variable {G : List (Nat × Obj)}
def bodyF (k : UInt8) (q : UInt64) (t : List UInt8) : List UInt8 := [k] ++ leB q.toNat 8 ++ (leB t.length 2 ++ t)
theorem bodyF_length (k : UInt8) (q : UInt64) (t : List UInt8) : (bodyF k q t).length = 11 + t.length := by
  simp [bodyF, leB_length]; omega
def putB (k : UInt8) (q : UInt64) (t : List UInt8) : List UInt8 := bodyF k q t ++ List.replicate (240 - (bodyF k q t).length) 0
theorem putB_length (k : UInt8) (q : UInt64) (t : List UInt8) (h : t.length ≤ 229) : (putB k q t).length = 240 := by
  simp [putB, bodyF_length]; omega
def putS (k : UInt8) (q : UInt64) (t : List UInt8) : List UInt8 := putB k q t ++ (shaB (putB k q t)).take 16
def putV (k : UInt8) (q : UInt64) (t : List UInt8) : Value :=
  if k = 0 then .tuple #[str [], i64 1] else if 229 < t.length then .tuple #[str [], i64 11] else .tuple #[str (putS k q t), i64 0]
def frmV (k : UInt8) (q : UInt64) (t : List UInt8) : Value := .agg [u8 k, u64 q, str t].toArray
theorem frame_Put (hG : GOK G) (k : UInt8) (q : UInt64) (t : List UInt8) (ht : t.length < 1000000) : Does Tryz.prog G 22 [frmV k q t] [] (One (putV k q t)) := by
  refine Does.of Tryz.func22 rfl Tryz.ntmps22 rfl (fun w0 => ?_)
  refine At.keep [(0, _)] (.cons rfl .nil) ?_
  refine At.seq ?_
  refine At.region ?_
  refine At.op rfl (op_box rfl rfl rfl ?_)
  intro b1
  refine At.op rfl (op_assign rfl rfl ?_)
  refine At.op rfl (op_assign rfl rfl ?_)
  refine At.nil ?_
  refine At.then_n ?_
  refine At.seq ?_
  refine At.block ?_
  refine At.seq ?_
  refine At.region ?_
  refine At.op rfl (op_fieldAddr (o' := 0) rfl Tryz.underlying43 rfl Tryz.sizeOf5 rfl rfl ?_)
  refine At.op rfl (op_load rfl Tryz.isAgg5 (by first | with_reducible exact Pull.p0 | with_reducible exact Pull.p1 | with_reducible exact Pull.p2 | with_reducible exact Pull.p3 | with_reducible exact Pull.p4 | with_reducible exact Pull.p5 | with_reducible exact Pull.p6 | with_reducible exact Pull.p7 | with_reducible exact Pull.p8 | with_reducible exact Pull.p9) rfl rfl ?_)
  refine At.op rfl (op_bin rfl rfl (b8_eq _ (0 : UInt8)) rfl ?_)
  refine At.op rfl (op_assign rfl rfl ?_)
  refine At.nil ?_
  refine At.then_n ?_
  refine At.cond_p rfl (fun hc0 => ?_) (fun hc0 => ?_)
  ·
    refine At.seq ?_
    refine At.region ?_
    refine At.op rfl (op_assign rfl rfl ?_)
    refine At.op rfl (op_assign rfl rfl ?_)
    refine At.nil ?_
    refine At.then_n ?_
    refine At.ret ?_
    refine At.blk_r ?_
    refine At.then_r ?_
    refine At.fin2 rfl rfl rfl rfl ⟨?_, rfl⟩ .nil
    unfold putV; rw [if_pos hc0]; rfl
  ·
    refine At.seq ?_
    refine At.region ?_
    refine At.op rfl (op_fieldAddr (o' := 2) rfl Tryz.underlying43 rfl Tryz.sizeOf9 rfl rfl ?_)
    refine At.op rfl (op_load rfl Tryz.isAgg9 (by first | with_reducible exact Pull.p0 | with_reducible exact Pull.p1 | with_reducible exact Pull.p2 | with_reducible exact Pull.p3 | with_reducible exact Pull.p4 | with_reducible exact Pull.p5 | with_reducible exact Pull.p6 | with_reducible exact Pull.p7 | with_reducible exact Pull.p8 | with_reducible exact Pull.p9) rfl rfl ?_)
    refine At.op rfl (op_len_str rfl Tryz.underlying9 rfl ?_)
    refine At.op rfl (op_bin rfl rfl b_gt rfl ?_)
    refine At.op rfl (op_assign rfl rfl ?_)
    refine At.nil ?_
    refine At.then_n ?_
    refine At.cond_p rfl (fun hc1 => ?_) (fun hc1 => ?_)
    ·
      refine At.seq ?_
      refine At.region ?_
      refine At.op rfl (op_assign rfl rfl ?_)
      refine At.op rfl (op_assign rfl rfl ?_)
      refine At.nil ?_
      refine At.then_n ?_
      refine At.ret ?_
      refine At.blk_r ?_
      refine At.then_r ?_
      refine At.fin2 rfl rfl rfl rfl ⟨?_, rfl⟩ .nil
      unfold putV; rw [if_neg hc0, if_pos (by omega)]; rfl
    ·
      refine At.skip ?_
      refine At.blk_n ?_
      refine At.then_n ?_
      refine At.seq ?_
      refine At.region ?_
      refine At.op rfl (op_fieldAddr (o' := 1) rfl Tryz.underlying43 rfl Tryz.sizeOf40 rfl rfl ?_)
      refine At.op rfl (op_load rfl Tryz.isAgg40 (by first | with_reducible exact Pull.p0 | with_reducible exact Pull.p1 | with_reducible exact Pull.p2 | with_reducible exact Pull.p3 | with_reducible exact Pull.p4 | with_reducible exact Pull.p5 | with_reducible exact Pull.p6 | with_reducible exact Pull.p7 | with_reducible exact Pull.p8 | with_reducible exact Pull.p9) rfl rfl ?_)
      refine At.op rfl (op_call1 rfl Tryz.call40 (field_Number q 8 (by decide) (by decide) (by have := q.toNat_lt; omega)) rfl ?_)
      refine At.op rfl (op_move rfl rfl ?_)
      refine At.op rfl (op_extractL rfl .zero rfl ?_)
      refine At.op rfl (op_extractL rfl (.succ .zero) rfl ?_)
      refine At.op rfl (op_assign rfl rfl ?_)
      refine At.op rfl (op_assign rfl rfl ?_)
      refine At.nil ?_
      refine At.then_n ?_
      refine At.seq ?_
      refine At.keep [(1, _), (2, _), (3, _), (4, _)] (.cons rfl (.cons rfl (.cons rfl (.cons rfl .nil)))) ?_
      refine At.region ?_
      refine At.op rfl (op_fieldAddr (o' := 2) rfl Tryz.underlying43 rfl Tryz.sizeOf9 rfl rfl ?_)
      refine At.op rfl (op_load rfl Tryz.isAgg9 (by first | with_reducible exact Pull.p0 | with_reducible exact Pull.p1 | with_reducible exact Pull.p2 | with_reducible exact Pull.p3 | with_reducible exact Pull.p4 | with_reducible exact Pull.p5 | with_reducible exact Pull.p6 | with_reducible exact Pull.p7 | with_reducible exact Pull.p8 | with_reducible exact Pull.p9) rfl rfl ?_)
      refine At.op rfl (op_call1 rfl Tryz.call41 (field_Text t (by omega)) rfl ?_)
      refine At.op rfl (op_move rfl rfl ?_)
      refine At.op rfl (op_extractL rfl .zero rfl ?_)
      refine At.op rfl (op_extractL rfl (.succ .zero) rfl ?_)
      refine At.op rfl (op_assign rfl rfl ?_)
      refine At.op rfl (op_assign rfl rfl ?_)
      refine At.nil ?_
      refine At.then_n ?_
      refine At.seq ?_
      refine At.region ?_
      refine At.op rfl (op_fieldAddr (o' := 0) rfl Tryz.underlying43 rfl Tryz.sizeOf5 rfl rfl ?_)
      refine At.op rfl (op_load rfl Tryz.isAgg5 (by first | with_reducible exact Pull.p0 | with_reducible exact Pull.p1 | with_reducible exact Pull.p2 | with_reducible exact Pull.p3 | with_reducible exact Pull.p4 | with_reducible exact Pull.p5 | with_reducible exact Pull.p6 | with_reducible exact Pull.p7 | with_reducible exact Pull.p8 | with_reducible exact Pull.p9) rfl rfl ?_)
      refine At.op rfl (op_buildSlice1 [_] rfl rfl Tryz.underlying47 et5 rfl (by decide) (List.forall_mem_cons.2 ⟨rfl, (fun _ h => by cases h)⟩) rfl ?_)
      intro b2
      refine At.op rfl (op_b2sR rfl Tryz.underlying47 Tryz.underlying9 Tryz.underlying5 (by first | with_reducible exact Pull.p0 | with_reducible exact Pull.p1 | with_reducible exact Pull.p2 | with_reducible exact Pull.p3 | with_reducible exact Pull.p4 | with_reducible exact Pull.p5 | with_reducible exact Pull.p6 | with_reducible exact Pull.p7 | with_reducible exact Pull.p8 | with_reducible exact Pull.p9) (l := [k]) rfl rfl rfl ?_)
      refine At.op rfl (op_move rfl rfl ?_)
      refine At.op rfl (op_bin rfl rfl (b_cat (by rw [leB_length]; show 1 + 8 ≤ 9223372036854775807; decide)) rfl ?_)
      refine At.op rfl (op_move rfl rfl ?_)
      refine At.op rfl (op_bin rfl rfl (b_cat (by simp [leB_length]; omega)) rfl ?_)
      rw [show [k] ++ leB q.toNat 8 ++ (leB t.length 2 ++ t) = bodyF k q t from rfl]
      refine At.op rfl (op_assign rfl rfl ?_)
      refine At.nil ?_
      refine At.then_n ?_
      refine At.seq ?_
      refine At.keep [(2, _), (3, _), (8, _)] (.cons rfl (.cons rfl (.cons rfl .nil))) ?_
      refine At.region ?_
      refine At.op rfl (op_move rfl rfl ?_)
      refine At.op rfl (op_move rfl rfl ?_)
      refine At.op rfl (op_len_str rfl Tryz.underlying9 rfl ?_)
      refine At.op rfl (op_bin rfl rfl (Bin.cast (v' := i64 ((240 - (bodyF k q t).length : Nat) : Int)) (b_sub (by have := bodyF_length k q t; omega) (by have := bodyF_length k q t; omega)) (by congr 1; have := bodyF_length k q t; omega)) rfl ?_)
      have hbl := bodyF_length k q t
      refine At.op rfl (op_call1 rfl Tryz.call42 (strings_Repeat [0] (240 - (bodyF k q t).length) (by omega) (by simp; omega)) rfl ?_)
      rw [repeat_zero]
      refine At.op rfl (op_bin rfl rfl (b_cat (by rw [List.length_replicate]; omega)) rfl ?_)
      rw [show bodyF k q t ++ List.replicate (240 - (bodyF k q t).length) 0 = putB k q t from rfl]
      refine At.op rfl (op_assign rfl rfl ?_)
      refine At.nil ?_
      refine At.then_n ?_
      refine At.seq ?_
      refine At.region ?_
      refine At.op rfl (op_move rfl rfl ?_)
      refine At.op rfl (op_move rfl rfl ?_)
      refine At.op rfl (op_call1 rfl Tryz.call43 (frame_sum hG (putB k q t) (by rw [putB_length k q t (by omega)]; omega)) rfl ?_)
      refine At.op rfl (op_bin rfl rfl (b_cat (by rw [List.length_take, shaB_length, putB_length k q t (by omega)]; omega)) rfl ?_)
      refine At.op rfl (op_assign rfl rfl ?_)
      refine At.op rfl (op_assign rfl rfl ?_)
      refine At.nil ?_
      refine At.then_n ?_
      refine At.ret ?_
      refine At.fin2 rfl rfl rfl rfl ⟨?_, rfl⟩ .nil
      unfold putV; rw [if_neg hc0, if_neg (by omega)]; rfl
end Go.Proofs.YteckdahgkkmlaaaGreatDoor
