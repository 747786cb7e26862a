/- For any list of strings and any number, SeglogReads returns true and its arguments read as they did; the three listed tables are tied to the program's text; no condition. -/
import Derived.Test.YteckdahgkkmlaaaGreatDoorSLRowBase
import Derived.Test.YteckdahgkkmlaaaGreatDoorSLL4
set_option maxRecDepth 100000
set_option linter.unusedVariables false
namespace Go.Proofs.YteckdahgkkmlaaaGreatDoor
open Go Go.ChangeShapes Go.WideShapes Go.ChangeAt Go.RowKit SL

theorem seglogReads_lifted (os : Os) (started : os.Started) (H : Type) (enc : TypeId × Value → H) :
    ReturnsInHanded {} Tryz.checked os 4 .any (fun w args => (Rows.seglogReadsSpec.pre enc Tryz.prog Tryz.f4 Rows.seglogReadsRow.domain false w args ∧ laidMetH Tryz.prog Rows.seglogReadsRow.laid w) ∧ sizedMet enc Tryz.prog Tryz.f4 (OpenSpec.ofChange Rows.seglogReadsSpec) false w args)
      (Rows.seglogReadsSpec.post enc Tryz.prog Tryz.f4 false true false false) := by
  refine returnsInHanded_of_change_and (C := Tryz.checked) (X := fun w _ => laidMetH Tryz.prog Rows.seglogReadsRow.laid w) (fun _ _ _ hh h => h.of_heap hh) own started (by kernel_rfl) Tryz.func4
    (ChangeSpec.witness_shaped (enc := enc) (C := Tryz.checked) (os := os) (X := fun w _ => laidMetH Tryz.prog Rows.seglogReadsRow.laid w) false (World.laidAll Tryz.prog os Rows.seglogReadsRow.laid) #[.slice none 0 0, .int .u8 0] 8 (World.laidAll_os _ _ _)
      (World.shaped_of_ZipB (by kernel_rfl) (by kernel_rfl)) (by kernel_rfl) (by kernel_rfl) (by kernel_rfl)
      (by rw [MakeChecks.laidMetH_plain _ _ _ (by kernel_rfl)]; exact laidMet_laidAll _ (by kernel_rfl) (by kernel_rfl))) ?_
  intro W base args ds gs before hval0 hW hc _ hL _
  have hval : ∀ (j : Nat) t v, Tryz.f4.params[j]? = some t → args[j]? = some v → Value.okWide Tryz.prog W .any base t v := hval0
  have hW' := hW
  obtain ⟨p, q, hA0, hV, rfl, _, _⟩ := hW
  have hA : DataW.TrodAll enc Tryz.prog W 0 (fun _ => true) true Tryz.f4.params.toList args.toList ds p := hA0
  rw [Tryz.params4] at hA hval
  obtain ⟨v0, v1, d0, d1, p0, p1, rfl, rfl, rfl, h0, h1⟩ := trodAll_two hA
  obtain ⟨rfl, rfl⟩ := trodVars_none hV
  have h0k := h0
  have h1k := h1
  obtain ⟨ad, cp, xs, G2, rfl, _, hg2, hxs0⟩ := strs_open (hval 0 38 v0 rfl rfl) h0
  obtain ⟨x1, rfl⟩ := u8_open (hval 1 5 v1 rfl rfl) h1
  simp only [List.append_nil] at hW'
  have hlt0 : ∀ x ∈ p0, x.block < W.heap.size := fun x hx => by simpa using hW'.lt x (List.mem_append_left _ hx)
  have hlt1 : ∀ x ∈ p1, x.block < W.heap.size := fun x hx => by simpa using hW'.lt x (List.mem_append_right _ hx)
  obtain ⟨o, ho, hG0⟩ := GOK_of hL
  have hG := hG0 ((0, o) :: G2) (List.mem_cons_self ..)
  have hxs := hxs0 ((0, o) :: G2) (fun p hp => List.mem_cons_of_mem _ hp)
  have hcalls := (law13_SeglogReads hG x1 ad cp xs hxs).calls W (fun p hp => by
    rcases List.mem_cons.1 hp with rfl | hp
    · exact ho
    · exact hg2 p hp)
  refine hcalls.mono fun e W' ⟨v, rs', he, ⟨hv, _⟩, hb⟩ => ?_
  subst he; subst hv
  exact ⟨_, rfl, _, _, _, [], p0 ++ p1, [], hW', trodAll_mk1 (shut_bool Tryz.underlying4 _), trodAll_mk2 (Below.trod laidOut (by kernel_rfl) (of_decide_eq_true (by kernel_rfl)) h0k hb hlt0) (Below.trod laidOut (by kernel_rfl) (of_decide_eq_true (by kernel_rfl)) h1k hb hlt1), rfl, hb.frame _, fun h => by cases h⟩

theorem seglogReads_holds : Rows.SeglogReadsSaid :=
  OpenClaim.holds_of_wide 4 Tryz.f4 rfl rfl rfl rfl rfl rfl rfl ⟨rfl, rfl, rfl, rfl, rfl⟩ rfl rfl rfl rfl rfl (by kernel_rfl) Tryz.func4 (by kernel_rfl)
    (of_decide_eq_true (by kernel_rfl)) (by unfold Func.isWrapper; first | (rw [if_pos (by decide +kernel)]; kernel_rfl) | (rw [if_neg (by decide +kernel)]; exact ⟨rfl, rfl⟩))
    (fun os started H enc _ => seglogReads_lifted os started H enc)
theorem seglogReads_card : Rows.SeglogReadsCardSaid :=
  Claim7.holds_tied_plain_at .later [] [.data, .data, .pinned] true (true, "97988d9798bedce53483fdd390534d8d7c508fdf7dc81161beb8f9a19a966e2b") false seglogReads_holds (fun _ h => by cases h) (by kernel_rfl) (fun _ h => by cases h) seglogReads_row_tie rfl ⟨rfl, rfl⟩ (by kernel_rfl) rfl
    (fun f fn hf hfn => by
      obtain rfl : f = 4 := Option.some.inj ((show Tryz.prog.funcNamed "oblivion/oblivionlaw13.SeglogReads" = some 4 by kernel_rfl).symm.trans hf) |>.symm
      obtain rfl : fn = Tryz.f4 := (Option.some.inj (Tryz.func4.symm.trans hfn)).symm
      exact ⟨by kernel_rfl, fun j t ht => by
        rw [Tryz.params4] at ht
        have hm : t ∈ [38, 5] := by simpa using Array.mem_of_getElem? ht
        have hall : ([38, 5].all fun u => !Tryz.prog.wantsStandIn u) = true := by kernel_rfl
        exact (show Tryz.prog.wantsStandIn t = false by simpa using List.all_eq_true.1 hall t hm)⟩)
    (by kernel_rfl)
#print axioms seglogReads_card
end Go.Proofs.YteckdahgkkmlaaaGreatDoor
