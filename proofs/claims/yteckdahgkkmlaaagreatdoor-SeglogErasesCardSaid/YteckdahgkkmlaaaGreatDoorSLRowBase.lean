/- What the rows of this seat have in common: the table of the sum's constants out of the row's condition; a frame as data. -/
import Derived.Test.YteckdahgkkmlaaaGreatDoorTie
import Derived.Test.YteckdahgkkmlaaaGreatDoorCards
import Derived.Test.YteckdahgkkmlaaaGreatDoorSLW9
import Derived.ProofKit
import Derived.OpenShut
import Derived.LaidMore
import Derived.Lay
import Derived.SevenTiedAt
import Derived.Stop.Joined
import Derived.Lib.LaidTab
import Derived.Deep.Strs
import Derived.Carry
set_option linter.unusedVariables false
set_option linter.constructorNameAsVariable false
set_option maxRecDepth 100000
namespace Go.Proofs.YteckdahgkkmlaaaGreatDoor
open Go Go.ChangeShapes Go.WideShapes Go.ChangeAt Go.RowKit SL

theorem own : ownKnob Tryz.prog.godebug = none := by kernel_rfl
theorem laidOut : laidOutB Tryz.prog = true := by kernel_rfl

theorem GOK_of {W : World} (h : laidMetH Tryz.prog Rows.seglogErasesRow.laid W) : ∃ o, W.heap[0]? = some o ∧ GOK [(0, o)] := by
  rw [MakeChecks.laidMetH_plain _ _ _ (by kernel_rfl)] at h
  obtain ⟨ps, h1, _⟩ := h
  have h1' : DataW.LaidVars Tryz.prog W [("unicode/utf8.acceptRanges", Rows.laid_unicode_utf8_acceptRanges), ("oblivion/sha.constants", Rows.laid_oblivion_sha_constants), ("unicode/utf8.first", Rows.laid_unicode_utf8_first)] ps := h1
  obtain ⟨_, _, _, _, _, q, _, _, _, _, h2, _⟩ := h1'
  obtain ⟨g, t, cs, fuel, p, _, hg, ht, hv, hd, _, _⟩ := h2
  obtain rfl := Option.some.inj ((show Tryz.prog.globalNamed "oblivion/sha.constants" = some 0 by kernel_rfl).symm.trans hg)
  obtain rfl := Option.some.inj ((show (Tryz.prog.globals[0]?).map (·.type) = some 157 by kernel_rfl).symm.trans ht)
  rw [show (Rows.laid_oblivion_sha_constants : DataW Unit) = Lib.tabData .u32 (shaK.map fun x => (x.toNat : Int)) by kernel_rfl] at hd
  have hc := Lib.cells_of_tab Tryz.underlying157 Tryz.underlying137 (by kernel_rfl) (by kernel_rfl) hd
  have hcell : ∀ j v, (shaK.map u32)[j]? = some v → W.cell? ⟨0, j, none⟩ = some v := fun j v hj => by
    rw [World.var?_cell hg hv j]
    have e : cs.toList = shaK.map u32 := by rw [hc, List.map_map]; rfl
    rw [← Array.getElem?_toList, e]; exact hj
  have hb : ∃ o, W.heap[0]? = some o := by
    have := hcell 0 (u32 1116352408) rfl
    unfold World.cell? at this
    cases ho : W.heap[0]? with
    | none => rw [ho] at this; cases this
    | some o => exact ⟨o, rfl⟩
  obtain ⟨o, ho⟩ := hb
  refine ⟨o, ho, fun w hw j v hj => ?_⟩
  have h0 := hw (0, o) (List.mem_singleton.2 rfl)
  rw [← hcell j v hj]
  unfold World.cell?
  rw [show w.heap[0]? = W.heap[0]? from h0.trans ho.symm]

theorem u8_open {H : Type} {enc : TypeId × Value → H} {W : World} {b0 : Nat} {v : Value} {d : DataW H} {p : List MemPlace} (hv : Value.okWide Tryz.prog W .any b0 5 v) (h : DataW.Trod enc Tryz.prog W 0 (fun _ => true) true 5 v d p) :
    ∃ x : UInt8, v = u8 x := by
  obtain ⟨i, rfl, _, _, hw⟩ := open_int Tryz.underlying5 hv h
  have hb := bounds_u8 hw
  refine ⟨UInt8.ofNat i.toNat, ?_⟩
  rw [u8, show ((UInt8.ofNat i.toNat).toNat : Int) = i by rw [UInt8.toNat_ofNat']; omega]
end Go.Proofs.YteckdahgkkmlaaaGreatDoor
