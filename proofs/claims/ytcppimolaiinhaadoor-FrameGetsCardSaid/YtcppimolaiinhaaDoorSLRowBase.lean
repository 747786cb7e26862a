/- What the rows of this seat have in common: the table of the sum's constants out of the row's condition; a frame as data. -/
import Derived.Test.YtcppimolaiinhaaDoorTie
import Derived.Test.YtcppimolaiinhaaDoorCards
import Derived.Test.YtcppimolaiinhaaDoorSLW10
import Derived.ProofKit
import Derived.OpenShut
import Derived.LaidMore
import Derived.Lay
import Derived.SevenTiedAt
import Derived.Stop.Joined
import Derived.Lib.LaidTab
import Derived.Deep.Strs
import Derived.Carry
set_option linter.unusedVariables false
set_option linter.constructorNameAsVariable false
set_option maxRecDepth 100000
namespace Go.Proofs.YtcppimolaiinhaaDoor
open Go Go.ChangeShapes Go.WideShapes Go.ChangeAt Go.RowKit SL

theorem own : ownKnob Tryd.prog.godebug = none := by kernel_rfl
theorem laidOut : laidOutB Tryd.prog = true := by kernel_rfl

theorem GOK_of {W : World} (h : laidMetH Tryd.prog Rows.frameOnceRow.laid W) : ∃ o, W.heap[0]? = some o ∧ GOK [(0, o)] := by
  rw [MakeChecks.laidMetH_plain _ _ _ (by kernel_rfl)] at h
  obtain ⟨ps, h1, _⟩ := h
  have h1' : DataW.LaidVars Tryd.prog W [("unicode/utf8.acceptRanges", Rows.laid_unicode_utf8_acceptRanges), ("oblivion/sha.constants", Rows.laid_oblivion_sha_constants), ("unicode/utf8.first", Rows.laid_unicode_utf8_first)] ps := h1
  obtain ⟨_, _, _, _, _, q, _, _, _, _, h2, _⟩ := h1'
  obtain ⟨g, t, cs, fuel, p, _, hg, ht, hv, hd, _, _⟩ := h2
  obtain rfl := Option.some.inj ((show Tryd.prog.globalNamed "oblivion/sha.constants" = some 0 by kernel_rfl).symm.trans hg)
  obtain rfl := Option.some.inj ((show (Tryd.prog.globals[0]?).map (·.type) = some 104 by kernel_rfl).symm.trans ht)
  rw [show (Rows.laid_oblivion_sha_constants : DataW Unit) = Lib.tabData .u32 (shaK.map fun x => (x.toNat : Int)) by kernel_rfl] at hd
  have hc := Lib.cells_of_tab Tryd.underlying104 Tryd.underlying84 (by kernel_rfl) (by kernel_rfl) hd
  have hcell : ∀ j v, (shaK.map u32)[j]? = some v → W.cell? ⟨0, j, none⟩ = some v := fun j v hj => by
    rw [World.var?_cell hg hv j]
    have e : cs.toList = shaK.map u32 := by rw [hc, List.map_map]; rfl
    rw [← Array.getElem?_toList, e]; exact hj
  have hb : ∃ o, W.heap[0]? = some o := by
    have := hcell 0 (u32 1116352408) rfl
    unfold World.cell? at this
    cases ho : W.heap[0]? with
    | none => rw [ho] at this; cases this
    | some o => exact ⟨o, rfl⟩
  obtain ⟨o, ho⟩ := hb
  refine ⟨o, ho, fun w hw j v hj => ?_⟩
  have h0 := hw (0, o) (List.mem_singleton.2 rfl)
  rw [← hcell j v hj]
  unfold World.cell?
  rw [show w.heap[0]? = W.heap[0]? from h0.trans ho.symm]

theorem frm_open {H : Type} {enc : TypeId × Value → H} {W : World} {b0 : Nat} {v : Value} {d : DataW H} {p : List MemPlace} (hv : Value.okWide Tryd.prog W .any b0 24 v) (h : DataW.Trod enc Tryd.prog W 0 (fun _ => true) true 24 v d p) :
    ∃ (k : UInt8) (q : UInt64) (t : List UInt8), v = frmV k q t := by
  obtain ⟨cs, rfl, hsz⟩ := okWide_struct Tryd.underlying24 hv
  rw [show Tryd.prog.cellsOf 24 = 3 by kernel_rfl] at hsz
  obtain ⟨l⟩ := cs
  match l, hsz with
  | [c0, c1, c2], _ =>
  obtain ⟨fuel, hf⟩ := h
  obtain ⟨y0, y1, y2, m, hx, _, hy0, hy1, hy2⟩ := Go.Deep.trod_struct3 Tryd.underlying24 hf
  obtain ⟨a, e0, rfl, wa⟩ := DataW.trod_int Tryd.underlying5 hy0
  obtain ⟨b, e1, rfl, wb⟩ := DataW.trod_int Tryd.underlying22 hy1
  obtain ⟨s, e2, rfl, ws⟩ := DataW.trod_string Tryd.underlying9 hy2
  simp [Value.cells, show Tryd.prog.cellsOf 5 = 1 by kernel_rfl, show Tryd.prog.cellsOf 22 = 1 by kernel_rfl, show Tryd.prog.cellsOf 9 = 1 by kernel_rfl] at e0 e1 e2
  subst e0 e1 e2
  have ba := bounds_u8 wa
  have bb := bounds_u64 wb
  refine ⟨UInt8.ofNat a.toNat, UInt64.ofNat b.toNat, s.data.toList, ?_⟩
  have h1 : ((UInt8.ofNat a.toNat).toNat : Int) = a := by rw [UInt8.toNat_ofNat']; omega
  have h2 : ((UInt64.ofNat b.toNat).toNat : Int) = b := by rw [UInt64.toNat_ofNat']; omega
  rw [frmV, u8, u64, h1, h2]
  simp [str]
end Go.Proofs.YtcppimolaiinhaaDoor
