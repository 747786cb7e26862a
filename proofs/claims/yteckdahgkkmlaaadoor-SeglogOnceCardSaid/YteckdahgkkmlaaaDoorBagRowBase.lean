/- What the rows of this seat have in common: the table of the sum's constants out of the row's condition; a frame as data. -/
import Derived.Test.YteckdahgkkmlaaaDoorTie
import Derived.Test.YteckdahgkkmlaaaDoorCards
import Derived.Test.YteckdahgkkmlaaaDoorBag1
import Derived.ProofKit
import Derived.OpenShut
import Derived.LaidMore
import Derived.Lay
import Derived.SevenTiedAt
import Derived.Stop.Joined
import Derived.Lib.LaidTab
import Derived.Deep.Strs
import Derived.Carry
import Derived.SliceStrings
import Derived.ChangeSlices
import Derived.Laws.LoneSync
import Derived.Test.YteckdahgkkmlaaaDoorBag3
set_option linter.unusedVariables false
set_option linter.constructorNameAsVariable false
set_option maxRecDepth 100000
namespace Go.Proofs.YteckdahgkkmlaaaDoor
open Go Go.ChangeShapes Go.WideShapes Go.ChangeAt Go.RowKit SL

theorem own : ownKnob Tryd.prog.godebug = none := by kernel_rfl
theorem laidOut : laidOutB Tryd.prog = true := by kernel_rfl

theorem GOK_of {W : World} (h : laidMetH Tryd.prog Rows.seglogOnceRow.laid W) : ∃ o, W.heap[0]? = some o ∧ ∀ G, (0, o) ∈ G → GOK G := by
  rw [MakeChecks.laidMetH_plain _ _ _ (by kernel_rfl)] at h
  obtain ⟨ps, h1, _⟩ := h
  have h1' : DataW.LaidVars Tryd.prog W [("unicode/utf8.acceptRanges", Rows.laid_unicode_utf8_acceptRanges), ("oblivion/sha.constants", Rows.laid_oblivion_sha_constants), ("unicode/utf8.first", Rows.laid_unicode_utf8_first)] ps := h1
  obtain ⟨_, _, _, _, _, q, _, _, _, _, h2, _⟩ := h1'
  obtain ⟨g, t, cs, fuel, p, _, hg, ht, hv, hd, _, _⟩ := h2
  obtain rfl := Option.some.inj ((show Tryd.prog.globalNamed "oblivion/sha.constants" = some 0 by kernel_rfl).symm.trans hg)
  obtain rfl := Option.some.inj ((show (Tryd.prog.globals[0]?).map (·.type) = some 155 by kernel_rfl).symm.trans ht)
  rw [show (Rows.laid_oblivion_sha_constants : DataW Unit) = Lib.tabData .u32 (shaK.map fun x => (x.toNat : Int)) by kernel_rfl] at hd
  have hc := Lib.cells_of_tab Tryd.underlying155 Tryd.underlying135 (by kernel_rfl) (by kernel_rfl) hd
  have hcell : ∀ j v, (shaK.map u32)[j]? = some v → W.cell? ⟨0, j, none⟩ = some v := fun j v hj => by
    rw [World.var?_cell hg hv j]
    have e : cs.toList = shaK.map u32 := by rw [hc, List.map_map]; rfl
    rw [← Array.getElem?_toList, e]; exact hj
  have hb : ∃ o, W.heap[0]? = some o := by
    have := hcell 0 (u32 1116352408) rfl
    unfold World.cell? at this
    cases ho : W.heap[0]? with
    | none => rw [ho] at this; cases this
    | some o => exact ⟨o, rfl⟩
  obtain ⟨o, ho⟩ := hb
  refine ⟨o, ho, fun G hGm w hw j v hj => ?_⟩
  have h0 := hw (0, o) hGm
  rw [← hcell j v hj]
  unfold World.cell?
  rw [show w.heap[0]? = W.heap[0]? from h0.trans ho.symm]

theorem u8_open {H : Type} {enc : TypeId × Value → H} {W : World} {b0 : Nat} {v : Value} {d : DataW H} {p : List MemPlace} (hv : Value.okWide Tryd.prog W .any b0 5 v) (h : DataW.Trod enc Tryd.prog W 0 (fun _ => true) true 5 v d p) :
    ∃ x : UInt8, v = u8 x := by
  obtain ⟨i, rfl, _, _, hw⟩ := open_int Tryd.underlying5 hv h
  have hb := bounds_u8 hw
  refine ⟨UInt8.ofNat i.toNat, ?_⟩
  rw [u8, show ((UInt8.ofNat i.toNat).toNat : Int) = i by rw [UInt8.toNat_ofNat']; omega]
theorem argS_of {W : World} {a : Addr} {vals : List Value} (h : ∀ j v, vals[j]? = some v → W.cell? (a.add j) = some v) : ∃ G2 : List (Nat × Obj), (∀ p ∈ G2, W.heap[p.1]? = some p.2) ∧ ∀ G, (∀ p ∈ G2, p ∈ G) → ArgS G (some a) vals := by
  cases vals with
  | nil => exact ⟨[], by simp, fun G _ j v hv => by simp at hv⟩
  | cons x l =>
    have h0 := h 0 x rfl
    obtain ⟨_, _, _, _, hsp⟩ := World.shape?_of_cell? h0
    obtain ⟨b, off, spot⟩ := a
    have hsp' : spot = none := hsp
    subst hsp'
    rw [Addr.add_lit] at h0
    cases ho : W.heap[b]? with
    | none => simp [World.cell?, ho] at h0
    | some o =>
      refine ⟨[(b, o)], fun p hp => by rw [List.mem_singleton.1 hp]; exact ho, fun G hG j v hv => ⟨b, off, rfl, fun w hw => ?_⟩⟩
      have h1 := h j v hv
      rw [Addr.add_lit] at h1
      have h2 := hw (b, o) (hG _ (List.mem_singleton.2 rfl))
      rw [← h1]
      unfold World.cell?
      rw [show w.heap[b]? = W.heap[b]? from h2.trans ho.symm]
theorem bytes_open {H : Type} {enc : TypeId × Value → H} {W : World} {b0 : Nat} {v : Value} {d : DataW H} {p : List MemPlace} (hv : Value.okWide Tryd.prog W .any b0 88 v) (h : DataW.Trod enc Tryd.prog W 0 (fun _ => true) true 88 v d p) :
    ∃ (ad : Option Addr) (cp : Nat) (xs : List UInt8) (G2 : List (Nat × Obj)), v = .slice ad xs.length cp ∧ (∀ p ∈ G2, W.heap[p.1]? = some p.2) ∧ ∀ G, (∀ p ∈ G2, p ∈ G) → ArgS G ad (xs.map u8) := by
  obtain ⟨a, len, cap, rfl⟩ := okWide_slice Tryd.underlying88 hv
  obtain ⟨fuel, hf⟩ := h
  rcases open_ints Tryd.underlying88 Tryd.underlying5 (by kernel_rfl) hf with ⟨hcs, _⟩ | ⟨a', len', cap', zs, hcs, _, hl, _, hzl, _, hcell, hwf⟩
  · have e : Value.slice a len cap = .slice none 0 0 := by simpa [Value.cells] using hcs
    cases e
    exact ⟨none, 0, [], [], rfl, by simp, fun G _ j v hv => by simp at hv⟩
  · have e : Value.slice a len cap = .slice (some a') len' cap' := by simpa [Value.cells] using hcs
    cases e
    have hzl' : zs.length = cap := by simpa using hzl
    have hx : ∀ j v, (((zs.take len).map fun z => UInt8.ofNat z.toNat).map u8)[j]? = some v → W.cell? (a'.add j) = some v := fun j v hj => by
      rw [List.map_map, List.getElem?_map, List.getElem?_take] at hj
      split at hj
      · rename_i hjl
        have hjz : j < zs.length := by omega
        rw [List.getElem?_eq_getElem hjz] at hj
        simp only [Option.map_some, Option.some.injEq] at hj
        rw [hcell j hjz, ← hj]
        have hb := bounds_u8 (hwf _ (List.getElem_mem hjz))
        simp only [Function.comp, u8, List.getD_eq_getElem?_getD, List.getElem?_eq_getElem hjz, Option.getD_some]
        rw [show ((UInt8.ofNat (zs[j]).toNat).toNat : Int) = zs[j] by rw [UInt8.toNat_ofNat']; omega]
      · simp at hj
    obtain ⟨G2, h1, h2⟩ := argS_of hx
    exact ⟨some a', cap, (zs.take len).map fun z => UInt8.ofNat z.toNat, G2, by simp [List.length_take]; omega, h1, h2⟩
theorem strs_open {H : Type} {enc : TypeId × Value → H} {W : World} {b0 : Nat} {v : Value} {d : DataW H} {p : List MemPlace} (hv : Value.okWide Tryd.prog W .any b0 44 v) (h : DataW.Trod enc Tryd.prog W 0 (fun _ => true) true 44 v d p) :
    ∃ (ad : Option Addr) (cp : Nat) (xs : List (List UInt8)) (G2 : List (Nat × Obj)), v = .slice ad xs.length cp ∧ (∀ x ∈ xs, x.length ≤ maxLen) ∧ (∀ p ∈ G2, W.heap[p.1]? = some p.2) ∧ ∀ G, (∀ p ∈ G2, p ∈ G) → ArgS G ad (xs.map str) := by
  obtain ⟨a, len, cap, rfl⟩ := okWide_slice Tryd.underlying44 hv
  obtain ⟨fuel, hf⟩ := h
  rcases open_strings Tryd.underlying44 Tryd.underlying9 (by kernel_rfl) hf with ⟨hcs, _⟩ | ⟨a', len', cap', ss, hcs, _, hl, _, hzl, _, hcell, hwf⟩
  · have e : Value.slice a len cap = .slice none 0 0 := by simpa [Value.cells] using hcs
    cases e
    exact ⟨none, 0, [], [], rfl, by simp, by simp, fun G _ j v hv => by simp at hv⟩
  · have e : Value.slice a len cap = .slice (some a') len' cap' := by simpa [Value.cells] using hcs
    cases e
    have hzl' : ss.length = cap := by simpa using hzl
    have hx : ∀ j v, (((ss.take len).map fun z => z.data.toList).map str)[j]? = some v → W.cell? (a'.add j) = some v := fun j v hj => by
      rw [List.map_map, List.getElem?_map, List.getElem?_take] at hj
      split at hj
      · rename_i hjl
        have hjz : j < ss.length := by omega
        rw [List.getElem?_eq_getElem hjz] at hj
        simp only [Option.map_some, Option.some.injEq] at hj
        rw [hcell j hjz, ← hj]
        simp [str, hjz]
      · simp at hj
    obtain ⟨G2, h1, h2⟩ := argS_of hx
    refine ⟨some a', cap, (ss.take len).map fun z => z.data.toList, G2, by simp [List.length_take]; omega, fun x hx => ?_, h1, h2⟩
    obtain ⟨s, hs, rfl⟩ := List.mem_map.1 hx
    have := hwf s (List.mem_of_mem_take hs)
    have e : s.data.toList.length = s.size := by rw [Array.length_toList]; rfl
    rw [e]; exact this
end Go.Proofs.YteckdahgkkmlaaaDoor
