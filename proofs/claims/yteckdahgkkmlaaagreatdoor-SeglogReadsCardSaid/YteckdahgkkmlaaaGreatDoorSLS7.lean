/- Walks of the program's functions. -/
import Derived.Test.YteckdahgkkmlaaaGreatDoorSLS6
import Derived.Test.YteckdahgkkmlaaaGreatDoorSLC2
import Derived.KernelRfl
set_option maxRecDepth 20000
set_option linter.unusedVariables false
set_option linter.unusedSimpArgs false
namespace Go.Proofs.YteckdahgkkmlaaaGreatDoor
open Go SL
variable {G : List (Nat × Obj)}
theorem seglog_Append (hG : GOK G) (c : Chp) (hc : c.wf) (g : Lg) (ho : opOK g c) (k : UInt8) (t : List UInt8) (r : Int) (hk : k ≠ 0) (ht : t.length ≤ 229) (hpast : c.past.length < 1000000) :
    Does Tryz.prog G 10 [ptr g.lb 0, u8 k, str t, i64 r] [chipR c, logRow g c.cb, logMap g] (fun v rs' => match (abs g c).appSeg r with | none => v = .tuple #[.agg [i64 0, i64 0].toArray, i64 2] ∧ rs' = [chipR c, logRow g c.cb, logMap g] | some i => ∃ b pa pc, v = .tuple #[.agg [i64 i, i64 (c.next i).toNat].toArray, i64 0] ∧ rs' = [chipR (c.prog i (c.next i).toNat b (putS k g.seq t) pa pc), logRow (Lg.mk g.lb g.mb i (g.seq + 1) g.ret g.clock) c.cb, logMap g]) := by
  cases h : (abs g c).appSeg r with
  | none =>
    obtain ⟨h1, h2⟩ := appSeg_none hc ho h
    rcases h1 with h1 | ⟨i0, h1, h3, h4⟩
    · exact seglog_Append_full0 hG c hc g k t r hk ht h1 h2
    · exact seglog_Append_full1 hG c hc g k t r hk ht i0 h1 h3 h4 h2
  | some i =>
    obtain ⟨hi, j, h1, h2, h3, h4⟩ := appSeg_spec hc ho h
    have e : (c.next i).toNat = j := by rw [h1]; rfl
    simp only [e]
    rcases h4 with h4 | ⟨h4 | ⟨i0, h4, h5, h6⟩, h7, h8⟩
    · exact seglog_Append_open hG c hc g k t r hk ht i j h4 hi h2 h1 h3 hpast
    · exact seglog_Append_take0 hG c hc g k t r hk ht i j h4 hi h2 h1 h3 hpast h7 h8
    · exact seglog_Append_take1 hG c hc g k t r hk ht i j i0 h4 h5 h6 hi h2 h1 h3 hpast h7 h8
theorem seglog_Room (c : Chp) (hc : c.wf) (g : Lg) (ho : opOK g c) : Does Tryz.prog G 21 [ptr g.lb 0] [chipR c, logRow g c.cb, logMap g] (OneR (i64 (abs g c).room) [chipR c, logRow g c.cb, logMap g]) := by
  unfold Ab.room
  rw [abs_freeL g hc, abs_many]
  rcases ho with ho | ⟨i, ho, hi⟩
  · have := seglog_Room_none (G := G) c hc g ho
    rw [show (abs g c).op = -1 from ho, if_pos rfl, Int.add_zero]
    exact this
  · have := seglog_Room_open (G := G) c hc g i ho
    rw [show (abs g c).op = i from ho, if_neg (by omega), Int.toNat_natCast]
    exact this
end Go.Proofs.YteckdahgkkmlaaaGreatDoor
