/- Walks of the program's functions. -/
import Derived.Test.YteckdahgkkmlaaaGreatDoorSLC4
import Derived.Test.YteckdahgkkmlaaaGreatDoorSLDrawG
import Derived.KernelRfl
set_option maxRecDepth 20000
set_option linter.unusedVariables false
set_option linter.unusedSimpArgs false
namespace Go.Proofs.YteckdahgkkmlaaaGreatDoor
open Go SL
variable {G : List (Nat × Obj)}
/-! what was appended is read -/
def cutT (s : List UInt8) : List UInt8 := s.take (Int.toNat (if (229 : Int) < (s.length : Int) then 229 else (s.length : Int)))
theorem cutT_length (s : List UInt8) : (cutT s).length ≤ 229 := by
  unfold cutT
  rw [List.length_take]
  split <;> omega
def kdN (n : Nat) : UInt8 := 1 + UInt8.ofNat (n % 3)
theorem kdN_ne (n : Nat) : kdN n ≠ 0 := by
  have h : n % 3 < 3 := Nat.mod_lt _ (by decide)
  unfold kdN
  generalize n % 3 = x at h
  match x, h with
  | 0, _ => decide
  | 1, _ => decide
  | 2, _ => decide
/-- the n-th text's page -/
def pgN (xs : List (List UInt8)) (n : Nat) : List UInt8 := putS (kdN n) (UInt64.ofNat (n + 1)) (cutT (xs.getD n []))
theorem frm_put (k : UInt8) (q : UInt64) (t : List UInt8) (hk : k ≠ 0) (h : t.length ≤ 229) : frm (putS k q t) = some (k, q, t) := by
  have h1 := get_put k q t hk h
  cases hf : frm (putS k q t) with
  | none => rw [getV_none hf] at h1; simp at h1
  | some x =>
    obtain ⟨k', q', t'⟩ := x
    rw [getV_some hf] at h1
    simp only [Value.tuple.injEq, frmV, Array.mk.injEq, List.cons.injEq, Value.agg.injEq, and_true] at h1
    obtain ⟨a1, a2, a3⟩ := h1
    have e1 : k' = k := u8_inj.1 (by simpa [u8] using a1)
    have e2 : q' = q := u64_inj.1 (by simpa [u64] using a2)
    have e3 : t' = t := by simpa [str] using a3
    rw [e1, e2, e3]
theorem mem_items {c : Chp} {i j : Nat} {t : List UInt8} (h : c.at i j = some t) : (⟨i, j, t⟩ : Item) ∈ c.items := by
  unfold Chp.at at h
  cases hs : c.l[i]? with
  | none => rw [hs] at h; cases h
  | some s =>
    rw [hs, Option.bind_some] at h
    cases hp : s.pg[j]? with
    | none => rw [hp] at h; cases h
    | some p =>
      rw [hp, Option.bind_some] at h
      obtain ⟨suf, e⟩ := items_split hs hp h
      rw [e]
      exact List.mem_append_right _ (List.mem_cons_self ..)
theorem maxQ_fold : ∀ (l : List FItem) (m : UInt64), (∀ a ∈ l, a.q ≤ l.foldl (fun m a => if m < a.q then a.q else m) m) ∧ m ≤ l.foldl (fun m a => if m < a.q then a.q else m) m ∧ (l.foldl (fun m a => if m < a.q then a.q else m) m = m ∨ ∃ a ∈ l, a.q = l.foldl (fun m a => if m < a.q then a.q else m) m)
  | [], m => ⟨by simp, UInt64.le_refl _, .inl rfl⟩
  | x :: l, m => by
    rw [List.foldl_cons]
    by_cases h : m < x.q
    · rw [if_pos h]
      obtain ⟨h1, h2, h3⟩ := maxQ_fold l x.q
      refine ⟨fun a ha => ?_, UInt64.le_trans (UInt64.le_of_lt h) h2, ?_⟩
      · rcases List.mem_cons.1 ha with rfl | ha
        · exact h2
        · exact h1 a ha
      · rcases h3 with h3 | ⟨a, ha, h3⟩
        · exact .inr ⟨x, List.mem_cons_self .., h3.symm⟩
        · exact .inr ⟨a, List.mem_cons_of_mem _ ha, h3⟩
    · rw [if_neg h]
      obtain ⟨h1, h2, h3⟩ := maxQ_fold l m
      have hx : x.q ≤ m := UInt64.not_lt.1 h
      refine ⟨fun a ha => ?_, h2, ?_⟩
      · rcases List.mem_cons.1 ha with rfl | ha
        · exact UInt64.le_trans hx h2
        · exact h1 a ha
      · rcases h3 with h3 | ⟨a, ha, h3⟩
        · exact .inl h3
        · exact .inr ⟨a, List.mem_cons_of_mem _ ha, h3⟩
theorem maxQ_eq {l : List FItem} {n : UInt64} (h1 : ∀ a ∈ l, a.q ≤ n) (h2 : n = 0 ∨ ∃ a ∈ l, a.q = n) : maxQ l = n := by
  obtain ⟨h3, h4, h5⟩ := maxQ_fold l 0
  have e : maxQ l = l.foldl (fun m a => if m < a.q then a.q else m) 0 := rfl
  rw [← e] at h3 h4 h5
  apply UInt64.le_antisymm
  · rcases h5 with h5 | ⟨a, ha, h5⟩
    · rw [h5]; exact UInt64.zero_le
    · rw [← h5]; exact h1 a ha
  · rcases h2 with h2 | ⟨a, ha, h2⟩
    · rw [h2]; exact UInt64.zero_le
    · rw [← h2]; exact h3 a ha
/-- a log of n texts -/
def HasN (c : Chp) (xs : List (List UInt8)) (n : Nat) : Prop := ∀ i j, c.at i j = if i < 10 ∧ j < 5 ∧ 5 * i + j < n then some (pgN xs (5 * i + j)) else none
theorem ofNat_le {a b : Nat} (h : a ≤ b) (hb : b < 1000) : UInt64.ofNat a ≤ UInt64.ofNat b := by
  rw [UInt64.le_iff_toNat_le, UInt64.toNat_ofNat', UInt64.toNat_ofNat']; omega
theorem maxQ_has {c : Chp} {xs : List (List UInt8)} {n : Nat} (hn : n ≤ 40) (h : HasN c xs n) : maxQ c.frames + 1 = UInt64.ofNat (n + 1) := by
  have e : maxQ c.frames = UInt64.ofNat n := by
    apply maxQ_eq
    · intro a ha
      obtain ⟨b, hb, hab⟩ := List.mem_filterMap.1 ha
      have h1 := Chp.items_at hb
      rw [h] at h1
      split at h1
      · rename_i hc
        obtain ⟨_, _, hlt⟩ := hc
        unfold toF at hab
        rw [← Option.some.inj h1, pgN, frm_put _ _ _ (kdN_ne _) (cutT_length _)] at hab
        simp only [Option.map_some, Option.some.injEq] at hab
        rw [← hab]
        exact ofNat_le (by omega) (by omega)
      · cases h1
    · rcases n with _ | n
      · exact .inl rfl
      · right
        have h1 := h (n / 5) (n % 5)
        have e1 : 5 * (n / 5) + n % 5 = n := by omega
        rw [if_pos ⟨by omega, by omega, by omega⟩, e1] at h1
        refine ⟨⟨n / 5, n % 5, kdN n, UInt64.ofNat (n + 1), cutT (xs.getD n [])⟩, List.mem_filterMap.2 ⟨_, mem_items h1, ?_⟩, rfl⟩
        unfold toF
        rw [pgN, frm_put _ _ _ (kdN_ne _) (cutT_length _)]
        rfl
  rw [e]
  apply UInt64.toNat_inj.1
  rw [UInt64.toNat_add, UInt64.toNat_ofNat', UInt64.toNat_ofNat']
  show (n % 2 ^ 64 + 1) % 2 ^ 64 = _
  omega
/-- where the texts stand, in cells -/
def locC : Nat → List Value
  | 0 => []
  | n + 1 => locC n ++ [i64 ((n / 5 : Nat) : Int), i64 ((n % 5 : Nat) : Int)]
theorem locC_length : ∀ n, (locC n).length = n * 2
  | 0 => rfl
  | n + 1 => by rw [locC, List.length_append, locC_length n]; simp; omega
theorem locC_get0 {n k : Nat} (h : k < n) : (locC n)[k * 2]? = some (i64 ((k / 5 : Nat) : Int)) := by
  induction n with
  | zero => omega
  | succ n ih =>
    rw [locC]
    by_cases e : k < n
    · rw [List.getElem?_append_left (by rw [locC_length]; omega)]; exact ih e
    · obtain rfl : k = n := by omega
      rw [List.getElem?_append_right (by rw [locC_length]; exact Nat.le_refl _), locC_length, Nat.sub_self]; rfl
theorem locC_get1 {n k : Nat} (h : k < n) : (locC n)[k * 2 + 1]? = some (i64 ((k % 5 : Nat) : Int)) := by
  induction n with
  | zero => omega
  | succ n ih =>
    rw [locC]
    by_cases e : k < n
    · rw [List.getElem?_append_left (by rw [locC_length]; omega)]; exact ih e
    · obtain rfl : k = n := by omega
      rw [List.getElem?_append_right (by rw [locC_length]; omega), locC_length, show k * 2 + 1 - k * 2 = 1 by omega]; rfl
def qA : Ab := newAb 10 5 9 []
theorem q_app : ∀ k, k < 40 → (iter (fun a => a.app 0) k qA).appSeg 0 = some (k / 5) ∧ (iter (fun a => a.app 0) k qA).next (k / 5) = ((k % 5 : Nat) : Int) := by decide +kernel
theorem q_can : ∀ k, k < 41 → ∀ kk, kk < 10 → ((iter (fun a => a.app 0) k qA).mount).canErase kk = true := by decide +kernel
theorem hasN_step {c : Chp} (hc : c.wf) {xs : List (List UInt8)} {k : Nat} (hk : k < 40) (h : HasN c xs k) (h1 : k / 5 < c.segs) (h2 : k % 5 < c.pages) (b : Nat) (pa : Option Addr) (pc : Nat) : HasN (c.prog (k / 5) (k % 5) b (pgN xs k) pa pc) xs (k + 1) := by
  intro i j
  rw [Chp.at_prog hc h1 h2, h i j]
  by_cases e : i = k / 5 ∧ j = k % 5
  · obtain ⟨rfl, rfl⟩ := e
    rw [if_pos ⟨rfl, rfl⟩, if_pos ⟨by omega, by omega, by omega⟩, show 5 * (k / 5) + k % 5 = k by omega]
  · rw [if_neg e]
    by_cases e2 : i < 10 ∧ j < 5 ∧ 5 * i + j < k
    · rw [if_pos e2, if_pos ⟨e2.1, e2.2.1, by omega⟩]
    · rw [if_neg e2, if_neg]
      rintro ⟨h3, h4, h5⟩
      apply e
      have : 5 * i + j = k := by
        rcases Nat.lt_or_ge (5 * i + j) k with h6 | h6
        · exact absurd ⟨h3, h4, h6⟩ e2
        · omega
      omega
theorem hasN_new {c : Chp} {segs pages rated : Nat} {bads : List Int} (h : c.fresh segs pages rated bads) (xs : List (List UInt8)) : HasN c xs 0 := by
  intro i j
  rw [Chp.at_fresh h, if_neg (by omega)]
end Go.Proofs.YteckdahgkkmlaaaGreatDoor
