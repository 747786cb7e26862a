/- A region that draws its order, whatever it does to the memory: the resources by what is done. -/
import Derived.Test.YteckdahgkkmlaaaDoorSLDrawX
import Derived.Test.YteckdahgkkmlaaaDoorSLSli
namespace SL
open Go

/-- what is owed of one operation -/
def GStep (c : Cx) (l : List Oper) {γ : Type} (V : γ → List Value) (m : List (Nat × Value)) (RS : (Nat → Bool) → γ → List Res) (i : Nat) (o : Oper) : Prop :=
  ∀ g D, D i = false → SL.pre o D → Closed l D → ∀ K, (∀ g', (∀ j, D j = true → (V g)[j]? = (V g')[j]?) → ∀ v, (V g')[i]? = some v → At c (put o v (mD D l (V g) m)) (RS (upd D i) g') K) → At c (mD D l (V g) m) (RS D g) (stp c.P l.toArray o K)
def GSteps (c : Cx) (l : List Oper) {γ : Type} (V : γ → List Value) (m : List (Nat × Value)) (RS : (Nat → Bool) → γ → List Res) : Nat → List Oper → Prop
  | _, [] => True
  | i, o :: os => GStep c l V m RS i o ∧ GSteps c l V m RS (i + 1) os
theorem GSteps.nil {c : Cx} {l : List Oper} {γ : Type} {V : γ → List Value} {m : List (Nat × Value)} {RS : (Nat → Bool) → γ → List Res} {i : Nat} : GSteps c l V m RS i [] := trivial
theorem GSteps.get {c : Cx} {l : List Oper} {γ : Type} {V : γ → List Value} {m : List (Nat × Value)} {RS : (Nat → Bool) → γ → List Res} : ∀ {i : Nat} {os : List Oper}, GSteps c l V m RS i os → ∀ {j : Nat} {o : Oper}, os[j]? = some o → GStep c l V m RS (i + j) o
  | _, [], _, _, _, h => by simp at h
  | i, o :: os, h, 0, o', ho => by simp at ho; subst ho; exact h.1
  | i, o :: os, h, j + 1, o', ho => by
    have := h.2.get (j := j) (o := o') (by simpa using ho)
    rw [show i + (j + 1) = i + 1 + j by omega]; exact this
theorem GSteps.quiet {c : Cx} {l : List Oper} {γ : Type} {V : γ → List Value} {m : List (Nat × Value)} {RS : (Nat → Bool) → γ → List Res} {i : Nat} {o : Oper} {os : List Oper} (v : γ → Value) (hv : ∀ g, (V g)[i]? = some (v g)) (hrs : ∀ D g, RS (upd D i) g = RS D g)
    (h : ∀ g r, Step c l (V g) m (fun _ => r) i o (v g)) (t : GSteps c l V m RS (i + 1) os) : GSteps c l V m RS i (o :: os) :=
  ⟨fun g D h1 h2 h3 K hK => h g (RS D g) D h1 h2 h3 K (by have := hK g (fun _ _ => rfl) (v g) (hv g); rw [hrs] at this; exact this), t⟩
theorem GSteps.eff {c : Cx} {l : List Oper} {γ : Type} {V : γ → List Value} {m : List (Nat × Value)} {RS : (Nat → Bool) → γ → List Res} {i : Nat} {o : Oper} {os : List Oper} (hg : o.guard = none)
    (h : ∀ g D, D i = false → SL.pre o D → Closed l D → ∀ K, (∀ g', (∀ j, D j = true → (V g)[j]? = (V g')[j]?) → ∀ v, (V g')[i]? = some v → At c (put o v (mD D l (V g) m)) (RS (upd D i) g') K) → At c (mD D l (V g) m) (RS D g) (fun a w => Op1 c.P o a w K))
    (t : GSteps c l V m RS (i + 1) os) : GSteps c l V m RS i (o :: os) :=
  ⟨fun g D h1 h2 h3 K hK a w hs hh => by
    unfold stp
    rw [if_pos (by simp [Region.wanted, hg])]
    exact h g D h1 h2 h3 K hK a w hs hh, t⟩

theorem At.drawG {c : Cx} {r : Option Nat} {id : Nat} {l : List Oper} {Q : Exit → Act → World → Prop} {m : List (Nat × Value)} {rs : List Res} {γ : Type} (g0 : γ) (RS : (Nat → Bool) → γ → List Res) (V : γ → List Value)
    (hm : c.P.follows .mixedOrders = true) (hnd : (dsts l).Nodup) (hf : fwd l = true) (hlen : ∀ g, (V g).length = l.length) (hr0 : RS (fun i => Nat.ble l.length i) g0 = rs)
    (hsteps : GSteps c l V m RS 0 l)
    (hend : ∀ g, At c (mD (fun _ => true) l (V g) m) (RS (fun _ => true) g) (Q .normal)) :
    At c m rs ((Code.region id l.toArray true).wpIn (Fr r) 0 c.P Q) := by
  intro a w hs hh
  refine wpIn_region_any hm ?_
  have key : ∀ (fuel : Nat) (g : γ) (listed : Array Bool) (a : Act) (w : World), listed.size = l.length → (List.range l.length).countP (fun i => !listed.getD i true) ≤ fuel →
      Closed l (fun i => listed.getD i true) → Slots c.n c.ds (mD (fun i => listed.getD i true) l (V g) m) a → Hp c.G c.w0 c.S (RS (fun i => listed.getD i true) g) w →
      wpAnyIn (Fr r) 0 c.P .any l.toArray Q fuel listed a w := by
    have hall : ∀ (listed : Array Bool), listed.size = l.length → Closed l (fun i => listed.getD i true) → Region.ready .any l.toArray listed = [] → (fun i => listed.getD i true) = fun _ => true := by
      intro listed hsz hcl hr
      funext i
      induction i using Nat.strongRecOn with
      | _ i ih =>
        cases hi : listed.getD i true with
        | true => rfl
        | false =>
          have hlt : i < l.length := by
            rcases Nat.lt_or_ge i l.length with h | h
            · exact h
            · simp [Array.getElem?_eq_none (xs := listed) (i := i) (by omega)] at hi
          have : i ∈ Region.ready .any l.toArray listed := by
            rw [mem_ready]
            refine ⟨hi, l[i], by simp [hlt], fun e he hb => ?_⟩
            have h1 := fwd_get hf (List.getElem?_eq_getElem hlt) e he hb
            have h2 := ih e.on h1
            have h3 : e.on < listed.size := by omega
            simp only [Array.getD_eq_getD_getElem?, Array.getElem?_eq_getElem h3, Option.getD_some] at h2 ⊢
            exact h2
          rw [hr] at this; cases this
    intro fuel
    induction fuel with
    | zero =>
      intro g listed a w hsz hcnt hcl hs hh
      have hr : Region.ready .any l.toArray listed = [] := by
        cases hr : Region.ready .any l.toArray listed with
        | nil => rfl
        | cons i rest =>
          have hi : i ∈ Region.ready .any l.toArray listed := by rw [hr]; exact List.mem_cons_self ..
          obtain ⟨h1, o, ho, _⟩ := mem_ready.1 hi
          have h2 : 0 < (List.range l.length).countP (fun i => !listed.getD i true) := List.countP_pos_iff.2 ⟨i, List.mem_range.2 (by have := (Array.getElem?_eq_some_iff.1 ho).1; simpa using this), by simp only [h1]; rfl⟩
          omega
      have he := hall listed hsz hcl hr
      rw [he] at hs hh
      exact ⟨hr, hend g a w hs hh⟩
    | succ fuel ih =>
      intro g listed a w hsz hcnt hcl hs hh
      refine ⟨fun hr => ?_, fun i hi => ?_⟩
      · have he := hall listed hsz hcl hr
        rw [he] at hs hh
        exact hend g a w hs hh
      · obtain ⟨h1, o, ho, hpre⟩ := mem_ready.1 hi
        have ho' : l[i]? = some o := by simpa using ho
        have hlt : i < l.length := (List.getElem?_eq_some_iff.1 ho').1
        have hupd : (fun j => (listed.setIfInBounds i true).getD j true) = upd (fun j => listed.getD j true) i := by
          funext j
          simp only [upd, Array.getD_eq_getD_getElem?, Array.getElem?_setIfInBounds]
          by_cases e : j = i
          · subst e; rw [if_pos rfl, if_pos rfl, if_pos (by omega)]; rfl
          · rw [if_neg e, if_neg (fun h => e h.symm)]
        have hpreD : SL.pre o (fun j => listed.getD j true) := fun e he hb => by
          have h2 := hpre e he hb
          have h3 : e.on < listed.size := by have := fwd_get hf ho' e he hb; omega
          simp only [Array.getD_eq_getD_getElem?, Array.getElem?_eq_getElem h3, Option.getD_some] at h2 ⊢
          exact h2
        have hcnt' : (List.range l.length).countP (fun j => !(listed.setIfInBounds i true).getD j true) ≤ fuel := by
          have : (List.range l.length).countP (fun j => !(listed.setIfInBounds i true).getD j true) < (List.range l.length).countP (fun j => !listed.getD j true) := by
            have hcongr : ∀ j, (!(listed.setIfInBounds i true).getD j true) = (decide (j ≠ i) && !listed.getD j true) := fun j => by
              have hj : (listed.setIfInBounds i true).getD j true = upd (fun j => listed.getD j true) i j := congrFun hupd j
              rw [hj]; simp only [upd]
              by_cases e : j = i <;> simp [e]
            rw [List.countP_congr (q := fun j => decide (j ≠ i) && !listed.getD j true) (fun j _ => by rw [hcongr])]
            have hmem : i ∈ List.range l.length := List.mem_range.2 hlt
            have hle : (List.range l.length).countP (fun j => decide (j ≠ i) && !listed.getD j true) + 1 ≤ (List.range l.length).countP (fun j => !listed.getD j true) := by
              rw [List.countP_eq_length_filter, List.countP_eq_length_filter]
              have hsub : List.filter (fun j => decide (j ≠ i) && !listed.getD j true) (List.range l.length) = List.filter (fun j => decide (j ≠ i)) (List.filter (fun j => !listed.getD j true) (List.range l.length)) := by
                rw [List.filter_filter]
              rw [hsub]
              exact List.length_filter_lt_length_iff_exists.2 ⟨i, List.mem_filter.2 ⟨hmem, by simp only [h1]; rfl⟩, by simp⟩
            omega
          omega
        have hcl' : Closed l (fun j => (listed.setIfInBounds i true).getD j true) := by
          rw [hupd]
          intro j oj hoj hDj e he hb
          simp only [upd] at hDj ⊢
          split
          · rfl
          · split at hDj
            · rename_i hji; subst hji
              rw [ho'] at hoj; cases hoj
              exact hpreD e he hb
            · exact hcl j oj hoj hDj e he hb
        have hput : ∀ (U : List Value) (v : Value) (a' : Act), U[i]? = some v → Slots c.n c.ds (put o v (mD (fun j => listed.getD j true) l U m)) a' → Slots c.n c.ds (mD (upd (fun j => listed.getD j true) i) l U m) a' := by
          intro U v a' hv hs'
          refine ⟨hs'.defers, hs'.size, fun j u hu => hs'.look j u ?_⟩
          unfold put
          unfold mD at hu ⊢
          rw [lk_append] at hu
          cases hd : o.dst with
          | none =>
            simp only
            rw [lk_append, ← lk_sdl_upd (fun j => listed.getD j true) (upd (fun j => listed.getD j true) i) i (fun j hj => by simp [upd, hj]) l 0 U j (fun o' _ ho'' => by
              rw [Nat.sub_zero, ho'] at ho''; cases ho''; rw [hd]; simp)]
            exact hu
          | some d =>
            simp only [lk]
            by_cases hdj : d = j
            · subst hdj
              rw [lk_sdl_some (upd (fun j => listed.getD j true) i) l 0 U i d o v hnd ho' hd hv (by simp [upd])] at hu
              rw [Nat.beq_refl]
              simpa using hu
            · rw [nbeq_ne hdj]
              simp only
              rw [lk_append, ← lk_sdl_upd (fun j => listed.getD j true) (upd (fun j => listed.getD j true) i) i (fun j hj => by simp [upd, hj]) l 0 U j (fun o' _ ho'' => by
                rw [Nat.sub_zero, ho'] at ho''; cases ho''; rw [hd]; simpa using hdj)]
              exact hu
        have hstep := hsteps.get (j := i) ho'
        rw [Nat.zero_add] at hstep
        refine wpOpIn_of_stp ho' (hstep g _ h1 hpreD hcl _ ?_ a w hs hh)
        intro g' hag v hv a' w' hs' hh'
        refine ih g' _ a' w' (by simp [hsz]) hcnt' hcl' ?_ ?_
        · rw [hupd]
          refine hput (V g') v a' hv ?_
          have hcg : mD (fun j => listed.getD j true) l (V g') m = mD (fun j => listed.getD j true) l (V g) m := by
            unfold mD
            rw [lk_sdl_congr _ l 0 (V g') (V g) (by rw [hlen, hlen]) (fun j hj => ?_)]
            rw [Nat.zero_add] at hj
            exact (hag j hj).symm
          rw [hcg]
          exact hs'
        · rw [hupd]; exact hh'
  have hrep : (fun i => (Array.replicate l.length false).getD i true) = fun i => Nat.ble l.length i := by
    funext i
    rcases Nat.lt_or_ge i l.length with h | h
    · have : Nat.ble l.length i = false := by
        cases hb : Nat.ble l.length i with
        | false => rfl
        | true => have := Nat.le_of_ble_eq_true hb; omega
      simp [this, h]
    · have : Nat.ble l.length i = true := Nat.ble_eq_true_of_le h
      simp [this, h]
  simp only [List.size_toArray]
  refine key l.length g0 (Array.replicate l.length false) a { w with drawn := w.drawn + 1 } (by simp) ?_ ?_ ?_ ?_
  · exact Nat.le_trans (List.countP_le_length) (by simp)
  · rw [hrep]
    intro j o ho hD
    have h1 := (List.getElem?_eq_some_iff.1 ho).1
    have h2 := Nat.le_of_ble_eq_true hD
    omega
  · rw [hrep]
    refine ⟨hs.defers, hs.size, fun j u hu => hs.look j u ?_⟩
    have hn : ∀ (os : List Oper) (k : Nat) (vs : List Value), k + os.length ≤ l.length → sdl (fun i => Nat.ble l.length i) k os vs = [] := by
      intro os
      induction os with
      | nil => intro k vs _; simp [sdl]
      | cons o os ih =>
        intro k vs hk
        cases vs with
        | nil => simp [sdl]
        | cons v vs =>
          simp only [List.length_cons] at hk
          have : Nat.ble l.length k = false := by
            cases hb : Nat.ble l.length k with
            | false => rfl
            | true => have := Nat.le_of_ble_eq_true hb; omega
          simp only [sdl, this]
          exact ih (k + 1) vs (by omega)
    unfold mD at hu
    rw [hn l 0 (V g0) (by omega)] at hu
    exact hu
  · rw [hrep]
    rw [hr0]; exact hh.drew _

section
variable {c : Cx} {m : List (Nat × Value)} {rs : List Res} {K : Act → World → Prop} {d t : Nat} {pos : String} {af : Array Edge} {g : Option (Nat × Bool)}
/-- an empty literal slice -/
theorem op_buildSlice0 {T E : TypeId} {sz bytes : Nat} {z : Value} (hT : c.P.underlying T = some (.slice E)) (hE : ET c.P E sz bytes z) (hn : Nat.blt d c.n = true)
    (h : ∀ b, At c ((d, slc b 0 0 0) :: m) (row b [] E (0, 0) :: rs) K) : At c m rs (fun a w => Op1 c.P ⟨some d, .buildSlice T 0 #[], t, pos, af, g⟩ a w K) := by
  intro a w hs hh
  obtain ⟨i, hi, hz, hisz, hib⟩ := hE.ex
  refine op1_run (by intros; simp) (run_v (v := slc w.heap.size 0 0 0) (w' := w.alloc (.cells [].toArray E)) ?_) (h _ _ _ (hs.put hn) (hh.new _))
  have hinfo : (Go.program).run c.P w = .ok c.P w := rfl
  simp [Instr.buildSlice, run_underlying hT, Go.sizeOf, typeInfo, hi, Instr.fill, newRow, newObj, Sem.run, show Array.range 0 = #[] by decide]
/-- a literal slice of one element of two cells -/
theorem op_buildSlice2 {T E : TypeId} {bytes : Nat} {x : Operand} {u v z : Value} (hx : ev m x = some (.agg [u, v].toArray)) (hT : c.P.underlying T = some (.slice E)) (hE : ET c.P E 2 bytes z) (hn : Nat.blt d c.n = true)
    (h : ∀ b, At c ((d, slc b 0 1 1) :: m) (row b [u, v] E (0, 0) :: rs) K) : At c m rs (fun a w => Op1 c.P ⟨some d, .buildSlice T 1 #[(0, x)], t, pos, af, g⟩ a w K) := by
  intro a w hs hh
  obtain ⟨i, hi, hz, hisz, hib⟩ := hE.ex
  refine op1_run (by intros; simp) (run_v (v := slc w.heap.size 0 1 1) (w' := w.alloc (.cells [u, v].toArray E)) ?_) (h _ _ _ (hs.put hn) (hh.new _))
  have hr : (Array.range (1 * 2)).map (z.cells[· % z.cells.size]!) = #[z.cells[0 % z.cells.size]!, z.cells[1 % z.cells.size]!] := by
    rw [show Array.range (1 * 2) = #[0, 1] by decide]; simp
  have hf : Instr.fill (fun i => some (i * 2, 2)) ((Array.range (1 * 2)).map (z.cells[· % z.cells.size]!)) [(0, Value.agg [u, v].toArray)] = some [u, v].toArray := by
    rw [hr]; rfl
  have e : (a.eval x) = .agg [u, v].toArray := hs.eval hx
  have hp : ((#[(0, x)] : Array (Nat × Operand)).map fun (i, x) => (i, a.eval x)) = #[(0, Value.agg [u, v].toArray)] := by simp [e]
  show (Instr.buildSlice T 1 ((#[(0, x)] : Array (Nat × Operand)).map fun (i, x) => (i, a.eval x))).run c.P w = _
  rw [hp]
  have hinfo : (Go.program).run c.P w = .ok c.P w := rfl
  simp only [Instr.buildSlice, Sem.run_bind, run_underlying hT, Result.andThen_ok, Go.sizeOf, typeInfo, Sem.run_pure, hinfo, hi, hisz]
  rw [if_neg (by decide), if_neg (by decide)]
  simp only [Sem.run_bind, zeroValue, typeInfo, hinfo, Result.andThen_ok, hi, Sem.run_pure, hz, hf]
  simp [newRow, newObj, Sem.run]
end
end SL
