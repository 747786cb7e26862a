/- A region that draws its order and lays or grows memory: values that hang on the world are named as they come. -/
import Derived.Test.YteckdahgkkmlaaaDoorSLDraw
namespace SL
open Go

/-- steps that turn nothing; those in es are passed over -/
inductive StepsY (c : Cx) (l : List Oper) (V : List Value) (m : List (Nat × Value)) (es : List Nat) (rs : List Res) (rss : List (List Res)) : Nat → List Oper → List Value → Prop
  | nil {i : Nat} : StepsY c l V m es rs rss i [] []
  | quiet {i : Nat} {o : Oper} {v : Value} {os : List Oper} {vs : List Value} (q : Nat) (hq : ((es[q]?).all fun e => dep l e i) = true) (hne : (es.all fun e => !Nat.beq e i) = true) (h : QuietS c l V m i o v ((rs :: rss).take (q + 1)))
      (t : StepsY c l V m es rs rss (i + 1) os vs) : StepsY c l V m es rs rss i (o :: os) (v :: vs)
  | skip {i : Nat} {o : Oper} {v : Value} {os : List Oper} {vs : List Value} (hm : (es.any fun e => Nat.beq e i) = true) (t : StepsY c l V m es rs rss (i + 1) os vs) : StepsY c l V m es rs rss i (o :: os) (v :: vs)
theorem StepsY.get {c : Cx} {l : List Oper} {V : List Value} {m : List (Nat × Value)} {es : List Nat} {rs : List Res} {rss : List (List Res)} : ∀ {i : Nat} {os : List Oper} {vs : List Value}, StepsY c l V m es rs rss i os vs →
    ∀ {j : Nat} {o : Oper}, os[j]? = some o → (es.any fun e => Nat.beq e (i + j)) = false → ∃ v, vs[j]? = some v ∧ Step c l V m (fun D => rsE D es rs rss) (i + j) o v := by
  intro i os vs h
  induction h with
  | nil => intro j o h; simp at h
  | @quiet i o v os vs q hq hne h t ih =>
    intro j o' ho hj
    cases j with
    | zero => simp at ho; subst ho; exact ⟨v, rfl, quiet_step q hq hne h⟩
    | succ j =>
      obtain ⟨u, h1, h2⟩ := ih (j := j) (o := o') (by simpa using ho) (by rw [show i + 1 + j = i + (j + 1) by omega]; exact hj)
      exact ⟨u, by simpa using h1, by rw [show i + (j + 1) = i + 1 + j by omega]; exact h2⟩
  | @skip i o v os vs hm t ih =>
    intro j o' ho hj
    cases j with
    | zero => rw [Nat.add_zero, hm] at hj; cases hj
    | succ j =>
      obtain ⟨u, h1, h2⟩ := ih (j := j) (o := o') (by simpa using ho) (by rw [show i + 1 + j = i + (j + 1) by omega]; exact hj)
      exact ⟨u, by simpa using h1, by rw [show i + (j + 1) = i + 1 + j by omega]; exact h2⟩

/-- two namings that differ only in what is still to come -/
def Agree (l : List Oper) (V V' : List Value) (rest : List Nat) : Prop := ∀ j, V[j]? = V'[j]? ∨ (rest.any fun e => Nat.beq e j || dep l j e) = true

inductive Effs (c : Cx) (l : List Oper) {γ : Type} (V : γ → List Value) (m : List (Nat × Value)) (rs : List Res) (rss : γ → List (List Res)) : Nat → List Nat → Prop
  | nil {p : Nat} : Effs c l V m rs rss p []
  | cons {p i : Nat} {rest : List Nat} {o : Oper} (ho : l[i]? = some o) (hg : o.guard = none) (v : γ → Value) (hv : ∀ g, (V g)[i]? = some (v g)) (r r' : γ → List Res) (hr : ∀ g, (rs :: rss g)[p]? = some (r g)) (hr' : ∀ g, (rs :: rss g)[p + 1]? = some (r' g))
      (h : ∀ g D, SL.pre o D → ∀ K, (∀ g', Agree l (V g) (V g') (i :: rest) → At c (put o (v g') (mD D l (V g) m)) (r' g') K) → At c (mD D l (V g) m) (r g) (fun a w => Op1 c.P o a w K))
      (t : Effs c l V m rs rss (p + 1) rest) : Effs c l V m rs rss p (i :: rest)
theorem Effs.get {c : Cx} {l : List Oper} {γ : Type} {V : γ → List Value} {m : List (Nat × Value)} {rs : List Res} {rss : γ → List (List Res)} {p : Nat} {es : List Nat} (h : Effs c l V m rs rss p es) : ∀ {q i : Nat}, es[q]? = some i →
    ∃ o, l[i]? = some o ∧ o.guard = none ∧ ∃ v : γ → Value, (∀ g, (V g)[i]? = some (v g)) ∧ ∃ r r' : γ → List Res, (∀ g, (rs :: rss g)[p + q]? = some (r g)) ∧ (∀ g, (rs :: rss g)[p + q + 1]? = some (r' g)) ∧
      ∀ g D, SL.pre o D → ∀ K, (∀ g', Agree l (V g) (V g') (es.drop q) → At c (put o (v g') (mD D l (V g) m)) (r' g') K) → At c (mD D l (V g) m) (r g) (fun a w => Op1 c.P o a w K) := by
  induction h with
  | nil => intro q i h; simp at h
  | @cons p i rest o ho hg v hv r r' hr hr' h t ih =>
    intro q j hq
    cases q with
    | zero => simp at hq; subst hq; exact ⟨o, ho, hg, v, hv, r, r', hr, hr', h⟩
    | succ q =>
      obtain ⟨o2, h1, h2, v2, h3, s, s', h4, h5, h6⟩ := ih (q := q) (i := j) (by simpa using hq)
      refine ⟨o2, h1, h2, v2, h3, s, s', fun g => ?_, fun g => ?_, ?_⟩
      · rw [show p + (q + 1) = p + 1 + q by omega]; exact h4 g
      · rw [show p + (q + 1) + 1 = p + 1 + q + 1 by omega]; exact h5 g
      · simpa using h6

/-- each in es waits for the one before -/
def chainB (l : List Oper) : List Nat → Bool
  | a :: b :: r => dep l b a && !Nat.beq b a && chainB l (b :: r)
  | _ => true
theorem chain_next {l : List Oper} : ∀ {es : List Nat} {p i j : Nat}, chainB l es = true → es[p]? = some i → es[p + 1]? = some j → dep l j i = true ∧ j ≠ i
  | [], _, _, _, _, h, _ => by simp at h
  | [_], _, _, _, _, _, h => by simp at h
  | a :: b :: r, 0, i, j, hc, hi, hj => by
    simp only [chainB, Bool.and_eq_true] at hc
    simp at hi hj
    subst hi hj
    exact ⟨hc.1.1, fun e => by have := hc.1.2; rw [e, Nat.beq_refl] at this; cases this⟩
  | a :: b :: r, p + 1, i, j, hc, hi, hj => by
    simp only [chainB, Bool.and_eq_true] at hc
    exact chain_next (es := b :: r) (p := p) hc.2 (by simpa using hi) (by simpa using hj)
theorem chain_done {l : List Oper} {es : List Nat} (hin : (es.all fun e => Nat.blt e l.length) = true) (hc : chainB l es = true) {D : Nat → Bool} (hcl : Closed l D) : ∀ (p : Nat) {i : Nat} {o : Oper}, es[p]? = some i → l[i]? = some o → SL.pre o D → ((es.take p).all D) = true
  | 0, _, _, _, _, _ => by simp
  | p + 1, i, o, hi, ho, hp => by
    have hlt : p < es.length := by have := (List.getElem?_eq_some_iff.1 hi).1; omega
    have hd := chain_next hc (List.getElem?_eq_getElem hlt) hi
    have hD : D es[p] = true := dep_pre hd.1 ho hp
    have hl : es[p] < l.length := Nat.blt_eq.mp (List.all_eq_true.1 hin _ (List.getElem_mem hlt))
    have hol : ∃ o', l[es[p]]? = some o' ∧ SL.pre o' D := ⟨l[es[p]], List.getElem?_eq_getElem hl, hcl _ _ (List.getElem?_eq_getElem hl) hD⟩
    obtain ⟨o', ho', hp'⟩ := hol
    have ih := chain_done hin hc hcl p (List.getElem?_eq_getElem hlt) ho' hp'
    rw [List.take_succ_eq_append_getElem hlt, List.all_append, ih]
    simp [hD]

theorem At.drawX {c : Cx} {r : Option Nat} {id : Nat} {l : List Oper} {Q : Exit → Act → World → Prop} {m : List (Nat × Value)} {rs : List Res} {γ : Type} (g0 : γ) (es : List Nat) (rss : γ → List (List Res)) (V : γ → List Value)
    (hm : c.P.follows .mixedOrders = true) (hnd : (dsts l).Nodup) (hf : fwd l = true) (hin : (es.all fun e => Nat.blt e l.length) = true) (hc : chainB l es = true) (hlen : ∀ g, (V g).length = l.length)
    (heff : Effs c l V m rs rss 0 es) (hsteps : ∀ g, StepsY c l (V g) m es rs (rss g) 0 l (V g))
    (hend : ∀ g, At c (mD (fun _ => true) l (V g) m) (rsE (fun _ => true) es rs (rss g)) (Q .normal)) :
    At c m rs ((Code.region id l.toArray true).wpIn (Fr r) 0 c.P Q) := by
  intro a w hs hh
  refine wpIn_region_any hm ?_
  have key : ∀ (fuel : Nat) (g : γ) (listed : Array Bool) (a : Act) (w : World), listed.size = l.length → (List.range l.length).countP (fun i => !listed.getD i true) ≤ fuel →
      Closed l (fun i => listed.getD i true) → Slots c.n c.ds (mD (fun i => listed.getD i true) l (V g) m) a → Hp c.G c.w0 c.S (rsE (fun i => listed.getD i true) es rs (rss g)) w →
      wpAnyIn (Fr r) 0 c.P .any l.toArray Q fuel listed a w := by
    have hall : ∀ (listed : Array Bool), listed.size = l.length → Closed l (fun i => listed.getD i true) → Region.ready .any l.toArray listed = [] → (fun i => listed.getD i true) = fun _ => true := by
      intro listed hsz hcl hr
      funext i
      induction i using Nat.strongRecOn with
      | _ i ih =>
        cases hi : listed.getD i true with
        | true => rfl
        | false =>
          have hlt : i < l.length := by
            rcases Nat.lt_or_ge i l.length with h | h
            · exact h
            · simp [Array.getElem?_eq_none (xs := listed) (i := i) (by omega)] at hi
          have : i ∈ Region.ready .any l.toArray listed := by
            rw [mem_ready]
            refine ⟨hi, l[i], by simp [hlt], fun e he hb => ?_⟩
            have h1 := fwd_get hf (List.getElem?_eq_getElem hlt) e he hb
            have h2 := ih e.on h1
            have h3 : e.on < listed.size := by omega
            simp only [Array.getD_eq_getD_getElem?, Array.getElem?_eq_getElem h3, Option.getD_some] at h2 ⊢
            exact h2
          rw [hr] at this; cases this
    intro fuel
    induction fuel with
    | zero =>
      intro g listed a w hsz hcnt hcl hs hh
      have hr : Region.ready .any l.toArray listed = [] := by
        cases hr : Region.ready .any l.toArray listed with
        | nil => rfl
        | cons i rest =>
          have hi : i ∈ Region.ready .any l.toArray listed := by rw [hr]; exact List.mem_cons_self ..
          obtain ⟨h1, o, ho, _⟩ := mem_ready.1 hi
          have h2 : 0 < (List.range l.length).countP (fun i => !listed.getD i true) := List.countP_pos_iff.2 ⟨i, List.mem_range.2 (by have := (Array.getElem?_eq_some_iff.1 ho).1; simpa using this), by simp only [h1]; rfl⟩
          omega
      have he := hall listed hsz hcl hr
      rw [he] at hs hh
      exact ⟨hr, hend g a w hs hh⟩
    | succ fuel ih =>
      intro g listed a w hsz hcnt hcl hs hh
      refine ⟨fun hr => ?_, fun i hi => ?_⟩
      · have he := hall listed hsz hcl hr
        rw [he] at hs hh
        exact hend g a w hs hh
      · obtain ⟨h1, o, ho, hpre⟩ := mem_ready.1 hi
        have ho' : l[i]? = some o := by simpa using ho
        have hlt : i < l.length := (List.getElem?_eq_some_iff.1 ho').1
        have hupd : (fun j => (listed.setIfInBounds i true).getD j true) = upd (fun j => listed.getD j true) i := by
          funext j
          simp only [upd, Array.getD_eq_getD_getElem?, Array.getElem?_setIfInBounds]
          by_cases e : j = i
          · subst e; rw [if_pos rfl, if_pos rfl, if_pos (by omega)]; rfl
          · rw [if_neg e, if_neg (fun h => e h.symm)]
        have hpreD : SL.pre o (fun j => listed.getD j true) := fun e he hb => by
          have h2 := hpre e he hb
          have h3 : e.on < listed.size := by have := fwd_get hf ho' e he hb; omega
          simp only [Array.getD_eq_getD_getElem?, Array.getElem?_eq_getElem h3, Option.getD_some] at h2 ⊢
          exact h2
        have hcnt' : (List.range l.length).countP (fun j => !(listed.setIfInBounds i true).getD j true) ≤ fuel := by
          have : (List.range l.length).countP (fun j => !(listed.setIfInBounds i true).getD j true) < (List.range l.length).countP (fun j => !listed.getD j true) := by
            have hcongr : ∀ j, (!(listed.setIfInBounds i true).getD j true) = (decide (j ≠ i) && !listed.getD j true) := fun j => by
              have hj : (listed.setIfInBounds i true).getD j true = upd (fun j => listed.getD j true) i j := congrFun hupd j
              rw [hj]; simp only [upd]
              by_cases e : j = i <;> simp [e]
            rw [List.countP_congr (q := fun j => decide (j ≠ i) && !listed.getD j true) (fun j _ => by rw [hcongr])]
            have hmem : i ∈ List.range l.length := List.mem_range.2 hlt
            have hle : (List.range l.length).countP (fun j => decide (j ≠ i) && !listed.getD j true) + 1 ≤ (List.range l.length).countP (fun j => !listed.getD j true) := by
              rw [List.countP_eq_length_filter, List.countP_eq_length_filter]
              have hsub : List.filter (fun j => decide (j ≠ i) && !listed.getD j true) (List.range l.length) = List.filter (fun j => decide (j ≠ i)) (List.filter (fun j => !listed.getD j true) (List.range l.length)) := by
                rw [List.filter_filter]
              rw [hsub]
              exact List.length_filter_lt_length_iff_exists.2 ⟨i, List.mem_filter.2 ⟨hmem, by simp only [h1]; rfl⟩, by simp⟩
            omega
          omega
        have hcl' : Closed l (fun j => (listed.setIfInBounds i true).getD j true) := by
          rw [hupd]
          intro j oj hoj hDj e he hb
          simp only [upd] at hDj ⊢
          split
          · rfl
          · split at hDj
            · rename_i hji; subst hji
              rw [ho'] at hoj; cases hoj
              exact hpreD e he hb
            · exact hcl j oj hoj hDj e he hb
        have hput : ∀ (U : List Value) (v : Value) (a' : Act), U[i]? = some v → Slots c.n c.ds (put o v (mD (fun j => listed.getD j true) l U m)) a' → Slots c.n c.ds (mD (upd (fun j => listed.getD j true) i) l U m) a' := by
          intro U v a' hv hs'
          refine ⟨hs'.defers, hs'.size, fun j u hu => hs'.look j u ?_⟩
          unfold put
          unfold mD at hu ⊢
          rw [lk_append] at hu
          cases hd : o.dst with
          | none =>
            simp only
            rw [lk_append, ← lk_sdl_upd (fun j => listed.getD j true) (upd (fun j => listed.getD j true) i) i (fun j hj => by simp [upd, hj]) l 0 U j (fun o' _ ho'' => by
              rw [Nat.sub_zero, ho'] at ho''; cases ho''; rw [hd]; simp)]
            exact hu
          | some d =>
            simp only [lk]
            by_cases hdj : d = j
            · subst hdj
              rw [lk_sdl_some (upd (fun j => listed.getD j true) i) l 0 U i d o v hnd ho' hd hv (by simp [upd])] at hu
              rw [Nat.beq_refl]
              simpa using hu
            · rw [nbeq_ne hdj]
              simp only
              rw [lk_append, ← lk_sdl_upd (fun j => listed.getD j true) (upd (fun j => listed.getD j true) i) i (fun j hj => by simp [upd, hj]) l 0 U j (fun o' _ ho'' => by
                rw [Nat.sub_zero, ho'] at ho''; cases ho''; rw [hd]; simpa using hdj)]
              exact hu
        cases hmem : es.any fun e => Nat.beq e i with
        | true =>
          obtain ⟨e, he, heq⟩ := List.any_eq_true.1 hmem
          have hei := Nat.eq_of_beq_eq_true heq
          subst hei
          obtain ⟨p, hp⟩ := List.getElem?_of_mem he
          obtain ⟨o2, ho2, hg2, v, hv, s, s', hs1, hs2, hstep⟩ := heff.get hp
          rw [ho'] at ho2
          cases ho2
          rw [Nat.zero_add] at hs1 hs2
          have hple : p ≤ es.length := Nat.le_of_lt (List.getElem?_eq_some_iff.1 hp).1
          have hdone := chain_done hin hc hcl p hp ho' hpreD
          have e1 : rsE (fun j => listed.getD j true) es rs (rss g) = s g := rsE_at es rs (rss g) p (s g) hdone (fun e' he' => by rw [hp] at he'; cases he'; exact h1) hple (hs1 g)
          simp only [e1] at hh
          refine wpOpIn_of_stp (o := o) ho' ?_
          unfold stp
          rw [if_pos (by simp [Region.wanted, hg2])]
          refine hstep g _ hpreD _ (fun g' hag => ?_) a w hs hh
          intro a' w' hs' hh'
          refine ih g' _ a' w' (by simp [hsz]) hcnt' hcl' ?_ ?_
          · rw [hupd]
            refine hput (V g') (v g') a' (hv g') ?_
            have hcg : mD (fun j => listed.getD j true) l (V g') m = mD (fun j => listed.getD j true) l (V g) m := by
              unfold mD
              rw [lk_sdl_congr _ l 0 (V g') (V g) (by rw [hlen, hlen]) (fun j hj => ?_)]
              rw [Nat.zero_add] at hj
              rcases hag j with h | h
              · exact h.symm
              · exfalso
                obtain ⟨e', he', hd⟩ := List.any_eq_true.1 h
                have hund : listed.getD e' true = false := by
                  obtain ⟨q, hq⟩ := List.getElem?_of_mem he'
                  have hq2 : es[p + q]? = some e' := by rw [List.getElem?_drop] at hq; exact hq
                  cases hDe : listed.getD e' true with
                  | false => exact rfl
                  | true =>
                    exfalso
                    have hl' : e' < l.length := Nat.blt_eq.mp (List.all_eq_true.1 hin _ (List.mem_of_getElem? hq2))
                    have := chain_done hin hc hcl (p + q) hq2 (List.getElem?_eq_getElem hl') (hcl _ _ (List.getElem?_eq_getElem hl') hDe)
                    cases q with
                    | zero =>
                      rw [Nat.add_zero, hp] at hq2
                      cases hq2
                      rw [h1] at hDe; cases hDe
                    | succ q =>
                      have hmem2 : e ∈ es.take (p + (q + 1)) := by
                        rw [List.mem_take_iff_getElem]
                        have hpl := (List.getElem?_eq_some_iff.1 hp)
                        exact ⟨p, by have := hpl.1; omega, hpl.2⟩
                      have := List.all_eq_true.1 this e hmem2
                      rw [h1] at this; cases this
                rw [Bool.or_eq_true] at hd
                rcases hd with hd | hd
                · have := Nat.eq_of_beq_eq_true hd
                  subst this
                  rw [hund] at hj; cases hj
                · have := dep_get hd hcl hj
                  rw [hund] at this; cases this
            rw [hcg]
            exact hs'
          · rw [hupd]
            have e2 : rsE (upd (fun j => listed.getD j true) e) es rs (rss g') = s' g' := rsE_at es rs (rss g') (p + 1) (s' g') (by
              have hlt' := (List.getElem?_eq_some_iff.1 hp)
              rw [List.take_succ_eq_append_getElem hlt'.1, List.all_append, Bool.and_eq_true]
              refine ⟨List.all_eq_true.2 fun x hx => ?_, ?_⟩
              · have := List.all_eq_true.1 hdone x hx
                simp only [upd]
                split
                · rfl
                · exact this
              · simp [upd, hlt'.2]) (fun x hx => by
              have hn := chain_next hc hp hx
              simp only [upd, if_neg hn.2]
              cases hDx : listed.getD x true with
              | false => rfl
              | true => have := dep_get hn.1 hcl hDx; rw [h1] at this; cases this) (by have := (List.getElem?_eq_some_iff.1 hp).1; omega) (hs2 g')
            rw [e2]; exact hh'
        | false =>
          obtain ⟨v, hv, hst⟩ := (hsteps g).get ho' (by rw [Nat.zero_add]; exact hmem)
          rw [Nat.zero_add] at hst
          refine wpOpIn_of_stp ho' (hst _ h1 hpreD hcl _ ?_ a w hs hh)
          intro a' w' hs' hh'
          refine ih g _ a' w' (by simp [hsz]) hcnt' hcl' ?_ ?_
          · rw [hupd]; exact hput (V g) v a' hv hs'
          · rw [hupd]; exact hh'
  have hrep : (fun i => (Array.replicate l.length false).getD i true) = fun i => Nat.ble l.length i := by
    funext i
    rcases Nat.lt_or_ge i l.length with h | h
    · have : Nat.ble l.length i = false := by
        cases hb : Nat.ble l.length i with
        | false => rfl
        | true => have := Nat.le_of_ble_eq_true hb; omega
      simp [this, h]
    · have : Nat.ble l.length i = true := Nat.ble_eq_true_of_le h
      simp [this, h]
  simp only [List.size_toArray]
  refine key l.length g0 (Array.replicate l.length false) a { w with drawn := w.drawn + 1 } (by simp) ?_ ?_ ?_ ?_
  · exact Nat.le_trans (List.countP_le_length) (by simp)
  · rw [hrep]
    intro j o ho hD
    have h1 := (List.getElem?_eq_some_iff.1 ho).1
    have h2 := Nat.le_of_ble_eq_true hD
    omega
  · rw [hrep]
    refine ⟨hs.defers, hs.size, fun j u hu => hs.look j u ?_⟩
    have hn : ∀ (os : List Oper) (k : Nat) (vs : List Value), k + os.length ≤ l.length → sdl (fun i => Nat.ble l.length i) k os vs = [] := by
      intro os
      induction os with
      | nil => intro k vs _; simp [sdl]
      | cons o os ih =>
        intro k vs hk
        cases vs with
        | nil => simp [sdl]
        | cons v vs =>
          simp only [List.length_cons] at hk
          have : Nat.ble l.length k = false := by
            cases hb : Nat.ble l.length k with
            | false => rfl
            | true => have := Nat.le_of_ble_eq_true hb; omega
          simp only [sdl, this]
          exact ih (k + 1) vs (by omega)
    unfold mD at hu
    rw [hn l 0 (V g0) (by omega)] at hu
    exact hu
  · rw [hrep]
    have e : rsE (fun i => Nat.ble l.length i) es rs (rss g0) = rs := by
      cases es with
      | nil => simp [rsE]
      | cons e es =>
        simp only [List.all_cons, Bool.and_eq_true] at hin
        have hlt := Nat.blt_eq.mp hin.1
        have hb0 : Nat.ble l.length e = false := by
          cases hb : Nat.ble l.length e with
          | false => rfl
          | true => have := Nat.le_of_ble_eq_true hb; omega
        cases rss g0 with
        | nil => simp [rsE]
        | cons _ _ => simp only [rsE, hb0, cond_false]
    rw [e]; exact hh.drew _

/-- .. the quiet steps told first -/
theorem At.drawX2 {c : Cx} {r : Option Nat} {id : Nat} {l : List Oper} {Q : Exit → Act → World → Prop} {m : List (Nat × Value)} {rs : List Res} {γ : Type} (g0 : γ) (es : List Nat) (rss : γ → List (List Res)) (V : γ → List Value)
    (hm : c.P.follows .mixedOrders = true) (hnd : (dsts l).Nodup) (hf : fwd l = true) (hin : (es.all fun e => Nat.blt e l.length) = true) (hc : chainB l es = true) (hlen : ∀ g, (V g).length = l.length)
    (hsteps : ∀ g, StepsY c l (V g) m es rs (rss g) 0 l (V g)) (heff : Effs c l V m rs rss 0 es)
    (hend : ∀ g, At c (mD (fun _ => true) l (V g) m) (rsE (fun _ => true) es rs (rss g)) (Q .normal)) :
    At c m rs ((Code.region id l.toArray true).wpIn (Fr r) 0 c.P Q) := At.drawX g0 es rss V hm hnd hf hin hc hlen heff hsteps hend
end SL
