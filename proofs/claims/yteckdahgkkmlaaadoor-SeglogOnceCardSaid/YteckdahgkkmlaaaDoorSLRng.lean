/- Calls of yields and closures under one word; a range over a function. -/
import Derived.Test.YteckdahgkkmlaaaDoorSLEqs
import Derived.RangeFuncLeaves
import Derived.RangeFuncRecord
namespace SL
open Go

/-- calling y with vs answers b and turns pre into what post takes -/
def CallY (P : Program) (G : List (Nat × Obj)) (y : Value) (vs : List Value) (pre : List Res) (b : Bool) (post : List Res → Prop) : Prop :=
  ∀ w, Good G pre w → ∃ (fn : Fn) (fs cap : Array Value) (next : Next) (w1 : World), y = .func fn fs cap ∧ (invoke (.fn fn cap) (fs ++ vs.toArray)).run P w = .ok next w1 ∧
    ∀ (o : Oper) (a : Act) (K : Act → World → Prop), (∀ w' rs', post rs' → Hp G w (fpAll pre) rs' w' → K (a.put o.dst (.bool b)) w') → o.uponIn Fence.wide 0 P a K (fun _ _ _ => False) (.ok next w1)
theorem CallY.mono {P : Program} {G : List (Nat × Obj)} {y : Value} {vs : List Value} {pre : List Res} {b : Bool} {post post' : List Res → Prop} (h : CallY P G y vs pre b post) (hp : ∀ rs, post rs → post' rs) : CallY P G y vs pre b post' := by
  intro w hw
  obtain ⟨fn, fs, cap, next, w1, h1, h2, h3⟩ := h w hw
  exact ⟨fn, fs, cap, next, w1, h1, h2, fun o a K hK => h3 o a K fun w' rs' hr => hK w' rs' (hp _ hr)⟩

section
variable {c : Cx} {m : List (Nat × Value)} {rs k : List Res} {K : Act → World → Prop} {d t : Nat} {pos : String} {af : Array Edge} {g : Option (Nat × Bool)}
theorem op_callY {f : Operand} {y : Value} {args : List Operand} {tys : Array TypeId} {vs : List Value} {pre : List Res} {b : Bool} {post : List Res → Prop} (hf : ev m f = some y) (ha : evs m args = some vs) (hy : CallY c.P c.G y vs pre b post) (hc : Cut pre rs k)
    (hn : Nat.blt d c.n = true) (h : ∀ rs1, post rs1 → At c ((d, .bool b) :: m) (rs1 ++ k) K) : At c m rs (fun a w => Op1 c.P ⟨some d, .call ⟨.value f, args.toArray, tys⟩, t, pos, af, g⟩ a w K) := by
  intro a w hs hh
  refine ⟨by intros; simp, ?_⟩
  have hh' := hh.cut hc
  obtain ⟨fn, fs, cap, next, w1, rfl, hinv, hup⟩ := hy w hh'.good.left
  have hrun : (execOp a.eval ⟨some d, .call ⟨.value f, args.toArray, tys⟩, t, pos, af, g⟩).run c.P w = .ok next w1 := by
    simp [execOp, resolve, hs.eval hf, hs.evals ha, Deferred.ofValue, hinv]
  rw [hrun]
  exact hup _ a K fun w' rs' hr hw' => h rs' hr _ w' (hs.put hn) (hh'.call hw')
end

/-- the record of a range over a function -/
def recR (l : Nat) (fn : FuncId) (tmps : Array Value) (ps : Array Tmp) (assign body : Code) (D : Nat) (st : LoopState) (pend : Option Code) : Res :=
  blk l (.loop { state := st, pending := pend, fn, tmps, params := ps, assign, body, defers := D })
def defR (D : Nat) : Res := blk D (.deferred (some []))

theorem Hp.putObj {G : List (Nat × Obj)} {w0 w : World} {S : Nat → Prop} {k : List Res} {b : Nat} {o : Obj} (o' : Obj) (h : Hp G w0 S (blk b o :: k) w) : Hp G w0 S (blk b o' :: k) (w.putObj b o') := by
  have hb : w.heap[b]? = some o := h.good.holds _ (List.mem_cons_self ..)
  have hlt := (Array.getElem?_eq_some_iff.1 hb).1
  exact h.turn rfl rfl rfl (by simp [World.putObj]) (World.putObj_heap_same hlt) (fun j hj => World.putObj_heap_other hj)

section
variable {c : Cx} {m : List (Nat × Value)} {rs k rs' : List Res} {l : Nat} {fn : FuncId} {tmps : Array Value} {ps : Array Tmp} {assign body : Code} {D : Nat} {pend : Option Code}

/-- a round begins -/
theorem At.beginR {Q : Exit → Act → World → Prop} (hp : Pull (recR l fn tmps ps assign body D .ready pend) rs k) (h : At c m (recR l fn tmps ps assign body D .busy pend :: k) (body.wpIn (Fr (some l)) 0 c.P Q)) :
    At c m rs (fun a w => ∃ w2, (Instr.beginRound l).run c.P w = .ok () w2 ∧ body.wpIn (Fr (some l)) 0 c.P Q a w2) := by
  intro a w hs hh
  have hh1 := hh.pull hp
  have hb := hh1.good.holds _ (List.mem_cons_self ..)
  exact ⟨_, run_beginRound (P := c.P) hb rfl, h a _ hs (hh1.putObj _)⟩
/-- a round goes through -/
theorem At.endR {post : List Res → Prop} (hp : Pull (recR l fn tmps ps assign body D .busy pend) rs k) {k' : List Res} (hpo : post rs') (hc : Cut rs' (recR l fn tmps ps assign body D .ready none :: k) k') :
    At c m rs (roundPost c.P l (fun e w' => e = .returned (.bool true) ∧ ∃ rs', post rs' ∧ Hp c.G c.w0 c.S rs' w') .normal) := by
  intro a w hs hh
  have hh1 := hh.pull hp
  have hb := hh1.good.holds _ (List.mem_cons_self ..)
  exact ⟨_, _, run_endRound (P := c.P) none hb, rfl, rs', hpo, ((hh1.putObj _).cut hc).left⟩
end

theorem zip_size : ∀ (z : List (Tmp × Value)) (tmps : Array Value), (z.foldl (fun tmps (x : Tmp × Value) => tmps.setIfInBounds x.1 x.2) tmps).size = tmps.size
  | [], _ => rfl
  | x :: z, tmps => by rw [List.foldl_cons, zip_size z]; simp
/-- what a round of a range over a function does when its yield is called -/
theorem CallY.yield {P : Program} {G : List (Nat × Obj)} {l n : Nat} {fn : FuncId} {tmps : Array Value} {ps : Array Tmp} {assign body : Code} {D : Nat} {vs : List Value} {rs : List Res} {post : List Res → Prop} {m : List (Nat × Value)}
    (hn : tmps.size = n) (hs : vs.length = ps.size) (hm : ∀ i v, lk m i = some v → ((ps.zip vs.toArray).foldl (fun tmps (t, a) => tmps.setIfInBounds t a) tmps)[i]? = some v)
    (h : ∀ w0 : World, At ⟨P, G, n, [], w0, fpAll (recR l fn tmps ps assign body D .ready none :: rs)⟩ m (recR l fn tmps ps assign body D .ready none :: rs)
      (assign.wpIn (Fr (some l)) 0 P (Exit.then (fun a w => ∃ w2, (Instr.beginRound l).run P w = .ok () w2 ∧ body.wpIn (Fr (some l)) 0 P
        (roundPost P l (fun e w' => e = .returned (.bool true) ∧ ∃ rs', post rs' ∧ Hp G w0 (fpAll (recR l fn tmps ps assign body D .ready none :: rs)) rs' w')) a w2) (fun _ _ _ => False)))) :
    CallY P G (.func (.yield l) #[] #[]) vs (recR l fn tmps ps assign body D .ready none :: rs) true post := by
  intro w hw
  have hb : w.heap[l]? = some (.loop { state := .ready, pending := none, fn, tmps, params := ps, assign, body, defers := D }) := hw.holds _ (List.mem_cons_self ..)
  have hy := run_yield (P := P) (args := vs.toArray) hb (by simpa using hs)
  refine ⟨_, _, _, .round l fn ((ps.zip vs.toArray).foldl (fun tmps (t, a) => tmps.setIfInBounds t a) tmps) assign body, w, rfl, by
    simp only [invoke, Array.empty_append, Array.append_empty]; exact hy, ?_⟩
  intro o a K hK
  refine ⟨fun hx => by simp [Fence.wide] at hx, ?_⟩
  have hsz : ((ps.zip vs.toArray).foldl (fun tmps (t, a) => tmps.setIfInBounds t a) tmps).size = tmps.size := by
    rw [← Array.foldl_toList]
    exact zip_size _ _
  have hat := h w { tmps := (ps.zip vs.toArray).foldl (fun tmps (t, a) => tmps.setIfInBounds t a) tmps, defers := [] } w ⟨rfl, hsz.trans hn, hm⟩ (Hp.start hw)
  refine (roundIn_of_wpIn (F := Fence.wide) (f := fn) trivial hat).mono ?_
  rintro e w' ⟨rfl, rs', hr, hh⟩
  exact hK w' rs' hr hh
/-- the parameters' values stand in the slots -/
theorem zip2_look {tmps : Array Value} {n p q : Nat} {u v : Value} {m : List (Nat × Value)} (hn : tmps.size = n) (hp : Nat.blt p n = true) (hq : Nat.blt q n = true) (hpq : Nat.beq p q = false) (hm : ∀ i v, lk m i = some v → tmps[i]? = some v) :
    ∀ i x, lk ((q, v) :: (p, u) :: m) i = some x → (((#[p, q] : Array Tmp).zip [u, v].toArray).foldl (fun tmps (t, a) => tmps.setIfInBounds t a) tmps)[i]? = some x := by
  intro i x hx
  have hp' := Nat.blt_eq.mp hp
  have hq' := Nat.blt_eq.mp hq
  have e : (((#[p, q] : Array Tmp).zip [u, v].toArray).foldl (fun tmps (t, a) => tmps.setIfInBounds t a) tmps) = (tmps.setIfInBounds p u).setIfInBounds q v := by simp [← Array.foldl_toList]
  rw [e]
  simp only [lk] at hx
  rw [Array.getElem?_setIfInBounds, Array.getElem?_setIfInBounds]
  by_cases e1 : q = i
  · subst e1
    rw [Nat.beq_refl] at hx; cases hx
    rw [if_pos rfl, if_pos (by simp; omega)]
  · rw [if_neg e1]
    have h1 : Nat.beq q i = false := by cases hb : Nat.beq q i with
      | false => rfl
      | true => exact absurd (Nat.eq_of_beq_eq_true hb) e1
    rw [h1] at hx
    by_cases e2 : p = i
    · subst e2
      simp only [Nat.beq_refl] at hx; cases hx
      rw [if_pos rfl, if_pos (by omega)]
    · rw [if_neg e2]
      have h2 : Nat.beq p i = false := by cases hb : Nat.beq p i with
        | false => rfl
        | true => exact absurd (Nat.eq_of_beq_eq_true hb) e2
      simp only [h2] at hx
      exact hm i x hx

def markD (D : Nat) : Deferred := { target := .collected D, args := #[] }
/-- the statement: a range over a function, in an activation that is no round; no round leaves it -/
theorem At.rangeF {c : Cx} {m : List (Nat × Value)} {rs : List Res} {g : Operand} {ps : Array Tmp} {assign body : Code} {Q : Exit → Act → World → Prop} {fid : Nat} {fs cap : List Value}
    (hg : ev m g = some (.func (.func fid) fs.toArray cap.toArray)) (hcall : ∀ a w, (callFunc fid a).run c.P w = .ok (.enter fid a) w)
    (h : ∀ (fn : FuncId) (tmps : Array Value) (l D : Nat) (RC : Res), RC = recR l fn tmps ps assign body D .ready none → tmps.size = c.n → (∀ i v, lk m i = some v → tmps[i]? = some v) →
      ∃ (pre k : List Res) (R1 : List Res → Prop), Cut pre rs k ∧
        Does c.P c.G fid (fs ++ [.func (.yield l) #[] #[]] ++ cap) (RC :: defR D :: pre) (fun _ rs' => ∃ rs1, R1 rs1 ∧ rs'.Perm (RC :: defR D :: rs1)) ∧
        ∀ rs1, R1 rs1 → At { c with ds := markD D :: c.ds } m (defR D :: (rs1 ++ k)) (Q .normal)) :
    At c m rs ((Code.rangeFunc g ps assign body).wpIn (Fr none) 0 c.P Q) := by
  intro a w hs hh
  refine wpIn_rangeFunc fun fn hfn => ?_
  obtain ⟨pre, k, R1, hc, hdoes, hat⟩ := h fn a.tmps (w.heap.size + 1) w.heap.size _ rfl hs.size hs.look
  have hh1 : Hp c.G c.w0 c.S (recR (w.heap.size + 1) fn a.tmps ps assign body w.heap.size .ready none :: defR w.heap.size :: (pre ++ k)) ((w.alloc (.deferred (some []))).alloc (.loop { state := .ready, pending := none, fn, tmps := a.tmps, params := ps, assign, body, defers := w.heap.size })) := by
    have e := ((hh.cut hc).new (.deferred (some []))).new (.loop { state := .ready, pending := none, fn, tmps := a.tmps, params := ps, assign, body, defers := w.heap.size })
    rw [World.size_alloc] at e
    exact e
  have hent := run_enterLoop_outer (P := c.P) (w := w) fn a.tmps ps assign body
  generalize ((w.alloc (.deferred (some []))).alloc (.loop { state := .ready, pending := none, fn, tmps := a.tmps, params := ps, assign, body, defers := w.heap.size })) = W at hh1 hent
  refine ⟨w.heap.size + 1, [markD w.heap.size], W, ⟨.fn (.func fid) cap.toArray, fs.toArray ++ #[Value.func (.yield (w.heap.size + 1)) #[] #[]]⟩, W, fid, (fs ++ [Value.func (.yield (w.heap.size + 1)) #[] #[]] ++ cap).toArray, W, hent, ?_, fun _ _ => trivial, ?_, fun hx => by simp [Fr, Fence.wide] at hx, ?_⟩
  · have e1 := hs.eval hg
    have e2 : (Operand.const (Value.func (.yield (w.heap.size + 1)) #[] #[])) = Operand.const (Value.func (.yield (w.heap.size + 1)) #[] #[]) := rfl
    simp [rangeCall, resolve, e1, Deferred.ofValue]
    rfl
  · simp [invoke, hcall]
  · have hgood := hh1.good
    have hcl := hdoes _ (Good.left (k := k) hgood)
    refine hcl.mono ?_
    rintro e w' ⟨v, us, rfl, ⟨rs1, hr1, hpm⟩, hp⟩
    have hh2 := hh1.call (pre := recR (w.heap.size + 1) fn a.tmps ps assign body w.heap.size .ready none :: defR w.heap.size :: pre) (k := k) (hp.perm hpm)
    have hb := hh2.good.holds _ (List.mem_cons_self ..)
    refine ⟨none, _, run_endLoop (P := c.P) hb (by simp), ?_⟩
    have hh3 := hh2.putObj (.loop { state := .exhausted, pending := none, fn, tmps := a.tmps, params := ps, assign, body, defers := w.heap.size })
    have hh4 : Hp c.G c.w0 c.S (defR w.heap.size :: (rs1 ++ k)) _ := Hp.left (k := [blk (w.heap.size + 1) (.loop { state := .exhausted, pending := none, fn, tmps := a.tmps, params := ps, assign, body, defers := w.heap.size })]) (hh3.perm (List.perm_append_singleton _ _).symm)
    have hsl : Slots c.n (markD w.heap.size :: c.ds) m { a with defers := [markD w.heap.size] ++ a.defers } := ⟨by simp [hs.defers], hs.size, hs.look⟩
    exact hat rs1 hr1 _ _ hsl hh4

theorem Does.ofM {P : Program} {G : List (Nat × Obj)} {f : FuncId} {fn : Func} {code : Code} {vs : List Value} {pre : List Res} {post : Value → List Res → Prop} {n : Nat}
    (hf : P.funcs[f]? = some fn) (hb : fn.body = some code) (hn : fn.ntmps = n) (hl : Nat.ble vs.length n = true)
    (h : ∀ w0, At ⟨P, G, n, [], w0, fpAll pre⟩ (num 0 vs) pre (code.wpIn (Fr none) 0 P (bodyPostM Fence.wide 0 P fn (RetR G w0 (fpAll pre) post)))) : Does P G f vs pre post := by
  intro w hw
  have hl' : vs.length ≤ n := Nat.le_of_ble_eq_true hl
  refine callsIn_of_wp_marks hf hb trivial (h w _ w ⟨rfl, ?_, ?_⟩ (Hp.start hw))
  · simp [hn]; omega
  · intro i v hv
    obtain ⟨_, h2⟩ := lk_num vs 0 i v hv
    have hi : i < vs.length := by
      rcases Nat.lt_or_ge i vs.length with h3 | h3
      · exact h3
      · simp [List.getElem?_eq_none (l := vs) (i := i) (by omega)] at h2
    simp only [Nat.sub_zero] at h2
    show (vs.toArray ++ _)[i]? = _
    rw [Array.getElem?_append_left (by simpa using hi)]
    simpa using h2

/-- the end of a function that holds one range over a function, behind it -/
theorem At.finM {c : Cx} {m : List (Nat × Value)} {rs k k2 : List Res} {fn : Func} {post : Value → List Res → Prop} {l : List ResultVar} {vs : List Value} {v : Value} {rs' : List Res} {D : Nat} (e : Exit) (he : e = .ret ∨ e = .normal)
    (hr : fn.results = l.toArray) (hd : c.ds = [markD D]) (hp : Pull (defR D) rs k) (hl : ResEv c m k l vs) (hv : (if h : vs.toArray.size = 1 then vs.toArray[0] else .tuple vs.toArray) = v)
    (hpo : post v rs') (hc : Cut rs' k k2) : At c m rs (bodyPostM Fence.wide 0 c.P fn (RetR c.G c.w0 c.S post) e) := by
  intro a w hs hh
  have hh1 := hh.pull hp
  have hb := hh1.good.holds _ (List.mem_cons_self ..)
  have hh2 := Hp.putObj (o := .deferred (some [])) (.deferred none) hh1
  have hh3 : Hp c.G c.w0 c.S k (w.putObj D (.deferred none)) := Hp.left (k := [blk D (.deferred none)]) (hh2.perm (List.perm_append_singleton _ _).symm)
  have hrun : (results fn a.tmps).run c.P (w.putObj D (.deferred none)) = .ok v (w.putObj D (.deferred none)) := by
    have := hl.run hs hh3
    have he : results fn a.tmps = (do
      let vs ← fn.results.mapM (resV a)
      pure (if h : vs.size = 1 then vs[0] else .tuple vs)) := rfl
    rw [he, hr]
    simp only [List.mapM_toArray, Sem.run_bind, Sem.run_map, this, Result.andThen_ok, Sem.run_pure]
    rw [hv]
  have hlv : LeavesInM Fence.wide 0 c.P fn a.tmps (RetR c.G c.w0 c.S post) a.defers .returning w := by
    rw [hs.defers, hd]
    refine ⟨by simp, .inl ⟨D, _, rfl, run_takeDeferred (P := c.P) hb, ?_⟩⟩
    exact ⟨v, hrun, v, rs', rfl, hpo, (hh3.cut hc).left⟩
  rcases he with rfl | rfl <;> exact hlv

/-- .. ahead of it -/
theorem At.finM0 {c : Cx} {m : List (Nat × Value)} {rs k : List Res} {fn : Func} {post : Value → List Res → Prop} {l : List ResultVar} {vs : List Value} {v : Value} {rs' : List Res} (e : Exit) (he : e = .ret ∨ e = .normal)
    (hr : fn.results = l.toArray) (hd : c.ds = []) (hl : ResEv c m rs l vs) (hv : (if h : vs.toArray.size = 1 then vs.toArray[0] else .tuple vs.toArray) = v) (hpo : post v rs') (hc : Cut rs' rs k) :
    At c m rs (bodyPostM Fence.wide 0 c.P fn (RetR c.G c.w0 c.S post) e) := by
  intro a w hs hh
  obtain ⟨h1, v', h2, h3⟩ : a.defers = [] ∧ ∃ v, (results fn a.tmps).run c.P w = .ok v w ∧ RetR c.G c.w0 c.S post (.returned v) w := At.fin (fn := fn) (post := post) .ret (.inl rfl) hr hd hl hv hpo hc a w hs hh
  have hlv : LeavesInM Fence.wide 0 c.P fn a.tmps (RetR c.G c.w0 c.S post) a.defers .returning w := by
    rw [h1]; exact ⟨v', h2, h3⟩
  rcases he with rfl | rfl <;> exact hlv

/-- the same contract in other words -/
theorem Does.conv {P : Program} {G : List (Nat × Obj)} {f : FuncId} {vs : List Value} {pre pre' : List Res} {post post' : Value → List Res → Prop} (h : Does P G f vs pre post) (hc : pre'.Perm pre) (hp : ∀ v rs, post v rs → ∃ rs', post' v rs' ∧ rs.Perm rs') :
    Does P G f vs pre' post' := by
  intro w hw
  have h0 := (Hp.start hw).perm hc
  have e : fpAll pre' = fpAll pre := by
    funext b
    exact propext ⟨fun ⟨r, hr, hb⟩ => ⟨r, hc.mem_iff.1 hr, hb⟩, fun ⟨r, hr, hb⟩ => ⟨r, hc.mem_iff.2 hr, hb⟩⟩
  refine (h w h0.good).mono ?_
  rintro ed w' ⟨u, us, he, hu, hp'⟩
  obtain ⟨rs', h1, h2⟩ := hp u us hu
  exact ⟨u, rs', he, h1, by rw [e]; exact hp'.perm h2⟩
theorem cut_tail2 (a b : Res) : ∀ (RS : List Res), Cut RS (a :: b :: RS) [a, b]
  | [] => .nil
  | _ :: RS => .cons (.there (.there .here)) (cut_tail2 a b RS)
theorem At.rot2 {c : Cx} {m : List (Nat × Value)} {RS : List Res} {a b : Res} {K : Act → World → Prop} (h : At c m (a :: b :: RS) K) : At c m (RS ++ [a, b]) K :=
  fun x w hs hh => h x w hs (hh.perm (List.perm_append_comm (l₁ := RS) (l₂ := [a, b])))
theorem At.permR {c : Cx} {m : List (Nat × Value)} {rs rs' : List Res} {K : Act → World → Prop} (hp : rs.Perm rs') (h : At c m rs' K) : At c m rs K := fun a w hs hh => h a w hs (hh.perm hp)
theorem perm_of_cut {t l : List Res} (h : Cut t l []) : l.Perm t := by simpa using h.perm
theorem cut_suf (RS : List Res) : ∀ (pfx : List Res), Cut RS (pfx ++ RS) pfx := by
  induction RS with
  | nil => intro pfx; rw [List.append_nil]; exact .nil
  | cons r RS ih =>
    intro pfx
    have h1 : ∀ pfx : List Res, Pull r (pfx ++ r :: RS) (pfx ++ RS) := by
      intro pfx
      induction pfx with
      | nil => exact .here
      | cons _ _ ih => exact .there ih
    exact .cons (h1 pfx) (ih pfx)
theorem CallY.perm {P : Program} {G : List (Nat × Obj)} {y : Value} {vs : List Value} {pre pre' : List Res} {b : Bool} {post : List Res → Prop} (h : CallY P G y vs pre b post) (hp : pre'.Perm pre) : CallY P G y vs pre' b post := by
  intro w hw
  obtain ⟨fn, fs, cap, next, w1, h1, h2, h3⟩ := h w (hw.perm hp)
  have e : fpAll pre' = fpAll pre := by
    funext b
    exact propext ⟨fun ⟨r, hr, hb⟩ => ⟨r, hp.mem_iff.1 hr, hb⟩, fun ⟨r, hr, hb⟩ => ⟨r, hp.mem_iff.2 hr, hb⟩⟩
  refine ⟨fn, fs, cap, next, w1, h1, h2, fun o a K hK => h3 o a K fun w' rs' hr hh => hK w' rs' hr (by rw [e]; exact hh)⟩
end SL
