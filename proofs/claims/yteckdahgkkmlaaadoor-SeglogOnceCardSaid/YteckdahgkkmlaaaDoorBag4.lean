/- The proof's own walks of the program's functions, part 4. -/
import Derived.Test.YteckdahgkkmlaaaDoorSLMapS
import Derived.KernelRfl
import Derived.Test.YteckdahgkkmlaaaDoorBag3
section
set_option maxRecDepth 20000
set_option linter.unusedVariables false
set_option linter.unusedSimpArgs false
namespace Go.Proofs.YteckdahgkkmlaaaDoor
open Go SL
variable {G : List (Nat × Obj)}
/-! frames are counted; a set of places -/
theorem segItems_len (i : Nat) : ∀ (l : List Pg) (j : Nat), (segItems i j l).length = pgCount l
  | [], _ => rfl
  | p :: l, j => by
    have ih := segItems_len i l (j + 1)
    unfold pgCount at ih ⊢
    cases hp : p.view <;> simp [segItems, hp, ih]
def pgTot : List Sg → Nat
  | [] => 0
  | s :: l => pgCount s.pg + pgTot l
theorem allItems_len : ∀ (l : List Sg) (i : Nat), (allItems i l).length = pgTot l
  | [], _ => rfl
  | s :: l, i => by rw [allItems, List.length_append, segItems_len, allItems_len l (i + 1)]; rfl
theorem pgTot_le {n : Nat} : ∀ l : List Sg, (∀ s ∈ l, s.pg.length = n) → pgTot l ≤ l.length * n
  | [], _ => by simp [pgTot]
  | s :: l, h => by
    have h1 := pgTot_le l (fun x hx => h x (List.mem_cons_of_mem _ hx))
    have h2 := pgCount_le s.pg
    have h3 := h s (List.mem_cons_self ..)
    simp only [pgTot, List.length_cons]
    rw [Nat.add_mul]
    omega
theorem Chp.items_le {c : Chp} (hc : c.wf) : c.items.length ≤ 1024 := by
  rw [Chp.items, allItems_len]
  have h1 := pgTot_le c.l (fun s hs => (hc.pgs s hs).1)
  have h2 := hc.segs1
  have h3 := hc.pages1
  rw [hc.len] at h1
  exact Nat.le_trans h1 (Nat.mul_le_mul h2.2 h3.2)
theorem Chp.frames_le {c : Chp} (hc : c.wf) : c.frames.length ≤ 1024 := Nat.le_trans (List.length_filterMap_le _ _) (Chp.items_le hc)
theorem pgCount_set : ∀ (l : List Pg) (j : Nat) (p : Pg) (b : Nat) (t : List UInt8), l[j]? = some p → p.view = none → pgCount (l.set j (.own b t)) = pgCount l + 1
  | [], _, _, _, _, h, _ => by simp at h
  | x :: l, 0, p, b, t, h, hv => by
    simp at h; subst h
    have e : (Pg.own b t).view = some t := rfl
    simp only [List.set_cons_zero, pgCount, List.countP_cons, hv, e, Option.isSome_some, Option.isSome_none, if_true]
    simp
  | x :: l, j + 1, p, b, t, h, hv => by
    have ih := pgCount_set l j p b t (by simpa using h) hv
    unfold pgCount at ih ⊢
    simp only [List.set_cons_succ, List.countP_cons, ih]
    omega
theorem pgTot_modify (u : Sg → Sg) : ∀ (l : List Sg) (i : Nat) (s : Sg), l[i]? = some s → pgCount (u s).pg = pgCount s.pg + 1 → pgTot (l.modify i u) = pgTot l + 1
  | [], _, _, h, _ => by simp at h
  | x :: l, 0, s, h, hu => by
    simp at h; subst h
    simp [pgTot, hu]; omega
  | x :: l, i + 1, s, h, hu => by
    have ih := pgTot_modify u l i s (by simpa using h) hu
    simp only [List.modify_succ_cons, pgTot, ih]; omega
theorem Chp.items_prog {c : Chp} (hc : c.wf) {i j : Nat} (hi : i < c.segs) (hj : j < c.pages) (h : c.at i j = none) (b : Nat) (t : List UInt8) (pa : Option Addr) (pc : Nat) : (c.prog i j b t pa pc).items.length = c.items.length + 1 := by
  obtain ⟨s, hs, hp, _⟩ := Chp.free_page hc hi hj h
  rw [Chp.items, Chp.items, allItems_len, allItems_len]
  exact pgTot_modify _ c.l i s hs (pgCount_set s.pg j .no b t hp rfl)
theorem frames_kind {kd : UInt8} : ∀ l : List Item, (∀ a ∈ l, ∃ q t, frm a.t = some (kd, q, t)) → ((l.filterMap toF).filter fun a => a.k == kd).length = l.length
  | [], _ => rfl
  | a :: l, h => by
    obtain ⟨q, t, e⟩ := h a (List.mem_cons_self ..)
    have ih := frames_kind l (fun x hx => h x (List.mem_cons_of_mem _ hx))
    have e2 : toF a = some ⟨a.seg, a.page, kd, q, t⟩ := by simp [toF, e]
    rw [List.filterMap_cons, e2]
    simp [ih]
def fcells : List FItem → List Value
  | [] => []
  | a :: l => i64 a.seg :: i64 a.page :: fcells l
theorem fcells_append : ∀ (l l' : List FItem), fcells (l ++ l') = fcells l ++ fcells l'
  | [], _ => rfl
  | _ :: l, l' => by simp [fcells, fcells_append l l']
theorem fcells_length : ∀ l : List FItem, (fcells l).length = l.length * 2
  | [] => rfl
  | _ :: l => by simp only [fcells, List.length_cons, fcells_length l]; omega
theorem room_bound {g : Lg} {c : Chp} (hc : c.wf) : -2000 ≤ (abs g c).room ∧ (abs g c).room ≤ 2000 := by
  have hb1 := hc.segs1
  have hb2 := hc.pages1
  have hl : (freeL g c).length ≤ 64 := by
    have := List.length_filter_le (isFree g c) (List.range c.segs)
    rw [List.length_range] at this
    show ((List.range c.segs).filter (isFree g c)).length ≤ _
    omega
  have hmul : ((freeL g c).length : Int) * (c.pages : Int) ≤ 64 * 16 := by exact_mod_cast Nat.mul_le_mul hl hb2.2
  have hmul0 : (0 : Int) ≤ ((freeL g c).length : Int) * (c.pages : Int) := by exact_mod_cast Nat.zero_le _
  have hmy := c.many_le hc (abs g c).op.toNat
  unfold Ab.room
  rw [abs_freeL g hc, abs_many]
  have e : (abs g c).pages = c.pages := rfl
  rw [e]
  split <;> omega
def nxA (aa k : Nat) (a : Ab) : Ab := bif Nat.beq k aa then a.mount else a
def oChk (aa : Nat) : Nat → Nat → Ab → Bool
  | 0, _, _ => true
  | f + 1, k, a => match (nxA aa k a).appSeg 0 with
    | none => decide ((nxA aa k a).room = 0)
    | some _ => decide (((nxA aa k a).app 0).room = (nxA aa k a).room - 1) && oChk aa f (k + 1) ((nxA aa k a).app 0)
theorem oChk_none {aa f k : Nat} {a : Ab} (h : oChk aa (f + 1) k a = true) (hn : (nxA aa k a).appSeg 0 = none) : (nxA aa k a).room = 0 := by
  unfold oChk at h
  rw [hn] at h
  exact of_decide_eq_true h
theorem oChk_some {aa f k i : Nat} {a : Ab} (h : oChk aa (f + 1) k a = true) (hn : (nxA aa k a).appSeg 0 = some i) : ((nxA aa k a).app 0).room = (nxA aa k a).room - 1 ∧ oChk aa f (k + 1) ((nxA aa k a).app 0) = true := by
  unfold oChk at h
  rw [hn] at h
  simp only [Bool.and_eq_true, decide_eq_true_eq] at h
  exact h
def oA : Ab := newAb 8 4 9 []
theorem o_chk : ∀ aa, aa < 40 → oChk aa 40 0 oA = true := by decide +kernel
end Go.Proofs.YteckdahgkkmlaaaDoor
end

section
set_option maxRecDepth 20000
set_option linter.unusedVariables false
set_option linter.unusedSimpArgs false
namespace Go.Proofs.YteckdahgkkmlaaaDoor
open Go SL
variable {G : List (Nat × Obj)}
theorem seglog_All (hG : GOK G) (c : Chp) (hc : c.wf) (g : Lg) (kd : UInt8) : Does Tryd.prog G 11 [ptr g.lb 0, u8 kd] [chipR c, logRow g c.cb] (fun v rs' => ∃ ad cp, v = .slice ad (c.frames.filter (fun a => a.k == kd)).length cp ∧ rs' = [chipR c, logRow g c.cb]) := by
  refine Does.ofM Tryd.func11 rfl Tryd.ntmps11 rfl (fun w0 => ?_)
  refine At.keep [(0, _), (1, _)] (.cons rfl (.cons rfl .nil)) ?_
  refine At.seq ?_
  refine At.region ?_
  refine At.op rfl (op_box rfl rfl rfl ?_)
  intro b3
  refine At.op rfl (op_alloc Tryd.zeroValue37 rfl rfl ?_)
  intro b4
  refine At.own0 34 2 ?_
  refine At.nil ?_
  refine At.then_n ?_
  refine At.seq ?_
  refine At.seq ?_
  refine At.region ?_
  refine At.op rfl (op_move rfl rfl ?_)
  refine At.op rfl (op_callF rfl Tryd.call14 (seglog_frames g.lb) .nil rfl ?_)
  rintro v _ ⟨bb, rfl, rfl⟩
  refine At.app1 ?_
  refine At.nil ?_
  refine At.then_n ?_
  refine At.block ?_
  refine At.keep [(3, ptr b3 0), (4, ptr b4 0), (8, _)] (.cons rfl (.cons rfl (.cons rfl .nil))) ?_
  refine At.rangeF (fs := []) (cap := [ptr bb 0]) rfl Tryd.call26 (fun fn tmps l D RC hRC hsz hlk => ⟨[row bb [ptr g.lb 0] 26 (0, 0), chipR c, logRow g c.cb, row b4 [nilS] 37 (0, 0), ownS none 0 [] 34 2, row b3 [u8 kd] 5 (0, 0)], _, (fun rs1 => ∃ x : List FItem × Option Addr × Nat, x.1 = c.frames.filter (fun a => a.k == kd) ∧ rs1 = [row bb [ptr g.lb 0] 26 (0, 0), chipR c, logRow g c.cb, row b4 [.slice x.2.1 x.1.length x.2.2] 37 (0, 0), ownS x.2.1 x.2.2 (fcells x.1) 34 2, row b3 [u8 kd] 5 (0, 0)]), (.cons (by first | exact Pull.p0 | exact Pull.p1 | exact Pull.p2 | exact Pull.p3 | exact Pull.p4 | exact Pull.p5 | exact Pull.p6 | exact Pull.p7 | exact Pull.p8 | exact Pull.p9) (.cons (by first | exact Pull.p0 | exact Pull.p1 | exact Pull.p2 | exact Pull.p3 | exact Pull.p4 | exact Pull.p5 | exact Pull.p6 | exact Pull.p7 | exact Pull.p8 | exact Pull.p9) (.cons (by first | exact Pull.p0 | exact Pull.p1 | exact Pull.p2 | exact Pull.p3 | exact Pull.p4 | exact Pull.p5 | exact Pull.p6 | exact Pull.p7 | exact Pull.p8 | exact Pull.p9) (.cons (by first | exact Pull.p0 | exact Pull.p1 | exact Pull.p2 | exact Pull.p3 | exact Pull.p4 | exact Pull.p5 | exact Pull.p6 | exact Pull.p7 | exact Pull.p8 | exact Pull.p9) (.cons (by first | exact Pull.p0 | exact Pull.p1 | exact Pull.p2 | exact Pull.p3 | exact Pull.p4 | exact Pull.p5 | exact Pull.p6 | exact Pull.p7 | exact Pull.p8 | exact Pull.p9) (.cons (by first | exact Pull.p0 | exact Pull.p1 | exact Pull.p2 | exact Pull.p3 | exact Pull.p4 | exact Pull.p5 | exact Pull.p6 | exact Pull.p7 | exact Pull.p8 | exact Pull.p9) .nil)))))), ?_, ?_⟩)
  ·
    refine Does.conv (seglog_frames1 hG (σ := List FItem × Option Addr × Nat) c hc g.lb bb (fun _ => g.tl) (fun x => [RC, defR D, row b4 [.slice x.2.1 x.1.length x.2.2] 37 (0, 0), ownS x.2.1 x.2.2 (fcells x.1) 34 2, row b3 [u8 kd] 5 (0, 0)]) _ (fun pre x => x.1 = pre.filter (fun a => a.k == kd)) ([], none, 0) rfl ?_) (perm_of_cut (.cons (by first | exact Pull.p0 | exact Pull.p1 | exact Pull.p2 | exact Pull.p3 | exact Pull.p4 | exact Pull.p5 | exact Pull.p6 | exact Pull.p7 | exact Pull.p8 | exact Pull.p9) (.cons (by first | exact Pull.p0 | exact Pull.p1 | exact Pull.p2 | exact Pull.p3 | exact Pull.p4 | exact Pull.p5 | exact Pull.p6 | exact Pull.p7 | exact Pull.p8 | exact Pull.p9) (.cons (by first | exact Pull.p0 | exact Pull.p1 | exact Pull.p2 | exact Pull.p3 | exact Pull.p4 | exact Pull.p5 | exact Pull.p6 | exact Pull.p7 | exact Pull.p8 | exact Pull.p9) (.cons (by first | exact Pull.p0 | exact Pull.p1 | exact Pull.p2 | exact Pull.p3 | exact Pull.p4 | exact Pull.p5 | exact Pull.p6 | exact Pull.p7 | exact Pull.p8 | exact Pull.p9) (.cons (by first | exact Pull.p0 | exact Pull.p1 | exact Pull.p2 | exact Pull.p3 | exact Pull.p4 | exact Pull.p5 | exact Pull.p6 | exact Pull.p7 | exact Pull.p8 | exact Pull.p9) (.cons (by first | exact Pull.p0 | exact Pull.p1 | exact Pull.p2 | exact Pull.p3 | exact Pull.p4 | exact Pull.p5 | exact Pull.p6 | exact Pull.p7 | exact Pull.p8 | exact Pull.p9) (.cons (by first | exact Pull.p0 | exact Pull.p1 | exact Pull.p2 | exact Pull.p3 | exact Pull.p4 | exact Pull.p5 | exact Pull.p6 | exact Pull.p7 | exact Pull.p8 | exact Pull.p9) (.cons (by first | exact Pull.p0 | exact Pull.p1 | exact Pull.p2 | exact Pull.p3 | exact Pull.p4 | exact Pull.p5 | exact Pull.p6 | exact Pull.p7 | exact Pull.p8 | exact Pull.p9) .nil))))))))) (fun v rs h => by obtain ⟨x1, h1, rfl⟩ := h; exact ⟨_, ⟨_, ⟨x1, h1, rfl⟩, perm_of_cut (.cons (by first | exact Pull.p0 | exact Pull.p1 | exact Pull.p2 | exact Pull.p3 | exact Pull.p4 | exact Pull.p5 | exact Pull.p6 | exact Pull.p7 | exact Pull.p8 | exact Pull.p9) (.cons (by first | exact Pull.p0 | exact Pull.p1 | exact Pull.p2 | exact Pull.p3 | exact Pull.p4 | exact Pull.p5 | exact Pull.p6 | exact Pull.p7 | exact Pull.p8 | exact Pull.p9) (.cons (by first | exact Pull.p0 | exact Pull.p1 | exact Pull.p2 | exact Pull.p3 | exact Pull.p4 | exact Pull.p5 | exact Pull.p6 | exact Pull.p7 | exact Pull.p8 | exact Pull.p9) (.cons (by first | exact Pull.p0 | exact Pull.p1 | exact Pull.p2 | exact Pull.p3 | exact Pull.p4 | exact Pull.p5 | exact Pull.p6 | exact Pull.p7 | exact Pull.p8 | exact Pull.p9) (.cons (by first | exact Pull.p0 | exact Pull.p1 | exact Pull.p2 | exact Pull.p3 | exact Pull.p4 | exact Pull.p5 | exact Pull.p6 | exact Pull.p7 | exact Pull.p8 | exact Pull.p9) (.cons (by first | exact Pull.p0 | exact Pull.p1 | exact Pull.p2 | exact Pull.p3 | exact Pull.p4 | exact Pull.p5 | exact Pull.p6 | exact Pull.p7 | exact Pull.p8 | exact Pull.p9) (.cons (by first | exact Pull.p0 | exact Pull.p1 | exact Pull.p2 | exact Pull.p3 | exact Pull.p4 | exact Pull.p5 | exact Pull.p6 | exact Pull.p7 | exact Pull.p8 | exact Pull.p9) (.cons (by first | exact Pull.p0 | exact Pull.p1 | exact Pull.p2 | exact Pull.p3 | exact Pull.p4 | exact Pull.p5 | exact Pull.p6 | exact Pull.p7 | exact Pull.p8 | exact Pull.p9) .nil))))))))⟩, List.Perm.refl _⟩)
    rintro pre a ⟨lf, ld, lc⟩ ha1 ha2 s ha3 ha4 ⟨suf, ha5⟩ hi
    dsimp only at hi ⊢
    refine CallY.perm (pre := [RC, logRow g c.cb, defR D, row b4 [.slice ld lf.length lc] 37 (0, 0), ownS ld lc (fcells lf) 34 2, row b3 [u8 kd] 5 (0, 0)]) ?_ (perm_of_cut (.cons (by first | exact Pull.p0 | exact Pull.p1 | exact Pull.p2 | exact Pull.p3 | exact Pull.p4 | exact Pull.p5 | exact Pull.p6 | exact Pull.p7 | exact Pull.p8 | exact Pull.p9) (.cons (by first | exact Pull.p0 | exact Pull.p1 | exact Pull.p2 | exact Pull.p3 | exact Pull.p4 | exact Pull.p5 | exact Pull.p6 | exact Pull.p7 | exact Pull.p8 | exact Pull.p9) (.cons (by first | exact Pull.p0 | exact Pull.p1 | exact Pull.p2 | exact Pull.p3 | exact Pull.p4 | exact Pull.p5 | exact Pull.p6 | exact Pull.p7 | exact Pull.p8 | exact Pull.p9) (.cons (by first | exact Pull.p0 | exact Pull.p1 | exact Pull.p2 | exact Pull.p3 | exact Pull.p4 | exact Pull.p5 | exact Pull.p6 | exact Pull.p7 | exact Pull.p8 | exact Pull.p9) (.cons (by first | exact Pull.p0 | exact Pull.p1 | exact Pull.p2 | exact Pull.p3 | exact Pull.p4 | exact Pull.p5 | exact Pull.p6 | exact Pull.p7 | exact Pull.p8 | exact Pull.p9) (.cons (by first | exact Pull.p0 | exact Pull.p1 | exact Pull.p2 | exact Pull.p3 | exact Pull.p4 | exact Pull.p5 | exact Pull.p6 | exact Pull.p7 | exact Pull.p8 | exact Pull.p9) .nil)))))))
    subst hRC
    refine CallY.yield (m := (10, frmV a.k a.q a.t) :: (9, .agg [i64 a.seg, i64 a.page].toArray) :: [(3, ptr b3 0), (4, ptr b4 0), _]) hsz rfl (zip2_look hsz rfl rfl rfl hlk) (fun w1 => ?_)
    refine At.seq ?_
    refine At.region ?_
    refine At.op rfl (op_alloc Tryd.zeroValue34 rfl rfl ?_)
    intro b5
    refine At.op rfl (op_storeW rfl rfl Tryd.sizeOf34 (List.forall_mem_cons.2 ⟨rfl, (List.forall_mem_cons.2 ⟨rfl, (fun _ h => by cases h)⟩)⟩) (by first | with_reducible exact Pull.p0 | with_reducible exact Pull.p1 | with_reducible exact Pull.p2 | with_reducible exact Pull.p3 | with_reducible exact Pull.p4 | with_reducible exact Pull.p5 | with_reducible exact Pull.p6 | with_reducible exact Pull.p7 | with_reducible exact Pull.p8 | with_reducible exact Pull.p9) rfl rfl ?_)
    refine At.nil ?_
    refine At.then_n ?_
    refine At.region ?_
    refine At.op rfl (op_alloc Tryd.zeroValue68 rfl rfl ?_)
    intro b6
    refine At.op rfl (op_storeW rfl rfl Tryd.sizeOf68 (List.forall_mem_cons.2 ⟨rfl, (List.forall_mem_cons.2 ⟨rfl, (List.forall_mem_cons.2 ⟨rfl, (fun _ h => by cases h)⟩)⟩)⟩) (by first | with_reducible exact Pull.p0 | with_reducible exact Pull.p1 | with_reducible exact Pull.p2 | with_reducible exact Pull.p3 | with_reducible exact Pull.p4 | with_reducible exact Pull.p5 | with_reducible exact Pull.p6 | with_reducible exact Pull.p7 | with_reducible exact Pull.p8 | with_reducible exact Pull.p9) rfl rfl ?_)
    refine At.nil ?_
    refine At.then_n ?_
    refine At.beginR (by first | with_reducible exact Pull.p0 | with_reducible exact Pull.p1 | with_reducible exact Pull.p2 | with_reducible exact Pull.p3 | with_reducible exact Pull.p4 | with_reducible exact Pull.p5 | with_reducible exact Pull.p6 | with_reducible exact Pull.p7 | with_reducible exact Pull.p8 | with_reducible exact Pull.p9) ?_
    refine At.block ?_
    refine At.seq ?_
    refine At.region ?_
    refine At.op rfl (op_fieldAddr (o' := 0) rfl Tryd.underlying68 rfl Tryd.sizeOf5 rfl rfl ?_)
    refine At.op rfl (op_load rfl Tryd.isAgg5 (by first | with_reducible exact Pull.p0 | with_reducible exact Pull.p1 | with_reducible exact Pull.p2 | with_reducible exact Pull.p3 | with_reducible exact Pull.p4 | with_reducible exact Pull.p5 | with_reducible exact Pull.p6 | with_reducible exact Pull.p7 | with_reducible exact Pull.p8 | with_reducible exact Pull.p9) rfl rfl ?_)
    refine At.op rfl (op_load rfl Tryd.isAgg5 (by first | with_reducible exact Pull.p0 | with_reducible exact Pull.p1 | with_reducible exact Pull.p2 | with_reducible exact Pull.p3 | with_reducible exact Pull.p4 | with_reducible exact Pull.p5 | with_reducible exact Pull.p6 | with_reducible exact Pull.p7 | with_reducible exact Pull.p8 | with_reducible exact Pull.p9) rfl rfl ?_)
    refine At.op rfl (op_bin rfl rfl (b8_eq _ _) rfl ?_)
    refine At.nil ?_
    refine At.then_n ?_
    refine At.cond_p rfl (fun hkd => ?_) (fun hkd => ?_)
    ·
      have hn1 : lf ++ [a] = (pre ++ [a]).filter (fun a => a.k == kd) := by rw [List.filter_append, ← hi]; simp [hkd]
      have hlb : lf.length ≤ 1024 := by
        have h1 := Chp.frames_le hc
        rw [ha5, List.length_append] at h1
        have h2 := List.length_filter_le (fun a : FItem => a.k == kd) pre
        rw [← hi] at h2
        omega
      refine At.region ?_
      refine At.op rfl (op_load rfl Tryd.isAgg37 (by first | with_reducible exact Pull.p0 | with_reducible exact Pull.p1 | with_reducible exact Pull.p2 | with_reducible exact Pull.p3 | with_reducible exact Pull.p4 | with_reducible exact Pull.p5 | with_reducible exact Pull.p6 | with_reducible exact Pull.p7 | with_reducible exact Pull.p8 | with_reducible exact Pull.p9) rfl rfl ?_)
      refine At.op rfl (op_loadW rfl Tryd.isAgg34 Tryd.sizeOf34 (by first | with_reducible exact Pull.p0 | with_reducible exact Pull.p1 | with_reducible exact Pull.p2 | with_reducible exact Pull.p3 | with_reducible exact Pull.p4 | with_reducible exact Pull.p5 | with_reducible exact Pull.p6 | with_reducible exact Pull.p7 | with_reducible exact Pull.p8 | with_reducible exact Pull.p9) rfl rfl ?_)
      refine At.op rfl (op_buildSlice2 rfl Tryd.underlying37 et34 rfl ?_)
      intro b17
      refine At.op rfl (op_append rfl rfl Tryd.underlying37 et34 (by first | with_reducible exact Pull.p0 | with_reducible exact Pull.p1 | with_reducible exact Pull.p2 | with_reducible exact Pull.p3 | with_reducible exact Pull.p4 | with_reducible exact Pull.p5 | with_reducible exact Pull.p6 | with_reducible exact Pull.p7 | with_reducible exact Pull.p8 | with_reducible exact Pull.p9) (by first | with_reducible exact Pull.p0 | with_reducible exact Pull.p1 | with_reducible exact Pull.p2 | with_reducible exact Pull.p3 | with_reducible exact Pull.p4 | with_reducible exact Pull.p5 | with_reducible exact Pull.p6 | with_reducible exact Pull.p7 | with_reducible exact Pull.p8 | with_reducible exact Pull.p9) (by rw [fcells_length]) rfl (by decide) (List.forall_mem_cons.2 ⟨rfl, (List.forall_mem_cons.2 ⟨rfl, (fun _ h => by cases h)⟩)⟩) (by omega) (by omega) rfl ?_)
      intro wa cwa hwa
      refine At.op rfl (op_store rfl rfl Tryd.sizeOf37 rfl rfl (by first | with_reducible exact Pull.p0 | with_reducible exact Pull.p1 | with_reducible exact Pull.p2 | with_reducible exact Pull.p3 | with_reducible exact Pull.p4 | with_reducible exact Pull.p5 | with_reducible exact Pull.p6 | with_reducible exact Pull.p7 | with_reducible exact Pull.p8 | with_reducible exact Pull.p9) .zero rfl ?_)
      rw [show fcells lf ++ [i64 a.seg, i64 a.page] = fcells (lf ++ [a]) by rw [fcells_append]; rfl, show lf.length + 1 = (lf ++ [a]).length by simp]
      refine At.nil ?_
      refine At.blk_n ?_
      first
        | exact At.endR (by first | with_reducible exact Pull.p0 | with_reducible exact Pull.p1 | with_reducible exact Pull.p2 | with_reducible exact Pull.p3 | with_reducible exact Pull.p4 | with_reducible exact Pull.p5 | with_reducible exact Pull.p6 | with_reducible exact Pull.p7 | with_reducible exact Pull.p8 | with_reducible exact Pull.p9) ⟨((lf ++ [a], wa, cwa)), hn1, rfl⟩ (.cons (by first | exact Pull.p0 | exact Pull.p1 | exact Pull.p2 | exact Pull.p3 | exact Pull.p4 | exact Pull.p5 | exact Pull.p6 | exact Pull.p7 | exact Pull.p8 | exact Pull.p9) (.cons (by first | exact Pull.p0 | exact Pull.p1 | exact Pull.p2 | exact Pull.p3 | exact Pull.p4 | exact Pull.p5 | exact Pull.p6 | exact Pull.p7 | exact Pull.p8 | exact Pull.p9) (.cons (by first | exact Pull.p0 | exact Pull.p1 | exact Pull.p2 | exact Pull.p3 | exact Pull.p4 | exact Pull.p5 | exact Pull.p6 | exact Pull.p7 | exact Pull.p8 | exact Pull.p9) (.cons (by first | exact Pull.p0 | exact Pull.p1 | exact Pull.p2 | exact Pull.p3 | exact Pull.p4 | exact Pull.p5 | exact Pull.p6 | exact Pull.p7 | exact Pull.p8 | exact Pull.p9) (.cons (by first | exact Pull.p0 | exact Pull.p1 | exact Pull.p2 | exact Pull.p3 | exact Pull.p4 | exact Pull.p5 | exact Pull.p6 | exact Pull.p7 | exact Pull.p8 | exact Pull.p9) (.cons (by first | exact Pull.p0 | exact Pull.p1 | exact Pull.p2 | exact Pull.p3 | exact Pull.p4 | exact Pull.p5 | exact Pull.p6 | exact Pull.p7 | exact Pull.p8 | exact Pull.p9) .nil))))))
        | exact At.endR (by first | with_reducible exact Pull.p0 | with_reducible exact Pull.p1 | with_reducible exact Pull.p2 | with_reducible exact Pull.p3 | with_reducible exact Pull.p4 | with_reducible exact Pull.p5 | with_reducible exact Pull.p6 | with_reducible exact Pull.p7 | with_reducible exact Pull.p8 | with_reducible exact Pull.p9) ⟨(lf, ld, lc), hn1, rfl⟩ (.cons (by first | exact Pull.p0 | exact Pull.p1 | exact Pull.p2 | exact Pull.p3 | exact Pull.p4 | exact Pull.p5 | exact Pull.p6 | exact Pull.p7 | exact Pull.p8 | exact Pull.p9) (.cons (by first | exact Pull.p0 | exact Pull.p1 | exact Pull.p2 | exact Pull.p3 | exact Pull.p4 | exact Pull.p5 | exact Pull.p6 | exact Pull.p7 | exact Pull.p8 | exact Pull.p9) (.cons (by first | exact Pull.p0 | exact Pull.p1 | exact Pull.p2 | exact Pull.p3 | exact Pull.p4 | exact Pull.p5 | exact Pull.p6 | exact Pull.p7 | exact Pull.p8 | exact Pull.p9) (.cons (by first | exact Pull.p0 | exact Pull.p1 | exact Pull.p2 | exact Pull.p3 | exact Pull.p4 | exact Pull.p5 | exact Pull.p6 | exact Pull.p7 | exact Pull.p8 | exact Pull.p9) (.cons (by first | exact Pull.p0 | exact Pull.p1 | exact Pull.p2 | exact Pull.p3 | exact Pull.p4 | exact Pull.p5 | exact Pull.p6 | exact Pull.p7 | exact Pull.p8 | exact Pull.p9) (.cons (by first | exact Pull.p0 | exact Pull.p1 | exact Pull.p2 | exact Pull.p3 | exact Pull.p4 | exact Pull.p5 | exact Pull.p6 | exact Pull.p7 | exact Pull.p8 | exact Pull.p9) .nil))))))
    ·
      have hn1 : lf = (pre ++ [a]).filter (fun a => a.k == kd) := by rw [List.filter_append, ← hi]; simp [hkd]
      refine At.skip ?_
      refine At.blk_n ?_
      first
        | exact At.endR (by first | with_reducible exact Pull.p0 | with_reducible exact Pull.p1 | with_reducible exact Pull.p2 | with_reducible exact Pull.p3 | with_reducible exact Pull.p4 | with_reducible exact Pull.p5 | with_reducible exact Pull.p6 | with_reducible exact Pull.p7 | with_reducible exact Pull.p8 | with_reducible exact Pull.p9) ⟨((lf ++ [a], wa, cwa)), hn1, rfl⟩ (.cons (by first | exact Pull.p0 | exact Pull.p1 | exact Pull.p2 | exact Pull.p3 | exact Pull.p4 | exact Pull.p5 | exact Pull.p6 | exact Pull.p7 | exact Pull.p8 | exact Pull.p9) (.cons (by first | exact Pull.p0 | exact Pull.p1 | exact Pull.p2 | exact Pull.p3 | exact Pull.p4 | exact Pull.p5 | exact Pull.p6 | exact Pull.p7 | exact Pull.p8 | exact Pull.p9) (.cons (by first | exact Pull.p0 | exact Pull.p1 | exact Pull.p2 | exact Pull.p3 | exact Pull.p4 | exact Pull.p5 | exact Pull.p6 | exact Pull.p7 | exact Pull.p8 | exact Pull.p9) (.cons (by first | exact Pull.p0 | exact Pull.p1 | exact Pull.p2 | exact Pull.p3 | exact Pull.p4 | exact Pull.p5 | exact Pull.p6 | exact Pull.p7 | exact Pull.p8 | exact Pull.p9) (.cons (by first | exact Pull.p0 | exact Pull.p1 | exact Pull.p2 | exact Pull.p3 | exact Pull.p4 | exact Pull.p5 | exact Pull.p6 | exact Pull.p7 | exact Pull.p8 | exact Pull.p9) (.cons (by first | exact Pull.p0 | exact Pull.p1 | exact Pull.p2 | exact Pull.p3 | exact Pull.p4 | exact Pull.p5 | exact Pull.p6 | exact Pull.p7 | exact Pull.p8 | exact Pull.p9) .nil))))))
        | exact At.endR (by first | with_reducible exact Pull.p0 | with_reducible exact Pull.p1 | with_reducible exact Pull.p2 | with_reducible exact Pull.p3 | with_reducible exact Pull.p4 | with_reducible exact Pull.p5 | with_reducible exact Pull.p6 | with_reducible exact Pull.p7 | with_reducible exact Pull.p8 | with_reducible exact Pull.p9) ⟨(lf, ld, lc), hn1, rfl⟩ (.cons (by first | exact Pull.p0 | exact Pull.p1 | exact Pull.p2 | exact Pull.p3 | exact Pull.p4 | exact Pull.p5 | exact Pull.p6 | exact Pull.p7 | exact Pull.p8 | exact Pull.p9) (.cons (by first | exact Pull.p0 | exact Pull.p1 | exact Pull.p2 | exact Pull.p3 | exact Pull.p4 | exact Pull.p5 | exact Pull.p6 | exact Pull.p7 | exact Pull.p8 | exact Pull.p9) (.cons (by first | exact Pull.p0 | exact Pull.p1 | exact Pull.p2 | exact Pull.p3 | exact Pull.p4 | exact Pull.p5 | exact Pull.p6 | exact Pull.p7 | exact Pull.p8 | exact Pull.p9) (.cons (by first | exact Pull.p0 | exact Pull.p1 | exact Pull.p2 | exact Pull.p3 | exact Pull.p4 | exact Pull.p5 | exact Pull.p6 | exact Pull.p7 | exact Pull.p8 | exact Pull.p9) (.cons (by first | exact Pull.p0 | exact Pull.p1 | exact Pull.p2 | exact Pull.p3 | exact Pull.p4 | exact Pull.p5 | exact Pull.p6 | exact Pull.p7 | exact Pull.p8 | exact Pull.p9) (.cons (by first | exact Pull.p0 | exact Pull.p1 | exact Pull.p2 | exact Pull.p3 | exact Pull.p4 | exact Pull.p5 | exact Pull.p6 | exact Pull.p7 | exact Pull.p8 | exact Pull.p9) .nil))))))
  ·
    rintro _ ⟨⟨lf, ld, lc⟩, hlf, rfl⟩
    dsimp only at hlf
    show At _ _ [defR D, row bb [ptr g.lb 0] 26 (0, 0), chipR c, logRow g c.cb, row b4 [.slice ld lf.length lc] 37 (0, 0), ownS ld lc (fcells lf) 34 2, row b3 [u8 kd] 5 (0, 0)] _
    refine At.blk_n ?_
    refine At.then_n ?_
    refine At.seq ?_
    refine At.region ?_
    refine At.op rfl (op_load rfl Tryd.isAgg37 (by first | with_reducible exact Pull.p0 | with_reducible exact Pull.p1 | with_reducible exact Pull.p2 | with_reducible exact Pull.p3 | with_reducible exact Pull.p4 | with_reducible exact Pull.p5 | with_reducible exact Pull.p6 | with_reducible exact Pull.p7 | with_reducible exact Pull.p8 | with_reducible exact Pull.p9) rfl rfl ?_)
    refine At.op rfl (op_store rfl rfl Tryd.sizeOf37 rfl rfl (by first | with_reducible exact Pull.p0 | with_reducible exact Pull.p1 | with_reducible exact Pull.p2 | with_reducible exact Pull.p3 | with_reducible exact Pull.p4 | with_reducible exact Pull.p5 | with_reducible exact Pull.p6 | with_reducible exact Pull.p7 | with_reducible exact Pull.p8 | with_reducible exact Pull.p9) .zero rfl ?_)
    refine At.nil ?_
    refine At.then_n ?_
    refine At.ret ?_
    subst hlf
    exact At.finM (l := [.cell 4 37]) _ (.inl rfl) rfl rfl (by first | with_reducible exact Pull.p0 | with_reducible exact Pull.p1 | with_reducible exact Pull.p2 | with_reducible exact Pull.p3 | with_reducible exact Pull.p4 | with_reducible exact Pull.p5 | with_reducible exact Pull.p6 | with_reducible exact Pull.p7 | with_reducible exact Pull.p8 | with_reducible exact Pull.p9) (.cell rfl (by first | with_reducible exact Pull.p0 | with_reducible exact Pull.p1 | with_reducible exact Pull.p2 | with_reducible exact Pull.p3 | with_reducible exact Pull.p4 | with_reducible exact Pull.p5 | with_reducible exact Pull.p6 | with_reducible exact Pull.p7 | with_reducible exact Pull.p8 | with_reducible exact Pull.p9) Tryd.isAgg37 rfl .nil) rfl ⟨_, _, rfl, rfl⟩ (.cons (by first | exact Pull.p0 | exact Pull.p1 | exact Pull.p2 | exact Pull.p3 | exact Pull.p4 | exact Pull.p5 | exact Pull.p6 | exact Pull.p7 | exact Pull.p8 | exact Pull.p9) (.cons (by first | exact Pull.p0 | exact Pull.p1 | exact Pull.p2 | exact Pull.p3 | exact Pull.p4 | exact Pull.p5 | exact Pull.p6 | exact Pull.p7 | exact Pull.p8 | exact Pull.p9) .nil))
end Go.Proofs.YteckdahgkkmlaaaDoor
end

section
set_option maxRecDepth 20000
set_option linter.unusedVariables false
set_option linter.unusedSimpArgs false
namespace Go.Proofs.YteckdahgkkmlaaaDoor
open Go SL
variable {G : List (Nat × Obj)}
theorem pkey : PKey Tryd.prog 34 := by
  refine ⟨⟨_, Tryd.underlying34⟩, fun e k w => ?_, fun k k' w => ?_⟩
  · have hin : ∀ (v : Int) (w : World), (Instr.checkKey e 9999 3 (i64 v)).run Tryd.prog w = .ok () w := fun v w => Go.MapKept.run_checkKey Tryd.underlying3 (by simp [Go.MapKept.IsKey]) e 9998
    unfold Instr.checkKey
    simp [run_underlying Tryd.underlying34, part, Tryd.isAgg3, hin]
  · have hf : Tryd.prog.fieldsOf 34 = #[{ name := "Seg", type := 3, offset := 0, embedded := false, tag := "", pkgPath := "", byteOffset := 0 }, { name := "Page", type := 3, offset := 1, embedded := false, tag := "", pkgPath := "", byteOffset := 8 }] := by
      unfold Program.fieldsOf
      rw [Tryd.underlying34]
    have hu : Tryd.prog.underlying 34 = some (.struct (Tryd.prog.fieldsOf 34)) := by rw [hf]; exact Tryd.underlying34
    have h1 := run_equalIn_struct (P := Tryd.prog) w 9999 34 [i64 k.1, i64 k.2].toArray [i64 k'.1, i64 k'.2].toArray hu (by kernel_rfl)
    have h2 : (Op.eqFields 9999 [i64 k.1, i64 k.2].toArray [i64 k'.1, i64 k'.2].toArray (Tryd.prog.fieldsOf 34).toList).run Tryd.prog w = .ok (decide ((k.1 : Int) = k'.1) && (decide ((k.2 : Int) = k'.2) && true)) w := by
      rw [hf]
      exact eqf_cons (by decide) Tryd.isAgg3 rfl rfl (eqi Tryd.underlying3) (eqf_cons (by decide) Tryd.isAgg3 rfl rfl (eqi Tryd.underlying3) eqf_nil) 9998 w
    obtain ⟨a, b⟩ := k
    obtain ⟨a', b'⟩ := k'
    have hv : (decide ((a : Int) = a') && (decide ((b : Int) = b') && true)) = decide ((a, b) = (a', b')) := by
      rw [Bool.eq_iff_iff]
      simp [Prod.mk.injEq]
      omega
    show (Op.equalIn 10000 34 _ _).run Tryd.prog w = _
    rw [h1, h2]
    dsimp only
    rw [hv]
theorem o_ks {c : Chp} (hc : c.wf) {i j : Nat} (hi : i < c.segs) (hj : j < c.pages) {ks : List (Nat × Nat)} {b pc : Nat} {t : List UInt8} {pa : Option Addr} (h : ∀ i j : Nat, (i, j) ∈ ks ↔ (c.at i j).isSome = true) : ∀ i' j' : Nat, (i', j') ∈ ks ++ [(i, j)] ↔ ((c.prog i j b t pa pc).at i' j').isSome = true := by
  intro i' j'
  rw [Chp.at_prog hc hi hj, List.mem_append, List.mem_singleton, h, Prod.mk.injEq]
  by_cases e : i' = i ∧ j' = j
  · rw [if_pos e]; simp [e]
  · rw [if_neg e]; simp [e]
theorem o_cont {c : Chp} (hc : c.wf) {i j : Nat} (hi : i < c.segs) (hj : j < c.pages) {b pc : Nat} {q0 : UInt64} {pa : Option Addr} (h : ∀ (i j : Nat) (t : List UInt8), c.at i j = some t → ∃ q, t = putS 3 q [120]) : ∀ (i' j' : Nat) (t : List UInt8), (c.prog i j b (putS 3 q0 [120]) pa pc).at i' j' = some t → ∃ q, t = putS 3 q [120] := by
  intro i' j' t ht
  rw [Chp.at_prog hc hi hj] at ht
  split at ht
  · exact ⟨q0, (Option.some.inj ht).symm⟩
  · exact h i' j' t ht
theorem law13_SeglogOnce (hG : GOK G) (n q : UInt8) : Does Tryd.prog G 3 [u8 n, u8 q] [] (One (.bool true)) := by
  refine Does.of Tryd.func3 rfl Tryd.ntmps3 rfl (fun w0 => ?_)
  refine At.keep [(0, _), (1, _)] (.cons rfl (.cons rfl .nil)) ?_
  obtain ⟨nn, hnn0⟩ : ∃ x, x = n.toNat % 40 := ⟨_, rfl⟩
  obtain ⟨aa, haa1⟩ : ∃ x, x = q.toNat % 40 := ⟨_, rfl⟩
  have hnn : nn < 40 := by omega
  have haa0 : aa < 40 := by omega
  have hq := q.toNat_lt
  have hnl := n.toNat_lt
  refine At.seq ?_
  refine At.region ?_
  refine At.op rfl (op_assign rfl rfl ?_)
  refine At.nil ?_
  refine At.then_n ?_
  refine At.seq ?_
  refine At.region ?_
  refine At.op rfl (op_callF rfl Tryd.call5 nand_NewPower .nil rfl ?_)
  rintro v _ ⟨pw, rfl, rfl⟩
  refine At.app1 ?_
  refine At.own0 3 1 ?_
  refine At.op rfl (op_callF rfl Tryd.call4 (nand_New pw 8 4 9 none 0 [] (by decide) (by decide) (by decide) (by decide)) (.cons (by first | exact Pull.p0 | exact Pull.p1 | exact Pull.p2 | exact Pull.p3 | exact Pull.p4 | exact Pull.p5 | exact Pull.p6 | exact Pull.p7 | exact Pull.p8 | exact Pull.p9) (.cons (by first | exact Pull.p0 | exact Pull.p1 | exact Pull.p2 | exact Pull.p3 | exact Pull.p4 | exact Pull.p5 | exact Pull.p6 | exact Pull.p7 | exact Pull.p8 | exact Pull.p9) .nil)) rfl ?_)
  rintro v _ ⟨c, hc, hfr, rfl, rfl⟩
  refine At.app1 ?_
  refine At.op rfl (op_assign rfl rfl ?_)
  refine At.nil ?_
  refine At.then_n ?_
  refine At.seq ?_
  refine At.region ?_
  refine At.op rfl (op_move rfl rfl ?_)
  refine At.op rfl (op_callF rfl Tryd.call6 (seglog_Mount hG c hc) (.cons (by first | with_reducible exact Pull.p0 | with_reducible exact Pull.p1 | with_reducible exact Pull.p2 | with_reducible exact Pull.p3 | with_reducible exact Pull.p4 | with_reducible exact Pull.p5 | with_reducible exact Pull.p6 | with_reducible exact Pull.p7 | with_reducible exact Pull.p8 | with_reducible exact Pull.p9) .nil) rfl ?_)
  rintro v _ ⟨g, rfl, hop, hret, hseq, rfl⟩
  refine At.app3 ?_
  have habs := abs_new hc hfr hop hret
  have hgo : opOK g c := .inl hop
  have hsq : g.seq = 1 := hseq.trans (seq_fresh hfr)
  refine At.op rfl (op_move rfl rfl ?_)
  refine At.op rfl (op_extractL rfl .zero rfl ?_)
  refine At.op rfl (op_extractL rfl (.succ .zero) rfl ?_)
  refine At.op rfl (op_assign rfl rfl ?_)
  refine At.op rfl (op_assign rfl rfl ?_)
  refine At.nil ?_
  refine At.then_n ?_
  refine At.seq ?_
  refine At.seq ?_
  refine At.region ?_
  refine At.op rfl (op_move rfl rfl ?_)
  refine At.op rfl (op_bin rfl rfl (Bin.cast (v' := .bool false) b_ne (congrArg Value.bool (by rw [decide_eq_true rfl]; rfl))) rfl ?_)
  refine At.op rfl (op_move rfl rfl ?_)
  refine At.opg rfl rfl rfl (op_move rfl rfl ?_)
  refine At.opg rfl rfl rfl (op_bin rfl rfl (Bin.cast (v' := .bool false) (b_pnil Tryd.underlying26) rfl) rfl ?_)
  refine At.op rfl (op_pick_f rfl rfl rfl ?_)
  refine At.op rfl (op_move rfl rfl ?_)
  refine At.opg rfl rfl rfl (op_call1 rfl Tryd.call7 (law13_shown hG) rfl ?_)
  refine At.opg rfl rfl rfl (op_not rfl rfl ?_)
  refine At.op rfl (op_pick_f rfl rfl rfl ?_)
  refine At.nil ?_
  refine At.then_n ?_
  refine At.cond_f rfl ?_
  refine At.skip ?_
  refine At.then_n ?_
  refine At.seq ?_
  refine At.keep [(0, _), (1, _), (4, _), (5, _), (6, _)] (.cons rfl (.cons rfl (.cons rfl (.cons rfl (.cons rfl .nil))))) ?_
  refine At.region ?_
  refine At.op rfl (op_makeMapP rfl ?_)
  intro hm
  refine At.op rfl (op_assign rfl rfl ?_)
  refine At.nil ?_
  refine At.then_n ?_
  refine At.seq ?_
  refine At.seq ?_
  refine At.region ?_
  refine At.op rfl (op_assign rfl rfl ?_)
  refine At.nil ?_
  refine At.then_n ?_
  refine At.block ?_
  refine At.cut (rs' := (fun s => [chipR s.2.1, logRow s.2.2.1 s.2.1.cb, logMap s.2.2.1, mapP hm s.2.2.2]) ((0, c, g, []) : Nat × Chp × Lg × List (Nat × Nat))) (.cons (by first | exact Pull.p0 | exact Pull.p1 | exact Pull.p2 | exact Pull.p3 | exact Pull.p4 | exact Pull.p5 | exact Pull.p6 | exact Pull.p7 | exact Pull.p8 | exact Pull.p9) (.cons (by first | exact Pull.p0 | exact Pull.p1 | exact Pull.p2 | exact Pull.p3 | exact Pull.p4 | exact Pull.p5 | exact Pull.p6 | exact Pull.p7 | exact Pull.p8 | exact Pull.p9) (.cons (by first | exact Pull.p0 | exact Pull.p1 | exact Pull.p2 | exact Pull.p3 | exact Pull.p4 | exact Pull.p5 | exact Pull.p6 | exact Pull.p7 | exact Pull.p8 | exact Pull.p9) (.cons (by first | exact Pull.p0 | exact Pull.p1 | exact Pull.p2 | exact Pull.p3 | exact Pull.p4 | exact Pull.p5 | exact Pull.p6 | exact Pull.p7 | exact Pull.p8 | exact Pull.p9) .nil)))) ?_
  refine At.keep ((fun s => [(0, u8 n), (1, u8 q), (5, ptr s.2.1.cb 0), (6, ptr s.2.2.1.lb 0), (8, .map (some hm)), (9, i64 s.1)]) ((0, c, g, []) : Nat × Chp × Lg × List (Nat × Nat))) (.cons rfl (.cons rfl (.cons rfl (.cons rfl (.cons rfl (.cons rfl .nil)))))) ?_
  refine At.loop (σ := Nat × Chp × Lg × List (Nat × Nat)) (fun s => s.1 ≤ nn ∧ s.2.1.wf ∧ opOK s.2.2.1 s.2.1 ∧ oChk aa (40 - s.1) s.1 (abs s.2.2.1 s.2.1) = true ∧ s.2.1.past.length = s.1 ∧ s.2.2.2.length = s.1 ∧ (∀ i j : Nat, (i, j) ∈ s.2.2.2 ↔ (s.2.1.at i j).isSome = true) ∧ (∀ (i j : Nat) (t : List UInt8), s.2.1.at i j = some t → ∃ q, t = putS 3 q [120]) ∧ s.2.1.items.length = s.1) (fun s => [(0, u8 n), (1, u8 q), (5, ptr s.2.1.cb 0), (6, ptr s.2.2.1.lb 0), (8, .map (some hm)), (9, i64 s.1)]) (fun s => [chipR s.2.1, logRow s.2.2.1 s.2.1.cb, logMap s.2.2.1, mapP hm s.2.2.2]) (fun s => nn - s.1) ((0, c, g, []) : Nat × Chp × Lg × List (Nat × Nat)) ⟨Nat.zero_le _, hc, hgo, by dsimp only; rw [habs]; exact o_chk aa haa0, by simp [hfr.fpast], rfl, fun i j => by simp [Chp.at_fresh hfr], fun i j t h => (by rw [Chp.at_fresh hfr] at h; cases h), by dsimp only; rw [items_none (Chp.at_fresh hfr)]; rfl⟩ ?_
  rintro ⟨k, c, g, ks⟩ ⟨hk, hc, ho, hchk, hpl, hkl, hks, hcont, hit⟩
  dsimp only at hk hc ho hchk hpl hkl hks hcont hit ⊢
  refine At.seq ?_
  refine At.seq ?_
  refine At.region ?_
  refine At.op rfl (op_move rfl rfl ?_)
  refine At.op rfl (op_move rfl rfl ?_)
  refine At.op rfl (op_conv rfl (cv_u8_i64 Tryd.underlying5 Tryd.underlying3 _) rfl ?_)
  refine At.op rfl (op_bin rfl rfl (Bin.cast (v' := i64 (nn : Nat)) (b_rem (by omega) (by decide)) (congrArg (Value.int .i64) (by omega))) rfl ?_)
  refine At.op rfl (op_bin rfl rfl b_lt rfl ?_)
  refine At.nil ?_
  refine At.then_n ?_
  refine At.cond_p rfl (fun hlt0 => ?_) (fun hlt0 => ?_)
  ·
    have hkn : k < nn := by omega
    obtain ⟨f, hf⟩ : ∃ f, 40 - k = f + 1 := ⟨39 - k, by omega⟩
    rw [hf] at hchk
    obtain ⟨a0, ha0⟩ : ∃ a, a = abs g c := ⟨_, rfl⟩
    rw [← ha0] at hchk
    have hrb : ∀ g : Lg, -2000 ≤ (abs g c).room ∧ (abs g c).room ≤ 2000 := fun g => room_bound hc
    refine At.skip ?_
    refine At.then_n ?_
    refine At.seq ?_
    refine At.block ?_
    refine At.seq ?_
    refine At.seq ?_
    refine At.region ?_
    refine At.op rfl (op_move rfl rfl ?_)
    refine At.op rfl (op_move rfl rfl ?_)
    refine At.op rfl (op_conv rfl (cv_u8_i64 Tryd.underlying5 Tryd.underlying3 _) rfl ?_)
    refine At.op rfl (op_bin rfl rfl (Bin.cast (v' := i64 (aa : Nat)) (b_rem (by omega) (by decide)) (congrArg (Value.int .i64) (by omega))) rfl ?_)
    refine At.op rfl (op_bin rfl rfl b_eq rfl ?_)
    refine At.nil ?_
    refine At.then_n ?_
    refine At.cond_p rfl (fun haa => ?_) (fun haa => ?_)
    ·
      refine At.seq ?_
      refine At.region ?_
      refine At.op rfl (op_move rfl rfl ?_)
      refine At.op rfl (op_callF rfl Tryd.call6 (seglog_Mount hG c hc) (.cons (by first | with_reducible exact Pull.p0 | with_reducible exact Pull.p1 | with_reducible exact Pull.p2 | with_reducible exact Pull.p3 | with_reducible exact Pull.p4 | with_reducible exact Pull.p5 | with_reducible exact Pull.p6 | with_reducible exact Pull.p7 | with_reducible exact Pull.p8 | with_reducible exact Pull.p9) .nil) rfl ?_)
      rintro v _ ⟨g, rfl, hop, hret, hseq, rfl⟩
      refine At.app3 ?_
      have ho : opOK g c := .inl hop
      have hnx : abs g c = nxA aa k a0 := by
        rw [nxA, show Nat.beq k aa = true by rw [show k = aa by omega]; exact Nat.beq_refl _, ha0]
        exact abs_mount hc hop hret
      refine At.op rfl (op_move rfl rfl ?_)
      refine At.op rfl (op_extractL rfl .zero rfl ?_)
      refine At.op rfl (op_extractL rfl (.succ .zero) rfl ?_)
      refine At.op rfl (op_assign rfl rfl ?_)
      refine At.op rfl (op_assign rfl rfl ?_)
      refine At.nil ?_
      refine At.then_n ?_
      refine At.seq ?_
      refine At.seq ?_
      refine At.keep [(0, _), (1, _), (5, _), (6, _), (8, _), (9, _), (10, _), (11, _)] (.cons rfl (.cons rfl (.cons rfl (.cons rfl (.cons rfl (.cons rfl (.cons rfl (.cons rfl .nil)))))))) ?_
      refine At.region ?_
      refine At.op rfl (op_move rfl rfl ?_)
      refine At.op rfl (op_bin rfl rfl (Bin.cast (v' := .bool false) b_ne (congrArg Value.bool (by rw [decide_eq_true rfl]; rfl))) rfl ?_)
      refine At.op rfl (op_move rfl rfl ?_)
      refine At.opg rfl rfl rfl (op_move rfl rfl ?_)
      refine At.opg rfl rfl rfl (op_bin rfl rfl (Bin.cast (v' := .bool false) (b_pnil Tryd.underlying26) rfl) rfl ?_)
      refine At.op rfl (op_pick_f rfl rfl rfl ?_)
      refine At.op rfl (op_move rfl rfl ?_)
      refine At.opg rfl rfl rfl (op_move rfl rfl ?_)
      refine At.opg rfl rfl rfl (op_callQ rfl Tryd.call8 (by have := seglog_Open (G := G) c.cb g; rw [hop] at this; exact this) (.cons (by first | with_reducible exact Pull.p0 | with_reducible exact Pull.p1 | with_reducible exact Pull.p2 | with_reducible exact Pull.p3 | with_reducible exact Pull.p4 | with_reducible exact Pull.p5 | with_reducible exact Pull.p6 | with_reducible exact Pull.p7 | with_reducible exact Pull.p8 | with_reducible exact Pull.p9) .nil) rfl ?_)
      refine At.opg rfl rfl rfl (op_bin rfl rfl (Bin.cast (v' := .bool false) b_ne (congrArg Value.bool (by rw [decide_eq_true rfl]; rfl))) rfl ?_)
      refine At.op rfl (op_pick_f rfl rfl rfl ?_)
      refine At.nil ?_
      refine At.then_n ?_
      refine At.cond_f rfl ?_
      refine At.skip ?_
      refine At.then_n ?_
      refine At.keep [(0, _), (1, _), (5, _), (6, _), (8, _), (9, _), (10, _)] (.cons rfl (.cons rfl (.cons rfl (.cons rfl (.cons rfl (.cons rfl (.cons rfl .nil))))))) ?_
      refine At.region ?_
      refine At.op rfl (op_move rfl rfl ?_)
      refine At.op rfl (op_assign rfl rfl ?_)
      refine At.nil ?_
      refine At.then_n ?_
      refine At.seq ?_
      refine At.region ?_
      refine At.op rfl (op_move rfl rfl ?_)
      refine At.op rfl (op_callQ rfl Tryd.call9 (seglog_Room c hc g ho) (.cons (by first | with_reducible exact Pull.p0 | with_reducible exact Pull.p1 | with_reducible exact Pull.p2 | with_reducible exact Pull.p3 | with_reducible exact Pull.p4 | with_reducible exact Pull.p5 | with_reducible exact Pull.p6 | with_reducible exact Pull.p7 | with_reducible exact Pull.p8 | with_reducible exact Pull.p9) (.cons (by first | with_reducible exact Pull.p0 | with_reducible exact Pull.p1 | with_reducible exact Pull.p2 | with_reducible exact Pull.p3 | with_reducible exact Pull.p4 | with_reducible exact Pull.p5 | with_reducible exact Pull.p6 | with_reducible exact Pull.p7 | with_reducible exact Pull.p8 | with_reducible exact Pull.p9) (.cons (by first | with_reducible exact Pull.p0 | with_reducible exact Pull.p1 | with_reducible exact Pull.p2 | with_reducible exact Pull.p3 | with_reducible exact Pull.p4 | with_reducible exact Pull.p5 | with_reducible exact Pull.p6 | with_reducible exact Pull.p7 | with_reducible exact Pull.p8 | with_reducible exact Pull.p9) .nil))) rfl ?_)
      refine At.op rfl (op_assign rfl rfl ?_)
      refine At.nil ?_
      refine At.then_n ?_
      refine At.seq ?_
      refine At.region ?_
      refine At.op rfl (op_move rfl rfl ?_)
      refine At.op rfl (op_callF rfl Tryd.call10 (seglog_Append hG c hc g ho 3 [120] 0 (by decide) (by decide) (by omega)) (.cons (by first | with_reducible exact Pull.p0 | with_reducible exact Pull.p1 | with_reducible exact Pull.p2 | with_reducible exact Pull.p3 | with_reducible exact Pull.p4 | with_reducible exact Pull.p5 | with_reducible exact Pull.p6 | with_reducible exact Pull.p7 | with_reducible exact Pull.p8 | with_reducible exact Pull.p9) (.cons (by first | with_reducible exact Pull.p0 | with_reducible exact Pull.p1 | with_reducible exact Pull.p2 | with_reducible exact Pull.p3 | with_reducible exact Pull.p4 | with_reducible exact Pull.p5 | with_reducible exact Pull.p6 | with_reducible exact Pull.p7 | with_reducible exact Pull.p8 | with_reducible exact Pull.p9) (.cons (by first | with_reducible exact Pull.p0 | with_reducible exact Pull.p1 | with_reducible exact Pull.p2 | with_reducible exact Pull.p3 | with_reducible exact Pull.p4 | with_reducible exact Pull.p5 | with_reducible exact Pull.p6 | with_reducible exact Pull.p7 | with_reducible exact Pull.p8 | with_reducible exact Pull.p9) .nil))) rfl ?_)
      intro v rs2 hp
      rcases hs : (abs g c).appSeg 0 with _ | i <;> rw [hs] at hp
      ·
        obtain ⟨rfl, rfl⟩ := hp
        refine At.app3 ?_
        have hroom0 : (abs g c).room = 0 := by rw [hnx] at hs ⊢; exact oChk_none hchk hs
        refine At.op rfl (op_move rfl rfl ?_)
        refine At.op rfl (op_extractL rfl .zero rfl ?_)
        refine At.op rfl (op_extractL rfl (.succ .zero) rfl ?_)
        refine At.op rfl (op_alloc Tryd.zeroValue34 rfl rfl ?_)
        intro b13
        refine At.op rfl (op_storeW rfl rfl Tryd.sizeOf34 (List.forall_mem_cons.2 ⟨rfl, (List.forall_mem_cons.2 ⟨rfl, (fun _ h => by cases h)⟩)⟩) (by first | with_reducible exact Pull.p0 | with_reducible exact Pull.p1 | with_reducible exact Pull.p2 | with_reducible exact Pull.p3 | with_reducible exact Pull.p4 | with_reducible exact Pull.p5 | with_reducible exact Pull.p6 | with_reducible exact Pull.p7 | with_reducible exact Pull.p8 | with_reducible exact Pull.p9) rfl rfl ?_)
        refine At.op rfl (op_assign rfl rfl ?_)
        refine At.nil ?_
        refine At.then_n ?_
        refine At.seq ?_
        refine At.seq ?_
        refine At.region ?_
        refine At.op rfl (op_move rfl rfl ?_)
        refine At.op rfl (op_bin rfl rfl (Bin.cast (v' := .bool true) b_ne (congrArg Value.bool (by rw [decide_eq_false (by decide)]; rfl))) rfl ?_)
        refine At.nil ?_
        refine At.then_n ?_
        refine At.cond_t rfl ?_
        refine At.seq ?_
        refine At.region ?_
        refine At.op rfl (op_move rfl rfl ?_)
        refine At.op rfl (op_bin rfl rfl (Bin.cast (v' := .bool true) b_eq (congrArg Value.bool (decide_eq_true rfl))) rfl ?_)
        refine At.op rfl (op_move rfl rfl ?_)
        refine At.opg rfl rfl rfl (op_move rfl rfl ?_)
        refine At.opg rfl rfl rfl (op_bin rfl rfl (Bin.cast (v' := .bool true) b_eq (by rw [hroom0]; rfl)) rfl ?_)
        refine At.op rfl (op_pick_t rfl rfl rfl ?_)
        refine At.op rfl (op_assign rfl rfl ?_)
        refine At.nil ?_
        refine At.then_n ?_
        refine At.ret ?_
        refine At.then_r ?_
        refine At.blk_r ?_
        refine At.then_r ?_
        refine At.then_r ?_
        refine At.blk_r ?_
        refine At.then_r ?_
        exact At.fin1 rfl rfl rfl ⟨rfl, rfl⟩ .nil
      ·
        obtain ⟨sb, pa, pc, rfl, rfl⟩ := hp
        obtain ⟨hc1, ho1, ha1, hs1, hs2, hs3⟩ := app_step hc ho hs sb (putS 3 g.seq [120]) (by rw [putS_length _ _ _ (by decide)]; decide) pa pc
        obtain ⟨hr1, hchk1⟩ : ((abs g c).app 0).room = (abs g c).room - 1 ∧ oChk aa (40 - (k + 1)) (k + 1) ((abs g c).app 0) = true := by
          rw [show 40 - (k + 1) = f by omega]
          rw [hnx] at hs ⊢
          exact oChk_some hchk hs
        refine At.app3 ?_
        refine At.cut (rs' := [chipR (c.prog i (c.next i).toNat sb (putS 3 g.seq [120]) pa pc), logRow (Lg.mk g.lb g.mb i (g.seq + 1) g.ret g.clock) c.cb, logMap g, mapP hm (ks)]) (.cons (by first | exact Pull.p0 | exact Pull.p1 | exact Pull.p2 | exact Pull.p3 | exact Pull.p4 | exact Pull.p5 | exact Pull.p6 | exact Pull.p7 | exact Pull.p8 | exact Pull.p9) (.cons (by first | exact Pull.p0 | exact Pull.p1 | exact Pull.p2 | exact Pull.p3 | exact Pull.p4 | exact Pull.p5 | exact Pull.p6 | exact Pull.p7 | exact Pull.p8 | exact Pull.p9) (.cons (by first | exact Pull.p0 | exact Pull.p1 | exact Pull.p2 | exact Pull.p3 | exact Pull.p4 | exact Pull.p5 | exact Pull.p6 | exact Pull.p7 | exact Pull.p8 | exact Pull.p9) (.cons (by first | exact Pull.p0 | exact Pull.p1 | exact Pull.p2 | exact Pull.p3 | exact Pull.p4 | exact Pull.p5 | exact Pull.p6 | exact Pull.p7 | exact Pull.p8 | exact Pull.p9) .nil)))) ?_
        have hrb1 := hrb g
        have hkx : (i, (c.next i).toNat) ∉ ks := by rw [hks, hs3]; decide
        refine At.op rfl (op_move rfl rfl ?_)
        refine At.op rfl (op_extractL rfl .zero rfl ?_)
        refine At.op rfl (op_extractL rfl (.succ .zero) rfl ?_)
        refine At.op rfl (op_alloc Tryd.zeroValue34 rfl rfl ?_)
        intro b13
        refine At.op rfl (op_storeW rfl rfl Tryd.sizeOf34 (List.forall_mem_cons.2 ⟨rfl, (List.forall_mem_cons.2 ⟨rfl, (fun _ h => by cases h)⟩)⟩) (by first | with_reducible exact Pull.p0 | with_reducible exact Pull.p1 | with_reducible exact Pull.p2 | with_reducible exact Pull.p3 | with_reducible exact Pull.p4 | with_reducible exact Pull.p5 | with_reducible exact Pull.p6 | with_reducible exact Pull.p7 | with_reducible exact Pull.p8 | with_reducible exact Pull.p9) rfl rfl ?_)
        refine At.op rfl (op_assign rfl rfl ?_)
        refine At.nil ?_
        refine At.then_n ?_
        refine At.seq ?_
        refine At.seq ?_
        refine At.region ?_
        refine At.op rfl (op_move rfl rfl ?_)
        refine At.op rfl (op_bin rfl rfl (Bin.cast (v' := .bool false) b_ne (congrArg Value.bool (by rw [decide_eq_true rfl]; rfl))) rfl ?_)
        refine At.nil ?_
        refine At.then_n ?_
        refine At.cond_f rfl ?_
        refine At.skip ?_
        refine At.then_n ?_
        refine At.seq ?_
        refine At.keep [(0, _), (1, _), (5, _), (8, _), (9, _), (6, _), (12, _), (13, _)] (.cons rfl (.cons rfl (.cons rfl (.cons rfl (.cons rfl (.cons rfl (.cons rfl (.cons rfl .nil)))))))) ?_
        refine At.drawE (rs' := [mapP hm (ks ++ [(i, (c.next i).toNat)]), row b13 [i64 i, i64 (c.next i).toNat] 34 (0, 0), chipR (c.prog i (c.next i).toNat sb (putS 3 g.seq [120]) pa pc), logRow (Lg.mk g.lb g.mb i (g.seq + 1) g.ret g.clock) c.cb, logMap g]) [4, 6] [[mapQ hm ks (i, (c.next i).toNat), row b13 [i64 i, i64 (c.next i).toNat] 34 (0, 0), chipR (c.prog i (c.next i).toNat sb (putS 3 g.seq [120]) pa pc), logRow (Lg.mk g.lb g.mb i (g.seq + 1) g.ret g.clock) c.cb, logMap g], [mapP hm (ks ++ [(i, (c.next i).toNat)]), row b13 [i64 i, i64 (c.next i).toNat] 34 (0, 0), chipR (c.prog i (c.next i).toNat sb (putS 3 g.seq [120]) pa pc), logRow (Lg.mk g.lb g.mb i (g.seq + 1) g.ret g.clock) c.cb, logMap g]] [_, _, _, _, _, _, undef] (by kernel_rfl) (by decide) (by kernel_rfl) (by decide) rfl 
          (.quiet 0 (by kernel_rfl) (by kernel_rfl) (.cons (Step.op rfl (fun D h1 h2 h3 K hK => op_move (mD_base rfl rfl) rfl hK)) .nil)
          (.quiet 0 (by kernel_rfl) (by kernel_rfl) (.cons (Step.op rfl (fun D h1 h2 h3 K hK => op_loadW (mD_base rfl rfl) Tryd.isAgg34 Tryd.sizeOf34 (by first | with_reducible exact Pull.p0 | with_reducible exact Pull.p1 | with_reducible exact Pull.p2 | with_reducible exact Pull.p3 | with_reducible exact Pull.p4 | with_reducible exact Pull.p5 | with_reducible exact Pull.p6 | with_reducible exact Pull.p7 | with_reducible exact Pull.p8 | with_reducible exact Pull.p9) rfl rfl hK)) .nil)
          (.quiet 1 (by kernel_rfl) (by kernel_rfl) (.cons (Step.op rfl (fun D h1 h2 h3 K hK => op_lookup0 (mD_done 0 (by decide) (pre_at h2 0 rfl rfl) rfl rfl rfl) (mD_done 1 (by decide) (pre_at h2 1 rfl rfl) rfl rfl rfl) Tryd.underlying31 pkey Tryd.zeroValue3 hkx (by first | exact Pull.p0 | exact Pull.p1 | exact Pull.p2 | exact Pull.p3 | exact Pull.p4 | exact Pull.p5 | exact Pull.p6 | exact Pull.p7 | exact Pull.p8 | exact Pull.p9) rfl hK)) (.cons (Step.op rfl (fun D h1 h2 h3 K hK => op_lookupQ (mD_done 0 (by decide) (pre_at h2 0 rfl rfl) rfl rfl rfl) (mD_done 1 (by decide) (pre_at h2 1 rfl rfl) rfl rfl rfl) Tryd.underlying31 pkey Tryd.zeroValue3 hkx (by first | exact Pull.p0 | exact Pull.p1 | exact Pull.p2 | exact Pull.p3 | exact Pull.p4 | exact Pull.p5 | exact Pull.p6 | exact Pull.p7 | exact Pull.p8 | exact Pull.p9) rfl hK)) .nil))
          (.quiet 1 (by kernel_rfl) (by kernel_rfl) (.cons (Step.op rfl (fun D h1 h2 h3 K hK => op_bin (mD_done 2 (by decide) (pre_at h2 0 rfl rfl) rfl rfl rfl) rfl (Bin.cast (v' := i64 1) (b_add (by decide) (by decide)) rfl) rfl hK)) (.cons (Step.op rfl (fun D h1 h2 h3 K hK => op_bin (mD_done 2 (by decide) (pre_at h2 0 rfl rfl) rfl rfl rfl) rfl (Bin.cast (v' := i64 1) (b_add (by decide) (by decide)) rfl) rfl hK)) .nil))
          (.eff 0 rfl (by kernel_rfl) (by kernel_rfl) rfl rfl (Last.op rfl (fun D h2 K hK => op_mapEntry (mD_done 0 (by decide) (pre_at h2 0 rfl rfl) rfl rfl rfl) (mD_done 1 (by decide) (pre_at h2 1 rfl rfl) rfl rfl rfl) Tryd.underlying31 pkey Tryd.zeroValue3 hkx (by first | exact Pull.p0 | exact Pull.p1 | exact Pull.p2 | exact Pull.p3 | exact Pull.p4 | exact Pull.p5 | exact Pull.p6 | exact Pull.p7 | exact Pull.p8 | exact Pull.p9) rfl (by exact hK)))
          (.quiet 1 (by kernel_rfl) (by kernel_rfl) (.cons (Step.op rfl (fun D h1 h2 h3 K hK => op_extractL (mD_done 4 (by decide) (pre_at h2 0 rfl rfl) rfl rfl rfl) (.succ .zero) rfl hK)) (.cons (Step.op rfl (fun D h1 h2 h3 K hK => op_extractL (mD_done 4 (by decide) (pre_at h2 0 rfl rfl) rfl rfl rfl) (.succ .zero) rfl hK)) .nil))
          (.eff 1 rfl (by kernel_rfl) (by kernel_rfl) rfl rfl (Last.op rfl (fun D h2 K hK => op_entryStore (mD_done 0 (by decide) (pre_at h2 0 rfl rfl) rfl rfl rfl) (mD_done 5 (by decide) (pre_at h2 1 rfl rfl) rfl rfl rfl) (mD_done 3 (by decide) (pre_at h2 2 rfl rfl) rfl rfl rfl) (by first | exact Pull.p0 | exact Pull.p1 | exact Pull.p2 | exact Pull.p3 | exact Pull.p4 | exact Pull.p5 | exact Pull.p6 | exact Pull.p7 | exact Pull.p8 | exact Pull.p9) (by exact hK)))
          .nil))))))) ?_
        refine At.keep [(0, _), (1, _), (5, _), (8, _), (9, _), (6, _), (12, _), (13, _)] (.cons rfl (.cons rfl (.cons rfl (.cons rfl (.cons rfl (.cons rfl (.cons rfl (.cons rfl .nil)))))))) ?_
        refine At.then_n ?_
        refine At.seq ?_
        refine At.drawC [_, _, _, _, _, _, _, _, _, _, _, _, _, _, _, _, _, _] (by kernel_rfl) (by decide) (by kernel_rfl) 
          (Steps'.cons (Step.op rfl (fun D h1 h2 h3 K hK => op_move (mD_base rfl rfl) rfl hK))
          (Steps'.cons (Step.op rfl (fun D h1 h2 h3 K hK => op_loadW (mD_base rfl rfl) Tryd.isAgg34 Tryd.sizeOf34 (by first | with_reducible exact Pull.p0 | with_reducible exact Pull.p1 | with_reducible exact Pull.p2 | with_reducible exact Pull.p3 | with_reducible exact Pull.p4 | with_reducible exact Pull.p5 | with_reducible exact Pull.p6 | with_reducible exact Pull.p7 | with_reducible exact Pull.p8 | with_reducible exact Pull.p9) rfl rfl hK))
          (Steps'.cons (Step.op rfl (fun D h1 h2 h3 K hK => op_lookup1 (mD_done 0 (by decide) (pre_at h2 0 rfl rfl) rfl rfl rfl) (mD_done 1 (by decide) (pre_at h2 1 rfl rfl) rfl rfl rfl) Tryd.underlying31 pkey Tryd.zeroValue3 hkx (by first | exact Pull.p0 | exact Pull.p1 | exact Pull.p2 | exact Pull.p3 | exact Pull.p4 | exact Pull.p5 | exact Pull.p6 | exact Pull.p7 | exact Pull.p8 | exact Pull.p9) rfl hK))
          (Steps'.cons (Step.op rfl (fun D h1 h2 h3 K hK => op_bin (mD_done 2 (by decide) (pre_at h2 0 rfl rfl) rfl rfl rfl) rfl (Bin.cast (v' := .bool false) b_ne (congrArg Value.bool (by rw [decide_eq_true rfl]; rfl))) rfl hK))
          (Steps'.cons (Step.op rfl (fun D h1 h2 h3 K hK => op_move (mD_done 3 (by decide) (pre_at h2 0 rfl rfl) rfl rfl rfl) rfl hK))
          (Steps'.cons (Step.opg rfl rfl (fun D h2 => mD_done 4 (by decide) (pre_at h2 0 rfl rfl) rfl rfl rfl) (fun D h1 h2 h3 K hK => op_move (mD_base rfl rfl) rfl hK))
          (Steps'.cons (Step.opg rfl rfl (fun D h2 => mD_done 4 (by decide) (pre_at h2 1 rfl rfl) rfl rfl rfl) (fun D h1 h2 h3 K hK => op_callQ (evs_cons (mD_done 5 (by decide) (pre_at h2 0 rfl rfl) rfl rfl rfl) evs_nil) Tryd.call9 (by have := seglog_Room (G := G) (c.prog i (c.next i).toNat sb (putS 3 g.seq [120]) pa pc) hc1 (Lg.mk g.lb g.mb i (g.seq + 1) g.ret g.clock) ho1; rw [ha1, hr1] at this; exact this) (.cons (by first | exact Pull.p0 | exact Pull.p1 | exact Pull.p2 | exact Pull.p3 | exact Pull.p4 | exact Pull.p5 | exact Pull.p6 | exact Pull.p7 | exact Pull.p8 | exact Pull.p9) (.cons (by first | exact Pull.p0 | exact Pull.p1 | exact Pull.p2 | exact Pull.p3 | exact Pull.p4 | exact Pull.p5 | exact Pull.p6 | exact Pull.p7 | exact Pull.p8 | exact Pull.p9) (.cons (by first | exact Pull.p0 | exact Pull.p1 | exact Pull.p2 | exact Pull.p3 | exact Pull.p4 | exact Pull.p5 | exact Pull.p6 | exact Pull.p7 | exact Pull.p8 | exact Pull.p9) .nil))) rfl hK))
          (Steps'.cons (Step.opg rfl rfl (fun D h2 => mD_done 4 (by decide) (pre_at h2 0 rfl rfl) rfl rfl rfl) (fun D h1 h2 h3 K hK => op_move (mD_base rfl rfl) rfl hK))
          (Steps'.cons (Step.opg rfl rfl (fun D h2 => mD_done 4 (by decide) (pre_at h2 1 rfl rfl) rfl rfl rfl) (fun D h1 h2 h3 K hK => op_bin (mD_done 7 (by decide) (pre_at h2 0 rfl rfl) rfl rfl rfl) rfl (b_sub (by omega) (by omega)) rfl hK))
          (Steps'.cons (Step.opg rfl rfl (fun D h2 => mD_done 4 (by decide) (pre_at h2 2 rfl rfl) rfl rfl rfl) (fun D h1 h2 h3 K hK => op_bin (mD_done 6 (by decide) (pre_at h2 0 rfl rfl) rfl rfl rfl) (mD_done 8 (by decide) (pre_at h2 1 rfl rfl) rfl rfl rfl) (Bin.cast (v' := .bool false) b_ne (congrArg Value.bool (by rw [decide_eq_true rfl]; rfl))) rfl hK))
          (Steps'.cons (Step.op rfl (fun D h1 h2 h3 K hK => op_pick_f (mD_done 4 (by decide) (pre_at h2 0 rfl rfl) rfl rfl rfl) (mD_done 9 (by decide) (pre_at h2 1 rfl rfl) rfl rfl rfl) rfl hK))
          (Steps'.cons (Step.op rfl (fun D h1 h2 h3 K hK => op_move (mD_done 10 (by decide) (pre_at h2 0 rfl rfl) rfl rfl rfl) rfl hK))
          (Steps'.cons (Step.opg rfl rfl (fun D h2 => mD_done 11 (by decide) (pre_at h2 0 rfl rfl) rfl rfl rfl) (fun D h1 h2 h3 K hK => op_fieldAddr (o' := 0) (mD_base rfl rfl) Tryd.underlying34 rfl Tryd.sizeOf3 rfl rfl hK))
          (Steps'.cons (Step.opg rfl rfl (fun D h2 => mD_done 11 (by decide) (pre_at h2 1 rfl rfl) rfl rfl rfl) (fun D h1 h2 h3 K hK => op_load (mD_done 12 (by decide) (pre_at h2 0 rfl rfl) rfl rfl rfl) Tryd.isAgg3 (by first | with_reducible exact Pull.p0 | with_reducible exact Pull.p1 | with_reducible exact Pull.p2 | with_reducible exact Pull.p3 | with_reducible exact Pull.p4 | with_reducible exact Pull.p5 | with_reducible exact Pull.p6 | with_reducible exact Pull.p7 | with_reducible exact Pull.p8 | with_reducible exact Pull.p9) rfl rfl hK))
          (Steps'.cons (Step.opg rfl rfl (fun D h2 => mD_done 11 (by decide) (pre_at h2 0 rfl rfl) rfl rfl rfl) (fun D h1 h2 h3 K hK => op_move (mD_base rfl rfl) rfl hK))
          (Steps'.cons (Step.opg rfl rfl (fun D h2 => mD_done 11 (by decide) (pre_at h2 1 rfl rfl) rfl rfl rfl) (fun D h1 h2 h3 K hK => op_callQ (evs_cons (mD_done 14 (by decide) (pre_at h2 0 rfl rfl) rfl rfl rfl) evs_nil) Tryd.call8 (seglog_Open c.cb (Lg.mk g.lb g.mb i (g.seq + 1) g.ret g.clock)) (.cons (by first | exact Pull.p0 | exact Pull.p1 | exact Pull.p2 | exact Pull.p3 | exact Pull.p4 | exact Pull.p5 | exact Pull.p6 | exact Pull.p7 | exact Pull.p8 | exact Pull.p9) .nil) rfl hK))
          (Steps'.cons (Step.opg rfl rfl (fun D h2 => mD_done 11 (by decide) (pre_at h2 2 rfl rfl) rfl rfl rfl) (fun D h1 h2 h3 K hK => op_bin (mD_done 13 (by decide) (pre_at h2 0 rfl rfl) rfl rfl rfl) (mD_done 15 (by decide) (pre_at h2 1 rfl rfl) rfl rfl rfl) (Bin.cast (v' := .bool false) b_ne (congrArg Value.bool (by rw [decide_eq_true rfl]; rfl))) rfl hK))
          (Steps'.cons (Step.op rfl (fun D h1 h2 h3 K hK => op_pick_f (mD_done 11 (by decide) (pre_at h2 0 rfl rfl) rfl rfl rfl) (mD_done 16 (by decide) (pre_at h2 1 rfl rfl) rfl rfl rfl) rfl hK))
          Steps'.nil)))))))))))))))))) ?_
        refine At.keep [(0, _), (1, _), (5, _), (8, _), (9, _), (6, _), (100, _)] (.cons rfl (.cons rfl (.cons rfl (.cons rfl (.cons rfl (.cons rfl (.cons rfl .nil))))))) ?_
        refine At.then_n ?_
        refine At.cond_f rfl ?_
        refine At.skip ?_
        refine At.blk_n ?_
        refine At.then_n ?_
        refine At.region ?_
        refine At.op rfl (op_move rfl rfl ?_)
        refine At.op rfl (op_bin rfl rfl (b_add (by omega) (by omega)) rfl ?_)
        refine At.op rfl (op_assign rfl rfl ?_)
        refine At.nil ?_
        refine At.then_n ?_
        exact At.back (k + 1, (c.prog i (c.next i).toNat sb (putS 3 g.seq [120]) pa pc), (Lg.mk g.lb g.mb i (g.seq + 1) g.ret g.clock), ks ++ [(i, (c.next i).toNat)]) ⟨by dsimp only; omega, hc1, ho1, by dsimp only; rw [ha1]; exact hchk1, by simp [Chp.prog, hpl], by simp [hkl], o_ks hc hs1 hs2 hks, o_cont hc hs1 hs2 hcont, by dsimp only; rw [Chp.items_prog hc hs1 hs2 hs3, hit]⟩ (by dsimp only; omega) (.cons rfl (.cons rfl (.cons rfl (.cons rfl (.cons rfl (.cons rfl .nil)))))) (.cons (by first | exact Pull.p0 | exact Pull.p1 | exact Pull.p2 | exact Pull.p3 | exact Pull.p4 | exact Pull.p5 | exact Pull.p6 | exact Pull.p7 | exact Pull.p8 | exact Pull.p9) (.cons (by first | exact Pull.p0 | exact Pull.p1 | exact Pull.p2 | exact Pull.p3 | exact Pull.p4 | exact Pull.p5 | exact Pull.p6 | exact Pull.p7 | exact Pull.p8 | exact Pull.p9) (.cons (by first | exact Pull.p0 | exact Pull.p1 | exact Pull.p2 | exact Pull.p3 | exact Pull.p4 | exact Pull.p5 | exact Pull.p6 | exact Pull.p7 | exact Pull.p8 | exact Pull.p9) (.cons (by first | exact Pull.p0 | exact Pull.p1 | exact Pull.p2 | exact Pull.p3 | exact Pull.p4 | exact Pull.p5 | exact Pull.p6 | exact Pull.p7 | exact Pull.p8 | exact Pull.p9) .nil))))
    ·
      have hnx : abs g c = nxA aa k a0 := by
        rw [nxA, show Nat.beq k aa = false from Bool.eq_false_iff.2 (fun h => haa (by have := Nat.eq_of_beq_eq_true h; omega)), ha0]; rfl
      refine At.skip ?_
      refine At.then_n ?_
      refine At.seq ?_
      refine At.region ?_
      refine At.op rfl (op_move rfl rfl ?_)
      refine At.op rfl (op_callQ rfl Tryd.call9 (seglog_Room c hc g ho) (.cons (by first | with_reducible exact Pull.p0 | with_reducible exact Pull.p1 | with_reducible exact Pull.p2 | with_reducible exact Pull.p3 | with_reducible exact Pull.p4 | with_reducible exact Pull.p5 | with_reducible exact Pull.p6 | with_reducible exact Pull.p7 | with_reducible exact Pull.p8 | with_reducible exact Pull.p9) (.cons (by first | with_reducible exact Pull.p0 | with_reducible exact Pull.p1 | with_reducible exact Pull.p2 | with_reducible exact Pull.p3 | with_reducible exact Pull.p4 | with_reducible exact Pull.p5 | with_reducible exact Pull.p6 | with_reducible exact Pull.p7 | with_reducible exact Pull.p8 | with_reducible exact Pull.p9) (.cons (by first | with_reducible exact Pull.p0 | with_reducible exact Pull.p1 | with_reducible exact Pull.p2 | with_reducible exact Pull.p3 | with_reducible exact Pull.p4 | with_reducible exact Pull.p5 | with_reducible exact Pull.p6 | with_reducible exact Pull.p7 | with_reducible exact Pull.p8 | with_reducible exact Pull.p9) .nil))) rfl ?_)
      refine At.op rfl (op_assign rfl rfl ?_)
      refine At.nil ?_
      refine At.then_n ?_
      refine At.seq ?_
      refine At.keep [(0, _), (1, _), (5, _), (6, _), (8, _), (9, _), (12, _)] (.cons rfl (.cons rfl (.cons rfl (.cons rfl (.cons rfl (.cons rfl (.cons rfl .nil))))))) ?_
      refine At.region ?_
      refine At.op rfl (op_move rfl rfl ?_)
      refine At.op rfl (op_callF rfl Tryd.call10 (seglog_Append hG c hc g ho 3 [120] 0 (by decide) (by decide) (by omega)) (.cons (by first | with_reducible exact Pull.p0 | with_reducible exact Pull.p1 | with_reducible exact Pull.p2 | with_reducible exact Pull.p3 | with_reducible exact Pull.p4 | with_reducible exact Pull.p5 | with_reducible exact Pull.p6 | with_reducible exact Pull.p7 | with_reducible exact Pull.p8 | with_reducible exact Pull.p9) (.cons (by first | with_reducible exact Pull.p0 | with_reducible exact Pull.p1 | with_reducible exact Pull.p2 | with_reducible exact Pull.p3 | with_reducible exact Pull.p4 | with_reducible exact Pull.p5 | with_reducible exact Pull.p6 | with_reducible exact Pull.p7 | with_reducible exact Pull.p8 | with_reducible exact Pull.p9) (.cons (by first | with_reducible exact Pull.p0 | with_reducible exact Pull.p1 | with_reducible exact Pull.p2 | with_reducible exact Pull.p3 | with_reducible exact Pull.p4 | with_reducible exact Pull.p5 | with_reducible exact Pull.p6 | with_reducible exact Pull.p7 | with_reducible exact Pull.p8 | with_reducible exact Pull.p9) .nil))) rfl ?_)
      intro v rs2 hp
      rcases hs : (abs g c).appSeg 0 with _ | i <;> rw [hs] at hp
      ·
        obtain ⟨rfl, rfl⟩ := hp
        refine At.app3 ?_
        have hroom0 : (abs g c).room = 0 := by rw [hnx] at hs ⊢; exact oChk_none hchk hs
        refine At.op rfl (op_move rfl rfl ?_)
        refine At.op rfl (op_extractL rfl .zero rfl ?_)
        refine At.op rfl (op_extractL rfl (.succ .zero) rfl ?_)
        refine At.op rfl (op_alloc Tryd.zeroValue34 rfl rfl ?_)
        intro b13
        refine At.op rfl (op_storeW rfl rfl Tryd.sizeOf34 (List.forall_mem_cons.2 ⟨rfl, (List.forall_mem_cons.2 ⟨rfl, (fun _ h => by cases h)⟩)⟩) (by first | with_reducible exact Pull.p0 | with_reducible exact Pull.p1 | with_reducible exact Pull.p2 | with_reducible exact Pull.p3 | with_reducible exact Pull.p4 | with_reducible exact Pull.p5 | with_reducible exact Pull.p6 | with_reducible exact Pull.p7 | with_reducible exact Pull.p8 | with_reducible exact Pull.p9) rfl rfl ?_)
        refine At.op rfl (op_assign rfl rfl ?_)
        refine At.nil ?_
        refine At.then_n ?_
        refine At.seq ?_
        refine At.seq ?_
        refine At.region ?_
        refine At.op rfl (op_move rfl rfl ?_)
        refine At.op rfl (op_bin rfl rfl (Bin.cast (v' := .bool true) b_ne (congrArg Value.bool (by rw [decide_eq_false (by decide)]; rfl))) rfl ?_)
        refine At.nil ?_
        refine At.then_n ?_
        refine At.cond_t rfl ?_
        refine At.seq ?_
        refine At.region ?_
        refine At.op rfl (op_move rfl rfl ?_)
        refine At.op rfl (op_bin rfl rfl (Bin.cast (v' := .bool true) b_eq (congrArg Value.bool (decide_eq_true rfl))) rfl ?_)
        refine At.op rfl (op_move rfl rfl ?_)
        refine At.opg rfl rfl rfl (op_move rfl rfl ?_)
        refine At.opg rfl rfl rfl (op_bin rfl rfl (Bin.cast (v' := .bool true) b_eq (by rw [hroom0]; rfl)) rfl ?_)
        refine At.op rfl (op_pick_t rfl rfl rfl ?_)
        refine At.op rfl (op_assign rfl rfl ?_)
        refine At.nil ?_
        refine At.then_n ?_
        refine At.ret ?_
        refine At.then_r ?_
        refine At.blk_r ?_
        refine At.then_r ?_
        refine At.then_r ?_
        refine At.blk_r ?_
        refine At.then_r ?_
        exact At.fin1 rfl rfl rfl ⟨rfl, rfl⟩ .nil
      ·
        obtain ⟨sb, pa, pc, rfl, rfl⟩ := hp
        obtain ⟨hc1, ho1, ha1, hs1, hs2, hs3⟩ := app_step hc ho hs sb (putS 3 g.seq [120]) (by rw [putS_length _ _ _ (by decide)]; decide) pa pc
        obtain ⟨hr1, hchk1⟩ : ((abs g c).app 0).room = (abs g c).room - 1 ∧ oChk aa (40 - (k + 1)) (k + 1) ((abs g c).app 0) = true := by
          rw [show 40 - (k + 1) = f by omega]
          rw [hnx] at hs ⊢
          exact oChk_some hchk hs
        refine At.app3 ?_
        refine At.cut (rs' := [chipR (c.prog i (c.next i).toNat sb (putS 3 g.seq [120]) pa pc), logRow (Lg.mk g.lb g.mb i (g.seq + 1) g.ret g.clock) c.cb, logMap g, mapP hm (ks)]) (.cons (by first | exact Pull.p0 | exact Pull.p1 | exact Pull.p2 | exact Pull.p3 | exact Pull.p4 | exact Pull.p5 | exact Pull.p6 | exact Pull.p7 | exact Pull.p8 | exact Pull.p9) (.cons (by first | exact Pull.p0 | exact Pull.p1 | exact Pull.p2 | exact Pull.p3 | exact Pull.p4 | exact Pull.p5 | exact Pull.p6 | exact Pull.p7 | exact Pull.p8 | exact Pull.p9) (.cons (by first | exact Pull.p0 | exact Pull.p1 | exact Pull.p2 | exact Pull.p3 | exact Pull.p4 | exact Pull.p5 | exact Pull.p6 | exact Pull.p7 | exact Pull.p8 | exact Pull.p9) (.cons (by first | exact Pull.p0 | exact Pull.p1 | exact Pull.p2 | exact Pull.p3 | exact Pull.p4 | exact Pull.p5 | exact Pull.p6 | exact Pull.p7 | exact Pull.p8 | exact Pull.p9) .nil)))) ?_
        have hrb1 := hrb g
        have hkx : (i, (c.next i).toNat) ∉ ks := by rw [hks, hs3]; decide
        refine At.op rfl (op_move rfl rfl ?_)
        refine At.op rfl (op_extractL rfl .zero rfl ?_)
        refine At.op rfl (op_extractL rfl (.succ .zero) rfl ?_)
        refine At.op rfl (op_alloc Tryd.zeroValue34 rfl rfl ?_)
        intro b13
        refine At.op rfl (op_storeW rfl rfl Tryd.sizeOf34 (List.forall_mem_cons.2 ⟨rfl, (List.forall_mem_cons.2 ⟨rfl, (fun _ h => by cases h)⟩)⟩) (by first | with_reducible exact Pull.p0 | with_reducible exact Pull.p1 | with_reducible exact Pull.p2 | with_reducible exact Pull.p3 | with_reducible exact Pull.p4 | with_reducible exact Pull.p5 | with_reducible exact Pull.p6 | with_reducible exact Pull.p7 | with_reducible exact Pull.p8 | with_reducible exact Pull.p9) rfl rfl ?_)
        refine At.op rfl (op_assign rfl rfl ?_)
        refine At.nil ?_
        refine At.then_n ?_
        refine At.seq ?_
        refine At.seq ?_
        refine At.region ?_
        refine At.op rfl (op_move rfl rfl ?_)
        refine At.op rfl (op_bin rfl rfl (Bin.cast (v' := .bool false) b_ne (congrArg Value.bool (by rw [decide_eq_true rfl]; rfl))) rfl ?_)
        refine At.nil ?_
        refine At.then_n ?_
        refine At.cond_f rfl ?_
        refine At.skip ?_
        refine At.then_n ?_
        refine At.seq ?_
        refine At.drawE (rs' := [mapP hm (ks ++ [(i, (c.next i).toNat)]), row b13 [i64 i, i64 (c.next i).toNat] 34 (0, 0), chipR (c.prog i (c.next i).toNat sb (putS 3 g.seq [120]) pa pc), logRow (Lg.mk g.lb g.mb i (g.seq + 1) g.ret g.clock) c.cb, logMap g]) [4, 6] [[mapQ hm ks (i, (c.next i).toNat), row b13 [i64 i, i64 (c.next i).toNat] 34 (0, 0), chipR (c.prog i (c.next i).toNat sb (putS 3 g.seq [120]) pa pc), logRow (Lg.mk g.lb g.mb i (g.seq + 1) g.ret g.clock) c.cb, logMap g], [mapP hm (ks ++ [(i, (c.next i).toNat)]), row b13 [i64 i, i64 (c.next i).toNat] 34 (0, 0), chipR (c.prog i (c.next i).toNat sb (putS 3 g.seq [120]) pa pc), logRow (Lg.mk g.lb g.mb i (g.seq + 1) g.ret g.clock) c.cb, logMap g]] [_, _, _, _, _, _, undef] (by kernel_rfl) (by decide) (by kernel_rfl) (by decide) rfl 
          (.quiet 0 (by kernel_rfl) (by kernel_rfl) (.cons (Step.op rfl (fun D h1 h2 h3 K hK => op_move (mD_base rfl rfl) rfl hK)) .nil)
          (.quiet 0 (by kernel_rfl) (by kernel_rfl) (.cons (Step.op rfl (fun D h1 h2 h3 K hK => op_loadW (mD_base rfl rfl) Tryd.isAgg34 Tryd.sizeOf34 (by first | with_reducible exact Pull.p0 | with_reducible exact Pull.p1 | with_reducible exact Pull.p2 | with_reducible exact Pull.p3 | with_reducible exact Pull.p4 | with_reducible exact Pull.p5 | with_reducible exact Pull.p6 | with_reducible exact Pull.p7 | with_reducible exact Pull.p8 | with_reducible exact Pull.p9) rfl rfl hK)) .nil)
          (.quiet 1 (by kernel_rfl) (by kernel_rfl) (.cons (Step.op rfl (fun D h1 h2 h3 K hK => op_lookup0 (mD_done 0 (by decide) (pre_at h2 0 rfl rfl) rfl rfl rfl) (mD_done 1 (by decide) (pre_at h2 1 rfl rfl) rfl rfl rfl) Tryd.underlying31 pkey Tryd.zeroValue3 hkx (by first | exact Pull.p0 | exact Pull.p1 | exact Pull.p2 | exact Pull.p3 | exact Pull.p4 | exact Pull.p5 | exact Pull.p6 | exact Pull.p7 | exact Pull.p8 | exact Pull.p9) rfl hK)) (.cons (Step.op rfl (fun D h1 h2 h3 K hK => op_lookupQ (mD_done 0 (by decide) (pre_at h2 0 rfl rfl) rfl rfl rfl) (mD_done 1 (by decide) (pre_at h2 1 rfl rfl) rfl rfl rfl) Tryd.underlying31 pkey Tryd.zeroValue3 hkx (by first | exact Pull.p0 | exact Pull.p1 | exact Pull.p2 | exact Pull.p3 | exact Pull.p4 | exact Pull.p5 | exact Pull.p6 | exact Pull.p7 | exact Pull.p8 | exact Pull.p9) rfl hK)) .nil))
          (.quiet 1 (by kernel_rfl) (by kernel_rfl) (.cons (Step.op rfl (fun D h1 h2 h3 K hK => op_bin (mD_done 2 (by decide) (pre_at h2 0 rfl rfl) rfl rfl rfl) rfl (Bin.cast (v' := i64 1) (b_add (by decide) (by decide)) rfl) rfl hK)) (.cons (Step.op rfl (fun D h1 h2 h3 K hK => op_bin (mD_done 2 (by decide) (pre_at h2 0 rfl rfl) rfl rfl rfl) rfl (Bin.cast (v' := i64 1) (b_add (by decide) (by decide)) rfl) rfl hK)) .nil))
          (.eff 0 rfl (by kernel_rfl) (by kernel_rfl) rfl rfl (Last.op rfl (fun D h2 K hK => op_mapEntry (mD_done 0 (by decide) (pre_at h2 0 rfl rfl) rfl rfl rfl) (mD_done 1 (by decide) (pre_at h2 1 rfl rfl) rfl rfl rfl) Tryd.underlying31 pkey Tryd.zeroValue3 hkx (by first | exact Pull.p0 | exact Pull.p1 | exact Pull.p2 | exact Pull.p3 | exact Pull.p4 | exact Pull.p5 | exact Pull.p6 | exact Pull.p7 | exact Pull.p8 | exact Pull.p9) rfl (by exact hK)))
          (.quiet 1 (by kernel_rfl) (by kernel_rfl) (.cons (Step.op rfl (fun D h1 h2 h3 K hK => op_extractL (mD_done 4 (by decide) (pre_at h2 0 rfl rfl) rfl rfl rfl) (.succ .zero) rfl hK)) (.cons (Step.op rfl (fun D h1 h2 h3 K hK => op_extractL (mD_done 4 (by decide) (pre_at h2 0 rfl rfl) rfl rfl rfl) (.succ .zero) rfl hK)) .nil))
          (.eff 1 rfl (by kernel_rfl) (by kernel_rfl) rfl rfl (Last.op rfl (fun D h2 K hK => op_entryStore (mD_done 0 (by decide) (pre_at h2 0 rfl rfl) rfl rfl rfl) (mD_done 5 (by decide) (pre_at h2 1 rfl rfl) rfl rfl rfl) (mD_done 3 (by decide) (pre_at h2 2 rfl rfl) rfl rfl rfl) (by first | exact Pull.p0 | exact Pull.p1 | exact Pull.p2 | exact Pull.p3 | exact Pull.p4 | exact Pull.p5 | exact Pull.p6 | exact Pull.p7 | exact Pull.p8 | exact Pull.p9) (by exact hK)))
          .nil))))))) ?_
        refine At.keep [(0, _), (1, _), (5, _), (6, _), (8, _), (9, _), (12, _), (13, _)] (.cons rfl (.cons rfl (.cons rfl (.cons rfl (.cons rfl (.cons rfl (.cons rfl (.cons rfl .nil)))))))) ?_
        refine At.then_n ?_
        refine At.seq ?_
        refine At.drawC [_, _, _, _, _, _, _, _, _, _, _, _, _, _, _, _, _, _] (by kernel_rfl) (by decide) (by kernel_rfl) 
          (Steps'.cons (Step.op rfl (fun D h1 h2 h3 K hK => op_move (mD_base rfl rfl) rfl hK))
          (Steps'.cons (Step.op rfl (fun D h1 h2 h3 K hK => op_loadW (mD_base rfl rfl) Tryd.isAgg34 Tryd.sizeOf34 (by first | with_reducible exact Pull.p0 | with_reducible exact Pull.p1 | with_reducible exact Pull.p2 | with_reducible exact Pull.p3 | with_reducible exact Pull.p4 | with_reducible exact Pull.p5 | with_reducible exact Pull.p6 | with_reducible exact Pull.p7 | with_reducible exact Pull.p8 | with_reducible exact Pull.p9) rfl rfl hK))
          (Steps'.cons (Step.op rfl (fun D h1 h2 h3 K hK => op_lookup1 (mD_done 0 (by decide) (pre_at h2 0 rfl rfl) rfl rfl rfl) (mD_done 1 (by decide) (pre_at h2 1 rfl rfl) rfl rfl rfl) Tryd.underlying31 pkey Tryd.zeroValue3 hkx (by first | exact Pull.p0 | exact Pull.p1 | exact Pull.p2 | exact Pull.p3 | exact Pull.p4 | exact Pull.p5 | exact Pull.p6 | exact Pull.p7 | exact Pull.p8 | exact Pull.p9) rfl hK))
          (Steps'.cons (Step.op rfl (fun D h1 h2 h3 K hK => op_bin (mD_done 2 (by decide) (pre_at h2 0 rfl rfl) rfl rfl rfl) rfl (Bin.cast (v' := .bool false) b_ne (congrArg Value.bool (by rw [decide_eq_true rfl]; rfl))) rfl hK))
          (Steps'.cons (Step.op rfl (fun D h1 h2 h3 K hK => op_move (mD_done 3 (by decide) (pre_at h2 0 rfl rfl) rfl rfl rfl) rfl hK))
          (Steps'.cons (Step.opg rfl rfl (fun D h2 => mD_done 4 (by decide) (pre_at h2 0 rfl rfl) rfl rfl rfl) (fun D h1 h2 h3 K hK => op_move (mD_base rfl rfl) rfl hK))
          (Steps'.cons (Step.opg rfl rfl (fun D h2 => mD_done 4 (by decide) (pre_at h2 1 rfl rfl) rfl rfl rfl) (fun D h1 h2 h3 K hK => op_callQ (evs_cons (mD_done 5 (by decide) (pre_at h2 0 rfl rfl) rfl rfl rfl) evs_nil) Tryd.call9 (by have := seglog_Room (G := G) (c.prog i (c.next i).toNat sb (putS 3 g.seq [120]) pa pc) hc1 (Lg.mk g.lb g.mb i (g.seq + 1) g.ret g.clock) ho1; rw [ha1, hr1] at this; exact this) (.cons (by first | exact Pull.p0 | exact Pull.p1 | exact Pull.p2 | exact Pull.p3 | exact Pull.p4 | exact Pull.p5 | exact Pull.p6 | exact Pull.p7 | exact Pull.p8 | exact Pull.p9) (.cons (by first | exact Pull.p0 | exact Pull.p1 | exact Pull.p2 | exact Pull.p3 | exact Pull.p4 | exact Pull.p5 | exact Pull.p6 | exact Pull.p7 | exact Pull.p8 | exact Pull.p9) (.cons (by first | exact Pull.p0 | exact Pull.p1 | exact Pull.p2 | exact Pull.p3 | exact Pull.p4 | exact Pull.p5 | exact Pull.p6 | exact Pull.p7 | exact Pull.p8 | exact Pull.p9) .nil))) rfl hK))
          (Steps'.cons (Step.opg rfl rfl (fun D h2 => mD_done 4 (by decide) (pre_at h2 0 rfl rfl) rfl rfl rfl) (fun D h1 h2 h3 K hK => op_move (mD_base rfl rfl) rfl hK))
          (Steps'.cons (Step.opg rfl rfl (fun D h2 => mD_done 4 (by decide) (pre_at h2 1 rfl rfl) rfl rfl rfl) (fun D h1 h2 h3 K hK => op_bin (mD_done 7 (by decide) (pre_at h2 0 rfl rfl) rfl rfl rfl) rfl (b_sub (by omega) (by omega)) rfl hK))
          (Steps'.cons (Step.opg rfl rfl (fun D h2 => mD_done 4 (by decide) (pre_at h2 2 rfl rfl) rfl rfl rfl) (fun D h1 h2 h3 K hK => op_bin (mD_done 6 (by decide) (pre_at h2 0 rfl rfl) rfl rfl rfl) (mD_done 8 (by decide) (pre_at h2 1 rfl rfl) rfl rfl rfl) (Bin.cast (v' := .bool false) b_ne (congrArg Value.bool (by rw [decide_eq_true rfl]; rfl))) rfl hK))
          (Steps'.cons (Step.op rfl (fun D h1 h2 h3 K hK => op_pick_f (mD_done 4 (by decide) (pre_at h2 0 rfl rfl) rfl rfl rfl) (mD_done 9 (by decide) (pre_at h2 1 rfl rfl) rfl rfl rfl) rfl hK))
          (Steps'.cons (Step.op rfl (fun D h1 h2 h3 K hK => op_move (mD_done 10 (by decide) (pre_at h2 0 rfl rfl) rfl rfl rfl) rfl hK))
          (Steps'.cons (Step.opg rfl rfl (fun D h2 => mD_done 11 (by decide) (pre_at h2 0 rfl rfl) rfl rfl rfl) (fun D h1 h2 h3 K hK => op_fieldAddr (o' := 0) (mD_base rfl rfl) Tryd.underlying34 rfl Tryd.sizeOf3 rfl rfl hK))
          (Steps'.cons (Step.opg rfl rfl (fun D h2 => mD_done 11 (by decide) (pre_at h2 1 rfl rfl) rfl rfl rfl) (fun D h1 h2 h3 K hK => op_load (mD_done 12 (by decide) (pre_at h2 0 rfl rfl) rfl rfl rfl) Tryd.isAgg3 (by first | with_reducible exact Pull.p0 | with_reducible exact Pull.p1 | with_reducible exact Pull.p2 | with_reducible exact Pull.p3 | with_reducible exact Pull.p4 | with_reducible exact Pull.p5 | with_reducible exact Pull.p6 | with_reducible exact Pull.p7 | with_reducible exact Pull.p8 | with_reducible exact Pull.p9) rfl rfl hK))
          (Steps'.cons (Step.opg rfl rfl (fun D h2 => mD_done 11 (by decide) (pre_at h2 0 rfl rfl) rfl rfl rfl) (fun D h1 h2 h3 K hK => op_move (mD_base rfl rfl) rfl hK))
          (Steps'.cons (Step.opg rfl rfl (fun D h2 => mD_done 11 (by decide) (pre_at h2 1 rfl rfl) rfl rfl rfl) (fun D h1 h2 h3 K hK => op_callQ (evs_cons (mD_done 14 (by decide) (pre_at h2 0 rfl rfl) rfl rfl rfl) evs_nil) Tryd.call8 (seglog_Open c.cb (Lg.mk g.lb g.mb i (g.seq + 1) g.ret g.clock)) (.cons (by first | exact Pull.p0 | exact Pull.p1 | exact Pull.p2 | exact Pull.p3 | exact Pull.p4 | exact Pull.p5 | exact Pull.p6 | exact Pull.p7 | exact Pull.p8 | exact Pull.p9) .nil) rfl hK))
          (Steps'.cons (Step.opg rfl rfl (fun D h2 => mD_done 11 (by decide) (pre_at h2 2 rfl rfl) rfl rfl rfl) (fun D h1 h2 h3 K hK => op_bin (mD_done 13 (by decide) (pre_at h2 0 rfl rfl) rfl rfl rfl) (mD_done 15 (by decide) (pre_at h2 1 rfl rfl) rfl rfl rfl) (Bin.cast (v' := .bool false) b_ne (congrArg Value.bool (by rw [decide_eq_true rfl]; rfl))) rfl hK))
          (Steps'.cons (Step.op rfl (fun D h1 h2 h3 K hK => op_pick_f (mD_done 11 (by decide) (pre_at h2 0 rfl rfl) rfl rfl rfl) (mD_done 16 (by decide) (pre_at h2 1 rfl rfl) rfl rfl rfl) rfl hK))
          Steps'.nil)))))))))))))))))) ?_
        refine At.keep [(0, _), (1, _), (5, _), (6, _), (8, _), (9, _), (100, _)] (.cons rfl (.cons rfl (.cons rfl (.cons rfl (.cons rfl (.cons rfl (.cons rfl .nil))))))) ?_
        refine At.then_n ?_
        refine At.cond_f rfl ?_
        refine At.skip ?_
        refine At.blk_n ?_
        refine At.then_n ?_
        refine At.region ?_
        refine At.op rfl (op_move rfl rfl ?_)
        refine At.op rfl (op_bin rfl rfl (b_add (by omega) (by omega)) rfl ?_)
        refine At.op rfl (op_assign rfl rfl ?_)
        refine At.nil ?_
        refine At.then_n ?_
        exact At.back (k + 1, (c.prog i (c.next i).toNat sb (putS 3 g.seq [120]) pa pc), (Lg.mk g.lb g.mb i (g.seq + 1) g.ret g.clock), ks ++ [(i, (c.next i).toNat)]) ⟨by dsimp only; omega, hc1, ho1, by dsimp only; rw [ha1]; exact hchk1, by simp [Chp.prog, hpl], by simp [hkl], o_ks hc hs1 hs2 hks, o_cont hc hs1 hs2 hcont, by dsimp only; rw [Chp.items_prog hc hs1 hs2 hs3, hit]⟩ (by dsimp only; omega) (.cons rfl (.cons rfl (.cons rfl (.cons rfl (.cons rfl (.cons rfl .nil)))))) (.cons (by first | exact Pull.p0 | exact Pull.p1 | exact Pull.p2 | exact Pull.p3 | exact Pull.p4 | exact Pull.p5 | exact Pull.p6 | exact Pull.p7 | exact Pull.p8 | exact Pull.p9) (.cons (by first | exact Pull.p0 | exact Pull.p1 | exact Pull.p2 | exact Pull.p3 | exact Pull.p4 | exact Pull.p5 | exact Pull.p6 | exact Pull.p7 | exact Pull.p8 | exact Pull.p9) (.cons (by first | exact Pull.p0 | exact Pull.p1 | exact Pull.p2 | exact Pull.p3 | exact Pull.p4 | exact Pull.p5 | exact Pull.p6 | exact Pull.p7 | exact Pull.p8 | exact Pull.p9) (.cons (by first | exact Pull.p0 | exact Pull.p1 | exact Pull.p2 | exact Pull.p3 | exact Pull.p4 | exact Pull.p5 | exact Pull.p6 | exact Pull.p7 | exact Pull.p8 | exact Pull.p9) .nil))))
  ·
    have hall : (c.frames.filter (fun a => a.k == 3)).length = k := by
      rw [Chp.frames, frames_kind c.items (fun a ha => ?_)]
      · exact hit
      · obtain ⟨q, hq⟩ := hcont _ _ _ (Chp.items_at ha)
        exact ⟨q, [120], by rw [hq]; exact frm_put 3 q [120] (by decide) (by decide)⟩
    refine At.exit ?_
    refine At.then_e ?_
    refine At.then_e ?_
    refine At.blk_e ?_
    refine At.then_n ?_
    refine At.seq ?_
    refine At.region ?_
    refine At.op rfl (op_move rfl rfl ?_)
    refine At.op rfl (op_callF rfl Tryd.call11 (seglog_All hG c hc g 3) (.cons (by first | with_reducible exact Pull.p0 | with_reducible exact Pull.p1 | with_reducible exact Pull.p2 | with_reducible exact Pull.p3 | with_reducible exact Pull.p4 | with_reducible exact Pull.p5 | with_reducible exact Pull.p6 | with_reducible exact Pull.p7 | with_reducible exact Pull.p8 | with_reducible exact Pull.p9) (.cons (by first | with_reducible exact Pull.p0 | with_reducible exact Pull.p1 | with_reducible exact Pull.p2 | with_reducible exact Pull.p3 | with_reducible exact Pull.p4 | with_reducible exact Pull.p5 | with_reducible exact Pull.p6 | with_reducible exact Pull.p7 | with_reducible exact Pull.p8 | with_reducible exact Pull.p9) .nil)) rfl ?_)
    rintro v _ ⟨ad, cp, rfl, rfl⟩
    refine At.app2 ?_
    refine At.op rfl (op_len_slc rfl Tryd.underlying37 rfl ?_)
    refine At.op rfl (op_move rfl rfl ?_)
    refine At.op rfl (op_len_map rfl Tryd.underlying31 (by first | with_reducible exact Pull.p0 | with_reducible exact Pull.p1 | with_reducible exact Pull.p2 | with_reducible exact Pull.p3 | with_reducible exact Pull.p4 | with_reducible exact Pull.p5 | with_reducible exact Pull.p6 | with_reducible exact Pull.p7 | with_reducible exact Pull.p8 | with_reducible exact Pull.p9) rfl ?_)
    refine At.op rfl (op_bin rfl rfl (Bin.cast (v' := .bool true) b_eq (congrArg Value.bool (decide_eq_true (by rw [hall, hkl])))) rfl ?_)
    refine At.op rfl (op_assign rfl rfl ?_)
    refine At.nil ?_
    refine At.then_n ?_
    refine At.ret ?_
    exact At.fin1 rfl rfl rfl ⟨rfl, rfl⟩ .nil
end Go.Proofs.YteckdahgkkmlaaaDoor
end

