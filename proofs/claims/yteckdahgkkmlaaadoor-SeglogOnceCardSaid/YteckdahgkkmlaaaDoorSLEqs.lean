/- Equality of structs; frames of contracts; chains of closures. -/
import Derived.Test.YteckdahgkkmlaaaDoorSLBld
import Derived.Laws.StructEq
namespace SL
open Go

section
variable {P : Program} {T : TypeId} {x y : Operand}
theorem eqf_nil {xs ys : Array Value} (d : Nat) (w : World) : (Op.eqFields (d + 1) xs ys []).run P w = .ok true w := by simp [Op.eqFields]
theorem eqf_cons {xs ys : Array Value} {f : Field} {fs : List Field} {a b : Value} {r s : Bool} (hn : (f.name == "_") = false) (ha : ∀ w, (isAgg f.type).run P w = .ok false w) (hx : xs[f.offset]? = some a) (hy : ys[f.offset]? = some b)
    (he : ∀ d w, (Op.equalIn (d + 1) f.type a b).run P w = .ok r w) (hr : ∀ d w, (Op.eqFields (d + 1) xs ys fs).run P w = .ok s w) (d : Nat) (w : World) : (Op.eqFields (d + 1) xs ys (f :: fs)).run P w = .ok (r && s) w := by
  have hn' : f.name ≠ "_" := by simpa using hn
  rw [Op.eqFields]
  simp only [if_pos hn', Sem.run_bind, part, ha, hx, hy, Result.andThen_ok, Bool.false_eq_true, if_false, Sem.run_pure, he]
  cases r
  · simp
  · simpa using hr d w
theorem eqi {k k' : IntKind} {a b : Int} (h : P.underlying T = some (.int k')) (d : Nat) (w : World) : (Op.equalIn (d + 1) T (.int k a) (.int k b)).run P w = .ok (decide (a = b)) w := by
  rw [run_equalIn_int w d T k k' a b h]
  congr 1
theorem eqs' {a b : List UInt8} (h : P.underlying T = some .string) (d : Nat) (w : World) : (Op.equalIn (d + 1) T (str a) (str b)).run P w = .ok (decide (a = b)) w := by
  rw [str, str, run_equalIn_string w d T _ _ h, ByteArray.toList_eq, ByteArray.toList_eq]
  congr 1
  by_cases e : a = b <;> simp [e]
theorem eq8 {a b : UInt8} (h : P.underlying T = some (.int .u8)) (d : Nat) (w : World) : (Op.equalIn (d + 1) T (u8 a) (u8 b)).run P w = .ok (decide (a = b)) w := by
  rw [u8, u8, eqi h]; congr 1; rw [decide_eq_decide]; exact u8_inj
theorem eq16 {a b : UInt16} (h : P.underlying T = some (.int .u16)) (d : Nat) (w : World) : (Op.equalIn (d + 1) T (u16 a) (u16 b)).run P w = .ok (decide (a = b)) w := by
  rw [u16, u16, eqi h]; congr 1; rw [decide_eq_decide]; exact u16_inj
theorem eq32 {a b : UInt32} (h : P.underlying T = some (.int .u32)) (d : Nat) (w : World) : (Op.equalIn (d + 1) T (u32 a) (u32 b)).run P w = .ok (decide (a = b)) w := by
  rw [u32, u32, eqi h]; congr 1; rw [decide_eq_decide]; exact u32_inj
theorem eq64 {a b : UInt64} (h : P.underlying T = some (.int .u64)) (d : Nat) (w : World) : (Op.equalIn (d + 1) T (u64 a) (u64 b)).run P w = .ok (decide (a = b)) w := by
  rw [u64, u64, eqi h]; congr 1; rw [decide_eq_decide]; exact u64_inj
theorem eqbl {a b : Bool} (h : P.underlying T = some .bool) (d : Nat) (w : World) : (Op.equalIn (d + 1) T (.bool a) (.bool b)).run P w = .ok (a == b) w := run_equalIn_bool w d T a b h

theorem b_steq {fs : Array Field} {xs ys : Array Value} {r : Bool} (hu : P.underlying T = some (.struct fs)) (hg : P.eqGuardType P.depth T = false) (hp : P.stoodInHeld T = false) (h : ∀ d w, (Op.eqFields (d + 1) xs ys fs.toList).run P w = .ok r w) :
    Bin P .eql T x y (.agg xs) (.agg ys) (.bool r) := fun w => by
  have hf : P.fieldsOf T = fs := by simp [Program.fieldsOf, hu]
  have h1 := run_equalIn_struct (P := P) w 9999 T xs ys (by rw [hf]; exact hu) hp
  rw [hf, h 9998 w] at h1
  simp only [Sem.run_bind, run_eqGuard_agg w .eql T x y xs ys hg, Result.andThen_ok, run_eql_struct, h1]
theorem b_stne {fs : Array Field} {xs ys : Array Value} {r : Bool} (hu : P.underlying T = some (.struct fs)) (hg : P.eqGuardType P.depth T = false) (hp : P.stoodInHeld T = false) (h : ∀ d w, (Op.eqFields (d + 1) xs ys fs.toList).run P w = .ok r w) :
    Bin P .neq T x y (.agg xs) (.agg ys) (.bool (!r)) := fun w => by
  have hf : P.fieldsOf T = fs := by simp [Program.fieldsOf, hu]
  have h1 := run_equalIn_struct (P := P) w 9999 T xs ys (by rw [hf]; exact hu) hp
  rw [hf, h 9998 w] at h1
  simp only [Sem.run_bind, run_eqGuard_agg w .neq T x y xs ys hg, Result.andThen_ok, run_neq_struct, h1]
theorem b_beq {a b : Bool} (hT : P.underlying T = some .bool) : Bin P .eql T x y (.bool a) (.bool b) (.bool (a == b)) := fun w => by
  simp [run_eqGuard_bool, binOp, Op.equal, Op.maxDepth, run_equalIn_bool w 9999 T a b hT]
theorem b_bne {a b : Bool} (hT : P.underlying T = some .bool) : Bin P .neq T x y (.bool a) (.bool b) (.bool (a != b)) := fun w => by
  simp [run_eqGuard_bool, binOp, Op.equal, Op.maxDepth, run_equalIn_bool w 9999 T a b hT, bne]
end

/-- what is called touches but a part -/
theorem Does.frameR {P : Program} {G : List (Nat × Obj)} {f : FuncId} {vs : List Value} {pre rs1 rs k rs' k' : List Res} {v : Value} (h : Does P G f vs pre (OneR v rs1)) (hc : Cut pre rs k) (hc' : Cut rs' (rs1 ++ k) k') : Does P G f vs rs (OneR v rs') := by
  intro w hw
  have h0 := (Hp.start hw).cut hc
  refine (h w h0.good.left).mono ?_
  rintro e w' ⟨u, us, he, ⟨rfl, rfl⟩, hp⟩
  exact ⟨u, rs', he, ⟨rfl, rfl⟩, ((h0.call hp).cut hc').left⟩

theorem cut_tail (r : Res) : ∀ (RS : List Res), Cut RS (r :: RS) [r]
  | [] => .nil
  | _ :: RS => .cons (.there .here) (cut_tail r RS)
theorem cut_nil (rs : List Res) : Cut [] rs rs := .nil
theorem At.swapR {c : Cx} {m : List (Nat × Value)} {RS : List Res} {r : Res} {K : Act → World → Prop} (h : At c m (r :: RS) K) : At c m (RS ++ [r]) K :=
  fun a w hs hh => h a w hs (hh.perm (List.perm_append_comm))

/-- closures called one behind the other, up to the first that says no -/
inductive Chain (P : Program) (G : List (Nat × Obj)) : List (Nat × List Value) → List Res → Bool → List Res → Prop
  | nil {rs : List Res} : Chain P G [] rs true rs
  | stop {f : Nat} {cap : List Value} {l : List (Nat × List Value)} {rs rs' : List Res} (hcall : ∀ a w, (callFunc f a).run P w = .ok (.enter f a) w) (h : Does P G f cap rs (OneR (.bool false) rs')) : Chain P G ((f, cap) :: l) rs false rs'
  | go {f : Nat} {cap : List Value} {l : List (Nat × List Value)} {rs rs1 rs' : List Res} {b : Bool} (hcall : ∀ a w, (callFunc f a).run P w = .ok (.enter f a) w) (h : Does P G f cap rs (OneR (.bool true) rs1)) (t : Chain P G l rs1 b rs') :
      Chain P G ((f, cap) :: l) rs b rs'
theorem Chain.uncons {P : Program} {G : List (Nat × Obj)} {x : Nat × List Value} {l : List (Nat × List Value)} {rs rs' : List Res} {b : Bool} (h : Chain P G (x :: l) rs b rs') :
    ∃ b0 rs1, (∀ a w, (callFunc x.1 a).run P w = .ok (.enter x.1 a) w) ∧ Does P G x.1 x.2 rs (OneR (.bool b0) rs1) ∧ (b0 = false → b = false ∧ rs' = rs1) ∧ (b0 = true → Chain P G l rs1 b rs') := by
  cases h with
  | stop hc h => exact ⟨false, rs', hc, h, fun _ => ⟨rfl, rfl⟩, (fun h => nomatch h)⟩
  | go hc h t => exact ⟨true, _, hc, h, (fun h => nomatch h), fun _ => t⟩
theorem Chain.of_nil {P : Program} {G : List (Nat × Obj)} {rs rs' : List Res} {b : Bool} (h : Chain P G [] rs b rs') : b = true ∧ rs' = rs := by
  cases h; exact ⟨rfl, rfl⟩
def fv (x : Nat × List Value) : Value := .func (.func x.1) #[] x.2.toArray
theorem fv_cells (x : Nat × List Value) : (fv x).cells = #[fv x] := rfl
end SL
