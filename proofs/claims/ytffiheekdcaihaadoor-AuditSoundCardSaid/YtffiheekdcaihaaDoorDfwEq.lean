/- When two structs are the same. -/
import Derived.Test.YtffiheekdcaihaaDoorDfwEnc
import Derived.Laws.StructEq
set_option linter.all false
namespace Go.Abs
variable [Gl]
section
variable {P : Program}
theorem pureIn_program {α : Type} (k : Program → Go.Sem α) : zbR P (.program k) = zbR P (k P) := rfl
theorem pureIn_underlying {t : TypeId} {d : TypeDesc} (h : P.underlying t = some d) : zbR P (underlying t) = some d := by
  show zbR P (match P.underlying t with | some d => Go.Sem.pure d | none => _) = _
  rw [h]
  rfl
theorem pureIn_of_run {α : Type} {s : Go.Sem α} {a : α} (h : zbR P s = some a) (w : World) : s.run P w = .ok a w := pureIn_run w h
theorem eqF_nil {d : Nat} {xs ys : Array Value} : zbR P (Op.eqFields d xs ys []) = some true := rfl
theorem eqF_cons {d : Nat} {xs ys : Array Value} {f : Field} {fs : List Field} {a b : Value} {r q : Bool} (hn : (f.name != "_") = true) (ha : zbR P (part f.type xs f.offset) = some a) (hb : zbR P (part f.type ys f.offset) = some b)
    (hr : zbR P (Op.equalIn d f.type a b) = some r) (ht : zbR P (Op.eqFields d xs ys fs) = some q) : zbR P (Op.eqFields d xs ys (f :: fs)) = some (r && q) := by
  unfold Op.eqFields
  have hn' : f.name ≠ "_" := by simpa using hn
  rw [if_pos hn', zbh, ha, Option.bind_some, zbh, hb, Option.bind_some, zbh, hr, Option.bind_some]
  cases r
  · rfl
  · simpa using ht
theorem eq_int {d : Nat} {t : TypeId} {k k' : IntKind} {a b : Int} (h : P.underlying t = some (.int k')) : zbR P (Op.equalIn (d + 1) t (.int k a) (.int k b)) = some (a == b) := by
  simp only [Op.equalIn]
  rw [zbh, pureIn_underlying h, Option.bind_some]
  simp only [if_true]
  rfl
theorem eq_bool {d : Nat} {t : TypeId} {a b : Bool} (h : P.underlying t = some .bool) : zbR P (Op.equalIn (d + 1) t (.bool a) (.bool b)) = some (a == b) := by
  simp only [Op.equalIn]
  rw [zbh, pureIn_underlying h, Option.bind_some]
  rfl
theorem eq_agg {d : Nat} {t : TypeId} {xs ys : Array Value} {r : Bool} (ht : P.underlying t = some (.struct (P.fieldsOf t))) (hp : P.stoodInHeld t = false) (h : zbR P (Op.eqFields d xs ys (P.fieldsOf t).toList) = some r) :
    zbR P (Op.equalIn (d + 1) t (.agg xs) (.agg ys)) = some r := by
  simp only [Op.equalIn]
  rw [zbh, pureIn_underlying ht, Option.bind_some]
  dsimp only
  rw [zbh]
  show (zbR P (Go.Sem.pure P)).bind _ = _
  simp only [zbR, Option.bind_some, hp, Bool.false_eq_true, if_false]
  rw [zbh, ← Array.forIn_toList]
  generalize (P.fieldsOf t).toList = fs at h
  clear ht
  induction fs generalizing r with
  | nil => exact h
  | cons f fs ih =>
    simp only [List.forIn_cons, Op.eqFields] at h ⊢
    rw [zbh]
    split at h
    · rename_i hn
      rw [if_pos hn]
      rw [zbh] at h ⊢
      cases h1 : zbR P (part f.type xs f.offset) with
      | none => rw [h1] at h; simp at h
      | some a =>
        rw [h1] at h
        simp only [Option.bind_some] at h ⊢
        rw [zbh] at h ⊢
        cases h2 : zbR P (part f.type ys f.offset) with
        | none => rw [h2] at h; simp at h
        | some b =>
          rw [h2] at h
          simp only [Option.bind_some] at h ⊢
          rw [zbh] at h ⊢
          cases h3 : zbR P (Op.equalIn d f.type a b) with
          | none => rw [h3] at h; simp at h
          | some q =>
            rw [h3] at h
            simp only [Option.bind_some] at h ⊢
            cases q
            · simp only [Bool.not_false, if_true] at h ⊢
              exact h
            · simp only [Bool.not_true, Bool.false_eq_true, if_false] at h ⊢
              exact ih h
    · rename_i hn
      rw [if_neg hn]
      exact ih h
theorem bin_eql {t : TypeId} {x y : Operand} {xs ys : Array Value} {r : Bool} (hm : P.eqGuardType P.depth t = false) (h : zbR P (Op.equalIn 10000 t (.agg xs) (.agg ys)) = some r) : binV P .eql t x y (.agg xs) (.agg ys) = some (.bool r) := by
  unfold binV
  rw [zbh]
  have hg : zbR P (eqGuard .eql t x y (.agg xs) (.agg ys)) = some () := by
    simp only [eqGuard, Bool.not_true, Bool.false_eq_true, if_false]
    show zbR P (if (!P.eqGuardType P.depth t) = true then Go.Sem.pure () else _) = _
    rw [hm]
    rfl
  rw [hg, Option.bind_some]
  show zbR P (do Go.Sem.pure (Value.bool (← Op.equal t (.agg xs) (.agg ys)))) = _
  rw [zbh]
  unfold Op.equal Op.maxDepth
  rw [h]
  rfl
theorem bin_neq {t : TypeId} {x y : Operand} {xs ys : Array Value} {r : Bool} (hm : P.eqGuardType P.depth t = false) (h : zbR P (Op.equalIn 10000 t (.agg xs) (.agg ys)) = some r) : binV P .neq t x y (.agg xs) (.agg ys) = some (.bool (!r)) := by
  unfold binV
  rw [zbh]
  have hg : zbR P (eqGuard .neq t x y (.agg xs) (.agg ys)) = some () := by
    simp only [eqGuard, Bool.not_true, Bool.false_eq_true, if_false]
    show zbR P (if (!P.eqGuardType P.depth t) = true then Go.Sem.pure () else _) = _
    rw [hm]
    rfl
  rw [hg, Option.bind_some]
  show zbR P (do Go.Sem.pure (Value.bool (!(← Op.equal t (.agg xs) (.agg ys))))) = _
  rw [zbh]
  unfold Op.equal Op.maxDepth
  rw [h]
  rfl
end
end Go.Abs
namespace Go.Abs
variable [Gl]
section
variable {P : Program} {orc : Orc} {n : Nat} {al : AL} {σ : Heap} {d : D} {e : List D}
def genA (P : Program) (op : Op) (ty : TypeId) (al : AL) : Option D :=
  if op.operands.toList.all (fun x => ((oev al x).bind D.val?).isSome) then
    match zbR P (execOp (fun x => (((oev al x).bind D.val?).getD undef)) { dst := none, op := op, type := ty, pos := "", after := #[], guard := none }) with
    | some (.value v) => some (ofVal v)
    | _ => none
  else none
theorem genA_ok {op : Op} {ty : TypeId} (hsel : ∀ cs b, op ≠ .select cs b) (h : genA P op ty al = some d) (he : Env n al e) : genEv P op ty e = some d := by
  unfold genA at h
  split at h
  · rename_i hall
    rw [List.all_eq_true] at hall
    have key : ∀ x ∈ op.operands.toList, ((opd x).map (Opd.ev e)).bind D.val? = (oev al x).bind D.val? := by
      intro x hx
      have := hall x hx
      rw [Option.isSome_iff_exists] at this
      obtain ⟨v, hv⟩ := this
      rw [Option.bind_eq_some_iff] at hv
      obtain ⟨d1, h1, h2⟩ := hv
      simp only [oev] at h1
      split at h1
      · rename_i o ho
        rw [ho]
        simp [zcu he h1, oev, ho, h1]
      · simp at h1
    have key2 : ∀ x : Operand, (x ∈ op.operands.toList) → ((((opd x).map (Opd.ev e)).bind D.val?).getD undef) = (((oev al x).bind D.val?).getD undef) := fun x hx => by rw [key x hx]
    unfold genEv
    rw [if_pos (by rw [List.all_eq_true]; intro x hx; rw [key x hx]; exact hall x hx)]
    have := execOp_congr (ρ := fun x => ((((opd x).map (Opd.ev e)).bind D.val?).getD undef)) (ρ' := fun x => (((oev al x).bind D.val?).getD undef)) { dst := none, op := op, type := ty, pos := "", after := #[], guard := none } hsel (fun x hx => key2 x (by simpa using hx))
    rw [this]
    exact h
  · simp at h
theorem op_call_gen {c : Call} {ty : TypeId} (h : genA P (.call c) ty al = some d) : OpR P orc n al σ (.gen (.call c) ty) d σ [] := fun e he => by
  simp [zbY, genA_ok (fun cs b => by simp) h he]
end
end Go.Abs
namespace Go.Abs
variable [Gl]
section
variable {P : Program} {orc : Orc} {n : Nat} {al : AL} {σ : Heap} {d : D} {e : List D}
theorem bin_eqlB {t : TypeId} {x y : Operand} {a b : Bool} (h : P.underlying t = some .bool) : binV P .eql t x y (.bool a) (.bool b) = some (.bool (a == b)) := by
  unfold binV
  rw [zbh]
  show (some ()).bind _ = _
  rw [Option.bind_some]
  show zbR P (do Go.Sem.pure (Value.bool (← Op.equal t (.bool a) (.bool b)))) = _
  rw [zbh]
  unfold Op.equal Op.maxDepth
  rw [eq_bool (d := 9999) h]
  rfl
theorem bin_neqB {t : TypeId} {x y : Operand} {a b : Bool} (h : P.underlying t = some .bool) : binV P .neq t x y (.bool a) (.bool b) = some (.bool (!(a == b))) := by
  unfold binV
  rw [zbh]
  show (some ()).bind _ = _
  rw [Option.bind_some]
  show zbR P (do Go.Sem.pure (Value.bool (!(← Op.equal t (.bool a) (.bool b))))) = _
  rw [zbh]
  unfold Op.equal Op.maxDepth
  rw [eq_bool (d := 9999) h]
  rfl
def quo? (k : IntKind) (a b : Int) : Option Int := if b = 0 then none else some (k.wrap (a.tdiv b))
def rem? (a b : Int) : Option Int := if b = 0 then none else some (a.tmod b)
theorem bin_quo {t : TypeId} {x y : Operand} {k : IntKind} {a b v : Int} (h : quo? k a b = some v) : binV P .quo t x y (.int k a) (.int k b) = some (.int k v) := by
  unfold quo? at h
  split at h
  · simp at h
  · rename_i hb
    simp only [Option.some.injEq] at h
    subst h
    unfold binV
    rw [zbh]
    show (some ()).bind _ = _
    rw [Option.bind_some]
    simp only [binOp, ne_eq, not_true_eq_false, if_false, Op.intDiv, if_neg hb]
    rfl
theorem bin_rem {t : TypeId} {x y : Operand} {k : IntKind} {a b v : Int} (h : rem? a b = some v) : binV P .rem t x y (.int k a) (.int k b) = some (.int k v) := by
  unfold rem? at h
  split at h
  · simp at h
  · rename_i hb
    simp only [Option.some.injEq] at h
    subst h
    unfold binV
    rw [zbh]
    show (some ()).bind _ = _
    rw [Option.bind_some]
    simp only [binOp, ne_eq, not_true_eq_false, if_false, Op.intDiv, if_neg hb]
    rfl
theorem op_idxA {α : Type} {x i : Opd} {b off sz len esz : Nat} {k : Int} {l : List α} {a : α} (h : lx al x = some (.ptr b off sz)) (hi : lx al i = some (I k)) (ha : at? l k = some a) (hn : l.length = len) (hd : D.ptr b (off + k.toNat * esz) sz = d) :
    OpR P orc n al σ (.idx esz (some len) x i) d σ [] := fun e he => by
  subst hd
  obtain ⟨h1, h2, h3⟩ := at_some ha
  have h4 : inR k len = some k.toNat := by unfold inR; rw [if_pos ⟨h1, by rw [← hn]; exact h2⟩]
  simp [zbY, zcu he h, zcu he hi, ze3, h4]
theorem op_loadA {α : Type} {x : Opd} {b p sz : Nat} {k : Int} {l : List α} {f : α → D} {a : α} {cs : List D} (h : lx al x = some (.ptr b p sz)) (hp : p = 0 + k.toNat * 1) (hr : zeO σ b sz = some cs) (hc : cs = l.map f) (ha : at? l k = some a) :
    OpR P orc n al σ (.load none x) (f a) σ [] := by
  subst hp hc
  refine op_load h hr ?_
  obtain ⟨h1, h2, h3⟩ := at_some ha
  simp [zcs, h3]
end
end Go.Abs
