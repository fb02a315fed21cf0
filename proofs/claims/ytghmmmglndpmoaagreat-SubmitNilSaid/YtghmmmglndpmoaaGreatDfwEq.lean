/- When two structs are the same. -/
import Derived.Test.YtghmmmglndpmoaaGreatDfwEnc
import Derived.Laws.StructEq
namespace Go.Abs
section
variable {P : Program}

theorem pureIn_program {α : Type} (k : Program → Go.Sem α) : pureIn P (.program k) = pureIn P (k P) := rfl

theorem pureIn_underlying {t : TypeId} {d : TypeDesc} (h : P.underlying t = some d) : pureIn P (underlying t) = some d := by
  show pureIn P (match P.underlying t with | some d => Go.Sem.pure d | none => _) = _
  rw [h]
  rfl

theorem pureIn_of_run {α : Type} {s : Go.Sem α} {a : α} (h : pureIn P s = some a) (w : World) : s.run P w = .ok a w := pureIn_run w h

theorem eqF_nil {d : Nat} {xs ys : Array Value} : pureIn P (Op.eqFields d xs ys []) = some true := rfl

theorem eqF_cons {d : Nat} {xs ys : Array Value} {f : Field} {fs : List Field} {a b : Value} {r q : Bool} (hn : (f.name != "_") = true) (ha : pureIn P (part f.type xs f.offset) = some a) (hb : pureIn P (part f.type ys f.offset) = some b)
    (hr : pureIn P (Op.equalIn d f.type a b) = some r) (ht : pureIn P (Op.eqFields d xs ys fs) = some q) : pureIn P (Op.eqFields d xs ys (f :: fs)) = some (r && q) := by
  unfold Op.eqFields
  have hn' : f.name ≠ "_" := by simpa using hn
  rw [if_pos hn', pureIn_bind, ha, Option.bind_some, pureIn_bind, hb, Option.bind_some, pureIn_bind, hr, Option.bind_some]
  cases r
  · rfl
  · simpa using ht

theorem eq_int {d : Nat} {t : TypeId} {k k' : IntKind} {a b : Int} (h : P.underlying t = some (.int k')) : pureIn P (Op.equalIn (d + 1) t (.int k a) (.int k b)) = some (a == b) := by
  simp only [Op.equalIn]
  rw [pureIn_bind, pureIn_underlying h, Option.bind_some]
  simp only [if_true]
  rfl

theorem eq_bool {d : Nat} {t : TypeId} {a b : Bool} (h : P.underlying t = some .bool) : pureIn P (Op.equalIn (d + 1) t (.bool a) (.bool b)) = some (a == b) := by
  simp only [Op.equalIn]
  rw [pureIn_bind, pureIn_underlying h, Option.bind_some]
  rfl

theorem eq_agg {d : Nat} {t : TypeId} {xs ys : Array Value} {r : Bool} (ht : P.underlying t = some (.struct (P.fieldsOf t))) (hp : P.stoodInHeld t = false) (h : pureIn P (Op.eqFields d xs ys (P.fieldsOf t).toList) = some r) :
    pureIn P (Op.equalIn (d + 1) t (.agg xs) (.agg ys)) = some r := by
  simp only [Op.equalIn]
  rw [pureIn_bind, pureIn_underlying ht, Option.bind_some]
  dsimp only
  rw [pureIn_bind]
  show (pureIn P (Go.Sem.pure P)).bind _ = _
  simp only [pureIn, Option.bind_some, hp, Bool.false_eq_true, if_false]
  rw [pureIn_bind, ← Array.forIn_toList]
  generalize (P.fieldsOf t).toList = fs at h
  clear ht
  induction fs generalizing r with
  | nil => exact h
  | cons f fs ih =>
    simp only [List.forIn_cons, Op.eqFields] at h ⊢
    rw [pureIn_bind]
    split at h
    · rename_i hn
      rw [if_pos hn]
      rw [pureIn_bind] at h ⊢
      cases h1 : pureIn P (part f.type xs f.offset) with
      | none => rw [h1] at h; simp at h
      | some a =>
        rw [h1] at h
        simp only [Option.bind_some] at h ⊢
        rw [pureIn_bind] at h ⊢
        cases h2 : pureIn P (part f.type ys f.offset) with
        | none => rw [h2] at h; simp at h
        | some b =>
          rw [h2] at h
          simp only [Option.bind_some] at h ⊢
          rw [pureIn_bind] at h ⊢
          cases h3 : pureIn P (Op.equalIn d f.type a b) with
          | none => rw [h3] at h; simp at h
          | some q =>
            rw [h3] at h
            simp only [Option.bind_some] at h ⊢
            cases q
            · simp only [Bool.not_false, if_true] at h ⊢
              exact h
            · simp only [Bool.not_true, Bool.false_eq_true, if_false] at h ⊢
              exact ih h
    · rename_i hn
      rw [if_neg hn]
      exact ih h

theorem bin_eql {t : TypeId} {x y : Operand} {xs ys : Array Value} {r : Bool} (hm : P.eqGuardType P.depth t = false) (h : pureIn P (Op.equalIn 10000 t (.agg xs) (.agg ys)) = some r) : binV P .eql t x y (.agg xs) (.agg ys) = some (.bool r) := by
  unfold binV
  rw [pureIn_bind]
  have hg : pureIn P (eqGuard .eql t x y (.agg xs) (.agg ys)) = some () := by
    simp only [eqGuard, Bool.not_true, Bool.false_eq_true, if_false]
    show pureIn P (if (!P.eqGuardType P.depth t) = true then Go.Sem.pure () else _) = _
    rw [hm]
    rfl
  rw [hg, Option.bind_some]
  show pureIn P (do Go.Sem.pure (Value.bool (← Op.equal t (.agg xs) (.agg ys)))) = _
  rw [pureIn_bind]
  unfold Op.equal Op.maxDepth
  rw [h]
  rfl

theorem bin_neq {t : TypeId} {x y : Operand} {xs ys : Array Value} {r : Bool} (hm : P.eqGuardType P.depth t = false) (h : pureIn P (Op.equalIn 10000 t (.agg xs) (.agg ys)) = some r) : binV P .neq t x y (.agg xs) (.agg ys) = some (.bool (!r)) := by
  unfold binV
  rw [pureIn_bind]
  have hg : pureIn P (eqGuard .neq t x y (.agg xs) (.agg ys)) = some () := by
    simp only [eqGuard, Bool.not_true, Bool.false_eq_true, if_false]
    show pureIn P (if (!P.eqGuardType P.depth t) = true then Go.Sem.pure () else _) = _
    rw [hm]
    rfl
  rw [hg, Option.bind_some]
  show pureIn P (do Go.Sem.pure (Value.bool (!(← Op.equal t (.agg xs) (.agg ys))))) = _
  rw [pureIn_bind]
  unfold Op.equal Op.maxDepth
  rw [h]
  rfl

end
end Go.Abs

namespace Go.Abs
section
variable {P : Program} {orc : Orc} {n : Nat} {al : AL} {σ : Heap} {d : D} {e : List D}

def genA (P : Program) (op : Op) (ty : TypeId) (al : AL) : Option D :=
  if op.operands.toList.all (fun x => ((oev al x).bind D.val?).isSome) then
    match pureIn P (execOp (fun x => (((oev al x).bind D.val?).getD undef)) { dst := none, op := op, type := ty, pos := "", after := #[], guard := none }) with
    | some (.value v) => some (ofVal v)
    | _ => none
  else none

theorem genA_ok {op : Op} {ty : TypeId} (hsel : ∀ cs b, op ≠ .select cs b) (h : genA P op ty al = some d) (he : Env n al e) : genEv P op ty e = some d := by
  unfold genA at h
  split at h
  · rename_i hall
    rw [List.all_eq_true] at hall
    have key : ∀ x ∈ op.operands.toList, ((opd x).map (Opd.ev e)).bind D.val? = (oev al x).bind D.val? := by
      intro x hx
      have := hall x hx
      rw [Option.isSome_iff_exists] at this
      obtain ⟨v, hv⟩ := this
      rw [Option.bind_eq_some_iff] at hv
      obtain ⟨d1, h1, h2⟩ := hv
      simp only [oev] at h1
      split at h1
      · rename_i o ho
        rw [ho]
        simp [ev_lx he h1, oev, ho, h1]
      · simp at h1
    have key2 : ∀ x : Operand, (x ∈ op.operands.toList) → ((((opd x).map (Opd.ev e)).bind D.val?).getD undef) = (((oev al x).bind D.val?).getD undef) := fun x hx => by rw [key x hx]
    unfold genEv
    rw [if_pos (by rw [List.all_eq_true]; intro x hx; rw [key x hx]; exact hall x hx)]
    have := execOp_congr (ρ := fun x => ((((opd x).map (Opd.ev e)).bind D.val?).getD undef)) (ρ' := fun x => (((oev al x).bind D.val?).getD undef)) { dst := none, op := op, type := ty, pos := "", after := #[], guard := none } hsel (fun x hx => key2 x (by simpa using hx))
    rw [this]
    exact h
  · simp at h

theorem op_call_gen {c : Call} {ty : TypeId} (h : genA P (.call c) ty al = some d) : OpR P orc n al σ (.gen (.call c) ty) d σ [] := fun e he => by
  simp [evOp, genA_ok (fun cs b => by simp) h he]

end
end Go.Abs
