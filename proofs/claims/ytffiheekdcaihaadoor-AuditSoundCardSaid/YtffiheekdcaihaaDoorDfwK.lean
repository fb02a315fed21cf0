/- Calls, and operations one behind the other. -/
import Derived.Test.YtffiheekdcaihaaDoorDfwJ
set_option linter.all false
namespace Go.Abs
variable [Gl]
structure AOper where
  dst : Option Nat
  op : AOp
  g : Option (Nat × Bool)
  deriving Inhabited
def putE (env : List D) : Option Nat → D → List D
  | some t, d => env.set t d
  | none, _ => env
def wantE (env : List D) : Option (Nat × Bool) → Option Bool
  | none => some true
  | some (t, want) =>
    match env[t]? with
    | some (.c (.lit (.bool b))) => some (b == want)
    | some (.tup []) => some false
    | _ => none
def evOper (P : Program) (orc : Orc) (o : AOper) (env : List D) (σ : Heap) : Option (List D × Heap × List Nat) :=
  match wantE env o.g with
  | some true => (zbY P orc o.op env σ).map fun r => (putE env o.dst r.1, r.2.1, r.2.2)
  | some false => some (putE env o.dst (.tup []), σ, [])
  | none => none
def evOps (P : Program) (orc : Orc) : List AOper → List D → Heap → Option (List D × Heap × List Nat)
  | [], env, σ => some (env, σ, [])
  | o :: os, env, σ =>
    match evOper P orc o env σ with
    | some (env1, σ1, w1) =>
      match evOps P orc os env1 σ1 with
      | some (env2, σ2, w2) => some (env2, σ2, w1 ++ w2)
      | none => none
    | none => none
def compG (ops : Array Oper) : Option (Nat × Bool) → Option (Option (Nat × Bool))
  | none => some none
  | some (j, want) =>
    match (ops[j]?).bind (·.dst) with
    | some t => some (some (t, want))
    | none => none
def compOper (P : Program) (ops : Array Oper) (o : Oper) : Option AOper :=
  match compG ops o.guard, comp P o.op o.type with
  | some g, some ao => some ⟨o.dst, ao, g⟩
  | _, _ => none
section
variable {P : Program} {σ σ' : Heap} {M M' : Nat → Option Nat} {Fz Fz' : Nat → Prop} {w w' : World} {env env' : List D} {a : Act} {orc : Orc}
theorem zbb.mono (E : zbb σ M Fz w env a.tmps) (EV : Evo σ M Fz w σ' M' Fz' w') : zbb σ' M' Fz' w' env a.tmps :=
  ⟨E.1, fun i d v h1 h2 => (E.2 i d v h1 h2).mono EV⟩
theorem zbb.put (E : zbb σ M Fz w env a.tmps) {d : D} {v : Value} (dst : Option Nat) (hv : V σ M Fz w d v) : zbb σ M Fz w (putE env dst d) (a.put dst v).tmps := by
  cases dst with
  | none => exact E
  | some t =>
    refine ⟨by simp [Act.put, putE, E.1], fun i d' v' h1 h2 => ?_⟩
    simp only [putE, List.getElem?_set] at h1
    simp only [Act.put, Array.getElem?_setIfInBounds] at h2
    by_cases e : t = i
    · subst e
      simp only [if_true] at h1 h2
      split at h1
      · rename_i hlt
        rw [if_pos (by rw [E.1]; exact hlt)] at h2
        simp only [Option.some.injEq] at h1 h2
        subst h1 h2
        exact hv
      · simp at h1
    · rw [if_neg e] at h1 h2
      exact E.2 i d' v' h1 h2
theorem V.undef : V σ M Fz w (.tup []) undef := .tup #[] rfl (fun i d v h => by simp at h)
theorem want_ok (E : zbb σ M Fz w env a.tmps) {ops : Array Oper} {o : Oper} {g : Option (Nat × Bool)} {b : Bool} (hg : compG ops o.guard = some g) (h : wantE env g = some b) :
    Region.wanted o (yielded ops a.tmps) = b := by
  unfold Region.wanted
  cases hgd : o.guard with
  | none =>
    rw [hgd] at hg
    simp only [compG, Option.some.injEq] at hg
    subst hg
    simpa [wantE] using h
  | some p =>
    obtain ⟨j, want⟩ := p
    rw [hgd] at hg
    simp only [compG] at hg
    split at hg
    · rename_i t ht
      simp only [Option.some.injEq] at hg
      subst hg
      simp only [wantE] at h
      simp only [yielded, ht, Option.bind_some]
      split at h
      · rename_i b' hb
        have hlt := (List.getElem?_eq_some_iff.1 hb).1
        have e : a.tmps[t]? = some (a.tmps[t]'(by rw [E.1]; exact hlt)) := Array.getElem?_eq_getElem _
        have := (E.2 t _ _ hb e).lit_inv
        rw [e, this]
        simp only [Option.some.injEq] at h
        rw [← h]
        cases b' <;> cases want <;> rfl
      · rename_i hb
        have hlt := (List.getElem?_eq_some_iff.1 hb).1
        have e : a.tmps[t]? = some (a.tmps[t]'(by rw [E.1]; exact hlt)) := Array.getElem?_eq_getElem _
        have hv := E.2 t _ _ hb e
        generalize hx : a.tmps[t]'(by rw [E.1]; exact hlt) = x at hv e
        rw [e]
        simp only [Option.some.injEq] at h
        subst h
        cases hv with
        | tup vs => cases want <;> rfl
      · simp at h
    · simp at hg
theorem call_ok (E : zbb σ M Fz w env a.tmps) {o : Oper} {f : Operand} {args : Array Operand} {ats : Array TypeId} {of : Opd} {os : List Opd} {g : FuncId} {ds : List D}
    (ho : o.op = .call { callee := .value f, args := args, argTypes := ats }) (hf : opd f = some of) (hos : opds args = some os)
    (hds : (∃ first cap, of.ev env = .c (.fn (.func g) first cap) ∧ ds = first.map .c ++ os.map (Opd.ev env) ++ cap.map .c) ∨ (∃ first cap, of.ev env = .fn (.func g) first cap ∧ ds = first ++ os.map (Opd.ev env) ++ cap))
    (hen : enterable P g = true) : ∃ vs : Array Value, (execOp a.eval o).run P w = .ok (.enter g vs) w ∧ vs.size = ds.length ∧ ∀ (i : Nat) d v, ds[i]? = some d → vs[i]? = some v → V σ M Fz w d v := by
  obtain ⟨a1, a2⟩ := opds_ok E hos
  have hv := zcD E hf
  have key : ∀ (first cap : List D) (vs ws : Array Value), a.eval f = .func (.func g) vs ws → ds = first ++ os.map (Opd.ev env) ++ cap → vs.size = first.length → ws.size = cap.length →
      (∀ (i : Nat) d v, first[i]? = some d → vs[i]? = some v → V σ M Fz w d v) → (∀ (i : Nat) d v, cap[i]? = some d → ws[i]? = some v → V σ M Fz w d v) →
      ∃ vs : Array Value, (execOp a.eval o).run P w = .ok (.enter g vs) w ∧ vs.size = ds.length ∧ ∀ (i : Nat) d v, ds[i]? = some d → vs[i]? = some v → V σ M Fz w d v := by
    intro first cap vs ws hva hd h1 h2 hv1 hv2
    refine ⟨vs ++ args.map a.eval ++ ws, ?_, by rw [hd]; simp only [Array.size_append, List.length_append, h1, h2, a1], fun i d v h3 h4 => ?_⟩
    · unfold enterable at hen
      split at hen
      · rename_i fn hfn
        simp only [Bool.and_eq_true, bne_iff_ne, ne_eq] at hen
        obtain ⟨hb, hnm⟩ := hen
        have hnb : fn.body.isNone = false := by cases hx : fn.body <;> simp_all
        simp only [execOp, ho, resolve, hva, Deferred.ofValue, Sem.run_bind, Sem.run_pure, Result.andThen_ok, invoke, callFunc, run_program, hfn, beq_iff_eq, hnm, hnb, if_false, Bool.false_eq_true]
      · simp at hen
    · rw [hd, List.getElem?_append, List.getElem?_append] at h3
      rw [Array.getElem?_append, Array.getElem?_append] at h4
      simp only [List.length_append, Array.size_append] at h3 h4
      by_cases c1 : i < first.length
      · rw [if_pos (by omega), if_pos c1] at h3
        rw [if_pos (by omega), if_pos (by omega)] at h4
        exact hv1 i d v h3 h4
      · by_cases c2 : i < first.length + (os.map (Opd.ev env)).length
        · rw [if_pos c2, if_neg c1] at h3
          rw [if_pos (by omega), if_neg (by omega)] at h4
          exact a2 _ d v h3 (by rw [← h1]; exact h4)
        · rw [if_neg c2] at h3
          rw [if_neg (by omega)] at h4
          exact hv2 _ d v h3 (by rw [← h1, ← a1]; exact h4)
  rcases hds with ⟨first, cap, he, hd⟩ | ⟨first, cap, he, hd⟩
  · rw [he] at hv
    have hvc := hv.c_inv
    generalize hva : a.eval f = va at hvc
    cases hvc with
    | fn vs ws h1 h2 hv1 hv2 =>
      refine key _ _ vs ws hva hd (by simpa using h1) (by simpa using h2) (fun i d v h3 h4 => ?_) (fun i d v h3 h4 => ?_)
      · simp only [List.getElem?_map, Option.map_eq_some_iff] at h3
        obtain ⟨x, hx, rfl⟩ := h3
        exact .c (hv1 i x v hx h4)
      · simp only [List.getElem?_map, Option.map_eq_some_iff] at h3
        obtain ⟨x, hx, rfl⟩ := h3
        exact .c (hv2 i x v hx h4)
  · rw [he] at hv
    generalize hva : a.eval f = va at hv
    cases hv with
    | fn vs ws h1 h2 hv1 hv2 => exact key _ _ vs ws hva hd h1 h2 hv1 hv2
theorem op_wp (O : zaO P orc) (R : Rel σ M Fz w) (E : zbb σ M Fz w env a.tmps) {o : Oper} {ao : AOp} {d : D} {wr : List Nat} {Q : Exit → Act → World → Prop} (hc : comp P o.op o.type = some ao)
    (h : zbY P orc ao env σ = some (d, σ', wr)) (K : Act → World → Prop)
    (hK : ∀ v w' M' Fz', Rel σ' M' Fz' w' → V σ' M' Fz' w' d v → Evo σ M Fz w σ' M' Fz' w' → σ.length ≤ σ'.length → K (a.put o.dst v) w') : o.wp P a w K Q := by
  rcases comp_inv hc with ⟨f, args, ats, of, os, hop, hf, hos, rfl⟩ | ⟨hc0, hcall, _⟩
  · simp only [zbY] at h
    have main : ∀ g ds, orc g ds σ = some (d, σ', wr) →
        ((∃ first cap, of.ev env = .c (.fn (.func g) first cap) ∧ ds = first.map .c ++ os.map (Opd.ev env) ++ cap.map .c) ∨ (∃ first cap, of.ev env = .fn (.func g) first cap ∧ ds = first ++ os.map (Opd.ev env) ++ cap)) → o.wp P a w K Q := by
      intro g ds ho hds
      obtain ⟨hen, hok, hl, _⟩ := O g ds σ d σ' wr ho
      obtain ⟨vs, hrun, hs, hvs⟩ := call_ok (P := P) E hop hf hos hds hen
      unfold Oper.wp
      rw [hrun]
      refine (hok M Fz w vs R hs hvs).mono fun e w' he => ?_
      obtain ⟨v, M', Fz', rfl, R', hv, EV⟩ := he
      exact hK v w' M' Fz' R' hv EV hl
    split at h
    · rename_i g first cap he
      exact main _ _ h (.inl ⟨first, cap, he, rfl⟩)
    · rename_i g first cap he
      exact main _ _ h (.inr ⟨first, cap, he, rfl⟩)
    · simp at h
  · obtain ⟨nx, v, w', M', hrun, hnx, R', hv, EV, hl⟩ := evOp_ok R E hc0 hcall h
    unfold Oper.wp
    rw [hrun]
    rcases hnx with rfl | ⟨rfl, rfl⟩
    · exact hK v w' M' Fz R' hv EV hl
    · exact hK _ w' M' Fz R' hv EV hl
theorem oper_wp (O : zaO P orc) (R : Rel σ M Fz w) (E : zbb σ M Fz w env a.tmps) {ops : Array Oper} {i : Nat} {o : Oper} {ao : AOper} {wr : List Nat} {Q : Exit → Act → World → Prop} (hi : ops[i]? = some o) (hc : compOper P ops o = some ao)
    (h : evOper P orc ao env σ = some (env', σ', wr)) (K : Act → World → Prop)
    (hK : ∀ a' w' M' Fz', a'.defers = a.defers → Rel σ' M' Fz' w' → zbb σ' M' Fz' w' env' a'.tmps → Evo σ M Fz w σ' M' Fz' w' → σ.length ≤ σ'.length → K a' w') : wpOp P ops Q i K a w := by
  unfold compOper at hc
  split at hc
  · rename_i g ao' hg hao
    simp only [Option.some.injEq] at hc
    subst hc
    unfold evOper at h
    have hput : ∀ v, (a.put o.dst v).defers = a.defers := fun v => by cases o.dst <;> rfl
    split at h
    · rename_i hw
      have hwant := want_ok E hg hw
      simp only [Option.map_eq_some_iff] at h
      obtain ⟨⟨d, σ1, wr1⟩, hev, h⟩ := h
      simp only [Prod.mk.injEq] at h
      obtain ⟨rfl, rfl, rfl⟩ := h
      unfold wpOp
      rw [hi]
      simp only [hwant, if_true]
      exact .inl (op_wp O R E hao hev K fun v w' M' Fz' R' hv EV hl => hK _ w' M' Fz' (hput v) R' ((E.mono EV).put o.dst hv) EV hl)
    · rename_i hw
      have hwant := want_ok E hg hw
      simp only [Option.some.injEq, Prod.mk.injEq] at h
      obtain ⟨rfl, rfl, rfl⟩ := h
      unfold wpOp
      rw [hi]
      simp only [hwant, Bool.false_eq_true, if_false]
      exact hK _ w M Fz (hput _) R (E.put o.dst V.undef) (Evo.refl R) (Nat.le_refl _)
    · simp at h
  · simp at hc
theorem ops_wp (O : zaO P orc) {ops : Array Oper} {Q : Exit → Act → World → Prop} : ∀ (os : List AOper) (k : Nat) (σ σ' : Heap) (M : Nat → Option Nat) (Fz : Nat → Prop) (w : World) (env env' : List D) (a : Act) (wr : List Nat),
    (∀ j ao, os[j]? = some ao → ∃ o, ops[k + j]? = some o ∧ compOper P ops o = some ao) → Rel σ M Fz w → zbb σ M Fz w env a.tmps → evOps P orc os env σ = some (env', σ', wr) →
    (∀ a' w' M' Fz', a'.defers = a.defers → Rel σ' M' Fz' w' → zbb σ' M' Fz' w' env' a'.tmps → Evo σ M Fz w σ' M' Fz' w' → σ.length ≤ σ'.length → Q .normal a' w') →
    wpOps P ops Q (List.range' k os.length) a w := by
  intro os
  induction os with
  | nil =>
    intro k σ σ' M Fz w env env' a wr _ R E h hQ
    simp only [evOps, Option.some.injEq, Prod.mk.injEq] at h
    obtain ⟨rfl, rfl, _⟩ := h
    exact hQ a w M Fz rfl R E (Evo.refl R) (Nat.le_refl _)
  | cons ao os ih =>
    intro k σ σ' M Fz w env env' a wr hops R E h hQ
    simp only [evOps] at h
    split at h
    · rename_i env1 σ1 w1 h1
      split at h
      · rename_i env2 σ2 w2 h2
        simp only [Option.some.injEq, Prod.mk.injEq] at h
        obtain ⟨rfl, rfl, _⟩ := h
        obtain ⟨o, ho, hco⟩ := hops 0 ao (by simp)
        simp only [List.length_cons, List.range'_succ]
        rw [wpOps_cons]
        refine oper_wp O R E (by simpa using ho) hco h1 _ fun a1 w' M1 Fz1 hd R1 E1 EV1 hl1 => ?_
        refine ih (k + 1) σ1 σ2 M1 Fz1 w' env1 env2 a1 w2 (fun j ao' hj => ?_) R1 E1 h2 fun a2 w2' M2 Fz2 hd2 R2 E2 EV2 hl2 => ?_
        · obtain ⟨o', ho', hc'⟩ := hops (j + 1) ao' (by simpa using hj)
          exact ⟨o', by rw [← ho']; congr 1; omega, hc'⟩
        · exact hQ a2 w2' M2 Fz2 (by rw [hd2, hd]) R2 E2 (EV1.trans EV2 hl1) (Nat.le_trans hl1 hl2)
      · simp at h
    · simp at h
end
end Go.Abs
