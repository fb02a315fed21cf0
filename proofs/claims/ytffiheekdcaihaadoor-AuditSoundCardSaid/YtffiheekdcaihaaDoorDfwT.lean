/- Code, soundly. -/
import Derived.Test.YtffiheekdcaihaaDoorDfwS
import Derived.LoopN
set_option linter.all false
namespace Go.Abs
variable [Gl]
def toE : AExit → Exit
  | .normal => .normal
  | .exit i => .exit i
  | .ret => .ret
section
variable {P : Program} {orc : Orc}
theorem evTr_tr {n : Nat} : ∀ (os : List AOper) (n : Nat) (e e' : List D) (σ σ' : Heap) (is : List Info), evTr P orc n os e σ = some (e', σ', is) →
    ∃ (env : Nat → List D) (sg : Nat → Heap) (wrs : Nat → List Nat), env 0 = e ∧ sg 0 = σ ∧ env os.length = e' ∧ sg os.length = σ' ∧ is.length = os.length ∧
      (∀ (i : Nat) ao, os[i]? = some ao → evOper P orc ao (env i) (sg i) = some (env (i + 1), sg (i + 1), wrs i) ∧ is[i]? = some (infoOf ao (env i) (sg i).length (sg (i + 1)).length (wrs i))) ∧
      (∀ i, i < os.length → i < n → wrOk (sg i) (sg (i + 1)) (wrs i) = true) := by
  intro os
  induction os with
  | nil =>
    intro n e e' σ σ' is h
    simp only [evTr, Option.some.injEq, Prod.mk.injEq] at h
    obtain ⟨rfl, rfl, rfl⟩ := h
    exact ⟨fun _ => e, fun _ => σ, fun _ => [], rfl, rfl, rfl, rfl, rfl, fun i ao h => by simp at h, fun i h => by simp at h⟩
  | cons o os ih =>
    intro n e e' σ σ' is h
    simp only [evTr] at h
    split at h
    · rename_i e1 σ1 w1 h1
      split at h
      · rename_i hw
        split at h
        · rename_i e2 σ2 is2 h2
          simp only [Option.some.injEq, Prod.mk.injEq] at h
          obtain ⟨rfl, rfl, rfl⟩ := h
          obtain ⟨env, sg, wrs, k1, k2, k3, k4, k5, k6, k7⟩ := ih (n - 1) e1 e2 σ1 σ2 is2 h2
          refine ⟨fun i => match i with | 0 => e | i + 1 => env i, fun i => match i with | 0 => σ | i + 1 => sg i, fun i => match i with | 0 => w1 | i + 1 => wrs i, rfl, rfl, k3, k4, by simp [k5], fun i ao hi => ?_, fun i hi hn => ?_⟩
          · cases i with
            | zero =>
              simp only [List.getElem?_cons_zero, Option.some.injEq] at hi
              subst hi
              simp only [k1, k2]
              exact ⟨h1, by simp⟩
            | succ i =>
              have := k6 i ao (by simpa using hi)
              exact ⟨this.1, by simpa using this.2⟩
          · cases i with
            | zero =>
              simp only [k2]
              simp only [Bool.or_eq_true, beq_iff_eq] at hw
              rcases hw with hw | hw
              · omega
              · exact hw
            | succ i => exact k7 i (by simpa using hi) (by omega)
        · simp at h
      · simp at h
    · simp at h
theorem backward_ok {ops : Array Oper} (h : backward ops.toList = true) (j : Nat) (o : Oper) (e : Edge) (ho : ops[j]? = some o) (he : e ∈ o.after) (hb : Region.binds .any e = true) : e.on < j := by
  have hj : j < ops.size := (Array.getElem?_eq_some_iff.1 ho).1
  have h1 := List.all_eq_true.1 h j (by simpa using hj)
  have h2 : ops.toList.getD j default = o := by
    rw [List.getD_eq_getElem?_getD, Array.getElem?_toList, ho]
    rfl
  rw [h2] at h1
  have h3 := List.all_eq_true.1 h1 e (by simpa using he)
  rw [hb] at h3
  simpa using h3
theorem zfn {α β : Type} {f : α → Option β} : ∀ {l : List α} {r : List β}, l.mapM f = some r → r.length = l.length ∧ ∀ (i : Nat) b, r[i]? = some b → ∃ a, l[i]? = some a ∧ f a = some b := by
  intro l
  induction l with
  | nil => intro r h; simp only [List.mapM_nil, Option.pure_def, Option.some.injEq] at h; subst h; simp
  | cons a l ih =>
    intro r h
    simp only [List.mapM_cons, Option.pure_def, Option.bind_eq_bind, Option.bind_eq_some_iff, Option.some.injEq] at h
    obtain ⟨b, hb, r', hr, rfl⟩ := h
    obtain ⟨h1, h2⟩ := ih hr
    refine ⟨by simp [h1], fun i b' hi => ?_⟩
    cases i with
    | zero => simp at hi; subst hi; exact ⟨a, by simp, hb⟩
    | succ i => simpa using h2 i b' (by simpa using hi)
theorem evOps_frame (O : zaO P orc) : ∀ (os : List AOper) (e e' : List D) (σ σ' : Heap) (wr : List Nat), evOps P orc os e σ = some (e', σ', wr) → σ.length ≤ σ'.length ∧ ∀ b, b < σ.length → b ∉ wr → σ'[b]? = σ[b]? := by
  intro os
  induction os with
  | nil =>
    intro e e' σ σ' wr h
    simp only [evOps, Option.some.injEq, Prod.mk.injEq] at h
    obtain ⟨_, rfl, _⟩ := h
    exact ⟨Nat.le_refl _, fun _ _ _ => rfl⟩
  | cons o os ih =>
    intro e e' σ σ' wr h
    simp only [evOps] at h
    split at h
    · rename_i e1 σ1 w1 h1
      split at h
      · rename_i e2 σ2 w2 h2
        simp only [Option.some.injEq, Prod.mk.injEq] at h
        obtain ⟨rfl, rfl, rfl⟩ := h
        obtain ⟨k1, k2, _⟩ := evOper_frame O h1
        obtain ⟨k3, k4⟩ := ih e1 e2 σ1 σ2 w2 h2
        refine ⟨Nat.le_trans k1 k3, fun b hb hn => ?_⟩
        simp only [List.mem_append, not_or] at hn
        rw [k4 b (by omega) hn.2, k2 b hb hn.1]
      · simp at h
    · simp at h
theorem evTr_frame (O : zaO P orc) : ∀ (os : List AOper) (n : Nat) (e e' : List D) (σ σ' : Heap) (is : List Info), evTr P orc n os e σ = some (e', σ', is) →
    σ.length ≤ σ'.length ∧ ∀ b, b < σ.length → b ∉ is.flatMap (·.wr) → σ'[b]? = σ[b]? := by
  intro os
  induction os with
  | nil =>
    intro n e e' σ σ' is h
    simp only [evTr, Option.some.injEq, Prod.mk.injEq] at h
    obtain ⟨_, rfl, _⟩ := h
    exact ⟨Nat.le_refl _, fun _ _ _ => rfl⟩
  | cons o os ih =>
    intro n e e' σ σ' is h
    simp only [evTr] at h
    split at h
    · rename_i e1 σ1 w1 h1
      split at h
      · split at h
        · rename_i e2 σ2 is2 h2
          simp only [Option.some.injEq, Prod.mk.injEq] at h
          obtain ⟨rfl, rfl, rfl⟩ := h
          obtain ⟨k1, k2, _⟩ := evOper_frame O h1
          obtain ⟨k3, k4⟩ := ih _ e1 e2 σ1 σ2 is2 h2
          refine ⟨Nat.le_trans k1 k3, fun b hb hn => ?_⟩
          simp only [List.flatMap_cons, List.mem_append, not_or] at hn
          rw [k4 b (by omega) hn.2, k2 b hb hn.1]
        · simp at h
      · simp at h
    · simp at h
theorem evC_frame (O : zaO P orc) : ∀ (k : Nat) (c : ACode) (e e' : List D) (σ σ' : Heap) (wr wr' : List Nat) (x : AExit), evC P orc k c e σ wr = some (x, e', σ', wr') →
    σ.length ≤ σ'.length ∧ (∀ b ∈ wr, b ∈ wr') ∧ ∀ b, b < σ.length → b ∉ wr' → σ'[b]? = σ[b]? := by
  intro k
  induction k with
  | zero => intro c e e' σ σ' wr wr' x h; simp [evC] at h
  | succ k ih =>
    intro c e e' σ σ' wr wr' x h
    cases c with
    | skip => simp only [evC, Option.some.injEq, Prod.mk.injEq] at h; obtain ⟨_, _, rfl, rfl⟩ := h; exact ⟨Nat.le_refl _, fun _ h => h, fun _ _ _ => rfl⟩
    | exit id => simp only [evC, Option.some.injEq, Prod.mk.injEq] at h; obtain ⟨_, _, rfl, rfl⟩ := h; exact ⟨Nat.le_refl _, fun _ h => h, fun _ _ _ => rfl⟩
    | ret => simp only [evC, Option.some.injEq, Prod.mk.injEq] at h; obtain ⟨_, _, rfl, rfl⟩ := h; exact ⟨Nat.le_refl _, fun _ h => h, fun _ _ _ => rfl⟩
    | stuck => simp [evC] at h
    | reg os =>
      simp only [evC, Option.map_eq_some_iff, Prod.mk.injEq] at h
      obtain ⟨⟨e1, σ1, w1⟩, h1, _, _, rfl, rfl⟩ := h
      obtain ⟨k1, k2⟩ := evOps_frame O os _ _ _ _ _ h1
      exact ⟨k1, fun b hb => by simp [hb], fun b hb hn => k2 b hb (fun h => hn (by simp [h]))⟩
    | drw os bef n p =>
      have one : ∀ n e1 σ1 w1, evDrw P orc os bef p n e σ = some (e1, σ1, w1) → σ.length ≤ σ1.length ∧ ∀ b, b < σ.length → b ∉ w1 → σ1[b]? = σ[b]? := by
        intro n e1 σ1 w1 h1
        unfold evDrw at h1
        split at h1
        · rename_i e2 σ2 is h2
          split at h1
          · simp only [Option.some.injEq, Prod.mk.injEq] at h1
            obtain ⟨_, rfl, rfl⟩ := h1
            exact evTr_frame O os _ _ _ _ _ _ h2
          · simp at h1
        · simp at h1
      simp only [evC] at h
      split at h
      · rename_i e1 σ1 w1 h1
        simp only [Option.some.injEq, Prod.mk.injEq] at h
        obtain ⟨_, _, rfl, rfl⟩ := h
        obtain ⟨k1, k2⟩ := one _ _ _ _ h1
        exact ⟨k1, fun b hb => List.mem_append.2 (.inr hb), fun b hb hn => k2 b hb (fun h => hn (List.mem_append.2 (.inl h)))⟩
      · split at h
        · rename_i e1 σ1 w1 h1
          simp only [Option.some.injEq, Prod.mk.injEq] at h
          obtain ⟨_, _, rfl, rfl⟩ := h
          obtain ⟨k1, k2⟩ := one _ _ _ _ h1
          exact ⟨k1, fun b hb => List.mem_append.2 (.inr hb), fun b hb hn => k2 b hb (fun h => hn (List.mem_append.2 (.inl h)))⟩
        · split at h
          · rename_i e1 σ1 w1 h1
            simp only [Option.some.injEq, Prod.mk.injEq] at h
            obtain ⟨_, _, rfl, rfl⟩ := h
            obtain ⟨k1, k2⟩ := one _ _ _ _ h1
            exact ⟨k1, fun b hb => List.mem_append.2 (.inr hb), fun b hb hn => k2 b hb (fun h => hn (List.mem_append.2 (.inl h)))⟩
          · simp at h
    | seq a b =>
      simp only [evC] at h
      split at h
      · rename_i e1 σ1 wr1 h1
        obtain ⟨k1, k2, k3⟩ := ih a _ _ _ _ _ _ _ h1
        obtain ⟨m1, m2, m3⟩ := ih b _ _ _ _ _ _ _ h
        exact ⟨Nat.le_trans k1 m1, fun b hb => m2 b (k2 b hb), fun b hb hn => by rw [m3 b (by omega) hn, k3 b hb (fun h => hn (m2 b h))]⟩
      · exact ih a _ _ _ _ _ _ _ h
    | cond o a b =>
      simp only [evC] at h
      split at h
      · exact ih a _ _ _ _ _ _ _ h
      · exact ih b _ _ _ _ _ _ _ h
      · simp at h
    | block id b =>
      simp only [evC] at h
      split at h
      · rename_i i e1 σ1 wr1 h1
        have := ih b _ _ _ _ _ _ _ h1
        split at h <;> (simp only [Option.some.injEq, Prod.mk.injEq] at h; obtain ⟨_, _, rfl, rfl⟩ := h; exact this)
      · exact ih b _ _ _ _ _ _ _ h
    | loop b =>
      simp only [evC] at h
      split at h
      · rename_i e1 σ1 wr1 h1
        obtain ⟨k1, k2, k3⟩ := ih b _ _ _ _ _ _ _ h1
        obtain ⟨m1, m2, m3⟩ := ih (.loop b) _ _ _ _ _ _ _ h
        exact ⟨Nat.le_trans k1 m1, fun b hb => m2 b (k2 b hb), fun b hb hn => by rw [m3 b (by omega) hn, k3 b hb (fun h => hn (m2 b h))]⟩
      · exact ih b _ _ _ _ _ _ _ h
theorem region_wp (O : zaO P orc) {id : Nat} {ops : Array Oper} {os : List AOper} {σ σ' : Heap} {M : Nat → Option Nat} {Fz : Nat → Prop} {w : World} {e e' : List D} {a : Act} {wr : List Nat} {Q : Exit → Act → World → Prop}
    (hc : ops.toList.mapM (compOper P ops) = some os) (R : Rel σ M Fz w) (E : zbb σ M Fz w e a.tmps) (h : evOps P orc os e σ = some (e', σ', wr))
    (hQ : ∀ a' w' M' Fz', a'.defers = a.defers → Rel σ' M' Fz' w' → zbb σ' M' Fz' w' e' a'.tmps → Evo σ M Fz w σ' M' Fz' w' → Q .normal a' w') : (Code.region id ops false).wp P Q a w := by
  obtain ⟨h1, h2⟩ := zfn hc
  refine wp_region ?_
  have := ops_wp O (ops := ops) (Q := Q) os 0 σ σ' M Fz w e e' a wr (fun j ao hj => by
    obtain ⟨o, ho, hco⟩ := h2 j ao hj
    exact ⟨o, by simpa using ho, hco⟩) R E h (fun a' w' M' Fz' x1 x2 x3 x4 _ => hQ a' w' M' Fz' x1 x2 x3 x4)
  rw [List.range_eq_range']
  simpa [h1] using this
theorem leads_spec {ops : Array Oper} : ∀ (k i j : Nat), i ≤ j → j < i + leads ops k i → leadOk ops j = true := by
  intro k
  induction k with
  | zero => intro i j h1 h2; simp [leads] at h2; omega
  | succ k ih =>
    intro i j h1 h2
    simp only [leads] at h2
    split at h2
    · rename_i h
      by_cases e : i = j
      · subst e; exact h
      · exact ih (i + 1) j (by omega) (by omega)
    · omega
theorem lead_spec {ops : Array Oper} {i : Nat} (h : i < lead ops) : Region.noSelect ops = true ∧ leadOk ops i = true := by
  unfold lead at h
  split at h
  · rename_i hn; exact ⟨hn, leads_spec ops.size 0 i (by omega) (by omega)⟩
  · omega
def normQ (Q : Exit → Act → World → Prop) : Exit → Act → World → Prop := fun x a w => x = .normal ∧ Q .normal a w
theorem wpOp_normQ {ops : Array Oper} {Q : Exit → Act → World → Prop} {i : Nat} {a : Act} {w : World} {K : Act → World → Prop} (h : wpOp P ops (normQ Q) i K a w) : wpOp P ops Q i K a w := by
  unfold wpOp at *
  split
  · rename_i ho; simpa [ho] using h
  · rename_i o ho
    simp only [ho] at h
    split
    · rename_i hw
      simp only [hw, if_true] at h
      rcases h with h | ⟨_, a', w', h, _⟩
      · left
        unfold Oper.wp at *
        generalize (execOp a.eval o).run P w = r at *
        cases r with
        | ok n w' =>
          cases n <;> simp only [Oper.upon] at h ⊢ <;>
            first
              | exact h
              | exact Calls.mono h (fun e w'' he => by
                  cases e with
                  | returned v => exact he
                  | panicked c => exact absurd he.1 (by simp)
                  | outgrown => obtain ⟨a', w', h', _⟩ := he; exact absurd h' (by simp))
        | halt x w' =>
          cases x <;> simp only [Oper.upon] at h ⊢
          exact absurd h.1 (by simp)
      · exact absurd h (by simp)
    · rename_i hw; simp only [hw] at h; exact h
theorem wpAny_normQ {ops : Array Oper} {Q : Exit → Act → World → Prop} {md : Region.Mode} : ∀ (fuel : Nat) (listed : Array Bool) (a : Act) (w : World), wpAny P md ops (normQ Q) fuel listed a w → wpAny P md ops Q fuel listed a w := by
  intro fuel
  induction fuel with
  | zero => intro listed a w h; exact ⟨h.1, h.2.2⟩
  | succ fuel ih =>
    intro listed a w h
    exact ⟨fun hr => (h.1 hr).2, fun i hi => wpOp_normQ (wpOp_mono (fun a' w' h' => ih _ a' w' h') (h.2 i hi))⟩
theorem lead_wp {ops : Array Oper} {Q : Exit → Act → World → Prop} {p : Nat} {w : World} (hp : p ≤ lead ops) (hps : p ≤ ops.size) (J : Nat → Act → Prop)
    (hJ : ∀ i o x a, i < p → ops[i]? = some o → (o.op = .move x ∨ o.op = .assign x) → o.guard = none → J i a → J (i + 1) (a.put o.dst (a.eval x)))
    (hend : ∀ a, J p a → wpAny P .any ops (normQ Q) (ops.size - p) (zeZ ops.size p) a w) : ∀ k a, k ≤ p → J (p - k) a → wpAny P .any ops (normQ Q) (ops.size - (p - k)) (zeZ ops.size (p - k)) a w := by
  intro k
  induction k with
  | zero => intro a _ h; exact hend a h
  | succ k ih =>
    intro a hk h
    obtain ⟨i, rfl⟩ : ∃ i, p = i + (k + 1) := ⟨p - (k + 1), by omega⟩
    have e1 : i + (k + 1) - (k + 1) = i := by omega
    have e2 : i + (k + 1) - k = i + 1 := by omega
    rw [e1] at h ⊢
    obtain ⟨hns, hlo⟩ := lead_spec (ops := ops) (i := i) (by omega)
    simp only [leadOk, Bool.and_eq_true] at hlo
    obtain ⟨⟨h1, h2⟩, h3⟩ := hlo
    cases ho : ops[i]? with
    | none => rw [ho] at h1; simp at h1
    | some o =>
      rw [ho] at h1
      simp only [Option.map_some, Option.getD_some, isMv, Bool.and_eq_true, Option.isNone_iff_eq_none] at h1
      obtain ⟨hg, hop⟩ := h1
      have hx : ∃ x, o.op = .move x ∨ o.op = .assign x := by
        split at hop
        · exact ⟨_, .inl ‹_›⟩
        · exact ⟨_, .inr ‹_›⟩
        · simp at hop
      obtain ⟨x, hx⟩ := hx
      have hy : Go.Yields P ops o (a.eval x) a := by
        left
        refine ⟨by simp [Region.wanted, hg], fun w => ?_⟩
        rcases hx with hx | hx <;> simp [execOp, hx]
      have e3 : ops.size - i = (ops.size - (i + 1)) + 1 := by omega
      rw [e3]
      refine wpAny_take ho hns h2 h3 (fun c a w h => absurd h.1 (by simp)) hy ?_
      have := ih (a.put o.dst (a.eval x)) (by omega) (by rw [e2]; exact hJ i o x a (by omega) ho hx hg h)
      rw [e2] at this
      exact this
theorem draw_wp (hmix : P.follows .mixedOrders = true) (O : zaO P orc) {id n : Nat} {ops : Array Oper} {os : List AOper} {σ σ' : Heap} {M : Nat → Option Nat} {Fz : Nat → Prop} {w : World} {e e' : List D} {a : Act} {is : List Info} {Q : Exit → Act → World → Prop}
    (hc : ops.toList.mapM (compOper P ops) = some os) (hback : backward ops.toList = true) (R : Rel σ M Fz w) (E : zbb σ M Fz w e a.tmps) (h : evTr P orc n os e σ = some (e', σ', is)) (hn : n ≤ os.length)
    (hp : pairsOk (befs ops.toList) is = true) (ht : tailOk (befs ops.toList) (lead ops) n os.length = true) (hpn : lead ops ≤ n)
    (hQ : ∀ a' w' M' Fz', a'.defers = a.defers → Rel σ' M' Fz' w' → zbb σ' M' Fz' w' e' a'.tmps → Evo σ M Fz w σ' M' Fz' w' → Q .normal a' w') : (Code.region id ops true).wp P Q a w := by
  obtain ⟨h1, h2⟩ := zfn hc
  obtain ⟨env, sg, wrs, k1, k2, k3, k4, k5, k6, k7⟩ := evTr_tr (n := n) os n e e' σ σ' is h
  subst k1 k2 k3 k4
  have hlen : os.length = ops.size := by simpa using h1
  -- a move at the head
  have mv : ∀ i o x, i < lead ops → ops[i]? = some o → (o.op = .move x ∨ o.op = .assign x) → o.guard = none → ∃ ox, opd x = some ox ∧ env (i + 1) = putE (env i) o.dst (ox.ev (env i)) ∧ sg (i + 1) = sg i ∧ wrs i = [] := by
    intro i o x hi ho hx hg
    have hil : i < os.length := by have := (Array.getElem?_eq_some_iff.1 ho).1; omega
    obtain ⟨o', ho', hco⟩ := h2 i _ (List.getElem?_eq_getElem hil)
    rw [Array.getElem?_toList, ho] at ho'
    simp only [Option.some.injEq] at ho'
    subst ho'
    have hst := (k6 i _ (List.getElem?_eq_getElem hil)).1
    unfold compOper at hco
    rw [hg] at hco
    simp only [compG] at hco
    cases hox : opd x with
    | none => rcases hx with hx | hx <;> (rw [hx] at hco; simp [comp, zeE, hox] at hco)
    | some ox =>
      have hcm : comp P o.op o.type = some (.mov ox) := by
        rcases hx with hx | hx <;> (rw [hx]; simp [comp, zeE, hox, isCall, isSel])
      rw [hcm] at hco
      simp only [Option.some.injEq] at hco
      rw [← hco] at hst
      simp only [evOper, wantE, zbY, Option.map_some, Option.some.injEq, Prod.mk.injEq] at hst
      exact ⟨ox, rfl, hst.1.symm, hst.2.1.symm, hst.2.2.symm⟩
  have T : Tr P orc ops os (lead ops) n env sg wrs := {
    len := hlen
    comp := fun j ao hj => by obtain ⟨o, ho, hco⟩ := h2 j ao hj; exact ⟨o, by simpa using ho, hco⟩
    step := fun i ao hi => (k6 i ao hi).1
    wrk := fun i hi => k7 i (by omega) hi
    le := hn
    pair := fun i j x y hij hx hy => by
      have hj := (List.getElem?_eq_some_iff.1 hy).1
      have h3 := List.all_eq_true.1 hp j (by simp; omega)
      have h4 := List.all_eq_true.1 h3 i (by simpa using hij)
      simp only [Bool.or_eq_true] at h4
      rcases h4 with h4 | h4
      · exact .inl (befs_ok h4)
      · right
        simp only [List.getD_eq_getElem?_getD, (k6 i x hx).2, (k6 j y hy).2, Option.getD_some] at h4
        exact h4
    tail := fun i j hpi hij hnj hj => by
      have h3 := List.all_eq_true.1 ht j (by simpa using hj)
      simp only [Bool.or_eq_true, decide_eq_true_eq] at h3
      rcases h3 with h3 | h3
      · omega
      · have h4 := List.all_eq_true.1 h3 i (by simpa using hij)
        simp only [Bool.or_eq_true] at h4
        rcases h4 with h4 | h4
        · have : i < lead ops := Nat.blt_eq.mp h4
          omega
        · exact befs_ok h4
    lead := fun i hi => by
      obtain ⟨_, hlo⟩ := lead_spec hi
      simp only [leadOk, Bool.and_eq_true] at hlo
      cases ho : ops[i]? with
      | none => rw [ho] at hlo; simp at hlo
      | some o =>
        have h1 := hlo.1.1
        rw [ho] at h1
        simp only [Option.map_some, Option.getD_some, isMv, Bool.and_eq_true, Option.isNone_iff_eq_none] at h1
        obtain ⟨hg, hop⟩ := h1
        have hx : ∃ x, o.op = .move x ∨ o.op = .assign x := by
          split at hop
          · exact ⟨_, .inl ‹_›⟩
          · exact ⟨_, .inr ‹_›⟩
          · simp at hop
        obtain ⟨x, hx⟩ := hx
        obtain ⟨_, _, _, h5, h6⟩ := mv i o x hi ho hx hg
        exact ⟨h5, h6⟩
    ple := hpn }
  refine wp_region_any hmix ?_
  have R1 : Rel (sg 0) M Fz { w with drawn := w.drawn + 1 } := R.heap rfl ⟨rfl, rfl, rfl⟩
  have EH : Evo (sg 0) M Fz w (sg 0) M Fz { w with drawn := w.drawn + 1 } := Evo.heap R rfl ⟨rfl, rfl, rfl⟩
  refine wpAny_normQ _ _ _ _ ?_
  have main := lead_wp (P := P) (ops := ops) (Q := Q) (p := lead ops) (w := { w with drawn := w.drawn + 1 }) (Nat.le_refl _) (by omega)
    (fun i b => zbb (sg 0) M Fz { w with drawn := w.drawn + 1 } (env i) b.tmps ∧ b.defers = a.defers)
    (fun i o x b hi ho hx hg hJ => by
      obtain ⟨ox, hox, h3, h4, _⟩ := mv i o x hi ho hx hg
      refine ⟨?_, by rw [← hJ.2]; cases o.dst <;> rfl⟩
      rw [h3]
      exact hJ.1.put o.dst (zcD hJ.1 hox))
    (fun b hJ => by
      refine drawn_wp O T (backward_ok hback) R1 hJ.1 fun a' w' M' Fz' hd R' E' EV => ⟨rfl, ?_⟩
      exact hQ a' w' M' Fz' (by rw [hd, hJ.2]) R' E' (EH.trans EV (Nat.le_refl _)))
    (lead ops) a (Nat.le_refl _) (by rw [Nat.sub_self]; exact ⟨E.mono EH, rfl⟩)
  rw [Nat.sub_self, Nat.sub_zero] at main
  exact main
theorem lastCall_le (os : List AOper) : lastCall os ≤ os.length := by unfold lastCall; omega
theorem firstAppend_le (os : List AOper) : firstAppend os ≤ os.length := by
  induction os with
  | nil => simp [firstAppend]
  | cons o os ih =>
    unfold firstAppend
    split <;> simp
    exact ih
theorem code_wp (hmix : P.follows .mixedOrders = true) (O : zaO P orc) : ∀ (k : Nat),
    (∀ (c : Code) (ac : ACode) (σ σ' : Heap) (M : Nat → Option Nat) (Fz : Nat → Prop) (w : World) (e e' : List D) (a : Act) (wr wr' : List Nat) (x : AExit) (Q : Exit → Act → World → Prop), zeA P c = some ac → Rel σ M Fz w → zbb σ M Fz w e a.tmps →
      evC P orc k ac e σ wr = some (x, e', σ', wr') → (∀ a' w' M' Fz', a'.defers = a.defers → Rel σ' M' Fz' w' → zbb σ' M' Fz' w' e' a'.tmps → Evo σ M Fz w σ' M' Fz' w' → Q (toE x) a' w') → c.wp P Q a w) ∧
    (∀ (c : Code) (ac : ACode) (σ σ' : Heap) (M : Nat → Option Nat) (Fz : Nat → Prop) (w : World) (e e' : List D) (a : Act) (wr wr' : List Nat) (x : AExit) (Q : Exit → Act → World → Prop), zeA P c = some ac → Rel σ M Fz w → zbb σ M Fz w e a.tmps →
      evC P orc k (.loop ac) e σ wr = some (x, e', σ', wr') → (∀ a' w' M' Fz', a'.defers = a.defers → Rel σ' M' Fz' w' → zbb σ' M' Fz' w' e' a'.tmps → Evo σ M Fz w σ' M' Fz' w' → Q (toE x) a' w') → Code.rounds P c Q k a w) := by
  intro k
  induction k with
  | zero => exact ⟨fun c ac σ σ' M Fz w e e' a wr wr' x Q _ _ _ h => by simp [evC] at h, fun c ac σ σ' M Fz w e e' a wr wr' x Q _ _ _ h => by simp [evC] at h⟩
  | succ k ih =>
    obtain ⟨ih1, ih2⟩ := ih
    have body : ∀ (c : Code) (ac : ACode) (σ σ' : Heap) (M : Nat → Option Nat) (Fz : Nat → Prop) (w : World) (e e' : List D) (a : Act) (wr wr' : List Nat) (x : AExit) (Q : Exit → Act → World → Prop), zeA P c = some ac → Rel σ M Fz w → zbb σ M Fz w e a.tmps →
      evC P orc (k + 1) (.loop ac) e σ wr = some (x, e', σ', wr') → (∀ a' w' M' Fz', a'.defers = a.defers → Rel σ' M' Fz' w' → zbb σ' M' Fz' w' e' a'.tmps → Evo σ M Fz w σ' M' Fz' w' → Q (toE x) a' w') → Code.rounds P c Q (k + 1) a w := by
      intro c ac σ σ' M Fz w e e' a wr wr' x Q hc R E h hQ
      rw [rounds_succ]
      simp only [evC] at h
      split at h
      · rename_i e1 σ1 wr1 h1
        have hl := (evC_frame O _ _ _ _ _ _ _ _ _ h1).1
        refine ih1 c ac σ σ1 M Fz w e e1 a wr wr1 .normal _ hc R E h1 fun a1 w1 M1 Fz1 hd R1 E1 EV1 => ?_
        exact ih2 c ac σ1 σ' M1 Fz1 w1 e1 e' a1 wr1 wr' x Q hc R1 E1 h fun a2 w2 M2 Fz2 hd2 R2 E2 EV2 => hQ a2 w2 M2 Fz2 (by rw [hd2, hd]) R2 E2 (EV1.trans EV2 hl)
      · rename_i hne
        have hx : x ≠ .normal := fun hx => by subst hx; exact hne _ _ _ h
        refine ih1 c ac σ σ' M Fz w e e' a wr wr' x _ hc R E h fun a1 w1 M1 Fz1 hd R1 E1 EV1 => ?_
        have := hQ a1 w1 M1 Fz1 hd R1 E1 EV1
        cases x with
        | normal => exact absurd rfl hx
        | exit i => exact this
        | ret => exact this
    refine ⟨?_, body⟩
    intro c ac σ σ' M Fz w e e' a wr wr' x Q hc R E h hQ
    cases c with
    | skip =>
      simp only [zeA, Option.some.injEq] at hc
      subst hc
      simp only [evC, Option.some.injEq, Prod.mk.injEq] at h
      obtain ⟨rfl, rfl, rfl, _⟩ := h
      exact wp_skip (hQ a w M Fz rfl R E (Evo.refl R))
    | exit id =>
      simp only [zeA, Option.some.injEq] at hc
      subst hc
      simp only [evC, Option.some.injEq, Prod.mk.injEq] at h
      obtain ⟨rfl, rfl, rfl, _⟩ := h
      exact wp_exit (hQ a w M Fz rfl R E (Evo.refl R))
    | ret =>
      simp only [zeA, Option.some.injEq] at hc
      subst hc
      simp only [evC, Option.some.injEq, Prod.mk.injEq] at h
      obtain ⟨rfl, rfl, rfl, _⟩ := h
      exact wp_ret (hQ a w M Fz rfl R E (Evo.refl R))
    | region id ops draw =>
      simp only [zeA] at hc
      split at hc
      · rename_i os hos
        cases draw with
        | false =>
          simp only [Bool.false_eq_true, if_false, Option.some.injEq] at hc
          subst hc
          simp only [evC, Option.map_eq_some_iff, Prod.mk.injEq] at h
          obtain ⟨⟨e1, σ1, w1⟩, h1, rfl, rfl, rfl, _⟩ := h
          exact region_wp O hos R E h1 hQ
        | true =>
          simp only [if_true] at hc
          split at hc
          · rename_i hback
            simp only [Option.some.injEq] at hc
            subst hc
            have one : ∀ n e1 σ1 w1, n ≤ os.length → evDrw P orc os (befs ops.toList) (lead ops) n e σ = some (e1, σ1, w1) → x = .normal → e1 = e' → σ1 = σ' → (Code.region id ops true).wp P Q a w := by
              intro n e1 σ1 w1 hn h1 hx he hs
              unfold evDrw at h1
              split at h1
              · rename_i e2 σ2 is h2
                split at h1
                · rename_i hchk
                  simp only [Bool.and_eq_true] at hchk
                  simp only [Option.some.injEq, Prod.mk.injEq] at h1
                  obtain ⟨rfl, rfl, rfl⟩ := h1
                  subst hx he hs
                  exact draw_wp hmix O hos hback R E h2 hn hchk.1.1 hchk.1.2 (Nat.le_of_ble_eq_true hchk.2) hQ
                · simp at h1
              · simp at h1
            simp only [evC] at h
            split at h
            · rename_i e1 σ1 w1 h1
              simp only [Option.some.injEq, Prod.mk.injEq] at h
              exact one _ _ _ _ (firstAppend_le os) h1 h.1.symm h.2.1 h.2.2.1
            · split at h
              · rename_i e1 σ1 w1 h1
                simp only [Option.some.injEq, Prod.mk.injEq] at h
                exact one _ _ _ _ (lastCall_le os) h1 h.1.symm h.2.1 h.2.2.1
              · split at h
                · rename_i e1 σ1 w1 h1
                  simp only [Option.some.injEq, Prod.mk.injEq] at h
                  exact one _ _ _ _ (Nat.le_refl _) h1 h.1.symm h.2.1 h.2.2.1
                · simp at h
          · simp only [Option.some.injEq] at hc; subst hc; simp [evC] at h
      · simp only [Option.some.injEq] at hc; subst hc; simp [evC] at h
    | seq c1 c2 =>
      simp only [zeA] at hc
      split at hc
      · rename_i a1 a2 h1 h2
        simp only [Option.some.injEq] at hc
        subst hc
        simp only [evC] at h
        split at h
        · rename_i e1 σ1 wr1 hev
          have hl := (evC_frame O _ _ _ _ _ _ _ _ _ hev).1
          refine wp_seq (ih1 c1 a1 σ σ1 M Fz w e e1 a wr wr1 .normal _ h1 R E hev fun a1' w1 M1 Fz1 hd R1 E1 EV1 => ?_)
          exact ih1 c2 a2 σ1 σ' M1 Fz1 w1 e1 e' a1' wr1 wr' x Q h2 R1 E1 h fun a2' w2 M2 Fz2 hd2 R2 E2 EV2 => hQ a2' w2 M2 Fz2 (by rw [hd2, hd]) R2 E2 (EV1.trans EV2 hl)
        · rename_i hne
          have hx : x ≠ .normal := fun hx => by subst hx; exact hne _ _ _ h
          refine wp_seq (ih1 c1 a1 σ σ' M Fz w e e' a wr wr' x _ h1 R E h fun a1' w1 M1 Fz1 hd R1 E1 EV1 => ?_)
          have := hQ a1' w1 M1 Fz1 hd R1 E1 EV1
          cases x with
          | normal => exact absurd rfl hx
          | exit i => exact this
          | ret => exact this
      · simp at hc
    | cond o c1 c2 =>
      simp only [zeA] at hc
      split at hc
      · rename_i oo a1 a2 h0 h1 h2
        simp only [Option.some.injEq] at hc
        subst hc
        simp only [evC] at h
        have hv := zcD E h0
        split at h
        · rename_i ht
          exact wp_cond_true (litBool_inv hv ht) (ih1 c1 a1 σ σ' M Fz w e e' a wr wr' x Q h1 R E h hQ)
        · rename_i ht
          exact wp_cond_false (litBool_inv hv ht) (ih1 c2 a2 σ σ' M Fz w e e' a wr wr' x Q h2 R E h hQ)
        · simp at h
      · simp only [Option.some.injEq] at hc; subst hc; simp [evC] at h
    | block id c1 =>
      simp only [zeA, Option.map_eq_some_iff] at hc
      obtain ⟨a1, h1, rfl⟩ := hc
      simp only [evC] at h
      refine wp_block ?_
      split at h
      · rename_i i e1 σ1 wr1 hev
        split at h
        · rename_i hid
          simp only [Option.some.injEq, Prod.mk.injEq] at h
          obtain ⟨rfl, rfl, rfl, _⟩ := h
          refine ih1 c1 a1 σ σ1 M Fz w e e1 a wr wr1 (.exit i) _ h1 R E hev fun a1' w1 M1 Fz1 hd R1 E1 EV1 => ?_
          have := hQ a1' w1 M1 Fz1 hd R1 E1 EV1
          simp only [toE, Exit.inBlock, hid, if_true] at this ⊢
          exact this
        · rename_i hid
          simp only [Option.some.injEq, Prod.mk.injEq] at h
          obtain ⟨rfl, rfl, rfl, _⟩ := h
          refine ih1 c1 a1 σ σ1 M Fz w e e1 a wr wr1 (.exit i) _ h1 R E hev fun a1' w1 M1 Fz1 hd R1 E1 EV1 => ?_
          have := hQ a1' w1 M1 Fz1 hd R1 E1 EV1
          simp only [toE, Exit.inBlock, hid, if_false] at this ⊢
          exact this
      · rename_i hne
        refine ih1 c1 a1 σ σ' M Fz w e e' a wr wr' x _ h1 R E h fun a1' w1 M1 Fz1 hd R1 E1 EV1 => ?_
        have := hQ a1' w1 M1 Fz1 hd R1 E1 EV1
        cases x with
        | normal => exact this
        | exit i => exact absurd h (hne _ _ _ _)
        | ret => exact this
    | loop c1 =>
      simp only [zeA, Option.map_eq_some_iff] at hc
      obtain ⟨a1, h1, rfl⟩ := hc
      exact wp_loop_rounds (k + 1) (body c1 a1 σ σ' M Fz w e e' a wr wr' x Q h1 R E h hQ)
    | _ => simp only [zeA, Option.some.injEq] at hc; subst hc; simp [evC] at h
end
end Go.Abs
