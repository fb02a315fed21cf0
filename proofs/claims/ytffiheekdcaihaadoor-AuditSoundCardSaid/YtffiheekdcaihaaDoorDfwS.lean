/- Regions that draw their order: the theorem. -/
import Derived.Test.YtffiheekdcaihaaDoorDfwR
set_option linter.all false
namespace Go.Abs
variable [Gl]
section
variable {P : Program} {orc : Orc} {ops : Array Oper} {os : List AOper} {p0 n0 : Nat} {env : Nat → List D} {sg : Nat → Heap} {wrs : Nat → List Nat}
variable {M : Nat → Option Nat} {Fz : Nat → Prop} {w : World} {a : Act}
def unl (N : Nat) (listed : Array Bool) : Nat := ((List.range N).filter fun j => !listed.getD j false).length
def Lst (listed : Array Bool) (i : Nat) : Prop := listed.getD i false = true
theorem lst_set {listed : Array Bool} {k : Nat} (hk : k < listed.size) (i : Nat) : Lst (listed.setIfInBounds k true) i ↔ Lst listed i ∨ i = k := by
  unfold Lst
  by_cases h : k = i
  · subst h
    simp [hk]
  · rw [getD_set_ne false h]
    constructor
    · exact .inl
    · rintro (h' | h')
      · exact h'
      · exact absurd h'.symm h
theorem unl_set {N : Nat} {listed : Array Bool} {k : Nat} (hs : k < listed.size) (hk : k < N) (hn : ¬ Lst listed k) : unl N (listed.setIfInBounds k true) < unl N listed := by
  unfold unl
  have e : (List.range N).filter (fun j => !(listed.setIfInBounds k true).getD j false) = ((List.range N).filter fun j => !listed.getD j false).filter fun j => j != k := by
    rw [List.filter_filter]
    apply List.filter_congr
    intro j _
    have := lst_set hs (i := j)
    unfold Lst at this
    cases h1 : listed.getD j false <;> cases h2 : (listed.setIfInBounds k true).getD j false <;> by_cases h3 : j = k <;> simp_all
  rw [e, List.length_filter_lt_length_iff_exists]
  refine ⟨k, ?_, by simp⟩
  rw [List.mem_filter]
  refine ⟨by simpa using hk, ?_⟩
  unfold Lst at hn
  simpa using hn
theorem all_of_none {N : Nat} {listed : Array Bool} (h : unl N listed = 0) : ∀ i, i < N → Lst listed i := by
  intro i hi
  unfold unl at h
  have := List.eq_nil_of_length_eq_zero h
  rw [List.filter_eq_nil_iff] at this
  have := this i (by simpa using hi)
  unfold Lst
  simpa using this
theorem least_unl {N : Nat} {listed : Array Bool} (h : ∃ i, i < N ∧ ¬ Lst listed i) : ∃ i, i < N ∧ ¬ Lst listed i ∧ ∀ j, j < i → Lst listed j := by
  obtain ⟨i, hi, hn⟩ := h
  induction i using Nat.strongRecOn with
  | _ i ih =>
    by_cases hx : ∀ j, j < i → Lst listed j
    · exact ⟨i, hi, hn, hx⟩
    · have : ∃ j, j < i ∧ ¬ Lst listed j := by
        refine Classical.byContradiction fun hc => hx fun j hj => Classical.byContradiction fun hl => hc ⟨j, hj, hl⟩
      obtain ⟨j, hj, hl⟩ := this
      exact ih j hj (by omega) hl
theorem ready_none {listed : Array Bool} (hsz : listed.size = ops.size) (hback : ∀ (j : Nat) o e, ops[j]? = some o → e ∈ o.after → Region.binds .any e = true → e.on < j)
    (h : Region.ready .any ops listed = []) : ∀ i, i < ops.size → Lst listed i := by
  intro i hi
  refine Classical.byContradiction fun hn => ?_
  obtain ⟨j, hj, hjn, hall⟩ := least_unl (N := ops.size) ⟨i, hi, hn⟩
  have ho : ops[j]? = some ops[j] := Array.getElem?_eq_getElem hj
  have : j ∈ Region.ready .any ops listed := by
    rw [mem_ready]
    refine ⟨?_, ops[j], ho, fun e he hb => hall e.on (hback j _ e ho he hb)⟩
    unfold Lst at hjn
    have e : listed[j]? = some (listed[j]'(by omega)) := Array.getElem?_eq_getElem _
    simp only [Array.getD_eq_getD_getElem?, e, Option.getD_some] at hjn ⊢
    simpa using hjn
  rw [h] at this
  simp at this
theorem cnt_ge (n0 : Nat) : ∀ m, ((List.range (n0 + m)).filter (fun j => decide (n0 ≤ j))).length = m := by
  intro m
  induction m with
  | zero =>
    have : (List.range (n0 + 0)).filter (fun j => decide (n0 ≤ j)) = [] := by
      rw [List.filter_eq_nil_iff]
      intro x hx
      simp at hx ⊢
      omega
    rw [this]; rfl
  | succ m ih =>
    rw [← Nat.add_assoc, List.range_succ, List.filter_append, List.length_append, ih]
    simp
theorem getD_replicate_false' (m j : Nat) : (Array.replicate m false).getD j false = false := by
  simp only [Array.getD_eq_getD_getElem?, Array.getElem?_replicate]
  split <;> rfl
theorem tail_wp (O : zaO P orc) (T : Tr P orc ops os p0 n0 env sg wrs) (hback : ∀ (j : Nat) o e, ops[j]? = some o → e ∈ o.after → Region.binds .any e = true → e.on < j) {Q : Exit → Act → World → Prop}
    (hQ : ∀ a' w' M' Fz', a'.defers = a.defers → Rel (sg os.length) M' Fz' w' → zbb (sg os.length) M' Fz' w' (env os.length) a'.tmps → Evo (sg 0) M Fz w (sg os.length) M' Fz' w' → Q .normal a' w') :
    ∀ (fuel : Nat) (listed : Array Bool) (k : Nat) (M' : Nat → Option Nat) (Fz' : Nat → Prop) (w' : World) (a' : Act), listed.size = ops.size → n0 ≤ k → k ≤ os.length → (∀ i, i < ops.size → (Lst listed i ↔ i < k)) → os.length - k ≤ fuel → a'.defers = a.defers →
      Rel (sg k) M' Fz' w' → zbb (sg k) M' Fz' w' (env k) a'.tmps → Evo (sg 0) M Fz w (sg k) M' Fz' w' → wpAny P .any ops Q fuel listed a' w' := by
  have hlen := T.len
  intro fuel
  induction fuel with
  | zero =>
    intro listed k M' Fz' w' a' hsz hk hkl hS hf hd R E EV
    have hk2 : k = os.length := by omega
    subst hk2
    refine ⟨?_, hQ a' w' M' Fz' hd R E EV⟩
    cases hr : Region.ready .any ops listed with
    | nil => rfl
    | cons j l =>
      have hm : j ∈ Region.ready .any ops listed := by rw [hr]; simp
      rw [mem_ready] at hm
      obtain ⟨h1, o, ho, _⟩ := hm
      have hj : j < ops.size := (Array.getElem?_eq_some_iff.1 ho).1
      have := (hS j hj).2 (by omega)
      unfold Lst at this
      have e : listed[j]? = some (listed[j]'(by omega)) := Array.getElem?_eq_getElem _
      simp only [Array.getD_eq_getD_getElem?, e, Option.getD_some] at this h1
      rw [this] at h1
      simp at h1
  | succ fuel ih =>
    intro listed k M' Fz' w' a' hsz hk hkl hS hf hd R E EV
    refine ⟨fun hr => ?_, fun j hj => ?_⟩
    · have hall := ready_none hsz hback hr
      have hk2 : k = os.length := by
        rcases Nat.lt_or_ge k os.length with h | h
        · have := (hS k (by omega)).1 (hall k (by omega)); omega
        · omega
      subst hk2
      exact hQ a' w' M' Fz' hd R E EV
    · rw [mem_ready] at hj
      obtain ⟨h1, o, ho, hrd⟩ := hj
      have hjl : j < ops.size := (Array.getElem?_eq_some_iff.1 ho).1
      have hC : Closed ops (Lst listed) := by
        intro i o' e hi ho' he hb
        have hil : i < ops.size := (Array.getElem?_eq_some_iff.1 ho').1
        have h2 := (hS i hil).1 hi
        have h3 := hback i o' e ho' he hb
        exact (hS e.on (by omega)).2 (by omega)
      have hnj : ¬ Lst listed j := by
        unfold Lst
        have e : listed[j]? = some (listed[j]'(by omega)) := Array.getElem?_eq_getElem _
        simp only [Array.getD_eq_getD_getElem?, e, Option.getD_some] at h1 ⊢
        rw [h1]; simp
      have hkj : k ≤ j := by
        rcases Nat.lt_or_ge j k with h | h
        · exact absurd ((hS j hjl).2 h) hnj
        · exact h
      have hjk : j = k := by
        rcases Nat.lt_or_ge k j with h | h
        · have hb := T.tail k j (by have := T.ple; omega) h (by omega) (by omega)
          have := hb.ready hC (fun o' e ho' he hbd => by rw [ho] at ho'; simp only [Option.some.injEq] at ho'; subst ho'; exact hrd e he hbd)
          have := (hS k (by omega)).1 this
          omega
        · omega
      subst hjk
      obtain ⟨ao, hao⟩ := T.at (i := j) (by omega)
      obtain ⟨o', ho', hco⟩ := T.comp j ao hao
      refine oper_wp O R E ho' hco (T.step j ao hao) _ fun a1 w1 M1 Fz1 hd1 R1 E1 EV1 hl1 => ?_
      refine ih (listed.setIfInBounds j true) (j + 1) M1 Fz1 w1 a1 (by simp [hsz]) (by omega) (by omega) (fun i hi => ?_) (by omega) (by rw [hd1, hd]) R1 E1 (EV.trans EV1 (T.len_le O (by omega) (by omega)))
      rw [lst_set (by omega), hS i hi]
      omega
theorem drawn_wp (O : zaO P orc) (T : Tr P orc ops os p0 n0 env sg wrs) (hback : ∀ (j : Nat) o e, ops[j]? = some o → e ∈ o.after → Region.binds .any e = true → e.on < j) (R : Rel (sg 0) M Fz w) (E : zbb (sg 0) M Fz w (env p0) a.tmps) {Q : Exit → Act → World → Prop}
    (hQ : ∀ a' w' M' Fz', a'.defers = a.defers → Rel (sg os.length) M' Fz' w' → zbb (sg os.length) M' Fz' w' (env os.length) a'.tmps → Evo (sg 0) M Fz w (sg os.length) M' Fz' w' → Q .normal a' w') :
    wpAny P .any ops Q (ops.size - p0) (zeZ ops.size p0) a w := by
  have hple := T.ple
  have hlen := T.len
  have hle := T.le
  have hdom : ∀ b, M b ≠ none → b < (sg 0).length := fun b h => by
    cases hM : M b with
    | none => exact absurd hM h
    | some c => exact (R.lt hM).1
  have main : ∀ (fuel : Nat) (listed : Array Bool) (M' : Nat → Option Nat) (Fz' : Nat → Prop) (w' : World) (a' : Act), listed.size = ops.size → unl ops.size listed ≤ fuel → Closed ops (Lst listed) → (∀ i, i < p0 → Lst listed i) → (∀ i, Lst listed i → i < n0) →
      Inv os n0 env sg wrs M Fz w a.defers (Lst listed) M' Fz' w' a' → wpAny P .any ops Q fuel listed a' w' := by
    intro fuel
    induction fuel with
    | zero =>
      intro listed M' Fz' w' a' hsz hu hC hpl hlt I
      have hall := all_of_none (N := ops.size) (listed := listed) (by omega)
      have hn : n0 = os.length := by
        rcases Nat.lt_or_ge n0 os.length with h | h
        · have := hlt n0 (hall n0 (by omega)); omega
        · omega
      obtain ⟨R1, E1, EV1⟩ := I.done T O (fun i hi => hall i (by omega)) hdom
      refine tail_wp O T hback hQ 0 listed n0 M' Fz' w' a' hsz (Nat.le_refl _) hle (fun i hi => ⟨fun h => hlt i h, fun _ => hall i hi⟩) (by omega) I.dfr R1 E1 EV1
    | succ fuel ih =>
      intro listed M' Fz' w' a' hsz hu hC hpl hlt I
      by_cases hfull : ∀ i, i < n0 → Lst listed i
      · obtain ⟨R1, E1, EV1⟩ := I.done T O hfull hdom
        refine tail_wp O T hback hQ (fuel + 1) listed n0 M' Fz' w' a' hsz (Nat.le_refl _) hle (fun i hi => ⟨fun h => hlt i h, fun h => hfull i h⟩) ?_ I.dfr R1 E1 EV1
        have : os.length - n0 ≤ unl ops.size listed := by
          unfold unl
          have e : (List.range ops.size).filter (fun j => !listed.getD j false) = (List.range ops.size).filter (fun j => decide (n0 ≤ j)) := by
            apply List.filter_congr
            intro j _
            have h1 := hlt j
            have h2 := hfull j
            unfold Lst at h1 h2
            cases hx : listed.getD j false
            · simp only [hx] at h1 h2
              simp
              rcases Nat.lt_or_ge j n0 with h | h
              · exact absurd (h2 h) (by simp)
              · exact h
            · have := h1 hx
              simp
              omega
          rw [e, show ops.size = n0 + (os.length - n0) from by omega, cnt_ge]
          exact Nat.le_refl _
        omega
      · refine ⟨fun hr => ?_, fun j hj => ?_⟩
        · exact absurd (fun i hi => ready_none hsz hback hr i (by omega)) hfull
        · rw [mem_ready] at hj
          obtain ⟨h1, o, ho, hrd⟩ := hj
          have hjl : j < ops.size := (Array.getElem?_eq_some_iff.1 ho).1
          have hnj : ¬ Lst listed j := by
            unfold Lst
            have e : listed[j]? = some (listed[j]'(by omega)) := Array.getElem?_eq_getElem _
            simp only [Array.getD_eq_getD_getElem?, e, Option.getD_some] at h1 ⊢
            rw [h1]; simp
          have hrd' : ∀ o' e, ops[j]? = some o' → e ∈ o'.after → Region.binds .any e = true → Lst listed e.on := fun o' e ho' he hbd => by
            rw [ho] at ho'; simp only [Option.some.injEq] at ho'; subst ho'; exact hrd e he hbd
          have hjn : j < n0 := by
            rcases Nat.lt_or_ge j n0 with h | h
            · exact h
            · refine absurd (fun i hi => ?_) hfull
              rcases Nat.lt_or_ge i p0 with hip | hip
              · exact hpl i hip
              · exact (T.tail i j hip (by omega) h (by omega)).ready hC hrd'
          refine I.step (S' := Lst (listed.setIfInBounds j true)) T O hC hjn hnj hrd' (fun i => lst_set (by omega) i) _ fun a1 w1 M1 Fz1 I1 => ?_
          refine ih (listed.setIfInBounds j true) M1 Fz1 w1 a1 (by simp [hsz]) ?_ ?_ (fun i hi => (lst_set (by omega) i).2 (.inl (hpl i hi))) ?_ I1
          · have := unl_set (N := ops.size) (listed := listed) (k := j) (by omega) hjl hnj
            omega
          · intro i o' e hi ho' he hb
            rw [lst_set (by omega)] at hi ⊢
            rcases hi with hi | rfl
            · exact .inl (hC i o' e hi ho' he hb)
            · exact .inl (hrd' o' e ho' he hb)
          · intro i hi
            rw [lst_set (by omega)] at hi
            rcases hi with hi | rfl
            · exact hlt i hi
            · exact hjn
  have hsz : ∀ k, (zeZ ops.size k).size = ops.size := by
    intro k
    induction k with
    | zero => simp [zeZ]
    | succ k ih => simp [zeZ, ih]
  have hl : ∀ k i, i < ops.size → (Lst (zeZ ops.size k) i ↔ i < k) := by
    intro k
    induction k with
    | zero => intro i _; simp only [zeZ, Lst]; rw [getD_replicate_false']; simp
    | succ k ih =>
      intro i hi
      by_cases hk : k < ops.size
      · simp only [zeZ]
        rw [lst_set (by rw [hsz]; exact hk), ih i hi]
        omega
      · have : (zeZ ops.size k).setIfInBounds k true = zeZ ops.size k := by
          apply Array.ext'
          simp [Array.setIfInBounds, hsz, hk]
        simp only [zeZ, this]
        rw [ih i hi]
        omega
  have hlo : ∀ i, Lst (zeZ ops.size p0) i → i < ops.size := by
    intro i h
    unfold Lst at h
    rcases Nat.lt_or_ge i ops.size with h1 | h1
    · exact h1
    · rw [Array.getD_eq_getD_getElem?, Array.getElem?_eq_none (by rw [hsz]; exact h1)] at h
      simp at h
  have hun : ∀ k, k ≤ ops.size → unl ops.size (zeZ ops.size k) ≤ ops.size - k := by
    intro k
    induction k with
    | zero => intro _; unfold unl; exact Nat.le_trans (List.length_filter_le _ _) (by simp)
    | succ k ih =>
      intro hk
      have := unl_set (N := ops.size) (listed := zeZ ops.size k) (k := k) (by rw [hsz]; omega) (by omega) (fun h => by have := (hl k k (by omega)).1 h; omega)
      have := ih (by omega)
      simp only [zeZ]
      omega
  refine main (ops.size - p0) _ M Fz w a (hsz _) (hun p0 (by omega)) ?_ (fun i hi => (hl p0 i (by omega)).2 hi) (fun i hi => ?_) (Inv.start R rfl E (fun i hi => hl p0 i (by omega)) T O)
  · intro j o e hj ho he hb
    have h1 := (hl p0 j (hlo j hj)).1 hj
    have h2 := hback j o e ho he hb
    exact (hl p0 e.on (by omega)).2 (by omega)
  · have := (hl p0 i (hlo i hi)).1 hi
    omega
end
end Go.Abs
