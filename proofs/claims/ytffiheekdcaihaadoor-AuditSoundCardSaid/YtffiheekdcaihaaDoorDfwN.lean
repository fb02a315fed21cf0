/- Regions that draw their order: every order that the edges allow gives what the order of the text gives. -/
import Derived.Test.YtffiheekdcaihaaDoorDfwM
set_option linter.all false
namespace Go.Abs
variable [Gl]
structure Stp (M : Nat → Option Nat) (Fz : Nat → Prop) (w : World) (M' : Nat → Option Nat) (Fz' : Nat → Prop) (w' : World) : Prop where
  size : w.heap.size ≤ w'.heap.size
  frame : ∀ c : Nat, c < w.heap.size → (∀ b, M b ≠ some c) → w'.heap[c]? = w.heap[c]?
  ext : ∀ b c, M b = some c → M' b = some c
  ran : ∀ b c, M' b = some c → M b = some c ∨ w.heap.size ≤ c
  fz : ∀ c : Nat, Fz c → Fz' c ∧ w'.heap[c]? = w.heap[c]?
  fz' : ∀ c, Fz' c → Fz c ∨ w.heap.size ≤ c
  shp : ∀ (c : Nat) arr T fr, w.heap[c]? = some (.cells arr T fr) → ∃ arr', w'.heap[c]? = some (.cells arr' T fr) ∧ arr'.size = arr.size
  out : w'.os = w.os ∧ w'.tape = w.tape ∧ w'.output = w.output
section
variable {σ σ' : Heap} {M M' M'' : Nat → Option Nat} {Fz Fz' Fz'' : Nat → Prop} {w w' w'' : World}
theorem Stp.refl : Stp M Fz w M Fz w := {
  size := Nat.le_refl _
  frame := fun _ _ _ => rfl
  ext := fun _ _ h => h
  ran := fun _ _ h => .inl h
  fz := fun _ h => ⟨h, rfl⟩
  fz' := fun _ h => .inl h
  shp := fun c arr T fr h => ⟨arr, h, rfl⟩
  out := ⟨rfl, rfl, rfl⟩ }
theorem Stp.trans (A : Stp M Fz w M' Fz' w') (B : Stp M' Fz' w' M'' Fz'' w'') : Stp M Fz w M'' Fz'' w'' := {
  size := Nat.le_trans A.size B.size
  frame := fun c hc hM => by
    rw [← A.frame c hc hM]
    refine B.frame c (Nat.lt_of_lt_of_le hc A.size) (fun b hb => ?_)
    rcases A.ran b c hb with h0 | h0
    · exact hM b h0
    · omega
  ext := fun b c h => B.ext b c (A.ext b c h)
  ran := fun b c h => by
    rcases B.ran b c h with h0 | h0
    · exact A.ran b c h0
    · exact .inr (Nat.le_trans A.size h0)
  fz := fun c h => ⟨(B.fz c (A.fz c h).1).1, by rw [(B.fz c (A.fz c h).1).2, (A.fz c h).2]⟩
  fz' := fun c h => by
    rcases B.fz' c h with h0 | h0
    · exact A.fz' c h0
    · exact .inr (Nat.le_trans A.size h0)
  shp := fun c arr T fr h => by
    obtain ⟨a1, h1, e1⟩ := A.shp c arr T fr h
    obtain ⟨a2, h2, e2⟩ := B.shp c a1 T fr h1
    exact ⟨a2, h2, by rw [e2, e1]⟩
  out := ⟨B.out.1.trans A.out.1, B.out.2.1.trans A.out.2.1, B.out.2.2.trans A.out.2.2⟩ }
def SzLe (σ σ' : Heap) : Prop := ∀ (b : Nat) ob, σ[b]? = some ob → ∃ ob', σ'[b]? = some ob' ∧ ob'.sz = ob.sz
theorem SzLe.refl : SzLe σ σ := fun _ ob h => ⟨ob, h, rfl⟩
theorem V.sub (hσ : SzLe σ σ') (hext : ∀ b c, M b = some c → M' b = some c) (hfz : ∀ c : Nat, Fz c → Fz' c ∧ w'.heap[c]? = w.heap[c]?)
    (hshp : ∀ (c : Nat) arr T fr, w.heap[c]? = some (.cells arr T fr) → ∃ arr', w'.heap[c]? = some (.cells arr' T fr) ∧ arr'.size = arr.size) {d : D} {v : Value} (h : V σ M Fz w d v) : V σ' M' Fz' w' d v := by
  induction h with
  | c h => exact .c (h.mono hfz)
  | any v => exact .any v
  | ptr a ob h hle hv =>
    obtain ⟨ob', h', hs⟩ := hσ _ _ h
    refine .ptr a ob' h' (by omega) (fun he => ?_)
    obtain ⟨c, hM, ha⟩ := hv (by omega)
    exact ⟨c, hext _ _ hM, ha⟩
  | sl a n cap hnn ob h hle hv =>
    obtain ⟨ob', h', hs⟩ := hσ _ _ h
    refine .sl a n cap hnn ob' h' (by omega) (fun he => ?_)
    rcases hv (by omega) with h1 | ⟨c, o, arr, T, hM, ha, hn, hl, ho, hh, hb, hz⟩
    · exact .inl h1
    · obtain ⟨arr', hh', hsz⟩ := hshp _ _ _ _ hh
      exact .inr ⟨c, o, arr', T, hext _ _ hM, ha, hn, hl, ho, hh', by omega, hz⟩
  | mp c ob h hv =>
    obtain ⟨ob', h', hs⟩ := hσ _ _ h
    exact .mp c ob' h' (fun he => hext _ _ (hv (by omega)))
  | fn vs ws h1 h2 hv hw ih1 ih2 => exact .fn vs ws h1 h2 ih1 ih2
  | agg vs h1 hv ih => exact .agg vs h1 ih
  | tup vs h1 hv ih => exact .tup vs h1 ih
theorem V.ext (hσ : SzLe σ σ') (S : Stp M Fz w M' Fz' w') {d : D} {v : Value} (h : V σ M Fz w d v) : V σ' M' Fz' w' d v := h.sub hσ S.ext S.fz S.shp
theorem ObRel.sub (hσ : SzLe σ σ') (hext : ∀ b c, M b = some c → M' b = some c) {ob : Ob} {o : Obj} (h : ObRel σ M Fz w ob o) : ObRel σ' M' Fz w ob o := by
  have e : ∀ {d v}, V σ M Fz w d v → V σ' M' Fz w d v := fun h => h.sub hσ hext (fun c h => ⟨h, rfl⟩) (fun c arr T fr h => ⟨arr, h, rfl⟩)
  cases ob with
  | cells cs => obtain ⟨arr, T, ho, hl, hv⟩ := h; exact ⟨arr, T, ho, hl, fun i d v h1 h2 => ⟨e (hv i d v h1 h2).1, (hv i d v h1 h2).2⟩⟩
  | map es clock => obtain ⟨arr, ho, hl, hv⟩ := h; exact ⟨arr, ho, hl, fun i k d n e' h1 h2 => let ⟨a, b, c⟩ := hv i k d n e' h1 h2; ⟨a, b, e c⟩⟩
  | gone n => exact h.elim
theorem ObRel.ext (hσ : SzLe σ σ') (S : Stp M Fz w M' Fz' w') {ob : Ob} {o : Obj} (h : ObRel σ M Fz w ob o) : ObRel σ' M' Fz' w' ob o := by
  cases ob with
  | cells cs => obtain ⟨arr, T, ho, hl, hv⟩ := h; exact ⟨arr, T, ho, hl, fun i d v h1 h2 => ⟨(hv i d v h1 h2).1.ext hσ S, (hv i d v h1 h2).2⟩⟩
  | map es clock => obtain ⟨arr, ho, hl, hv⟩ := h; exact ⟨arr, ho, hl, fun i k d n e h1 h2 => let ⟨a, b, c⟩ := hv i k d n e h1 h2; ⟨a, b, c.ext hσ S⟩⟩
  | gone n => exact h.elim
theorem V.down (hσ : SzLe σ σ') {d : D} {v : Value} (h : V σ' M' Fz' w' d v) : ∀ {v0 : Value}, V σ M Fz w d v0 → V σ M' Fz' w' d v := by
  induction h with
  | c h => intro _ _; exact .c h
  | any v => intro _ _; exact .any v
  | ptr a ob h hle hv =>
    intro v0 h0
    cases h0 with
    | ptr a0 ob0 hb0 _ _ =>
      obtain ⟨ob', h', hs⟩ := hσ _ _ hb0
      rw [h] at h'
      simp only [Option.some.injEq] at h'
      subst h'
      exact .ptr a ob0 hb0 (by omega) (fun he => hv (by omega))
  | sl a n cap hnn ob h hle hv =>
    intro v0 h0
    cases h0 with
    | sl a0 n0 cap0 _ ob0 hb0 _ _ =>
      obtain ⟨ob', h', hs⟩ := hσ _ _ hb0
      rw [h] at h'
      simp only [Option.some.injEq] at h'
      subst h'
      exact .sl a n cap hnn ob0 hb0 (by omega) (fun he => hv (by omega))
  | mp c ob h hv =>
    intro v0 h0
    cases h0 with
    | mp c0 ob0 hb0 _ =>
      obtain ⟨ob', h', hs⟩ := hσ _ _ hb0
      rw [h] at h'
      simp only [Option.some.injEq] at h'
      subst h'
      exact .mp c ob0 hb0 (fun he => hv (by omega))
  | fn vs ws h1 h2 hv hw ih1 ih2 =>
    intro v0 h0
    cases h0 with
    | fn vs0 ws0 k1 k2 hv0 hw0 =>
      refine .fn vs ws h1 h2 (fun i d v a b => ?_) (fun i d v a b => ?_)
      · have hi := (List.getElem?_eq_some_iff.1 a).1
        exact ih1 i d v a b (hv0 i d _ a (Array.getElem?_eq_getElem (by omega)))
      · have hi := (List.getElem?_eq_some_iff.1 a).1
        exact ih2 i d v a b (hw0 i d _ a (Array.getElem?_eq_getElem (by omega)))
  | agg vs h1 hv ih =>
    intro v0 h0
    cases h0 with
    | agg vs0 k1 hv0 =>
      refine .agg vs h1 (fun i d v a b => ?_)
      have hi := (List.getElem?_eq_some_iff.1 a).1
      exact ih i d v a b (hv0 i d _ a (Array.getElem?_eq_getElem (by omega)))
  | tup vs h1 hv ih =>
    intro v0 h0
    cases h0 with
    | tup vs0 k1 hv0 =>
      refine .tup vs h1 (fun i d v a b => ?_)
      have hi := (List.getElem?_eq_some_iff.1 a).1
      exact ih i d v a b (hv0 i d _ a (Array.getElem?_eq_getElem (by omega)))
theorem ObRel.down (hσ : SzLe σ σ') {ob : Ob} {o o0 : Obj} (h : ObRel σ' M' Fz' w' ob o) (h0 : ObRel σ M Fz w ob o0) : ObRel σ M' Fz' w' ob o := by
  cases ob with
  | cells cs =>
    obtain ⟨arr, T, ho, hl, hv⟩ := h
    obtain ⟨arr0, T0, ho0, hl0, hv0⟩ := h0
    refine ⟨arr, T, ho, hl, fun i d v h1 h2 => ⟨?_, (hv i d v h1 h2).2⟩⟩
    have hi := (List.getElem?_eq_some_iff.1 h1).1
    exact (hv i d v h1 h2).1.down hσ (hv0 i d _ h1 (Array.getElem?_eq_getElem (by omega))).1
  | map es clock =>
    obtain ⟨arr, ho, hl, hv⟩ := h
    obtain ⟨arr0, ho0, hl0, hv0⟩ := h0
    refine ⟨arr, ho, hl, fun i k d n e h1 h2 => ?_⟩
    have hi := (List.getElem?_eq_some_iff.1 h1).1
    obtain ⟨a, b, c⟩ := hv i k d n e h1 h2
    exact ⟨a, b, c.down hσ (hv0 i k d n _ h1 (Array.getElem?_eq_getElem (by omega))).2.2⟩
  | gone n => exact h.elim
def cutM (M : Nat → Option Nat) (n : Nat) : Nat → Option Nat := fun b => if b < n then M b else none
theorem V.cut {d : D} {v : Value} (h : V σ M Fz w d v) : V σ (cutM M σ.length) Fz w d v := by
  induction h with
  | c h => exact .c h
  | any v => exact .any v
  | ptr a ob h hle hv =>
    refine .ptr a ob h hle (fun he => ?_)
    obtain ⟨c, hM, ha⟩ := hv he
    exact ⟨c, by simp only [cutM]; rw [if_pos (List.getElem?_eq_some_iff.1 h).1]; exact hM, ha⟩
  | sl a n cap hnn ob h hle hv =>
    refine .sl a n cap hnn ob h hle (fun he => ?_)
    rcases hv he with h1 | ⟨c, o, arr, T, hM, rest⟩
    · exact .inl h1
    · exact .inr ⟨c, o, arr, T, by simp only [cutM]; rw [if_pos (List.getElem?_eq_some_iff.1 h).1]; exact hM, rest⟩
  | mp c ob h hv => exact .mp c ob h (fun he => by simp only [cutM]; rw [if_pos (List.getElem?_eq_some_iff.1 h).1]; exact hv he)
  | fn vs ws h1 h2 hv hw ih1 ih2 => exact .fn vs ws h1 h2 ih1 ih2
  | agg vs h1 hv ih => exact .agg vs h1 ih
  | tup vs h1 hv ih => exact .tup vs h1 ih
theorem ObRel.cut {ob : Ob} {o : Obj} (h : ObRel σ M Fz w ob o) : ObRel σ (cutM M σ.length) Fz w ob o := by
  cases ob with
  | cells cs => obtain ⟨arr, T, ho, hl, hv⟩ := h; exact ⟨arr, T, ho, hl, fun i d v h1 h2 => ⟨(hv i d v h1 h2).1.cut, (hv i d v h1 h2).2⟩⟩
  | map es clock => obtain ⟨arr, ho, hl, hv⟩ := h; exact ⟨arr, ho, hl, fun i k d n e h1 h2 => let ⟨a, b, c⟩ := hv i k d n e h1 h2; ⟨a, b, c.cut⟩⟩
  | gone n => exact h.elim
end
inductive Bef (ops : Array Oper) : Nat → Nat → Prop where
  | one {i j : Nat} {o : Oper} {e : Edge} (ho : ops[j]? = some o) (he : e ∈ o.after) (hb : Region.binds .any e = true) (hi : e.on = i) : Bef ops i j
  | more {i j k : Nat} {o : Oper} {e : Edge} (ho : ops[j]? = some o) (he : e ∈ o.after) (hb : Region.binds .any e = true) (hk : e.on = k) (h : Bef ops i k) : Bef ops i j
def Closed (ops : Array Oper) (S : Nat → Prop) : Prop := ∀ (j : Nat) o e, S j → ops[j]? = some o → e ∈ o.after → Region.binds .any e = true → S e.on
theorem Bef.in {ops : Array Oper} {S : Nat → Prop} (hC : Closed ops S) {i j : Nat} (h : Bef ops i j) (hj : S j) : S i := by
  induction h with
  | one ho he hb hi => exact hi ▸ hC _ _ _ hj ho he hb
  | more ho he hb hk h ih => exact ih (hk ▸ hC _ _ _ hj ho he hb)
theorem Bef.ready {ops : Array Oper} {S : Nat → Prop} (hC : Closed ops S) {i j : Nat} (h : Bef ops i j) (hj : ∀ o e, ops[j]? = some o → e ∈ o.after → Region.binds .any e = true → S e.on) : S i := by
  cases h with
  | one ho he hb hi => exact hi ▸ hj _ _ ho he hb
  | more ho he hb hk h => exact h.in hC (hk ▸ hj _ _ ho he hb)
theorem befOf_ok {ops : Array Oper} {j : Nat} {o : Oper} (ho : ops[j]? = some o) {acc : List Nat} (hacc : ∀ k i, (acc.getD k 0).testBit i = true → Bef ops i k) {i : Nat} (h : (befOf acc o).testBit i = true) : Bef ops i j := by
  unfold befOf at h
  have key : ∀ (l : List Edge) (s : Nat), (∀ e ∈ l, e ∈ o.after) → (s.testBit i = true → Bef ops i j) →
      (l.foldl (fun s e => if Region.binds .any e then s ||| 2 ^ e.on ||| acc.getD e.on 0 else s) s).testBit i = true → Bef ops i j := by
    intro l
    induction l with
    | nil => intro s _ hs h; exact hs h
    | cons e l ih =>
      intro s hl hs h
      simp only [List.foldl_cons] at h
      refine ih _ (fun e' he' => hl e' (by simp [he'])) ?_ h
      intro hb
      split at hb
      · rename_i hbind
        simp only [Nat.testBit_or, Bool.or_eq_true, Nat.testBit_two_pow, decide_eq_true_eq] at hb
        rcases hb with (hb | hb) | hb
        · exact hs hb
        · exact .one ho (hl e (by simp)) hbind hb
        · exact .more ho (hl e (by simp)) hbind rfl (hacc _ _ hb)
      · exact hs hb
  exact key _ 0 (fun e he => by simpa using he) (by simp) h
theorem befs_ok {ops : Array Oper} {i j : Nat} (h : ((befs ops.toList).getD j 0).testBit i = true) : Bef ops i j := by
  have key : ∀ (l pre : List Oper) (acc : List Nat), ops.toList = pre ++ l → acc.length = pre.length → (∀ k i, (acc.getD k 0).testBit i = true → Bef ops i k) →
      ∀ k i, ((l.foldl (fun acc o => acc ++ [befOf acc o]) acc).getD k 0).testBit i = true → Bef ops i k := by
    intro l
    induction l with
    | nil => intro pre acc _ _ hacc k i h; exact hacc k i h
    | cons o l ih =>
      intro pre acc hpre hlen hacc k i h
      simp only [List.foldl_cons] at h
      refine ih (pre ++ [o]) (acc ++ [befOf acc o]) (by simp [hpre]) (by simp [hlen]) ?_ k i h
      intro k i hb
      rw [List.getD_eq_getElem?_getD, List.getElem?_append] at hb
      split at hb
      · exact hacc k i (by rw [List.getD_eq_getElem?_getD]; exact hb)
      · rename_i hk
        by_cases he : k = acc.length
        · subst he
          simp at hb
          refine befOf_ok ?_ hacc hb
          rw [← Array.getElem?_toList, hpre, hlen, List.getElem?_append_right (Nat.le_refl _)]
          simp
        · rw [List.getElem?_eq_none (by simp; omega)] at hb
          simp at hb
  exact key ops.toList [] [] rfl rfl (by simp) j i h
end Go.Abs
