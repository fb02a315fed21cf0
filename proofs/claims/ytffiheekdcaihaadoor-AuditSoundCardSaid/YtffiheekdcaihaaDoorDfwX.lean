/- States by association lists: what code does from a state, as rules. -/
import Derived.Test.YtffiheekdcaihaaDoorDfwU
import Derived.Test.YtffiheekdcaihaaDoorDfwW
set_option linter.all false
namespace Go.Abs
variable [Gl]
abbrev AL := List (Nat × D)
def lk (t : Nat) : AL → Option D
  | [] => none
  | (s, d) :: al => match Nat.beq s t with | true => some d | false => lk t al
def envOf (n : Nat) (al : AL) : List D := (List.range n).map fun t => (lk t al).getD .any
def Env (n : Nat) (al : AL) (e : List D) : Prop := e.length = n ∧ ∀ t d, lk t al = some d → e[t]? = some d
def AEnv (n : Nat) (σ : Heap) (M : Nat → Option Nat) (Fz : Nat → Prop) (w : World) (al : AL) (tmps : Array Value) : Prop :=
  tmps.size = n ∧ ∀ t d, lk t al = some d → ∃ v, tmps[t]? = some v ∧ V σ M Fz w d v
section
variable {P : Program} {orc : Orc} {σ σ' σ1 σ2 : Heap} {M M' : Nat → Option Nat} {Fz Fz' : Nat → Prop} {w w' : World} {n : Nat} {al al1 al2 : AL}
theorem AEnv.toEnv {tmps : Array Value} (h : AEnv n σ M Fz w al tmps) : zbb σ M Fz w (envOf n al) tmps ∧ Env n al (envOf n al) := by
  refine ⟨⟨by simp [envOf, h.1], fun i d v a b => ?_⟩, by simp [envOf], fun t d ht => ?_⟩
  · simp only [envOf, List.getElem?_map, Option.map_eq_some_iff] at a
    obtain ⟨j, hj, rfl⟩ := a
    have : j = i := by
      rw [List.getElem?_range (by rw [List.getElem?_eq_some_iff] at hj; obtain ⟨h1, _⟩ := hj; simpa using h1)] at hj
      simpa using hj.symm
    subst this
    cases hl : lk j al with
    | none => exact .any v
    | some d =>
      obtain ⟨v', h1, h2⟩ := h.2 j d hl
      rw [b] at h1
      simp only [Option.some.injEq] at h1
      subst h1
      exact h2
  · obtain ⟨v, h1, _⟩ := h.2 t d ht
    have hlt : t < n := by have := (Array.getElem?_eq_some_iff.1 h1).1; rw [h.1] at this; exact this
    simp [envOf, hlt, ht]
theorem AEnv.ofEnv {tmps : Array Value} {e : List D} (h : zbb σ M Fz w e tmps) (he : Env n al e) : AEnv n σ M Fz w al tmps := by
  refine ⟨by rw [h.1, he.1], fun t d ht => ?_⟩
  have h1 := he.2 t d ht
  have h2 : t < tmps.size := by rw [h.1]; exact (List.getElem?_eq_some_iff.1 h1).1
  exact ⟨tmps[t], Array.getElem?_eq_getElem h2, h.2 t d _ h1 (Array.getElem?_eq_getElem h2)⟩
def Sem (P : Program) (ac : ACode) (n : Nat) (al : AL) (σ : Heap) (Q : AExit → AL → Heap → Prop) : Prop :=
  ∀ (c : Code), zeA P c = some ac → ∀ (M : Nat → Option Nat) (Fz : Nat → Prop) (w : World) (a : Act) (K : Exit → Act → World → Prop), Rel σ M Fz w → AEnv n σ M Fz w al a.tmps →
    (∀ x al' σ' a' w' M' Fz', Q x al' σ' → a'.defers = a.defers → Rel σ' M' Fz' w' → AEnv n σ' M' Fz' w' al' a'.tmps → Evo σ M Fz w σ' M' Fz' w' → σ.length ≤ σ'.length → K (toE x) a' w') → c.wp P K a w
def SemL (P : Program) (ac : ACode) (k : Nat) (n : Nat) (al : AL) (σ : Heap) (Q : AExit → AL → Heap → Prop) : Prop :=
  ∀ (c : Code), zeA P c = some ac → ∀ (M : Nat → Option Nat) (Fz : Nat → Prop) (w : World) (a : Act) (K : Exit → Act → World → Prop), Rel σ M Fz w → AEnv n σ M Fz w al a.tmps →
    (∀ x al' σ' a' w' M' Fz', Q x al' σ' → a'.defers = a.defers → Rel σ' M' Fz' w' → AEnv n σ' M' Fz' w' al' a'.tmps → Evo σ M Fz w σ' M' Fz' w' → σ.length ≤ σ'.length → K (toE x) a' w') → Code.rounds P c K k a w
def DLe (d d' : D) : Prop := ∀ σ M Fz w v, V σ M Fz w d v → V σ M Fz w d' v
theorem DLe.refl (d : D) : DLe d d := fun _ _ _ _ _ h => h
def Sub (al1 : AL) : AL → Prop
  | [] => True
  | (t, d) :: al2 => (∃ d1, lk t al1 = some d1 ∧ DLe d1 d) ∧ Sub al1 al2
theorem Sub.get {al1 al2 : AL} (h : Sub al1 al2) {t : Nat} {d : D} (ht : lk t al2 = some d) : ∃ d1, lk t al1 = some d1 ∧ DLe d1 d := by
  induction al2 with
  | nil => simp [lk] at ht
  | cons p al2 ih =>
    obtain ⟨s, d'⟩ := p
    simp only [lk] at ht
    split at ht
    · rename_i hb
      have := Nat.eq_of_beq_eq_true hb
      simp only [Option.some.injEq] at ht
      subst this ht
      exact h.1
    · exact ih h.2 ht
theorem Sub.one {al1 al2 : AL} {t : Nat} {d d1 : D} (h : lk t al1 = some d1) (hd : DLe d1 d) (r : Sub al1 al2) : Sub al1 ((t, d) :: al2) := ⟨⟨d1, h, hd⟩, r⟩
theorem Sub.same {al1 al2 : AL} {t : Nat} {d : D} (h : lk t al1 = some d) (r : Sub al1 al2) : Sub al1 ((t, d) :: al2) := ⟨⟨d, h, DLe.refl d⟩, r⟩
theorem AEnv.sub {tmps : Array Value} (h : AEnv n σ M Fz w al1 tmps) (hs : Sub al1 al2) : AEnv n σ M Fz w al2 tmps :=
  ⟨h.1, fun t d ht => by
    obtain ⟨d1, h1, h2⟩ := hs.get ht
    obtain ⟨v, hv, hV⟩ := h.2 t d1 h1
    exact ⟨v, hv, h2 _ _ _ _ _ hV⟩⟩
def D.low (m : Nat) : D → Bool
  | .c _ => true
  | .any => true
  | .ptr b _ _ => b < m
  | .sl b _ _ _ _ => b < m
  | .mp b => b < m
  | .fn _ a b => lows m a && lows m b
  | .agg ds => lows m ds
  | .tup ds => lows m ds
where lows (m : Nat) : List D → Bool
  | [] => true
  | d :: ds => d.low m && lows m ds
theorem D.lows_get {m : Nat} : ∀ {ds : List D}, D.low.lows m ds = true → ∀ (i : Nat) d, ds[i]? = some d → d.low m = true := by
  intro ds
  induction ds with
  | nil => intro _ i d h; simp at h
  | cons x ds ih =>
    intro h i d hi
    simp only [D.low.lows, Bool.and_eq_true] at h
    cases i with
    | zero => simp at hi; subst hi; exact h.1
    | succ i => exact ih h.2 i d (by simpa using hi)
def Ob.low (m : Nat) : Ob → Bool
  | .cells cs => D.low.lows m cs
  | .map es _ => es.all fun e => e.2.1.low m
  | .gone _ => true
theorem V.trunc {m : Nat} {d : D} {v : Value} (h : V σ M Fz w d v) (hl : d.low m = true) : V (σ.take m) (cutM M m) Fz w d v := by
  induction h with
  | c h => exact .c h
  | any v => exact .any v
  | ptr a ob h hle hv =>
    simp only [D.low, decide_eq_true_eq] at hl
    exact .ptr a ob (by rw [List.getElem?_take, if_pos hl]; exact h) hle (fun he => by simpa [cutM, hl] using hv he)
  | sl a n cap hnn ob h hle hv =>
    simp only [D.low, decide_eq_true_eq] at hl
    exact .sl a n cap hnn ob (by rw [List.getElem?_take, if_pos hl]; exact h) hle (fun he => by simpa [cutM, hl] using hv he)
  | mp c ob h hv =>
    simp only [D.low, decide_eq_true_eq] at hl
    exact .mp c ob (by rw [List.getElem?_take, if_pos hl]; exact h) (fun he => by simpa [cutM, hl] using hv he)
  | fn vs ws h1 h2 hv hw ih1 ih2 =>
    simp only [D.low, Bool.and_eq_true] at hl
    exact .fn vs ws h1 h2 (fun i d v a b => ih1 i d v a b (D.lows_get hl.1 i d a)) (fun i d v a b => ih2 i d v a b (D.lows_get hl.2 i d a))
  | agg vs h1 hv ih => simp only [D.low] at hl; exact .agg vs h1 (fun i d v a b => ih i d v a b (D.lows_get hl i d a))
  | tup vs h1 hv ih => simp only [D.low] at hl; exact .tup vs h1 (fun i d v a b => ih i d v a b (D.lows_get hl i d a))
theorem Rel.trunc {m : Nat} (R : Rel σ M Fz w) (hl : (σ.take m).all (Ob.low m) = true) : Rel (σ.take m) (cutM M m) Fz w := by
  refine ⟨fun b c h => ?_, fun b b' c h h' => ?_, R.fz, R.gl⟩
  · unfold cutM at h
    split at h
    · rename_i hb
      obtain ⟨h1, ob, o, h2, h3, h4⟩ := R.blk b c h
      have h2' : (σ.take m)[b]? = some ob := by rw [List.getElem?_take, if_pos hb]; exact h2
      have hob : ob.low m = true := List.all_eq_true.1 hl ob (List.mem_of_getElem? h2')
      refine ⟨h1, ob, o, h2', h3, ?_⟩
      cases ob with
      | cells cs => obtain ⟨arr, T, ho, hle, hv⟩ := h4; exact ⟨arr, T, ho, hle, fun i d v x y => ⟨(hv i d v x y).1.trunc (D.lows_get hob i d x), (hv i d v x y).2⟩⟩
      | map es clock =>
        obtain ⟨arr, ho, hle, hv⟩ := h4
        refine ⟨arr, ho, hle, fun i k d n e x y => ?_⟩
        obtain ⟨p, q, r⟩ := hv i k d n e x y
        simp only [Ob.low, List.all_eq_true] at hob
        exact ⟨p, q, r.trunc (hob (k, d, n) (List.mem_of_getElem? x))⟩
      | gone n => exact h4.elim
    · simp at h
  · unfold cutM at h h'
    split at h
    · split at h'
      · exact R.inj b b' c h h'
      · simp at h'
    · simp at h
theorem Evo.trunc {m : Nat} (E : Evo σ M Fz w σ1 M' Fz' w') (hm : σ.length ≤ m) : Evo σ M Fz w (σ1.take m) (cutM M' m) Fz' w' := by
  refine ⟨E.size, E.frame, fun b c h => ?_, E.fz, E.fz', E.shp, fun b ob h => ?_, E.out⟩
  · unfold cutM at h
    split at h
    · exact E.ran b c h
    · simp at h
  · obtain ⟨ob', h1, h2, h3⟩ := E.keep b ob h
    have hb : b < m := Nat.lt_of_lt_of_le (List.getElem?_eq_some_iff.1 h).1 hm
    exact ⟨ob', by rw [List.getElem?_take, if_pos hb]; exact h1, h2, fun he => by simp only [cutM, if_pos hb]; exact h3 he⟩
inductive Wk (k : Nat) (al1 : AL) (σ1 : Heap) : AL → Heap → Prop where
  | refl : Wk k al1 σ1 al1 σ1
  | same {al2 : AL} (h : Sub al1 al2) : Wk k al1 σ1 al2 σ1
  | cut {al2 : AL} (m : Nat) (hm : k ≤ m) (hs : m ≤ σ1.length) (h : Sub al1 al2) (hd : al2.all (fun p => p.2.low m) = true) (hl : (σ1.take m).all (Ob.low m) = true) : Wk k al1 σ1 al2 (σ1.take m)
theorem lk_mem {t : Nat} {d : D} : ∀ {al : AL}, lk t al = some d → (t, d) ∈ al := by
  intro al
  induction al with
  | nil => intro h; simp [lk] at h
  | cons p al ih =>
    intro h
    obtain ⟨s, d'⟩ := p
    simp only [lk] at h
    split at h
    · rename_i hb
      have := Nat.eq_of_beq_eq_true hb
      simp only [Option.some.injEq] at h
      subst this h
      simp
    · exact List.mem_cons_of_mem _ (ih h)
theorem Wk.use {σ2 : Heap} (h : Wk σ.length al1 σ1 al2 σ2) {tmps : Array Value} (R : Rel σ1 M' Fz' w') (A : AEnv n σ1 M' Fz' w' al1 tmps) (E : Evo σ M Fz w σ1 M' Fz' w') (hl : σ.length ≤ σ1.length) :
    ∃ M2, Rel σ2 M2 Fz' w' ∧ AEnv n σ2 M2 Fz' w' al2 tmps ∧ Evo σ M Fz w σ2 M2 Fz' w' ∧ σ.length ≤ σ2.length := by
  cases h with
  | refl => exact ⟨M', R, A, E, hl⟩
  | same h => exact ⟨M', R, A.sub h, E, hl⟩
  | cut m hm hs h hd hlo =>
    refine ⟨cutM M' m, R.trunc hlo, ⟨A.1, fun t d ht => ?_⟩, E.trunc hm, by simp; omega⟩
    obtain ⟨v, h1, h2⟩ := (A.sub h).2 t d ht
    exact ⟨v, h1, h2.trunc (List.all_eq_true.1 hd (t, d) (lk_mem ht))⟩
end
end Go.Abs
