/- A closed call that was run once serves as a contract: data held against data that says no more. -/
import Derived.Test.YtghmmmglndpmoaaGreatDfwOp
namespace Go.Abs

def leC : Nat → C → C → Bool
  | 0, _, _ => false
  | k + 1, x, y =>
    match x, y with
    | .lit (.int a m), .lit (.int b n) => decide (a = b) && decide (m = n)
    | .lit (.bool a), .lit (.bool b) => decide (a = b)
    | .lit (.slice none 0 0), .frz false [] => true
    | .frz a es, .frz b fs => (!b || a) && decide (es.length = fs.length) && (es.zip fs).all fun p => decide (p.1.length = p.2.length) && (p.1.zip p.2).all fun q => leC k q.1 q.2
    | _, _ => false

theorem zip_get {α : Type} {g : α → α → Bool} : ∀ (l m : List α), l.length = m.length → ((l.zip m).all fun p => g p.1 p.2) = true → ∀ (i : Nat) y, m[i]? = some y → ∃ x, l[i]? = some x ∧ g x y = true := by
  intro l
  induction l with
  | nil => intro m h _ i y hy; cases m with
    | nil => simp at hy
    | cons b m => simp at h
  | cons a l ih => intro m h ha i y hy; cases m with
    | nil => simp at h
    | cons b m =>
      simp only [List.zip_cons_cons, List.all_cons, Bool.and_eq_true] at ha
      cases i with
      | zero => simp at hy; subst hy; exact ⟨a, rfl, ha.1⟩
      | succ i => exact ih m (by simpa using h) ha.2 i y (by simpa using hy)

theorem leC_ok : ∀ (k : Nat) (x y : C), leC k x y = true → ∀ Fz w v, VC Fz w x v → VC Fz w y v := by
  intro k
  induction k with
  | zero => intro x y h; simp [leC] at h
  | succ k ih =>
    intro x y h Fz w v hv
    unfold leC at h
    split at h
    · simp only [Bool.and_eq_true, decide_eq_true_eq] at h; rw [← h.1, ← h.2]; exact hv
    · simp only [decide_eq_true_eq] at h; rw [← h]; exact hv
    · exact nrmC_ok hv
    · rename_i a es b fs
      simp only [Bool.and_eq_true, decide_eq_true_eq] at h
      obtain ⟨⟨h1, h2⟩, h3⟩ := h
      have hz := zip_get (g := fun (p q : List C) => decide (p.length = q.length) && (p.zip q).all fun r => leC k r.1 r.2) es fs h2 h3
      cases hv with
      | frz esz ad cap hnn c hsz hcap hc hvv =>
        rw [h2]
        refine .frz esz ad cap (fun hb => hnn (by subst hb; simpa using h1)) c (fun e he => ?_) (by omega) (fun i j e d hi hj => ?_) (fun i j e d hi hj => ?_)
        · obtain ⟨i, hi⟩ := List.mem_iff_getElem?.1 he
          obtain ⟨e', he', hg⟩ := hz i e hi
          simp only [Bool.and_eq_true, decide_eq_true_eq] at hg
          rw [← hg.1]
          exact hsz e' (List.mem_of_getElem? he')
        · obtain ⟨e', he', hg⟩ := hz i e hi
          simp only [Bool.and_eq_true, decide_eq_true_eq] at hg
          obtain ⟨d', hd', _⟩ := zip_get e' e hg.1 hg.2 j d hj
          exact hc i j e' d' he' hd'
        · obtain ⟨e', he', hg⟩ := hz i e hi
          simp only [Bool.and_eq_true, decide_eq_true_eq] at hg
          obtain ⟨d', hd', hle⟩ := zip_get e' e hg.1 hg.2 j d hj
          exact ih d' d hle Fz w _ (hvv i j e' d' he' hd')
    · simp at h

def leD1 : D → D → Bool
  | .c x, .c y => leC 20 x y
  | _, _ => false

def leD : D → D → Bool
  | .c x, .c y => leC 20 x y
  | .agg ds, .agg es => decide (ds.length = es.length) && (ds.zip es).all fun p => leD1 p.1 p.2
  | _, _ => false

theorem leD1_ok {x y : D} (h : leD1 x y = true) : DLe x y := by
  intro σ M Fz w v hv
  unfold leD1 at h
  split at h
  · cases hv with | c hv => exact .c (leC_ok _ _ _ h _ _ _ hv)
  · simp at h

theorem leD_ok {x y : D} (h : leD x y = true) : DLe x y := by
  intro σ M Fz w v hv
  unfold leD at h
  split at h
  · cases hv with | c hv => exact .c (leC_ok _ _ _ h _ _ _ hv)
  · rename_i ds es
    simp only [Bool.and_eq_true, decide_eq_true_eq] at h
    cases hv with
    | agg vs h1 hvv =>
      refine .agg vs (by omega) (fun i d v a b => ?_)
      obtain ⟨d', hd', hle⟩ := zip_get ds es h.1 h.2 i d a
      exact leD1_ok hle _ _ _ _ _ (hvv i d' v hd' b)
  · simp at h

def leDs (ds es : List D) : Bool := decide (ds.length = es.length) && (ds.zip es).all fun p => leD p.1 p.2

/-- one row: at these arguments, this. -/
def row1 (as : List D) (r : D) : List D → Option D := fun ds => if leDs ds as then some r else none

theorem row1_ok {P : Program} {g : Nat} {as : List D} {r : D} (h : Pure P g as r) : ∀ ds q, row1 as r ds = some q → Pure P g ds q := by
  intro ds q hq
  unfold row1 at hq
  split at hq
  · rename_i he
    simp only [Option.some.injEq] at hq
    subst hq
    simp only [leDs, Bool.and_eq_true, decide_eq_true_eq] at he
    refine ⟨h.1, fun M Fz w vs R hs hvs => h.2 M Fz w vs R (by omega) fun i d v a b => ?_⟩
    obtain ⟨d', hd', hle⟩ := zip_get ds as he.1 he.2 i d a
    exact leD_ok hle _ _ _ _ _ (hvs i d' v hd' b)
  · simp at hq

def orE (a b : Orc) : Orc := fun g ds σ => match a g ds σ with | some r => some r | none => b g ds σ
theorem orE_ok {P : Program} {a b : Orc} (ha : OrcOk P a) (hb : OrcOk P b) : OrcOk P (orE a b) := by
  intro g ds σ r σ' wr h
  unfold orE at h
  split at h
  · rename_i x hx
    simp only [Option.some.injEq] at h
    subst h
    exact ha _ _ _ _ _ _ hx
  · exact hb _ _ _ _ _ _ h

theorem pure_of_run {P : Program} {orc : Orc} (O : OrcOk P orc) {g : Nat} {ds : List D} {r : D} {wr : List Nat} (h : orc g ds [] = some (r, [], wr)) : Pure P g ds r :=
  ⟨(O g ds [] r [] wr h).1, (O g ds [] r [] wr h).2.1⟩

end Go.Abs
