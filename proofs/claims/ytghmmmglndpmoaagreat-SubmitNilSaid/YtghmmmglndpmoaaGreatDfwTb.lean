/- A table of functions whose code is written out. -/
import Derived.Test.YtghmmmglndpmoaaGreatDfwOp
namespace Go.Abs

def TbOk (P : Program) : List (Nat × AFunc) → Prop
  | [] => True
  | (g, af) :: l => (enterable P g = true ∧ ∃ fn, P.funcs[g]? = some fn ∧ compF P fn true = some af) ∧ TbOk P l

def tbk (g : Nat) : List (Nat × AFunc) → Option AFunc
  | [] => none
  | (s, af) :: l => match Nat.beq s g with | true => some af | false => tbk g l

def hasN (g : Nat) : List Nat → Bool
  | [] => false
  | s :: l => match Nat.beq s g with | true => true | false => hasN g l

def tblL (l : List (Nat × AFunc)) (keep : List Nat) (g : Nat) : Option AFunc :=
  match tbk g l with
  | some ⟨a, b, c, d, _⟩ => some ⟨a, b, c, d, !hasN g keep⟩
  | none => none

theorem compF_frz {P : Program} {fn : Func} {fz fz' : Bool} {a b : Nat} {c : List (Nat × Option (Option Nat))} {d : ACode} {z : Bool} (h : compF P fn fz = some ⟨a, b, c, d, z⟩) : compF P fn fz' = some ⟨a, b, c, d, fz'⟩ := by
  unfold compF at h ⊢
  split at h
  · split at h
    · rename_i h1 h2
      simp only [Option.some.injEq, AFunc.mk.injEq] at h
      obtain ⟨rfl, rfl, rfl, rfl, _⟩ := h
      simp [*]
    · simp at h
  · simp at h

theorem tblL_ok {P : Program} {l : List (Nat × AFunc)} {keep : List Nat} (h : TbOk P l) : TblOk P (tblL l keep) := by
  intro g af hg
  unfold tblL at hg
  split at hg
  · rename_i a b c d z hk
    simp only [Option.some.injEq] at hg
    subst hg
    have key : ∀ l, TbOk P l → tbk g l = some ⟨a, b, c, d, z⟩ → enterable P g = true ∧ ∃ fn, P.funcs[g]? = some fn ∧ compF P fn true = some ⟨a, b, c, d, z⟩ := by
      intro l
      induction l with
      | nil => intro _ h; simp [tbk] at h
      | cons p l ih =>
        intro h1 h2
        obtain ⟨s, f⟩ := p
        simp only [tbk] at h2
        split at h2
        · rename_i hb
          have := Nat.eq_of_beq_eq_true hb
          simp only [Option.some.injEq] at h2
          subst this h2
          exact h1.1
        · exact ih h1.2 h2
    obtain ⟨h1, fn, h2, h3⟩ := key l h hk
    exact ⟨h1, fn, _, h2, compF_frz h3⟩
  · simp at hg

end Go.Abs
