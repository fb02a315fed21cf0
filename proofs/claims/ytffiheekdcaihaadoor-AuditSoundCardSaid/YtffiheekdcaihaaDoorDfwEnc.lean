/- Typed data as the machine's data. -/
import Derived.Test.YtffiheekdcaihaaDoorDfwOp
set_option linter.all false
namespace Go.Abs
variable [Gl]
def zah (n : Int) : List C := [.lit (.int .i64 n)]
def encK (k : IntKind) (n : Int) : List C := [.lit (.int k n)]
def encB (b : Bool) : List C := [.lit (.bool b)]
def encS (b : ByteArray) : List C := [.lit (.string b)]
def encL {α : Type} (f : α → List C) (l : List α) : List C := [.frz false (l.map f)]
abbrev SL {α : Type} (f : α → List C) (l : List α) : D := .c (.frz false (l.map f))
abbrev ST (cs : List C) : D := .agg (cs.map .c)
theorem zcF {α : Type} {f : α → List C} (hf : ∀ {a b : α}, f a = f b → a = b) {l m : List α} (h : l.map f = m.map f) : l = m := by
  induction l generalizing m with
  | nil => cases m with
    | nil => rfl
    | cons b m => simp at h
  | cons a l ih => cases m with
    | nil => simp at h
    | cons b m =>
      simp only [List.map_cons, List.cons.injEq] at h
      rw [hf h.1, ih h.2]
theorem zcf {a b : Int} (h : zah a = zah b) : a = b := by simpa [zah] using h
theorem encK_inj {k : IntKind} {a b : Int} (h : encK k a = encK k b) : a = b := by simpa [encK] using h
theorem encB_inj {a b : Bool} (h : encB a = encB b) : a = b := by simpa [encB] using h
theorem encS_inj {a b : ByteArray} (h : encS a = encS b) : a = b := by simpa [encS] using h
theorem encL_inj {α : Type} {f : α → List C} (hf : ∀ {a b : α}, f a = f b → a = b) {l m : List α} (h : encL f l = encL f m) : l = m := by
  simp only [encL, List.cons.injEq, C.frz.injEq, true_and, and_true] at h
  exact zcF hf h
theorem zev {a b : Int} (h : I a = I b) : a = b := by simpa using h
theorem IK_inj {k : IntKind} {a b : Int} (h : (D.c (.lit (.int k a))) = D.c (.lit (.int k b))) : a = b := by simpa using h
theorem B_inj {a b : Bool} (h : B a = B b) : a = b := by simpa using h
theorem Sd_inj {a b : ByteArray} (h : (D.c (.lit (.string a))) = D.c (.lit (.string b))) : a = b := by simpa using h
theorem zeM {α : Type} {f : α → List C} (hf : ∀ {a b : α}, f a = f b → a = b) {l m : List α} (h : SL f l = SL f m) : l = m := by
  simp only [SL, D.c.injEq, C.frz.injEq, true_and] at h
  exact zcF hf h
theorem mapc_inj : ∀ {l m : List C}, l.map D.c = m.map D.c → l = m := by
  intro l
  induction l with
  | nil => intro m h; cases m with
    | nil => rfl
    | cons b m => simp at h
  | cons a l ih => intro m h; cases m with
    | nil => simp at h
    | cons b m => simp only [List.map_cons, List.cons.injEq, D.c.injEq] at h; rw [h.1, ih h.2]
theorem zbx {α : Type} {f : α → List C} (hf : ∀ {a b : α}, f a = f b → a = b) {a b : α} (h : ST (f a) = ST (f b)) : a = b := by
  simp only [ST, D.agg.injEq] at h
  exact hf (mapc_inj h)
theorem zaH {b : Bool} (h : b = false) : ¬ (b = true) := by rw [h]; exact Bool.false_ne_true
theorem sS {al1 al2 : AL} {t : Nat} {d : D} (h : lk t al1 = some d) (r : Sub al1 al2) : Sub al1 ((t, d) :: al2) := ⟨⟨d, h, DLe.refl d⟩, r⟩
theorem sZ {al1 : AL} : Sub al1 [] := True.intro
theorem sN {al1 al2 : AL} {t : Nat} {d : D} (h : lk t al1 = some d) (r : Sub al1 al2) : Sub al1 ((t, nrmR d) :: al2) := ⟨⟨d, h, DLe.nrmR d⟩, r⟩
theorem sE {al1 al2 : AL} {t : Nat} {d d' : D} (h : lk t al1 = some d) (he : d = d') (r : Sub al1 al2) : Sub al1 ((t, d') :: al2) := ⟨⟨d, h, he ▸ DLe.refl d⟩, r⟩
section
variable {P : Program} {orc : Orc} {n : Nat} {al : AL} {σ σ1 : Heap} {w : List Nat} {d d1 d2 : D} {e : List D}
theorem op_aidx {α : Type} {len : Nat} {x i : Opd} {cs : List D} {l : List α} {f : α → D} {k : Int} {a : α} (h : lx al x = some (.agg cs)) (hi : lx al i = some (I k)) (ha : at? l k = some a) (hl : cs = l.map f) (hn : l.length = len) :
    OpR P orc n al σ (.aidx 1 len none x i) (f a) σ [] := fun e he => by
  obtain ⟨h1, h2, h3⟩ := at_some ha
  have h4 : inR k len = some k.toNat := by unfold inR; rw [if_pos ⟨h1, by rw [← hn]; exact h2⟩]
  subst hl
  simp [zbY, zcu he h, zcu he hi, ze3, h4, zcs, h3]
end
end Go.Abs
