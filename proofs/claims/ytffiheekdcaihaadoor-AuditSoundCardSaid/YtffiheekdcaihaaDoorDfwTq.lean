/- Lists of operations, goal by goal: what must hold behind them. -/
import Derived.Test.YtffiheekdcaihaaDoorDfwOwn
set_option linter.all false
namespace Go.Abs
variable [Gl]
def TrQ (P : Program) (orc : Orc) (k : Nat) (os : List AOper) (n : Nat) (al : AL) (σ : Heap) (Q : AL → Heap → List Info → Prop) : Prop :=
  ∃ al' σ' is, Trc P orc k os n al σ al' σ' is ∧ Q al' σ' is
section
variable {P : Program} {orc : Orc} {n k : Nat} {al al1 : AL} {σ σ1 : Heap} {w : List Nat} {d : D} {os : List AOper} {t : Nat} {ao : AOp} {g : Option (Nat × Bool)} {Q : AL → Heap → List Info → Prop}
theorem TrQ.nil (h : Q al σ []) : TrQ P orc k [] n al σ Q := ⟨al, σ, [], Trc.nil, h⟩
theorem TrQ.op (h : OpR P orc n al σ ao d σ1 w) (hg : Gd al g true) (hs : (Nat.blt t n && okA al ao && (k == 0 || wrOk σ σ1 w)) = true)
    (r : TrQ P orc (k - 1) os n ((t, d) :: al) σ1 fun al' σ' is => Q al' σ' (mkI ⟨some t, ao, g⟩ (cat ao) (blkA al ao) w σ.length σ1.length :: is)) : TrQ P orc k (⟨some t, ao, g⟩ :: os) n al σ Q := by
  obtain ⟨al', σ', is, h1, h2⟩ := r
  exact ⟨al', σ', _, Trc.op h hg hs h1, h2⟩
theorem TrQ.eff (h : OpR P orc n al σ ao d σ1 w) (hg : Gd al g true) (hs : (okA al ao && (k == 0 || wrOk σ σ1 w)) = true)
    (r : TrQ P orc (k - 1) os n al σ1 fun al' σ' is => Q al' σ' (mkI ⟨none, ao, g⟩ (cat ao) (blkA al ao) w σ.length σ1.length :: is)) : TrQ P orc k (⟨none, ao, g⟩ :: os) n al σ Q := by
  obtain ⟨al', σ', is, h1, h2⟩ := r
  exact ⟨al', σ', _, Trc.eff h hg hs h1, h2⟩
theorem TrQ.no (hg : Gd al g false) (hs : (Nat.blt t n && okA al ao) = true)
    (r : TrQ P orc (k - 1) os n ((t, .tup []) :: al) σ fun al' σ' is => Q al' σ' (mkI ⟨some t, ao, g⟩ 0 (blkA al ao) [] σ.length σ.length :: is)) : TrQ P orc k (⟨some t, ao, g⟩ :: os) n al σ Q := by
  obtain ⟨al', σ', is, h1, h2⟩ := r
  exact ⟨al', σ', _, Trc.no hg hs h1, h2⟩
theorem Sem.regQ {Q : AExit → AL → Heap → Prop} (hmix : P.follows .mixedOrders = true) (O : zaO P orc) (h : TrQ P orc 0 os n al σ fun al' σ' _ => Q .normal al' σ') : Sem P (.reg os) n al σ Q := by
  obtain ⟨al', σ', is, h1, h2⟩ := h
  exact Sem.reg hmix O h1 h2
theorem Sem.drwQ {Q : AExit → AL → Heap → Prop} {bef : List Nat} {p : Nat} (hmix : P.follows .mixedOrders = true) (O : zaO P orc)
    (h : TrQ P orc k os n al σ fun al' σ' is => (pairsOk bef is && tailOk bef p k os.length && Nat.ble p k) = true ∧ Q .normal al' σ') : Sem P (.drw os bef k p) n al σ Q := by
  obtain ⟨al', σ', is, h1, h2, h3⟩ := h
  exact Sem.drw hmix O h1 h2 h3
theorem Sem.drwNQ {Q : AExit → AL → Heap → Prop} {bef : List Nat} {p : Nat} (hmix : P.follows .mixedOrders = true) (O : zaO P orc)
    (h : TrQ P orc os.length os n al σ fun al' σ' is => (pairsOk bef is && tailOk bef p os.length os.length && Nat.ble p os.length) = true ∧ Q .normal al' σ') : Sem P (.drw os bef k p) n al σ Q := by
  obtain ⟨al', σ', is, h1, h2, h3⟩ := h
  exact Sem.drwN hmix O h1 h2 h3
def shut (n : Nat) (al : AL) (o : AOper) : Option Nat :=
  match o.g, o.dst with
  | some (t, want), some s =>
    match lk t al with
    | some (.c (.lit (.bool b))) => if (b != want) && (Nat.blt s n && okA al o.op) then some s else none
    | some (.tup []) => if Nat.blt s n && okA al o.op then some s else none
    | _ => none
  | _, _ => none
def skipA (n m : Nat) : AL → List AOper → AL × List AOper × List Info
  | al, [] => (al, [], [])
  | al, o :: os =>
    match shut n al o with
    | some s => let r := skipA n m ((s, .tup []) :: al) os; (r.1, r.2.1, mkI o 0 (blkA al o.op) [] m m :: r.2.2)
    | none => (al, o :: os, [])
theorem shut_ok {o : AOper} {s : Nat} (h : shut n al o = some s) : o.dst = some s ∧ Gd al o.g false ∧ (Nat.blt s n && okA al o.op) = true := by
  obtain ⟨dst, op, g⟩ := o
  unfold shut at h
  dsimp only at h
  split at h
  · rename_i t want s'
    split at h
    · rename_i b hb
      split at h
      · rename_i hc
        simp only [Option.some.injEq] at h
        subst h
        simp only [Bool.and_eq_true, bne_iff_ne, ne_eq] at hc
        exact ⟨rfl, gd_shut hb (by cases b <;> cases want <;> simp_all), by simpa using hc.2⟩
      · simp at h
    · rename_i hb
      split at h
      · rename_i hc
        simp only [Option.some.injEq] at h
        subst h
        exact ⟨rfl, gd_gone hb, hc⟩
      · simp at h
    · simp at h
  · simp at h
theorem TrQ.skips : ∀ {os : List AOper} {al : AL} {k : Nat} {Q : AL → Heap → List Info → Prop}, TrQ P orc (k - (skipA n σ.length al os).2.2.length) (skipA n σ.length al os).2.1 n (skipA n σ.length al os).1 σ (fun al' σ' is => Q al' σ' ((skipA n σ.length al os).2.2 ++ is)) → TrQ P orc k os n al σ Q := by
  intro os
  induction os with
  | nil => intro al k Q h; exact h
  | cons o os ih =>
    intro al k Q h
    simp only [skipA] at h
    cases hs : shut n al o with
    | none => rw [hs] at h; exact h
    | some s =>
      rw [hs] at h
      obtain ⟨h1, h2, h3⟩ := shut_ok hs
      obtain ⟨dst, op, g⟩ := o
      dsimp only at h1 h2 h3
      subst h1
      refine TrQ.no h2 h3 (ih ?_)
      have e : k - 1 - (skipA n (List.length σ) ((s, D.tup []) :: al) os).2.2.length = k - ((skipA n (List.length σ) ((s, D.tup []) :: al) os).2.2.length + 1) := by omega
      rw [e]
      exact h
theorem TrQ.know {b v : Bool} (t : Nat) (hb : lk t al = some (B b)) (hv : b = v) (r : TrQ P orc k os n ((t, B v) :: al) σ Q) : TrQ P orc k os n al σ Q := by
  obtain ⟨al', σ', is, h1, h2⟩ := r
  refine ⟨al', σ', is, fun e he => h1 e ⟨he.1, fun s d hs => ?_⟩, h2⟩
  simp only [lk] at hs
  split at hs
  · rename_i hbe
    have := Nat.eq_of_beq_eq_true hbe
    simp only [Option.some.injEq] at hs
    subst this hs hv
    exact he.2 t _ hb
  · exact he.2 s d hs
def chkG (n : Nat) : AL → List AOper → Nat → AL → Option AL
  | al, _, 0, _ => some al
  | al, o :: os, m + 1, gl =>
    match shut n al o with
    | some s => chkG n ((s, .tup []) :: al) os m gl
    | none => none
  | _, [], _ + 1, _ => none
def infG (m : Nat) : AL → List AOper → Nat → List Info
  | _, _, 0 => []
  | al, o :: os, k + 1 => mkI o 0 (blkA al o.op) [] m m :: infG m ((o.dst.getD 0, .tup []) :: al) os k
  | _, [], _ + 1 => []
theorem TrQ.skipG (m : Nat) : ∀ {os : List AOper} {al al1 : AL} {k : Nat} {Q : AL → Heap → List Info → Prop}, chkG n al os m [] = some al1 → TrQ P orc (k - m) (os.drop m) n al1 σ (fun al' σ' is => Q al' σ' (infG σ.length al os m ++ is)) → TrQ P orc k os n al σ Q := by
  induction m with
  | zero => intro os al al1 k Q h r; simp only [chkG, Option.some.injEq] at h; subst h; simpa [infG] using r
  | succ m ih =>
    intro os al al1 k Q h r
    cases os with
    | nil => simp [chkG] at h
    | cons o os =>
      simp only [chkG] at h
      split at h
      · rename_i s hs
        obtain ⟨h1, h2, h3⟩ := shut_ok hs
        obtain ⟨dst, op, g⟩ := o
        dsimp only at h1 h2 h3
        subst h1
        refine TrQ.no h2 h3 (ih h ?_)
        have e : k - 1 - m = k - (m + 1) := by omega
        rw [e]
        exact r
      · simp at h
end
end Go.Abs
