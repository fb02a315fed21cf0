/- Short names for the rules, for the printed walks. -/
import Derived.Test.YtffiheekdcaihaaDoorDfwMp
import Derived.Test.YtffiheekdcaihaaDoorDfwAc
set_option linter.all false
namespace Go.Abs
variable [Gl]
theorem Z {α : Sort _} {a : α} : a = a := rfl
theorem nx {m : Nat} {al : AL} {σ : Heap} {R : AL → Heap → Prop} (h : R al σ) : ∃ al2 σ2, Wk m al σ al2 σ2 ∧ R al2 σ2 := ⟨_, _, .refl, h⟩
theorem bs {α β : Type} {o : Option α} {f : α → Option β} {b : β} (h : o.bind f = some b) : ∃ a, o = some a ∧ f a = some b := Option.bind_eq_some_iff.1 h
theorem bl {n m : Nat} (h : Nat.ble n m = true) : n ≤ m := Nat.le_of_ble_eq_true h
theorem bb (b : Bool) : b = true ∨ b = false := Bool.eq_false_or_eq_true b
section
variable {P : Program} {orc : Orc} {n k : Nat} {al al1 : AL} {σ σ1 : Heap} {w : List Nat} {d d1 d2 : D} {os : List AOper} {t : Nat} {ao : AOp} {Q : AL → Heap → List Info → Prop}
abbrev ck (n k t : Nat) (al : AL) (σ σ1 : Heap) (ao : AOp) (w : List Nat) : Bool := Nat.blt t n && okA al ao && (k == 0 || wrOk σ σ1 w)
theorem nl (h : Q al σ []) : TrQ P orc k [] n al σ Q := TrQ.nil h
theorem o (h : OpR P orc n al σ ao d σ1 w) (hs : ck n k t al σ σ1 ao w = true)
    (r : TrQ P orc (k - 1) os n ((t, d) :: al) σ1 fun al' σ' is => Q al' σ' (mkI ⟨some t, ao, none⟩ (cat ao) (blkA al ao) w σ.length σ1.length :: is)) : TrQ P orc k (⟨some t, ao, none⟩ :: os) n al σ Q := TrQ.op h gd_none hs r
theorem q {t' : Nat} {want b : Bool} (h : OpR P orc n al σ ao d σ1 w) (hb : b = want) (hs : (lk t' al, ck n k t al σ σ1 ao w) = (some (B b), true))
    (r : TrQ P orc (k - 1) os n ((t, d) :: al) σ1 fun al' σ' is => Q al' σ' (mkI ⟨some t, ao, some (t', want)⟩ (cat ao) (blkA al ao) w σ.length σ1.length :: is)) : TrQ P orc k (⟨some t, ao, some (t', want)⟩ :: os) n al σ Q :=
  TrQ.op h (gd_open (congrArg Prod.fst hs) hb) (congrArg Prod.snd hs) r
theorem m {x : Opd} (hs : (lx al x, ck n k t al σ σ (.mov x) []) = (some d, true))
    (r : TrQ P orc (k - 1) os n ((t, d) :: al) σ fun al' σ' is => Q al' σ' (mkI ⟨some t, .mov x, none⟩ (cat (.mov x)) (blkA al (.mov x)) [] σ.length σ.length :: is)) : TrQ P orc k (⟨some t, .mov x, none⟩ :: os) n al σ Q :=
  o (op_mov (congrArg Prod.fst hs)) (congrArg Prod.snd hs) r
theorem mo {t' : Nat} {want b : Bool} {x : Opd} (hb : b = want) (hs : (lx al x, lk t' al, ck n k t al σ σ (.mov x) []) = (some d, some (B b), true))
    (r : TrQ P orc (k - 1) os n ((t, d) :: al) σ fun al' σ' is => Q al' σ' (mkI ⟨some t, .mov x, some (t', want)⟩ (cat (.mov x)) (blkA al (.mov x)) [] σ.length σ.length :: is)) : TrQ P orc k (⟨some t, .mov x, some (t', want)⟩ :: os) n al σ Q :=
  q (op_mov (congrArg Prod.fst hs)) hb (congrArg Prod.snd hs) r
theorem t3 {α β γ : Type} {a a' : α} {b b' : β} {c c' : γ} (h : (a, b, c) = (a', b', c')) : a = a' ∧ b = b' ∧ c = c' := by cases h; exact ⟨rfl, rfl, rfl⟩
theorem l {mm : Option Nat} {a : Opd} {b off sz : Nat} {cs : List D} (hs : (lx al a, zeO σ b sz, zcs mm cs off, ck n k t al σ σ (.load mm a) []) = (some (.ptr b off sz), some cs, some d, true))
    (r : TrQ P orc (k - 1) os n ((t, d) :: al) σ fun al' σ' is => Q al' σ' (mkI ⟨some t, .load mm a, none⟩ (cat (.load mm a)) (blkA al (.load mm a)) [] σ.length σ.length :: is)) : TrQ P orc k (⟨some t, .load mm a, none⟩ :: os) n al σ Q := by
  simp only [Prod.mk.injEq] at hs
  exact o (op_load hs.1 hs.2.1 hs.2.2.1) hs.2.2.2 r
theorem lo {t' : Nat} {want b' : Bool} {mm : Option Nat} {a : Opd} {b off sz : Nat} {cs : List D} (hb : b' = want) (hs : (lx al a, zeO σ b sz, zcs mm cs off, lk t' al, ck n k t al σ σ (.load mm a) []) = (some (.ptr b off sz), some cs, some d, some (B b'), true))
    (r : TrQ P orc (k - 1) os n ((t, d) :: al) σ fun al' σ' is => Q al' σ' (mkI ⟨some t, .load mm a, some (t', want)⟩ (cat (.load mm a)) (blkA al (.load mm a)) [] σ.length σ.length :: is)) : TrQ P orc k (⟨some t, .load mm a, some (t', want)⟩ :: os) n al σ Q := by
  simp only [Prod.mk.injEq] at hs
  exact TrQ.op (op_load hs.1 hs.2.1 hs.2.2.1) (gd_open hs.2.2.2.1 hb) hs.2.2.2.2 r
theorem pT {c x y : Opd} {b : Bool} (hb : b = true) (hs : (lx al c, lx al x, ck n k t al σ σ (.pick c x y) []) = (some (B b), some d, true))
    (r : TrQ P orc (k - 1) os n ((t, d) :: al) σ fun al' σ' is => Q al' σ' (mkI ⟨some t, .pick c x y, none⟩ (cat (.pick c x y)) (blkA al (.pick c x y)) [] σ.length σ.length :: is)) : TrQ P orc k (⟨some t, .pick c x y, none⟩ :: os) n al σ Q := by
  simp only [Prod.mk.injEq] at hs
  exact o (zeT hs.1 hb hs.2.1) hs.2.2 r
theorem pF {c x y : Opd} {b : Bool} (hb : b = false) (hs : (lx al c, lx al y, ck n k t al σ σ (.pick c x y) []) = (some (B b), some d, true))
    (r : TrQ P orc (k - 1) os n ((t, d) :: al) σ fun al' σ' is => Q al' σ' (mkI ⟨some t, .pick c x y, none⟩ (cat (.pick c x y)) (blkA al (.pick c x y)) [] σ.length σ.length :: is)) : TrQ P orc k (⟨some t, .pick c x y, none⟩ :: os) n al σ Q := by
  simp only [Prod.mk.injEq] at hs
  exact o (ze7 hs.1 hb hs.2.1) hs.2.2 r
theorem bo {o : BinOp} {t ty t' : TypeId} {x y : Operand} {a b v : Value} (h : (oev al x, oev al y, d1.val?, d2.val?, binV P o t x y a b, ofVal v) = (some d1, some d2, some a, some b, some v, d)) : OpR P orc n al σ (.gen (.binOp o t x y t') ty) d σ [] := by
  simp only [Prod.mk.injEq] at h
  exact op_bin h.1 h.2.1 h.2.2.1 h.2.2.2.1 h.2.2.2.2.1 h.2.2.2.2.2
theorem st {mm : Nat} {a x : Opd} {b off sz : Nat} {cs xs : List D} (hs : (lx al a, zeO σ b sz, lx al x, d.cells?, xs.length, Nat.ble (off + mm) sz, σ.set b (.cells (put cs off xs)), okA al (.store mm a x) && (k == 0 || wrOk σ σ1 [b])) = (some (.ptr b off sz), some cs, some d, some xs, mm, true, σ1, true))
    (r : TrQ P orc (k - 1) os n al σ1 fun al' σ' is => Q al' σ' (mkI ⟨none, .store mm a x, none⟩ (cat (.store mm a x)) (blkA al (.store mm a x)) [b] σ.length σ1.length :: is)) : TrQ P orc k (⟨none, .store mm a x, none⟩ :: os) n al σ Q := by
  simp only [Prod.mk.injEq] at hs
  obtain ⟨h1, h2, h3, h4, h5, h6, h7, h8⟩ := hs
  exact TrQ.eff (op_store h1 h2 h3 h4 ⟨h5, Nat.le_of_ble_eq_true h6⟩ h7) gd_none h8 r
theorem ca {S : za1} {g : Nat} {f : Opd} {args : List Opd} {ds ds' : List D} {F : List D → Option D} {r : D} (h : F ds' = some r) (hs : (lx al f, lxs al args, spk g S, (ds.all fun d => d.low 0 && d.plain), ds.map nrm, r.low 0) = (some (.c (.fn (.func g) [] [])), some ds, some F, true, ds', true)) :
    OpR P (zat S) n al σ (.call f args) r σ [] := by
  simp only [Prod.mk.injEq] at hs
  obtain ⟨h1, h2, h3, h4, h5, h6⟩ := hs
  exact op_call h1 h2 (zaS h3 h4 h5 h h6)
end
section
variable {P : Program} {orc : Orc} {k : Nat} {os : List AOper} {σ : Heap} {n : Nat} {al : AL} {Q : AExit → AL → Heap → Prop}
theorem rq (O : P.follows .mixedOrders = true ∧ zaO P orc) (h : TrQ P orc 0 os n al σ fun al' σ' _ => Q .normal al' σ') : Sem P (.reg os) n al σ Q := Sem.regQ O.1 O.2 h
theorem dq {bef : List Nat} {p : Nat} (O : P.follows .mixedOrders = true ∧ zaO P orc) (h : TrQ P orc k os n al σ fun al' σ' is => (pairsOk bef is && tailOk bef p k os.length && Nat.ble p k) = true ∧ Q .normal al' σ') : Sem P (.drw os bef k p) n al σ Q := Sem.drwQ O.1 O.2 h
theorem sq {a b : ACode} (h : Sem P a n al σ fun x al1 σ1 => match x with | .normal => ∃ al2 σ2, Wk σ.length al1 σ1 al2 σ2 ∧ Sem P b n al2 σ2 Q | x => Q x al1 σ1) : Sem P (.seq a b) n al σ Q := Sem.seq h
end
theorem ij1 {α : Type} {f : α → D} (hf : ∀ {a b : α}, f a = f b → a = b) : ∀ a b, [f a] = [f b] → a = b := fun a b h => hf (by simpa using h)
theorem ij2 {α β : Type} {f : α → D} {g : β → D} (hf : ∀ {a b : α}, f a = f b → a = b) (hg : ∀ {a b : β}, g a = g b → a = b) : ∀ a b : α × β, [f a.1, g a.2] = [f b.1, g b.2] → a = b := fun a b h => by
  simp only [List.cons.injEq, and_true] at h
  exact Prod.ext (hf h.1) (hg h.2)
theorem ij3 {α β γ : Type} {f : α → D} {g : β → D} {i : γ → D} (hf : ∀ {a b : α}, f a = f b → a = b) (hg : ∀ {a b : β}, g a = g b → a = b) (hi : ∀ {a b : γ}, i a = i b → a = b) : ∀ a b : α × β × γ, [f a.1, g a.2.1, i a.2.2] = [f b.1, g b.2.1, i b.2.2] → a = b := fun a b h => by
  simp only [List.cons.injEq, and_true] at h
  exact Prod.ext (hf h.1) (Prod.ext (hg h.2.1) (hi h.2.2))
theorem ij4 {α β γ δ : Type} {f : α → D} {g : β → D} {i : γ → D} {j : δ → D} (hf : ∀ {a b : α}, f a = f b → a = b) (hg : ∀ {a b : β}, g a = g b → a = b) (hi : ∀ {a b : γ}, i a = i b → a = b) (hj : ∀ {a b : δ}, j a = j b → a = b) : ∀ a b : α × β × γ × δ, [f a.1, g a.2.1, i a.2.2.1, j a.2.2.2] = [f b.1, g b.2.1, i b.2.2.1, j b.2.2.2] → a = b := fun a b h => by
  simp only [List.cons.injEq, and_true] at h
  exact Prod.ext (hf h.1) (Prod.ext (hg h.2.1) (Prod.ext (hi h.2.2.1) (hj h.2.2.2)))
abbrev cm (l : List C) : Ob := .cells (l.map .c)
end Go.Abs
