/- The rules for code. -/
import Derived.Test.YtffiheekdcaihaaDoorDfwX
set_option linter.all false
namespace Go.Abs
variable [Gl]
section
variable {P : Program} {orc : Orc} {σ σ' σ1 σ2 : Heap} {n : Nat} {al al1 al2 : AL} {Q : AExit → AL → Heap → Prop}
theorem Sem.mono {ac : ACode} {Q' : AExit → AL → Heap → Prop} (h : Sem P ac n al σ Q) (hq : ∀ x al' σ', Q x al' σ' → ∃ al2 σ2, Wk σ.length al' σ' al2 σ2 ∧ Q' x al2 σ2) : Sem P ac n al σ Q' := by
  intro c hc M Fz w a K R A hK
  refine h c hc M Fz w a K R A fun x al' σ' a' w' M' Fz' hQ hd R' A' E' hl => ?_
  obtain ⟨al2, σ2, hw, hq'⟩ := hq x al' σ' hQ
  obtain ⟨M2, R2, A2, E2, l2⟩ := hw.use R' A' E' hl
  exact hK x al2 σ2 a' w' M2 Fz' hq' hd R2 A2 E2 l2
theorem Sem.pre {ac : ACode} (hs : Sub al al1) (h : Sem P ac n al1 σ Q) : Sem P ac n al σ Q := by
  intro c hc M Fz w a K R A hK
  exact h c hc M Fz w a K R (A.sub hs) hK
theorem SemL.pre {ac : ACode} {k : Nat} (hs : Sub al al1) (h : SemL P ac k n al1 σ Q) : SemL P ac k n al σ Q := by
  intro c hc M Fz w a K R A hK
  exact h c hc M Fz w a K R (A.sub hs) hK
theorem Sem.of_ev (hmix : P.follows .mixedOrders = true) (O : zaO P orc) {ac : ACode} {k : Nat} {x : AExit} {e e' : List D} {wr wr' : List Nat} (h : evC P orc k ac e σ wr = some (x, e', σ', wr'))
    (he : e = envOf n al) (he' : Env n al1 e') (hQ : Q x al1 σ') : Sem P ac n al σ Q := by
  intro c hc M Fz w a K R A hK
  subst he
  refine (code_wp hmix O k).1 c ac σ σ' M Fz w _ e' a wr wr' x K hc R A.toEnv.1 h fun a' w' M' Fz' hd R' E' EV => ?_
  exact hK x al1 σ' a' w' M' Fz' hQ hd R' (AEnv.ofEnv E' he') EV (evC_frame O _ _ _ _ _ _ _ _ _ h).1
theorem Sem.skip (hmix : P.follows .mixedOrders = true) (hQ : Q .normal al σ) : Sem P .skip n al σ Q := by
  intro c hc M Fz w a K R A hK
  have : Sem P .skip n al σ Q := Sem.of_ev hmix (orc := fun _ _ _ => none) (fun g ds σ r σ' wr h => by simp at h) (k := 1) (wr := []) (wr' := []) (e := envOf n al) rfl rfl A.toEnv.2 hQ
  exact this c hc M Fz w a K R A hK
theorem Sem.ret (hmix : P.follows .mixedOrders = true) (hQ : Q .ret al σ) : Sem P .ret n al σ Q := by
  intro c hc M Fz w a K R A hK
  have : Sem P .ret n al σ Q := Sem.of_ev hmix (orc := fun _ _ _ => none) (fun g ds σ r σ' wr h => by simp at h) (k := 1) (wr := []) (wr' := []) (e := envOf n al) rfl rfl A.toEnv.2 hQ
  exact this c hc M Fz w a K R A hK
theorem Sem.exit (hmix : P.follows .mixedOrders = true) {id : Nat} (hQ : Q (.exit id) al σ) : Sem P (.exit id) n al σ Q := by
  intro c hc M Fz w a K R A hK
  have : Sem P (.exit id) n al σ Q := Sem.of_ev hmix (orc := fun _ _ _ => none) (fun g ds σ r σ' wr h => by simp at h) (k := 1) (wr := []) (wr' := []) (e := envOf n al) rfl rfl A.toEnv.2 hQ
  exact this c hc M Fz w a K R A hK
theorem Sem.seq {a b : ACode} (h : Sem P a n al σ fun x al1 σ1 => match x with | .normal => ∃ al2 σ2, Wk σ.length al1 σ1 al2 σ2 ∧ Sem P b n al2 σ2 Q | x => Q x al1 σ1) : Sem P (.seq a b) n al σ Q := by
  intro c hc M Fz w act K R A hK
  cases c with
  | seq c1 c2 =>
    simp only [zeA] at hc
    split at hc
    · rename_i a1 a2 h1 h2
      simp only [Option.some.injEq, ACode.seq.injEq] at hc
      obtain ⟨rfl, rfl⟩ := hc
      refine wp_seq (h c1 h1 M Fz w act _ R A fun x al1 σ1 a' w' M' Fz' hQ hd R' A' E' hl => ?_)
      cases x with
      | normal =>
        obtain ⟨al2, σ2, hw, hs⟩ := hQ
        obtain ⟨M2, R2, A2, E2, l2⟩ := hw.use R' A' E' hl
        exact hs c2 h2 M2 Fz' w' a' K R2 A2 fun x al3 σ3 a3 w3 M3 Fz3 hQ3 hd3 R3 A3 E3 hl3 => hK x al3 σ3 a3 w3 M3 Fz3 hQ3 (by rw [hd3, hd]) R3 A3 (E2.trans E3 l2) (Nat.le_trans l2 hl3)
      | exit i => exact hK (.exit i) al1 σ1 a' w' M' Fz' hQ hd R' A' E' hl
      | ret => exact hK .ret al1 σ1 a' w' M' Fz' hQ hd R' A' E' hl
    · simp at hc
  | region id ops draw =>
    simp only [zeA] at hc
    split at hc
    · cases draw with
      | false => simp at hc
      | true => simp only [if_true] at hc; split at hc <;> simp at hc
    · simp at hc
  | cond o c1 c2 => simp only [zeA] at hc; split at hc <;> simp at hc
  | block id c1 => simp [zeA] at hc
  | loop c1 => simp [zeA] at hc
  | _ => simp [zeA] at hc
theorem Sem.cond {o : Opd} {t e : ACode} {b : Bool} (ho : (match o with | .t k => lk k al | .k d => some d) = some (.c (.lit (.bool b))))
    (h1 : b = true → Sem P t n al σ Q) (h2 : b = false → Sem P e n al σ Q) : Sem P (.cond o t e) n al σ Q := by
  intro c hc M Fz w act K R A hK
  cases c with
  | cond x c1 c2 =>
    simp only [zeA] at hc
    split at hc
    · rename_i oo a1 a2 h0 h3 h4
      simp only [Option.some.injEq, ACode.cond.injEq] at hc
      obtain ⟨rfl, rfl, rfl⟩ := hc
      have hv := zcD A.toEnv.1 h0
      have hoe : litBool (oo.ev (envOf n al)) = some b := by
        cases oo with
        | t k =>
          dsimp only at ho
          simp [Opd.ev, A.toEnv.2.2 k _ ho, litBool]
        | k d => simp only [Option.some.injEq] at ho; subst ho; rfl
      cases b with
      | true => exact wp_cond_true (litBool_inv hv hoe) (h1 rfl c1 h3 M Fz w act K R A hK)
      | false => exact wp_cond_false (litBool_inv hv hoe) (h2 rfl c2 h4 M Fz w act K R A hK)
    · simp at hc
  | region id ops draw =>
    simp only [zeA] at hc
    split at hc
    · cases draw with
      | false => simp at hc
      | true => simp only [if_true] at hc; split at hc <;> simp at hc
    · simp at hc
  | seq c1 c2 => simp only [zeA] at hc; split at hc <;> simp at hc
  | block id c1 => simp [zeA] at hc
  | loop c1 => simp [zeA] at hc
  | _ => simp [zeA] at hc
theorem Sem.step {a b : ACode} (al2 : AL) (σ2 : Heap) (h1 : Sem P a n al σ fun x al1 σ1 => x = .normal ∧ Wk σ.length al1 σ1 al2 σ2) (h2 : Sem P b n al2 σ2 Q) : Sem P (.seq a b) n al σ Q :=
  Sem.seq (h1.mono fun x al1 σ1 ⟨hx, hw⟩ => ⟨al1, σ1, .refl, by subst hx; exact ⟨al2, σ2, hw, h2⟩⟩)
def out (id : Nat) : AExit → AExit
  | .exit i => if i = id then .normal else .exit i
  | x => x
def behind (id : Nat) (Q : AExit → AL → Heap → Prop) (al : AL) (σ : Heap) : AExit → Prop
  | .normal => Q .normal al σ
  | .ret => Q .ret al σ
  | .exit i => (i = id → Q .normal al σ) ∧ (i ≠ id → Q (.exit i) al σ)
theorem Sem.block {id : Nat} {b : ACode} (h0 : Sem P b n al σ fun x al1 σ1 => ∃ al2 σ2, Wk σ.length al1 σ1 al2 σ2 ∧ behind id Q al2 σ2 x) : Sem P (.block id b) n al σ Q := by
  have h : Sem P b n al σ fun x al1 σ1 => ∃ al2 σ2, Wk σ.length al1 σ1 al2 σ2 ∧ Q (out id x) al2 σ2 := h0.mono fun x al1 σ1 ⟨al2, σ2, hw, hb⟩ => ⟨al1, σ1, .refl, al2, σ2, hw, by
    cases x with
    | normal => exact hb
    | ret => exact hb
    | exit i =>
      by_cases hi : i = id
      · simp only [out, if_pos hi]; exact hb.1 hi
      · simp only [out, if_neg hi]; exact hb.2 hi⟩
  intro c hc M Fz w act K R A hK
  cases c with
  | block i c1 =>
    simp only [zeA, Option.map_eq_some_iff, ACode.block.injEq] at hc
    obtain ⟨a1, h1, rfl, rfl⟩ := hc
    refine wp_block (h c1 h1 M Fz w act _ R A fun x al1 σ1 a' w' M' Fz' hQ hd R' A' E' hl => ?_)
    obtain ⟨al2, σ2, hw, hq⟩ := hQ
    obtain ⟨M2, R2, A2, E2, l2⟩ := hw.use R' A' E' hl
    have := hK _ al2 σ2 a' w' M2 Fz' hq hd R2 A2 E2 l2
    cases x with
    | normal => exact this
    | ret => exact this
    | exit j =>
      by_cases hj : j = i
      · simp only [out, if_pos hj, toE] at this
        simp only [toE, Exit.inBlock, if_pos hj]
        exact this
      · simp only [out, if_neg hj, toE] at this
        simp only [toE, Exit.inBlock, if_neg hj]
        exact this
  | region id ops draw =>
    simp only [zeA] at hc
    split at hc
    · cases draw with
      | false => simp at hc
      | true => simp only [if_true] at hc; split at hc <;> simp at hc
    · simp at hc
  | seq c1 c2 => simp only [zeA] at hc; split at hc <;> simp at hc
  | cond o c1 c2 => simp only [zeA] at hc; split at hc <;> simp at hc
  | loop c1 => simp [zeA] at hc
  | _ => simp [zeA] at hc
theorem Sem.loop {b : ACode} (k : Nat) (h : SemL P b k n al σ Q) : Sem P (.loop b) n al σ Q := by
  intro c hc M Fz w act K R A hK
  cases c with
  | loop c1 =>
    simp only [zeA, Option.map_eq_some_iff, ACode.loop.injEq] at hc
    obtain ⟨a1, h1, rfl⟩ := hc
    exact wp_loop_rounds k (h c1 h1 M Fz w act K R A hK)
  | region id ops draw =>
    simp only [zeA] at hc
    split at hc
    · cases draw with
      | false => simp at hc
      | true => simp only [if_true] at hc; split at hc <;> simp at hc
    · simp at hc
  | seq c1 c2 => simp only [zeA] at hc; split at hc <;> simp at hc
  | cond o c1 c2 => simp only [zeA] at hc; split at hc <;> simp at hc
  | block id c1 => simp [zeA] at hc
  | _ => simp [zeA] at hc
theorem SemL.succ {b : ACode} {k : Nat} (h : Sem P b n al σ fun x al1 σ1 => match x with | .normal => ∃ al2 σ2, Wk σ.length al1 σ1 al2 σ2 ∧ SemL P b k n al2 σ2 Q | x => ∃ al2 σ2, Wk σ.length al1 σ1 al2 σ2 ∧ Q x al2 σ2) : SemL P b (k + 1) n al σ Q := by
  intro c hc M Fz w act K R A hK
  rw [rounds_succ]
  refine h c hc M Fz w act _ R A fun x al1 σ1 a' w' M' Fz' hQ hd R' A' E' hl => ?_
  cases x with
  | normal =>
    obtain ⟨al2, σ2, hw, hs⟩ := hQ
    obtain ⟨M2, R2, A2, E2, l2⟩ := hw.use R' A' E' hl
    exact hs c hc M2 Fz' w' a' K R2 A2 fun x al3 σ3 a3 w3 M3 Fz3 hQ3 hd3 R3 A3 E3 hl3 => hK x al3 σ3 a3 w3 M3 Fz3 hQ3 (by rw [hd3, hd]) R3 A3 (E2.trans E3 l2) (Nat.le_trans l2 hl3)
  | exit i =>
    obtain ⟨al2, σ2, hw, hq⟩ := hQ
    obtain ⟨M2, R2, A2, E2, l2⟩ := hw.use R' A' E' hl
    exact hK (.exit i) al2 σ2 a' w' M2 Fz' hq hd R2 A2 E2 l2
  | ret =>
    obtain ⟨al2, σ2, hw, hq⟩ := hQ
    obtain ⟨M2, R2, A2, E2, l2⟩ := hw.use R' A' E' hl
    exact hK .ret al2 σ2 a' w' M2 Fz' hq hd R2 A2 E2 l2
theorem Sem.join {a b : ACode} {V : Type} (L : V → AL) (H : V → Heap) (p : V → Prop) (hb : ∀ v, p v → Sem P b n (L v) (H v) Q)
    (ha : Sem P a n al σ fun x al1 σ1 => match x with | .normal => ∃ v, p v ∧ Wk σ.length al1 σ1 (L v) (H v) | x => Q x al1 σ1) : Sem P (.seq a b) n al σ Q :=
  Sem.seq (ha.mono fun x al1 σ1 hq => ⟨al1, σ1, .refl, by
    cases x with
    | normal => obtain ⟨v, hv, hw⟩ := hq; exact ⟨L v, H v, hw, hb v hv⟩
    | exit i => exact hq
    | ret => exact hq⟩)
theorem Sem.rounds {b : ACode} {V : Type} (L : V → AL) (H : V → Heap) (p : Nat → V → Prop) (k : Nat) (v : V) (hp : p k v) (h0 : ∀ v, p 0 v → False)
    (hs : ∀ k v, p (k + 1) v → Sem P b n (L v) (H v) fun x al1 σ1 => match x with | .normal => ∃ v', p k v' ∧ Wk (H v).length al1 σ1 (L v') (H v') | x => ∃ al2 σ2, Wk (H v).length al1 σ1 al2 σ2 ∧ Q x al2 σ2)
    (hw : Sub al (L v)) (hσ : σ = H v) : Sem P (.loop b) n al σ Q := by
  subst hσ
  refine Sem.loop k (SemL.pre hw ?_)
  clear hw
  induction k generalizing v with
  | zero => exact (h0 v hp).elim
  | succ k ih =>
    refine SemL.succ ((hs k v hp).mono fun x al1 σ1 hq => ⟨al1, σ1, .refl, ?_⟩)
    cases x with
    | normal => obtain ⟨v', hv, hw⟩ := hq; exact ⟨L v', H v', hw, ih v' hv⟩
    | exit i => exact hq
    | ret => exact hq
def Trc (P : Program) (orc : Orc) (k : Nat) (os : List AOper) (n : Nat) (al : AL) (σ : Heap) (al' : AL) (σ' : Heap) (is : List Info) : Prop :=
  ∀ e, Env n al e → ∃ e', evTr P orc k os e σ = some (e', σ', is) ∧ Env n al' e'
theorem evTr_ops : ∀ (os : List AOper) (e e' : List D) (σ σ' : Heap) (is : List Info), evTr P orc 0 os e σ = some (e', σ', is) → evOps P orc os e σ = some (e', σ', is.flatMap (·.wr)) := by
  intro os
  induction os with
  | nil => intro e e' σ σ' is h; simp only [evTr, Option.some.injEq, Prod.mk.injEq] at h; obtain ⟨rfl, rfl, rfl⟩ := h; rfl
  | cons o os ih =>
    intro e e' σ σ' is h
    simp only [evTr] at h
    split at h
    · rename_i env1 σ1 w1 h1
      split at h
      · split at h
        · rename_i env2 σ2 is2 h2
          simp only [Option.some.injEq, Prod.mk.injEq] at h
          obtain ⟨rfl, rfl, rfl⟩ := h
          have := ih _ _ _ _ _ h2
          simp [evOps, h1, this, infoOf]
        · simp at h
      · simp at h
    · simp at h
theorem Sem.reg (hmix : P.follows .mixedOrders = true) (O : zaO P orc) {os : List AOper} {is : List Info} (h : Trc P orc 0 os n al σ al1 σ1 is) (hQ : Q .normal al1 σ1) : Sem P (.reg os) n al σ Q := by
  intro c hc M Fz w a K R A hK
  obtain ⟨e', h1, h2⟩ := h _ A.toEnv.2
  have h3 := evTr_ops _ _ _ _ _ _ h1
  have : Sem P (.reg os) n al σ Q := Sem.of_ev hmix O (k := 1) (wr := []) (e := envOf n al) (e' := e') (x := .normal) (σ' := σ1) (wr' := is.flatMap (·.wr) ++ []) (by simp only [evC, h3, Option.map_some]) rfl h2 hQ
  exact this c hc M Fz w a K R A hK
theorem Sem.drw (hmix : P.follows .mixedOrders = true) (O : zaO P orc) {os : List AOper} {bef : List Nat} {k p : Nat} {is : List Info} (h : Trc P orc k os n al σ al1 σ1 is) (hp : (pairsOk bef is && tailOk bef p k os.length && Nat.ble p k) = true) (hQ : Q .normal al1 σ1) :
    Sem P (.drw os bef k p) n al σ Q := by
  intro c hc M Fz w a K R A hK
  obtain ⟨e', h1, h2⟩ := h _ A.toEnv.2
  have h3 : evDrw P orc os bef p k (envOf n al) σ = some (e', σ1, is.flatMap (·.wr)) := by
    unfold evDrw
    rw [h1]
    dsimp only
    rw [if_pos hp]
  have : Sem P (.drw os bef k p) n al σ Q := Sem.of_ev hmix O (k := 1) (wr := []) (e := envOf n al) (e' := e') (x := .normal) (σ' := σ1) (by simp only [evC, h3]; rfl) rfl h2 hQ
  exact this c hc M Fz w a K R A hK
theorem evTr_det : ∀ (os : List AOper) (n m : Nat) (e : List D) (σ : Heap) (r r' : List D × Heap × List Info), evTr P orc n os e σ = some r → evTr P orc m os e σ = some r' → r = r' := by
  intro os
  induction os with
  | nil => intro n m e σ r r' h h'; simp only [evTr, Option.some.injEq] at h h'; rw [← h, ← h']
  | cons o os ih =>
    intro n m e σ r r' h h'
    simp only [evTr] at h h'
    cases h1 : evOper P orc o e σ with
    | none => rw [h1] at h; simp at h
    | some q =>
      obtain ⟨e1, σ1, w1⟩ := q
      rw [h1] at h h'
      dsimp only at h h'
      split at h
      · split at h'
        · cases h2 : evTr P orc (n - 1) os e1 σ1 with
          | none => rw [h2] at h; simp at h
          | some r1 =>
            cases h3 : evTr P orc (m - 1) os e1 σ1 with
            | none => rw [h3] at h'; simp at h'
            | some r2 =>
              have := ih _ _ _ _ _ _ h2 h3
              subst this
              rw [h2] at h
              rw [h3] at h'
              obtain ⟨a, b, c⟩ := r1
              simp only [Option.some.injEq] at h h'
              rw [← h, ← h']
        · simp at h'
      · simp at h
theorem Sem.drwN (hmix : P.follows .mixedOrders = true) (O : zaO P orc) {os : List AOper} {bef : List Nat} {k p : Nat} {is : List Info} (h : Trc P orc os.length os n al σ al1 σ1 is) (hp : (pairsOk bef is && tailOk bef p os.length os.length && Nat.ble p os.length) = true) (hQ : Q .normal al1 σ1) :
    Sem P (.drw os bef k p) n al σ Q := by
  intro c hc M Fz w a K R A hK
  obtain ⟨e', h1, h2⟩ := h _ A.toEnv.2
  have det : ∀ m r, evDrw P orc os bef p m (envOf n al) σ = some r → r = (e', σ1, is.flatMap (·.wr)) := by
    intro m r hr
    unfold evDrw at hr
    split at hr
    · rename_i e2 σ2 is2 h3
      have := evTr_det _ _ _ _ _ _ _ h3 h1
      simp only [Prod.mk.injEq] at this
      obtain ⟨rfl, rfl, rfl⟩ := this
      split at hr
      · simp only [Option.some.injEq] at hr; exact hr.symm
      · simp at hr
    · simp at hr
  have h3 : evDrw P orc os bef p os.length (envOf n al) σ = some (e', σ1, is.flatMap (·.wr)) := by
    unfold evDrw
    rw [h1]
    dsimp only
    rw [if_pos hp]
  have h4 : evC P orc 1 (.drw os bef k p) (envOf n al) σ [] = some (.normal, e', σ1, is.flatMap (·.wr) ++ []) := by
    simp only [evC]
    split
    · rename_i r e2 σ2 w2 hr
      have := det _ _ hr
      simp only [Prod.mk.injEq] at this
      obtain ⟨rfl, rfl, rfl⟩ := this
      rfl
    · split
      · rename_i r e2 σ2 w2 hr
        have := det _ _ hr
        simp only [Prod.mk.injEq] at this
        obtain ⟨rfl, rfl, rfl⟩ := this
        rfl
      · rw [h3]
  have : Sem P (.drw os bef k p) n al σ Q := Sem.of_ev hmix O (k := 1) (wr := []) (e := envOf n al) (e' := e') (x := .normal) (σ' := σ1) h4 rfl h2 hQ
  exact this c hc M Fz w a K R A hK
end
end Go.Abs
