/- One operation, soundly (part 4): nil, lengths, made slices, maps, append, copy. -/
import Derived.Test.YtffiheekdcaihaaDoorDfwF
import Derived.IntWalk
set_option linter.all false
namespace Go.Abs
variable [Gl]
section
variable {P : Program} {σ σ' : Heap} {M M' : Nat → Option Nat} {Fz : Nat → Prop} {w w' : World} {env : List D} {a : Act}
theorem nilck_ok (E : zbb σ M Fz w env a.tmps) {o : Oper} {x : Operand} {ox : Opd} {d : D} (ho : o.op = .nilCheck x) (hx : opd x = some ox)
    (h : (match ox.ev env with
    | .ptr b off sz => some (.ptr b off sz, σ, ([] : List Nat))
    | .c (.fptr cs off) => some (.c (.fptr cs off), σ, [])
    | .c (.fn (.func f) first cap) => some (.c (.fn (.func f) first cap), σ, [])
    | .fn (.func f) first cap => some (.fn (.func f) first cap, σ, [])
    | _ => none) = some (d, σ', [])) : σ' = σ ∧ Yields P (execOp a.eval o) σ M Fz w d := by
  have hv := zcD E hx
  split at h
  · rename_i he
    rw [he] at hv
    simp only [Option.some.injEq, Prod.mk.injEq] at h
    obtain ⟨rfl, rfl, _⟩ := h
    refine ⟨rfl, Yields.same (v := a.eval x) ?_ hv⟩
    generalize hva : a.eval x = va at hv
    cases hv with
    | ptr => simp [execOp, ho, hva]
  · rename_i he
    rw [he] at hv
    simp only [Option.some.injEq, Prod.mk.injEq] at h
    obtain ⟨rfl, rfl, _⟩ := h
    refine ⟨rfl, Yields.same (v := a.eval x) ?_ hv⟩
    generalize hva : a.eval x = va at hv
    cases hv with
    | c hv => cases hv with
      | fptr => simp [execOp, ho, hva]
  · rename_i he
    rw [he] at hv
    simp only [Option.some.injEq, Prod.mk.injEq] at h
    obtain ⟨rfl, rfl, _⟩ := h
    refine ⟨rfl, Yields.same (v := a.eval x) ?_ hv⟩
    generalize hva : a.eval x = va at hv
    cases hv with
    | c hv => cases hv with
      | fn => simp [execOp, ho, hva]
  · rename_i he
    rw [he] at hv
    simp only [Option.some.injEq, Prod.mk.injEq] at h
    obtain ⟨rfl, rfl, _⟩ := h
    refine ⟨rfl, Yields.same (v := a.eval x) ?_ hv⟩
    generalize hva : a.eval x = va at hv
    cases hv with
    | fn => simp [execOp, ho, hva]
  · simp at h
inductive NilLike : TypeDesc → Value → Value → Bool → Prop where
  | p0 (e : TypeId) : NilLike (.pointer e) (.pointer none) (.pointer none) true
  | p1 (e : TypeId) (ad : Addr) : NilLike (.pointer e) (.pointer (some ad)) (.pointer none) false
  | m0 (k e : TypeId) : NilLike (.map k e) (.map none) (.map none) true
  | m1 (k e : TypeId) (r : Nat) : NilLike (.map k e) (.map (some r)) (.map none) false
  | f0 (p r : Array TypeId) (v : Bool) : NilLike (.func p r v) .nilFunc .nilFunc true
  | f1 (p r : Array TypeId) (v : Bool) (f : Fn) (x y : Array Value) : NilLike (.func p r v) (.func f x y) .nilFunc false
  | s0 (e : TypeId) : NilLike (.slice e) (.slice none 0 0) (.slice none 0 0) true
  | s1 (e : TypeId) (ad : Addr) (n c : Nat) : NilLike (.slice e) (.slice (some ad) n c) (.slice none 0 0) false
theorem equal_nil {t : TypeId} {td : TypeDesc} {x y : Value} {b : Bool} (hu : P.underlying t = some td) (h : NilLike td x y b) (w : World) :
    (Op.equal t x y).run P w = .ok b w ∧ (Op.equal t y x).run P w = .ok b w := by
  constructor
  · show (Op.equalIn (9999 + 1) t x y).run P w = _
    generalize 9999 = n
    cases h <;> (unfold Op.equalIn; simp [zbr hu])
  · show (Op.equalIn (9999 + 1) t y x).run P w = _
    generalize 9999 = n
    cases h <;> (unfold Op.equalIn; simp [zbr hu])
theorem nilLike_run {t : TypeId} {td : TypeDesc} {x y : Value} {b : Bool} (hu : P.underlying t = some td) (h : NilLike td x y b) (neg : Bool) (X Y : Operand) (w : World) :
    ((do eqGuard (if neg then .neq else .eql) t X Y x y; binOp (if neg then .neq else .eql) t x y : Sem Value).run P w = .ok (.bool (if neg then !b else b)) w) ∧
    ((do eqGuard (if neg then .neq else .eql) t Y X y x; binOp (if neg then .neq else .eql) t y x : Sem Value).run P w = .ok (.bool (if neg then !b else b)) w) := by
  obtain ⟨h1, h2⟩ := equal_nil hu h w
  have g1 : ∀ op, (eqGuard op t X Y x y).run P w = .ok () w := by intro op; cases h <;> cases op <;> rfl
  have g2 : ∀ op, (eqGuard op t Y X y x).run P w = .ok () w := by intro op; cases h <;> cases op <;> rfl
  have b1 : (binOp (if neg then .neq else .eql) t x y).run P w = .ok (.bool (if neg then !b else b)) w := by
    cases neg
    · have : binOp .eql t x y = (do pure (.bool (← Op.equal t x y)) : Sem Value) := by cases h <;> rfl
      simp only [Bool.false_eq_true, if_false, this, Sem.run_bind, h1, Result.andThen_ok, Sem.run_pure]
    · have : binOp .neq t x y = (do pure (.bool (!(← Op.equal t x y))) : Sem Value) := by cases h <;> rfl
      simp only [if_true, this, Sem.run_bind, h1, Result.andThen_ok, Sem.run_pure]
  have b2 : (binOp (if neg then .neq else .eql) t y x).run P w = .ok (.bool (if neg then !b else b)) w := by
    cases neg
    · have : binOp .eql t y x = (do pure (.bool (← Op.equal t y x)) : Sem Value) := by cases h <;> rfl
      simp only [Bool.false_eq_true, if_false, this, Sem.run_bind, h2, Result.andThen_ok, Sem.run_pure]
    · have : binOp .neq t y x = (do pure (.bool (!(← Op.equal t y x))) : Sem Value) := by cases h <;> rfl
      simp only [if_true, this, Sem.run_bind, h2, Result.andThen_ok, Sem.run_pure]
  exact ⟨by simp only [Sem.run_bind, g1, Result.andThen_ok, b1], by simp only [Sem.run_bind, g2, Result.andThen_ok, b2]⟩
theorem isNil_inv {td : TypeDesc} {k : Nat} {d : D} {v : Value} {b : Bool} (hk : nilKind td = some k) (hv : V σ M Fz w d v) (h : isNil k d = some b) :
    ∃ nv, NilLike td v nv b ∧ ((k = 0 ∧ nv = .pointer none) ∨ (k = 1 ∧ nv = .map none) ∨ (k = 2 ∧ nv = .nilFunc) ∨ (k = 3 ∧ nv = .slice none 0 0)) := by
  cases td <;> simp only [nilKind, Option.some.injEq, reduceCtorEq] at hk <;> subst hk
  · cases d with
    | ptr =>
      simp only [isNil, Option.some.injEq] at h
      subst h
      cases hv with
      | ptr ad => exact ⟨_, .p1 _ ad, .inl ⟨rfl, rfl⟩⟩
    | c x =>
      cases x with
      | fptr =>
        simp only [isNil, Option.some.injEq] at h
        subst h
        cases hv with
        | c hv => cases hv with
          | fptr => exact ⟨_, .p1 _ _, .inl ⟨rfl, rfl⟩⟩
      | lit u =>
        cases u <;> simp [isNil] at h
        rename_i p
        cases p <;> simp at h
        subst h
        rw [hv.lit_inv]
        exact ⟨_, .p0 _, .inl ⟨rfl, rfl⟩⟩
      | _ => simp [isNil] at h
    | _ => simp [isNil] at h
  · cases d with
    | sl b off len esz sz =>
      cases len with
      | zero => simp [isNil] at h
      | succ len =>
        simp only [isNil, Option.some.injEq] at h
        subst h
        cases hv with
        | sl ad n cap hnn =>
          cases ad with
          | none => exact absurd rfl (hnn (by omega))
          | some ad => exact ⟨_, .s1 _ _ _ _, .inr (.inr (.inr ⟨rfl, rfl⟩))⟩
    | c x =>
      cases x with
      | frz nn es =>
        cases nn <;> simp only [isNil, Option.some.injEq, reduceCtorEq] at h
        subst h
        have hvc := hv.c_inv
        generalize hx : C.frz true es = x at hvc
        cases hvc with
        | frz esz ad cap hnn =>
          simp only [C.frz.injEq] at hx
          obtain ⟨rfl, rfl⟩ := hx
          obtain ⟨ad', rfl⟩ := Option.isSome_iff_exists.1 (hnn rfl)
          exact ⟨_, .s1 _ _ _ _, .inr (.inr (.inr ⟨rfl, rfl⟩))⟩
        | _ => simp at hx
      | lit u =>
        cases u <;> try (simp [isNil] at h; done)
        rename_i p n c
        cases p <;> cases n <;> cases c <;> simp [isNil] at h
        subst h
        rw [hv.lit_inv]
        exact ⟨_, .s0 _, .inr (.inr (.inr ⟨rfl, rfl⟩))⟩
      | _ => simp [isNil] at h
    | _ => simp [isNil] at h
  · cases d with
    | mp =>
      simp only [isNil, Option.some.injEq] at h
      subst h
      cases hv with
      | mp => exact ⟨_, .m1 _ _ _, .inr (.inl ⟨rfl, rfl⟩)⟩
    | c x =>
      cases x with
      | fmp =>
        simp only [isNil, Option.some.injEq] at h
        subst h
        cases hv with
        | c hv => cases hv with
          | fmp => exact ⟨_, .m1 _ _ _, .inr (.inl ⟨rfl, rfl⟩)⟩
      | lit u =>
        cases u <;> simp [isNil] at h
        rename_i p
        cases p <;> simp at h
        subst h
        rw [hv.lit_inv]
        exact ⟨_, .m0 _ _, .inr (.inl ⟨rfl, rfl⟩)⟩
      | _ => simp [isNil] at h
    | _ => simp [isNil] at h
  · cases d with
    | fn =>
      simp only [isNil, Option.some.injEq] at h
      subst h
      cases hv with
      | fn => exact ⟨_, .f1 _ _ _ _ _ _, .inr (.inr (.inl ⟨rfl, rfl⟩))⟩
    | c x =>
      cases x with
      | fn =>
        simp only [isNil, Option.some.injEq] at h
        subst h
        cases hv with
        | c hv => cases hv with
          | fn => exact ⟨_, .f1 _ _ _ _ _ _, .inr (.inr (.inl ⟨rfl, rfl⟩))⟩
      | lit u =>
        cases u <;> simp [isNil] at h
        subst h
        rw [hv.lit_inv]
        exact ⟨_, .f0 _ _ _, .inr (.inr (.inl ⟨rfl, rfl⟩))⟩
      | _ => simp [isNil] at h
    | _ => simp [isNil] at h
theorem isNilConst_inv {k : Nat} {x : Operand} {nv : Value} (h : isNilConst k x = true) (hn : (k = 0 ∧ nv = .pointer none) ∨ (k = 1 ∧ nv = .map none) ∨ (k = 2 ∧ nv = .nilFunc) ∨ (k = 3 ∧ nv = .slice none 0 0)) : x = .const nv := by
  unfold isNilConst at h
  split at h <;> simp at h <;> subst h <;> rcases hn with ⟨h1, h2⟩ | ⟨h1, h2⟩ | ⟨h1, h2⟩ | ⟨h1, h2⟩ <;> first | (subst h2; rfl) | omega
theorem isnil_ok (E : zbb σ M Fz w env a.tmps) {o : Oper} {t t2 : TypeId} {td : TypeDesc} {x y : Operand} {neg : Bool} {k k' : Nat} {neg' : Bool} {ox : Opd} {b : Bool}
    (ho : o.op = .binOp (if neg then .neq else .eql) t x y t2) (hu : P.underlying t = some td) (hk : nilKind td = some k) (hc : compNil k neg x y = some (.isnil k' neg' ox)) (hb : isNil k' (ox.ev env) = some b) :
    Yields P (execOp a.eval o) σ M Fz w (.c (.lit (.bool (if neg' then !b else b)))) := by
  unfold compNil at hc
  split at hc
  · rename_i hy
    simp only [Option.map_eq_some_iff, AOp.isnil.injEq] at hc
    obtain ⟨ox', hox, rfl, rfl, rfl⟩ := hc
    obtain ⟨nv, hN, hnv⟩ := isNil_inv hk (zcD E hox) hb
    obtain rfl := isNilConst_inv hy hnv
    refine Yields.same (v := .bool (if neg then !b else b)) ?_ (.c (.lit _))
    have := (nilLike_run hu hN neg x (.const nv) w).1
    simp only [execOp, ho, Sem.run_bind]
    simp only [Sem.run_bind] at this
    have e : a.eval (.const nv) = nv := rfl
    rw [e, this]
    rfl
  · split at hc
    · rename_i hx
      simp only [Option.map_eq_some_iff, AOp.isnil.injEq] at hc
      obtain ⟨ox', hox, rfl, rfl, rfl⟩ := hc
      obtain ⟨nv, hN, hnv⟩ := isNil_inv hk (zcD E hox) hb
      obtain rfl := isNilConst_inv hx hnv
      refine Yields.same (v := .bool (if neg then !b else b)) ?_ (.c (.lit _))
      have := (nilLike_run hu hN neg y (.const nv) w).2
      simp only [execOp, ho, Sem.run_bind]
      simp only [Sem.run_bind] at this
      have e : a.eval (.const nv) = nv := rfl
      rw [e, this]
      rfl
    · simp at hc
theorem sliceLen_inv {d : D} {v : Value} {n : Nat} (hv : V σ M Fz w d v) (h : zey σ d = some n) : ∃ ad cap, v = .slice ad n cap := by
  unfold zey at h
  split at h
  · simp only [Option.some.injEq] at h; subst h; exact ⟨_, _, hv.lit_inv⟩
  · simp only [Option.some.injEq] at h
    subst h
    cases hv with
    | c hv => cases hv with
      | frz => exact ⟨_, _, rfl⟩
  · split at h
    · rename_i hr
      simp only [Option.some.injEq] at h
      subst h
      obtain ⟨cs, hr⟩ := Option.isSome_iff_exists.1 hr
      rcases hv.sl_inv hr with ⟨hv', e2, _⟩ | ⟨c, o, cap, arr, T, _, hv', _⟩
      · exact ⟨_, _, by rw [e2]; exact hv'⟩
      · exact ⟨_, _, hv'⟩
    · simp at h
  · simp at h
theorem flatten_get {es : List (List C)} {n : Nat} (h : ∀ e ∈ es, e.length = n) : ∀ (i j : Nat) e d, es[i]? = some e → e[j]? = some d → es.flatten[i * n + j]? = some d := by
  induction es with
  | nil => intro i j e d h1; simp at h1
  | cons e0 es ih =>
    intro i j e d h1 h2
    have h0 := h e0 (by simp)
    cases i with
    | zero =>
      simp at h1
      subst h1
      simp only [List.flatten_cons, Nat.zero_mul, Nat.zero_add]
      rw [List.getElem?_append_left (List.getElem?_eq_some_iff.1 h2).1]
      exact h2
    | succ i =>
      simp only [List.flatten_cons]
      rw [List.getElem?_append_right (by rw [h0, Nat.succ_mul]; omega)]
      have := ih (fun e he => h e (by simp [he])) i j e d (by simpa using h1) h2
      rw [← this]
      congr 1
      rw [h0, Nat.succ_mul]
      omega
theorem flatten_len {es : List (List C)} {n : Nat} (h : ∀ e ∈ es, e.length = n) : es.flatten.length = es.length * n := by
  induction es with
  | nil => simp
  | cons e0 es ih =>
    simp only [List.flatten_cons, List.length_append, List.length_cons]
    rw [ih (fun e he => h e (by simp [he])), h e0 (by simp), Nat.succ_mul]
    omega
theorem zeg (R : Rel σ M Fz w) {d : D} {v : Value} {esz n : Nat} {cs : List D} (hv : V σ M Fz w d v) (h0 : esz ≠ 0) (h : ze6 σ esz n d = some cs) :
    ∃ arr, (Builtin.firstCells esz n v).run P w = .ok arr w ∧ zft σ M Fz w cs arr ∧ cs.length = n * esz := by
  have load : ∀ (ad : Addr) (len cap : Nat) (cs : List D), v = .slice (some ad) len cap → cs.length = n * esz →
      (∀ (i : Nat) x, cs[i]? = some x → ∃ u, w.cell? (ad.add i) = some u ∧ V σ M Fz w x u ∧ u.oneCell' = true) →
      ∃ arr, (Builtin.firstCells esz n v).run P w = .ok arr w ∧ zft σ M Fz w cs arr ∧ cs.length = n * esz := by
    intro ad len cap cs hva hlen hcell
    let f : Nat → Value := fun j => (w.cell? (ad.add j)).getD undef
    have hf : ∀ j, j < n * esz → w.cell? (ad.add j) = some (f j) := by
      intro j hj
      obtain ⟨u, h1, _⟩ := hcell j _ (List.getElem?_eq_getElem (by omega))
      simp only [f, h1, Option.getD_some]
    have hrun := run_loadCells (P := P) (w := w) ad (n * esz) f hf
    refine ⟨_, by rw [hva]; simp only [Builtin.firstCells]; exact hrun, ⟨by simp [hlen], fun i x u h1 h2 => ?_⟩, hlen⟩
    obtain ⟨u', h3, h4, h5⟩ := hcell i x h1
    have hi : i < n * esz := by rw [← hlen]; exact (List.getElem?_eq_some_iff.1 h1).1
    have : u = u' := by
      simp [hi, f, h3] at h2
      exact h2.symm
    rw [this]
    exact ⟨h4, h5⟩
  have empty : ∀ (cs : List D), n = 0 → cs = [] → (∃ ad len cap, v = .slice ad len cap) → ∃ arr, (Builtin.firstCells esz n v).run P w = .ok arr w ∧ zft σ M Fz w cs arr ∧ cs.length = n * esz := by
    intro cs hn hcs ⟨ad, len, cap, hva⟩
    subst hn hcs
    cases ad with
    | none => exact ⟨#[], by rw [hva]; rfl, ⟨rfl, fun i x u h => by simp at h⟩, by simp⟩
    | some ad => exact load ad len cap [] hva (by simp) (fun i x h => by simp at h)
  unfold ze6 at h
  split at h
  · split at h
    · rename_i hn
      simp only [Option.some.injEq] at h
      exact empty cs hn h.symm ⟨_, _, _, hv.lit_inv⟩
    · simp at h
  · rename_i nn es
    split at h
    · rename_i hc
      simp only [Option.some.injEq] at h
      subst h
      obtain ⟨hn, hall⟩ := hc
      have hlen : ∀ e ∈ es.take n, e.length = esz := fun e he => by simpa using List.all_eq_true.1 hall e (List.mem_of_mem_take he)
      have hfl : ((es.take n).flatten.map D.c).length = n * esz := by
        rw [List.length_map, flatten_len hlen, List.length_take]
        congr 1
        omega
      have hvc := hv.c_inv
      generalize hva : v = va at hvc
      cases hvc with
      | frz sz ad cap hnn _ c hsz hcap hcc hvv =>
        by_cases hn0 : n = 0
        · exact hva ▸ empty _ hn0 (by subst hn0; simp) ⟨_, _, _, hva⟩
        · have hp : 0 < es.length := by omega
          have he0 : es[0]? = some es[0] := List.getElem?_eq_getElem hp
          have hl0 : es[0].length = esz := by simpa using List.all_eq_true.1 hall es[0] (List.getElem_mem _)
          have hsz0 : sz = esz := by rw [← hsz es[0] (List.getElem_mem _), hl0]
          subst hsz0
          obtain ⟨blk, o0, rfl, _⟩ := hcc 0 0 es[0] (es[0][0]'(by omega)) he0 (List.getElem?_eq_getElem _)
          refine hva ▸ load _ _ _ _ hva hfl (fun i x hi => ?_)
          have hilt : i < n * sz := by rw [← hfl]; exact (List.getElem?_eq_some_iff.1 hi).1
          have hdiv : i / sz < n := Nat.div_lt_of_lt_mul (by rw [Nat.mul_comm]; exact hilt)
          have hmod : i % sz < sz := Nat.mod_lt _ (by omega)
          have hk : es[i / sz]? = some (es[i / sz]'(by omega)) := List.getElem?_eq_getElem _
          have hk' : (es.take n)[i / sz]? = some (es[i / sz]'(by omega)) := by rw [List.getElem?_take_of_lt hdiv]; exact hk
          have hkl : (es[i / sz]'(by omega)).length = sz := hsz _ (List.getElem_mem _)
          have hj : (es[i / sz]'(by omega))[i % sz]? = some ((es[i / sz]'(by omega))[i % sz]'(by omega)) := List.getElem?_eq_getElem _
          have hfg := flatten_get hlen (i / sz) (i % sz) _ _ hk' hj
          rw [show i / sz * sz + i % sz = i from by rw [Nat.mul_comm]; exact Nat.div_add_mod i sz] at hfg
          rw [List.getElem?_map, hfg] at hi
          simp only [Option.map_some, Option.some.injEq] at hi
          subst hi
          obtain ⟨blk', o0', h1, h2, h3, h4⟩ := hcc _ _ _ _ hk hj
          simp only [Option.some.injEq, Addr.mk.injEq, and_true] at h1
          obtain ⟨rfl, rfl⟩ := h1
          refine ⟨_, ?_, .c (hvv _ _ _ _ hk hj), h4⟩
          rw [add_off, ← h3]
          congr 2
          rw [Nat.add_assoc]
          congr 1
          rw [Nat.mul_comm]
          exact (Nat.div_add_mod i sz).symm
    · simp at h
  · rename_i b off len es sz
    simp only [Option.bind_eq_bind, Option.bind_eq_some_iff] at h
    obtain ⟨row, hr, h⟩ := h
    split at h
    · rename_i hc
      obtain ⟨rfl, hn, hle⟩ := hc
      simp only [Option.some.injEq] at h
      subst h
      obtain ⟨hb, hsz⟩ := ze1 hr
      rcases hv.sl_inv hr with ⟨hva, e2, _⟩ | ⟨c, o, cap, arr, T, hM, hva, hl, hoff, hh, hcap, _⟩
      · exact empty _ (by omega) (by have : n = 0 := by omega
                                     subst this; simp) ⟨_, _, _, hva⟩
      by_cases hn0 : n = 0
      · exact empty _ hn0 (by subst hn0; simp) ⟨_, _, _, hva⟩
      · have hoo : o = off := by
          rcases hoff with h | h
          · exact h
          · omega
        subst hoo
        have hnl : n * es ≤ len * es := Nat.mul_le_mul_right _ hn
        obtain ⟨arr', T', hh', hl', hcs⟩ := R.row hM hb
        refine load _ _ _ _ hva (by simp; omega) (fun i x hi => ?_)
        have hilt : i < n * es := by have := (List.getElem?_eq_some_iff.1 hi).1; simp at this; omega
        rw [List.getElem?_take_of_lt hilt, List.getElem?_drop] at hi
        have hil := (List.getElem?_eq_some_iff.1 hi).1
        have e : arr'[o + i]? = some (arr'[o + i]'(by omega)) := Array.getElem?_eq_getElem _
        have := hcs _ _ _ hi e
        exact ⟨_, by rw [add_off, cell_of_row w c _ arr' T' (0, 0) hh']; exact e, this.1, this.2⟩
    · simp at h
  · simp at h
theorem len_ok (E : zbb σ M Fz w env a.tmps) {o : Oper} {t e : TypeId} {x : Operand} {ox : Opd} {args : Array Operand} {ats : Array TypeId} {n : Nat} (ho : o.op = .call { callee := .builtin .len, args := args, argTypes := ats })
    (ht : ats[0]? = some t) (hx0 : args[0]? = some x) (hs : args.size = 1) (hx : opd x = some ox) (hu : P.underlying t = some (.slice e)) (h : zey σ (ox.ev env) = some n) :
    Yields P (execOp a.eval o) σ M Fz w (.c (.lit (.int .i64 n))) := by
  obtain ⟨ad, cap, hva⟩ := sliceLen_inv (zcD E hx) h
  have hargs : args = #[x] := by
    apply Array.ext'
    apply List.ext_getElem?
    intro i
    simp only [Array.getElem?_toList]
    cases i with
    | zero => simpa using hx0
    | succ i => rw [Array.getElem?_eq_none (by omega)]; simp
  subst hargs
  refine Yields.same (v := .int .i64 n) ?_ (.c (.lit _))
  simp [execOp, ho, resolve, invoke, builtin, Builtin.len_, ht, zbr hu, hva, goInt]
theorem lenArr_ok {o : Oper} {t e : TypeId} {x : Operand} {args : Array Operand} {ats : Array TypeId} {n : Nat} (ho : o.op = .call { callee := .builtin .len, args := args, argTypes := ats })
    (ht : ats[0]? = some t) (hx0 : args[0]? = some x) (hs : args.size = 1) (hu : P.underlying t = some (.array n e)) :
    Yields P (execOp a.eval o) σ M Fz w (.c (.lit (.int .i64 n))) := by
  have hargs : args = #[x] := by
    apply Array.ext'
    apply List.ext_getElem?
    intro i
    simp only [Array.getElem?_toList]
    cases i with
    | zero => simpa using hx0
    | succ i => rw [Array.getElem?_eq_none (by omega)]; simp
  subst hargs
  refine Yields.same (v := .int .i64 n) ?_ (.c (.lit _))
  simp [execOp, ho, resolve, invoke, builtin, Builtin.len_, ht, zbr hu, goInt]
theorem lenMap_ok (R : Rel σ M Fz w) (E : zbb σ M Fz w env a.tmps) {o : Oper} {t k e : TypeId} {x : Operand} {ox : Opd} {args : Array Operand} {ats : Array TypeId} {n : Nat} (ho : o.op = .call { callee := .builtin .len, args := args, argTypes := ats })
    (ht : ats[0]? = some t) (hx0 : args[0]? = some x) (hs : args.size = 1) (hx : opd x = some ox) (hu : P.underlying t = some (.map k e))
    (h : (∃ b es clock, ox.ev env = .mp b ∧ σ[b]? = some (.map es clock) ∧ n = es.length) ∨ (ox.ev env = .c (.lit (.map none)) ∧ n = 0) ∨ ∃ fs, ox.ev env = .c (.fmp fs) ∧ n = fs.length) :
    Gives P (execOp a.eval o) σ M Fz w σ (.c (.lit (.int .i64 n))) := by
  have hargs : args = #[x] := by
    apply Array.ext'
    apply List.ext_getElem?
    intro i
    simp only [Array.getElem?_toList]
    cases i with
    | zero => simpa using hx0
    | succ i => rw [Array.getElem?_eq_none (by omega)]; simp
  subst hargs
  refine Gives.same R (v := .int .i64 n) ?_ (.c (.lit _))
  have hv := zcD E hx
  rcases h with ⟨b, es, clock, he, hb, rfl⟩ | ⟨he, rfl⟩ | ⟨fs, he, rfl⟩
  · rw [he] at hv
    generalize hva : a.eval x = va at hv
    cases hv with
    | mp c ob hob hM =>
      rw [hb] at hob
      simp only [Option.some.injEq] at hob
      subst hob
      obtain ⟨_, ob', o', h1, h2, h3⟩ := R.blk b c (hM rfl)
      rw [hb] at h1
      simp only [Option.some.injEq] at h1
      subst h1
      obtain ⟨arr, rfl, hsz, _⟩ := h3
      simp [execOp, ho, resolve, invoke, builtin, Builtin.len_, ht, zbr hu, hva, goInt, getObj, Sem.run, h2, hsz]
  · rw [he] at hv
    simp [execOp, ho, resolve, invoke, builtin, Builtin.len_, ht, zbr hu, hv.lit_inv, goInt]
  · rw [he] at hv
    generalize hva : a.eval x = va at hv
    cases hv with
    | c hv => cases hv with
      | fmp blk clock arr hF hh hsz hk' hv' =>
        simp [execOp, ho, resolve, invoke, builtin, Builtin.len_, ht, zbr hu, hva, goInt, getObj, Sem.run, hh, hsz]
theorem mk_ok (hfz : ∀ c, Fz c → c < w.heap.size) (E : zbb σ M Fz w env a.tmps) {o : Oper} {t e : TypeId} {x y : Operand} {ox oy : Opd} {n : Nat} {i : TypeInfo} {z : List D} {l c : Int} (ho : o.op = .makeSlice t x y)
    (hu : P.underlying t = some (.slice e)) (hn : sizeOf? P e = some n) (hz : zd5 P e = some z) (hi : P.info? e = some i) (hn0 : ¬ (n = 0 ∨ z.length ≠ n)) (hx : opd x = some ox) (hy : opd y = some oy)
    (hl : ze3 (ox.ev env) = some l) (hc : ze3 (oy.ev env) = some c) (hcnd : 0 ≤ l ∧ l ≤ c ∧ roomOk c.toNat i.bytes = true) :
    Allocs P (execOp a.eval o) σ M Fz w (.cells (zeros l.toNat z)) (.sl σ.length 0 l.toNat n (l.toNat * n)) := by
  obtain ⟨i', v, hi', hv, hcz⟩ := zfb hz
  rw [hi] at hi'
  simp only [Option.some.injEq] at hi'
  subst hi'
  have hrow := zft.ofCells (V.ofVal (σ := σ) (M := M) (Fz := Fz) (w := w) v) hcz
  simp only [not_or, Decidable.not_not] at hn0
  obtain ⟨hn1, hzn⟩ := hn0
  have hzne : z ≠ [] := fun h => by simp [h] at hzn; omega
  have hvn : v.cells.size = n := by rw [hrow.1, hzn]
  obtain ⟨h0, hlc, hroom⟩ := hcnd
  simp only [roomOk, Bool.and_eq_true, decide_eq_true_eq] at hroom
  obtain ⟨⟨hr1, hr2⟩, _⟩ := hroom
  obtain ⟨k1, hk1⟩ := litInt_inv (zcD E hx) hl
  obtain ⟨k2, hk2⟩ := litInt_inv (zcD E hy) hc
  obtain ⟨hz1, hz2⟩ := zeros_row hrow hzne l.toNat c.toNat (by omega)
  have hcs : (zeros l.toNat z).length = l.toNat * n := by rw [length_zeros, hzn]
  have hlim : c ≤ 1099511627776 := by omega
  have hwl : IntKind.i64.wrap l = l := IntWalk.i64_in _ (by omega)
  have hwc : IntKind.i64.wrap c = c := IntWalk.i64_in _ (by omega)
  let arr : Array Value := (Array.range (c.toNat * n)).map (fun (x : Nat) => v.cells[x % v.cells.size]!)
  have harr : arr = (Array.range (c.toNat * v.cells.size)).map (v.cells[· % v.cells.size]!) := by simp only [arr, hvn]
  obtain ⟨r1, r2⟩ := newRow_ok (P := P) hfz (arr := arr) (cs := zeros l.toNat z) e (by rw [hcs, harr]; rw [hzn] at hz1; exact hz1) (by rw [harr]; exact hz2)
  refine ⟨_, .slice (some ⟨w.heap.size, 0, none⟩) l.toNat c.toNat, ?_, r2, ?_⟩
  · have htoo : ∀ m : Int, 0 ≤ m → m ≤ c → (m < 0 || (i.bytes : Int) * m > 2 ^ 48) = false := by
      intro m hm1 hm2
      have h1 : (i.bytes : Int) * m ≤ i.bytes * c := Int.mul_le_mul_of_nonneg_left hm2 (by omega)
      have h2 : ((c.toNat * i.bytes : Nat) : Int) ≤ ((2 ^ 40 : Nat) : Int) := by exact_mod_cast hr1
      have h3 : ((c.toNat * i.bytes : Nat) : Int) = i.bytes * c := by
        rw [Int.natCast_mul, Int.toNat_of_nonneg (by omega), Int.mul_comm]
      simp only [Bool.or_eq_false_iff, decide_eq_false_iff_not]
      constructor
      · omega
      · rw [h3] at h2
        have : ((2 : Int) ^ 48) = 281474976710656 := by decide
        have h4 : (((2 : Nat) ^ 40 : Nat) : Int) = 1099511627776 := by decide
        omega
    simp only [execOp, ho, Instr.makeSlice, Sem.run_bind, zbr hu, Result.andThen_ok, hk1, hk2, asInt, asIntOf, Sem.run_pure, zeW hi, hwl, hwc]
    rw [htoo c (by omega) (Int.le_refl _)]
    rw [if_neg (by simp; omega)]
    simp only [Sem.run_bind, Sem.run_pure, Result.andThen_ok, run_askRoom, zfm hn]
    by_cases hcn : c.toNat * n = 0
    · have hc0 : c.toNat = 0 := by
        rcases Nat.mul_eq_zero.1 hcn with h | h
        · exact h
        · exact absurd h hn1
      have hl0 : l.toNat = 0 := by omega
      rw [if_pos hcn]
      simp only [Sem.run_bind, Sem.run_pure, Result.andThen_ok]
      have : (Array.range (c.toNat * n)).map (fun (x : Nat) => (#[] : Array Value)[x % (#[] : Array Value).size]!) = arr := by
        simp only [arr, hc0, Nat.zero_mul]
        simp
      rw [this]
      simp only [Sem.run_bind, r1, Result.andThen_ok, Sem.run_pure]
    · rw [if_neg hcn]
      simp only [Sem.run_bind, run_zero hi hv, Result.andThen_ok, Sem.run_pure]
      rw [show (Array.range (c.toNat * n)).map (fun (x : Nat) => v.cells[x % v.cells.size]!) = arr from rfl]
      simp only [Sem.run_bind, r1, Result.andThen_ok, Sem.run_pure]
  · rw [← hcs]
    refine V.newSl (cap := c.toNat) (by omega) ?_ (by rw [hcs]; exact Nat.le_refl _)
    simp [arr]
end
end Go.Abs
