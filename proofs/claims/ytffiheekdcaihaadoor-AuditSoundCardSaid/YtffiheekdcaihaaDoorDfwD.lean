/- One operation, soundly: what the evaluator says is what the model does (part 1: values, new blocks, loads). -/
import Derived.Test.YtffiheekdcaihaaDoorDfwC
set_option linter.all false
namespace Go.Abs
variable [Gl]
def zbb (σ : Heap) (M : Nat → Option Nat) (Fz : Nat → Prop) (w : World) (env : List D) (tmps : Array Value) : Prop :=
  tmps.size = env.length ∧ ∀ (i : Nat) d v, env[i]? = some d → tmps[i]? = some v → V σ M Fz w d v
def Gives (P : Program) (s : Sem Next) (σ : Heap) (M : Nat → Option Nat) (Fz : Nat → Prop) (w : World) (σ' : Heap) (d : D) : Prop :=
  ∃ nx v w' M', s.run P w = .ok nx w' ∧ (nx = .value v ∨ nx = .skip ∧ v = undef) ∧ Rel σ' M' Fz w' ∧ V σ' M' Fz w' d v ∧ Evo σ M Fz w σ' M' Fz w' ∧ σ.length ≤ σ'.length
section
variable {P : Program} {σ σ' : Heap} {M M' : Nat → Option Nat} {Fz : Nat → Prop} {w w' : World} {env : List D} {a : Act}
theorem Gives.same {s : Sem Next} {v : Value} {d : D} (R : Rel σ M Fz w) (hr : s.run P w = .ok (.value v) w) (hv : V σ M Fz w d v) : Gives P s σ M Fz w σ d :=
  ⟨_, v, w, M, hr, .inl rfl, R, hv, Evo.refl R, Nat.le_refl _⟩
def Yields (P : Program) (s : Sem Next) (σ : Heap) (M : Nat → Option Nat) (Fz : Nat → Prop) (w : World) (d : D) : Prop := ∃ v, s.run P w = .ok (.value v) w ∧ V σ M Fz w d v
def Allocs (P : Program) (s : Sem Next) (σ : Heap) (M : Nat → Option Nat) (Fz : Nat → Prop) (w : World) (ob : Ob) (d : D) : Prop :=
  ∃ o v, s.run P w = .ok (.value v) (w.alloc o) ∧ ObRel (σ ++ [ob]) (upM M σ.length w.heap.size) Fz (w.alloc o) ob o ∧ V (σ ++ [ob]) (upM M σ.length w.heap.size) Fz (w.alloc o) d v
theorem Yields.same {s : Sem Next} {v : Value} {d : D} (hr : s.run P w = .ok (.value v) w) (hv : V σ M Fz w d v) : Yields P s σ M Fz w d := ⟨v, hr, hv⟩
theorem Yields.gives {s : Sem Next} {d : D} (R : Rel σ M Fz w) (h : Yields P s σ M Fz w d) : Gives P s σ M Fz w σ d :=
  let ⟨_, hr, hv⟩ := h; Gives.same R hr hv
theorem Allocs.gives {s : Sem Next} {d : D} {ob : Ob} (R : Rel σ M Fz w) (h : Allocs P s σ M Fz w ob d) : Gives P s σ M Fz w (σ ++ [ob]) d :=
  let ⟨o, v, hr, ho, hv⟩ := h; ⟨_, v, _, _, hr, .inl rfl, R.alloc ob o ho, hv, Evo.alloc R.fz ob o, by simp⟩
theorem V.ofVal (v : Value) : V σ M Fz w (ofVal v) v := by
  cases v <;> first
    | exact .c (.lit _)
    | (refine .agg _ (by simp) (fun i d v h1 h2 => ?_)
       simp only [List.getElem?_map, Array.getElem?_toList, h2, Option.map_some, Option.some.injEq] at h1
       subst h1
       exact .c (.lit _))
    | (refine .tup _ (by simp) (fun i d v h1 h2 => ?_)
       simp only [List.getElem?_map, Array.getElem?_toList, h2, Option.map_some, Option.some.injEq] at h1
       subst h1
       exact .c (.lit _))
theorem zcD (E : zbb σ M Fz w env a.tmps) {x : Operand} {o : Opd} (h : opd x = some o) : V σ M Fz w (o.ev env) (a.eval x) := by
  cases x with
  | tmp t =>
    simp only [opd, Option.some.injEq] at h
    subst h
    simp only [Opd.ev, Act.eval]
    by_cases ht : t < env.length
    · have h1 : env[t]? = some env[t] := List.getElem?_eq_getElem ht
      have h2 : a.tmps[t]? = some (a.tmps[t]'(by rw [E.1]; exact ht)) := Array.getElem?_eq_getElem _
      rw [h1, Option.getD_some, Array.getD_eq_getD_getElem?, h2, Option.getD_some]
      exact E.2 t _ _ h1 h2
    · have ht' : env.length ≤ t := Nat.le_of_not_lt ht
      rw [List.getElem?_eq_none ht', Array.getD_eq_getD_getElem?, Array.getElem?_eq_none (by rw [E.1]; exact ht')]
      exact .tup #[] rfl (fun i d v h => by simp at h)
  | const v =>
    simp only [opd, Option.some.injEq] at h
    subst h
    exact V.ofVal v
  | global g => simp [opd] at h
  | func f =>
    simp only [opd, Option.some.injEq] at h
    subst h
    exact .c (.fn #[] #[] rfl rfl (fun i d v h => by simp at h) (fun i d v h => by simp at h))
theorem V.lit_inv {v v' : Value} (h : V σ M Fz w (.c (.lit v)) v') : v' = v := by
  cases h with
  | c h => cases h; rfl
theorem mapM_litOf {ds : List D} {l : List Value} (h : ds.mapM litOf = some l) : ds.length = l.length ∧ ∀ (i : Nat) d, ds[i]? = some d → ∃ v, l[i]? = some v ∧ d = .c (.lit v) := by
  induction ds generalizing l with
  | nil => simp only [List.mapM_nil, Option.pure_def, Option.some.injEq] at h; subst h; simp
  | cons d ds ih =>
    simp only [List.mapM_cons, Option.pure_def, Option.bind_eq_bind, Option.bind_eq_some_iff, Option.some.injEq] at h
    obtain ⟨v, hv, l', hl, rfl⟩ := h
    obtain ⟨h1, h2⟩ := ih hl
    refine ⟨by simp [h1], fun i d' hd => ?_⟩
    cases i with
    | zero =>
      simp only [List.getElem?_cons_zero, Option.some.injEq] at hd
      subst hd
      cases d with
      | c x => cases x <;> simp [litOf] at hv; subst hv; exact ⟨_, by simp, rfl⟩
      | _ => simp [litOf] at hv
    | succ i => simpa using h2 i d' (by simpa using hd)
theorem V.val_inv {d : D} {v v' : Value} (h : V σ M Fz w d v') (hv : d.val? = some v) : v' = v := by
  cases d with
  | c x => cases x <;> simp [D.val?] at hv; subst hv; exact h.lit_inv
  | agg ds =>
    simp only [D.val?, Option.map_eq_some_iff] at hv
    obtain ⟨l, hl, rfl⟩ := hv
    obtain ⟨h1, h2⟩ := mapM_litOf hl
    cases h with
    | agg vs hs hvs =>
      congr 1
      apply Array.ext'
      apply List.ext_getElem?
      intro i
      simp only [Array.getElem?_toList]
      by_cases hi : i < ds.length
      · have e1 : ds[i]? = some ds[i] := List.getElem?_eq_getElem hi
        have e2 : vs[i]? = some (vs[i]'(by omega)) := Array.getElem?_eq_getElem _
        obtain ⟨u, hu, hd⟩ := h2 i _ e1
        have h3 := hvs i _ _ e1 e2
        rw [hd] at h3
        rw [e2, h3.lit_inv]
        simpa using hu.symm
      · rw [Array.getElem?_eq_none (by omega)]
        simp
        omega
  | _ => simp [D.val?] at hv
theorem mov_ok (E : zbb σ M Fz w env a.tmps) {o : Oper} {x : Operand} {ox : Opd} (ho : o.op = .move x ∨ o.op = .assign x) (hx : opd x = some ox) :
    Yields P (execOp a.eval o) σ M Fz w (ox.ev env) := by
  refine Yields.same (v := a.eval x) ?_ (zcD E hx)
  rcases ho with ho | ho <;> simp [execOp, ho]
theorem litBool_inv {d : D} {v : Value} {t : Bool} (h : V σ M Fz w d v) (ht : litBool d = some t) : v = .bool t := by
  cases d with
  | c x =>
    cases x with
    | lit u =>
      cases u <;> simp [litBool] at ht
      subst ht
      exact h.lit_inv
    | _ => simp [litBool] at ht
  | _ => simp [litBool] at ht
theorem litInt_inv {d : D} {v : Value} {n : Int} (h : V σ M Fz w d v) (ht : ze3 d = some n) : ∃ k, v = .int k n := by
  cases d with
  | c x =>
    cases x with
    | lit u =>
      cases u <;> simp [ze3] at ht
      subst ht
      exact ⟨_, h.lit_inv⟩
    | _ => simp [ze3] at ht
  | _ => simp [ze3] at ht
theorem pick_ok (E : zbb σ M Fz w env a.tmps) {o : Oper} {c x y : Operand} {oc ox oy : Opd} {t : Bool} (ho : o.op = .pick c x y)
    (hc : opd c = some oc) (hx : opd x = some ox) (hy : opd y = some oy) (ht : litBool (oc.ev env) = some t) :
    Yields P (execOp a.eval o) σ M Fz w (if t then ox.ev env else oy.ev env) := by
  refine Yields.same (v := if t then a.eval x else a.eval y) ?_ ?_
  · simp [execOp, ho, litBool_inv (zcD E hc) ht, asBool]
  · cases t
    · exact zcD E hy
    · exact zcD E hx
theorem gen_ok (E : zbb σ M Fz w env a.tmps) {o : Oper} {d : D} (hsel : ∀ cs b, o.op ≠ .select cs b) (h : genEv P o.op o.type env = some d) :
    Yields P (execOp a.eval o) σ M Fz w d := by
  unfold genEv at h
  split at h
  · rename_i hall
    generalize hρ : (fun x => ((((opd x).map (Opd.ev env)).bind D.val?).getD undef)) = ρ at h
    have hcong : execOp a.eval o = execOp ρ o := by
      refine execOp_congr o hsel (fun x hx => ?_)
      have hx' := (List.all_eq_true.1 hall) x (by simpa using hx)
      rw [← hρ]
      cases hox : opd x with
      | none => simp [hox] at hx'
      | some ox =>
        simp only [hox, Option.map_some, Option.bind_some] at hx' ⊢
        obtain ⟨v, hv⟩ := Option.isSome_iff_exists.1 hx'
        rw [hv, Option.getD_some]
        exact (zcD E hox).val_inv hv
    have hsame : execOp ρ o = execOp ρ { dst := none, op := o.op, type := o.type, pos := "", after := #[], guard := none } := rfl
    split at h
    · rename_i v hp
      simp only [Option.some.injEq] at h
      subst h
      refine Yields.same (v := v) ?_ (V.ofVal v)
      rw [hcong, hsame]
      exact pureIn_run w hp
    · simp at h
  · simp at h
theorem V.one {d : D} {v : Value} (h : V σ M Fz w d v) (hs : d.scalar = true) : v.oneCell' = true ∧ v.cells = #[v] := by
  cases h with
  | c h =>
    cases h with
    | lit v => simp only [D.scalar] at hs; cases v <;> first | exact ⟨rfl, rfl⟩ | simp [Value.oneCell'] at hs
    | _ => exact ⟨rfl, rfl⟩
  | any v => simp [D.scalar] at hs
  | agg => simp [D.scalar] at hs
  | tup => simp [D.scalar] at hs
  | _ => exact ⟨rfl, rfl⟩
theorem V.cells {d : D} {v : Value} {cs : List D} (h : V σ M Fz w d v) (hc : d.cells? = some cs) :
    v.cells.size = cs.length ∧ (∀ (i : Nat) x u, cs[i]? = some x → v.cells[i]? = some u → V σ M Fz w x u) ∧ (∀ u ∈ v.cells.toList, u.oneCell' = true) ∧ (∀ x ∈ cs, x.scalar = true) := by
  have key : d.scalar = true → d.cells? = some [d] → v.cells.size = cs.length ∧ (∀ (i : Nat) x u, cs[i]? = some x → v.cells[i]? = some u → V σ M Fz w x u) ∧ (∀ u ∈ v.cells.toList, u.oneCell' = true) ∧ (∀ x ∈ cs, x.scalar = true) := by
    intro hs h1
    rw [h1] at hc
    simp only [Option.some.injEq] at hc
    subst hc
    obtain ⟨h2, h3⟩ := h.one hs
    rw [h3]
    refine ⟨rfl, fun i x u hi hu => ?_, by simp [h2], by simpa using hs⟩
    cases i with
    | zero => simp at hi hu; subst hi hu; exact h
    | succ i => simp at hi
  cases d with
  | agg ds =>
    simp only [D.cells?] at hc
    split at hc
    · rename_i hall
      simp only [Option.some.injEq] at hc
      subst hc
      cases h with
      | agg vs h1 hv =>
        refine ⟨h1, hv, fun u hu => ?_, fun x hx => List.all_eq_true.1 hall x hx⟩
        obtain ⟨i, hi, rfl⟩ := List.mem_iff_getElem.1 hu
        simp only [Value.cells, Array.length_toList] at hi
        have e1 : ds[i]? = some (ds[i]'(by omega)) := List.getElem?_eq_getElem _
        have e2 : vs[i]? = some vs[i] := Array.getElem?_eq_getElem _
        exact ((hv i _ _ e1 e2).one (List.all_eq_true.1 hall _ (List.getElem_mem _))).1
    · simp at hc
  | _ =>
    simp only [D.cells?] at hc
    split at hc
    · rename_i hs; exact key hs (by simp only [D.cells?, hs, if_true])
    · simp at hc
theorem mem_of_get {arr : Array Value} {i : Nat} {u : Value} (h : arr[i]? = some u) : u ∈ arr.toList := by
  rw [← Array.getElem?_toList] at h
  exact List.mem_of_getElem? h
theorem newRow_ok (hfz : ∀ c, Fz c → c < w.heap.size) {cs : List D} {arr : Array Value} (T : TypeId) (hs : cs.length ≤ arr.size)
    (hv : ∀ (i : Nat) x u, cs[i]? = some x → arr[i]? = some u → V σ M Fz w x u ∧ u.oneCell' = true) :
    (newRow T arr).run P w = .ok ⟨w.heap.size, 0, none⟩ (w.alloc (.cells arr T)) ∧
      ObRel (σ ++ [.cells cs]) (upM M σ.length w.heap.size) Fz (w.alloc (.cells arr T)) (.cells cs) (.cells arr T) :=
  ⟨rfl, arr, T, rfl, hs, fun i d v h1 h2 => ⟨(hv i d v h1 h2).1.mono (Evo.alloc hfz _ _), (hv i d v h1 h2).2⟩⟩
theorem V.newPtr (cs : List D) (o : Obj) : V (σ ++ [.cells cs]) (upM M σ.length w.heap.size) Fz (w.alloc o) (.ptr σ.length 0 cs.length) (.pointer (some ⟨w.heap.size, 0, none⟩)) :=
  .ptr _ (.cells cs) (by simp) (by simp [Ob.sz]) (fun _ => ⟨w.heap.size, by simp [upM], rfl⟩)
theorem box_ok (hfz : ∀ c, Fz c → c < w.heap.size) (E : zbb σ M Fz w env a.tmps) {o : Oper} {t : TypeId} {x : Operand} {ox : Opd} {cs : List D} (ho : o.op = .box t x) (hx : opd x = some ox)
    (hc : (ox.ev env).cells? = some cs) : Allocs P (execOp a.eval o) σ M Fz w (.cells cs) (.ptr σ.length 0 cs.length) := by
  obtain ⟨h1, h2, h3, _⟩ := (zcD E hx).cells hc
  obtain ⟨r1, r2⟩ := newRow_ok (P := P) hfz t (by omega) (fun i x u hx hu => ⟨h2 i x u hx hu, h3 u (mem_of_get hu)⟩)
  exact ⟨_, _, by simp [execOp, ho, Instr.box, newVar, r1], r2, V.newPtr cs _⟩
theorem zfb {t : TypeId} {z : List D} (h : zd5 P t = some z) : ∃ i v, P.info? t = some i ∧ i.zero = some v ∧ (ofVal v).cells? = some z := by
  simp only [zd5, zeroOf, Option.bind_eq_some_iff] at h
  obtain ⟨d, hd, hz⟩ := h
  split at hd
  · rename_i i hi
    simp only [Option.map_eq_some_iff] at hd
    obtain ⟨v, hv, rfl⟩ := hd
    exact ⟨i, v, hi, hv, hz⟩
  · simp at hd
theorem zeW {t : TypeId} {i : TypeInfo} (h : P.info? t = some i) (w : World) : (typeInfo t).run P w = .ok i w := by
  simp [typeInfo, h]
theorem run_zero {t : TypeId} {i : TypeInfo} {v : Value} (h : P.info? t = some i) (hz : i.zero = some v) (w : World) : (zeroValue t).run P w = .ok v w := by
  simp [zeroValue, zeW h, hz]
theorem zfm {t : TypeId} {n : Nat} (h : sizeOf? P t = some n) (w : World) : (sizeOf t).run P w = .ok n w := by
  simp only [sizeOf?, Option.map_eq_some_iff] at h
  obtain ⟨i, hi, rfl⟩ := h
  simp [sizeOf, zeW hi]
theorem zbr {t : TypeId} {d : TypeDesc} (h : P.underlying t = some d) (w : World) : (underlying t).run P w = .ok d w := by
  simp [underlying, h]
theorem alloc_ok (hfz : ∀ c, Fz c → c < w.heap.size) {o : Oper} {t : TypeId} {z : List D} (ho : o.op = .alloc t) (hz : zd5 P t = some z) :
    Allocs P (execOp a.eval o) σ M Fz w (.cells z) (.ptr σ.length 0 z.length) := by
  obtain ⟨i, v, hi, hv, hc⟩ := zfb hz
  obtain ⟨h1, h2, h3, _⟩ := (V.ofVal (σ := σ) (M := M) (Fz := Fz) (w := w) v).cells hc
  obtain ⟨r1, r2⟩ := newRow_ok (P := P) hfz t (by omega) (fun i x u hx hu => ⟨h2 i x u hx hu, h3 u (mem_of_get hu)⟩)
  exact ⟨_, _, by simp [execOp, ho, Instr.alloc, run_zero hi hv, newVar, r1], r2, V.newPtr z _⟩
theorem ze1 {b sz : Nat} {cs : List D} (h : zeO σ b sz = some cs) : σ[b]? = some (.cells cs) ∧ cs.length = sz := by
  unfold zeO at h
  split at h
  · rename_i cs' hb
    split at h
    · rename_i hl; simp only [Option.some.injEq] at h; subst h; exact ⟨hb, hl⟩
    · simp at h
  · simp at h
theorem V.ptr_inv {b off sz : Nat} {v : Value} {cs : List D} (h : V σ M Fz w (.ptr b off sz) v) (hr : zeO σ b sz = some cs) : ∃ c, M b = some c ∧ v = .pointer (some ⟨c, off, none⟩) := by
  obtain ⟨h1, h2⟩ := ze1 hr
  cases h with
  | ptr ad ob hb hle hv =>
    rw [h1] at hb
    simp only [Option.some.injEq] at hb
    subst hb
    obtain ⟨c, hc, ha⟩ := hv h2
    exact ⟨c, hc, by rw [ha]⟩
theorem Rel.row (R : Rel σ M Fz w) {b c : Nat} {cs : List D} (hM : M b = some c) (hb : σ[b]? = some (.cells cs)) :
    ∃ arr T, w.heap[c]? = some (.cells arr T (0, 0)) ∧ cs.length ≤ arr.size ∧ ∀ (i : Nat) d v, cs[i]? = some d → arr[i]? = some v → V σ M Fz w d v ∧ v.oneCell' = true := by
  obtain ⟨_, ob, o, h1, h2, h3⟩ := R.blk b c hM
  rw [hb] at h1
  simp only [Option.some.injEq] at h1
  subst h1
  obtain ⟨arr, T, rfl, hl, hv⟩ := h3
  exact ⟨arr, T, h2, hl, hv⟩
theorem loadVar_ok {t : TypeId} {n : Option Nat} {cs : List D} {blk o0 off : Nat} {d : D} (hn : aggN P t = some n) (hg : zcs n cs off = some d)
    (hcell : ∀ (i : Nat) x, cs[i]? = some x → ∃ u, w.cell? ⟨blk, o0 + i, none⟩ = some u ∧ V σ M Fz w x u) :
    ∃ v, (loadVar t ⟨blk, o0 + off, none⟩).run P w = .ok v w ∧ V σ M Fz w d v := by
  unfold aggN at hn
  have agg : ∀ (i : TypeInfo), P.info? t = some i → n = some i.size → (isAgg t).run P w = .ok true w → ∃ v, (loadVar t ⟨blk, o0 + off, none⟩).run P w = .ok v w ∧ V σ M Fz w d v := by
    intro i hi hn hagg
    subst hn
    simp only [zcs] at hg
    split at hg
    · rename_i hle
      simp only [Option.some.injEq] at hg
      subst hg
      have hex : ∀ j, j < i.size → ∃ u, w.cell? ⟨blk, o0 + off + j, none⟩ = some u ∧ ∀ x, cs[off + j]? = some x → V σ M Fz w x u := by
        intro j hj
        obtain ⟨u, h1, h2⟩ := hcell (off + j) _ (List.getElem?_eq_getElem (by omega))
        refine ⟨u, by rw [Nat.add_assoc]; exact h1, fun x hx => ?_⟩
        rw [List.getElem?_eq_getElem (by omega)] at hx
        simp only [Option.some.injEq] at hx
        subst hx
        exact h2
      let f : Nat → Value := fun j => (w.cell? ⟨blk, o0 + off + j, none⟩).getD undef
      have hf : ∀ j, j < i.size → w.cell? ((Addr.mk blk (o0 + off) none).add j) = some (f j) := by
        intro j hj
        obtain ⟨u, h1, _⟩ := hex j hj
        rw [add_off]
        simp only [f, h1, Option.getD_some]
      have hrun := run_loadCells (P := P) (w := w) ⟨blk, o0 + off, none⟩ i.size f hf
      refine ⟨.agg (List.map f (List.range i.size)).toArray, by simp only [loadVar, Sem.run_bind, hagg, Result.andThen_ok, if_true, sizeOf, zeW hi, Sem.run_pure, hrun], ?_⟩
      refine .agg _ (by simp; omega) (fun j x v h1 h2 => ?_)
      have hj : j < i.size := by
        have := (List.getElem?_eq_some_iff.1 h1).1
        simp at this; omega
      obtain ⟨u, h3, h4⟩ := hex j hj
      have h1' : cs[off + j]? = some x := by
        rw [List.getElem?_take_of_lt hj, List.getElem?_drop] at h1
        exact h1
      have h5 : v = u := by
        simp [hj, f, h3] at h2
        exact h2.symm
      rw [h5]
      exact h4 x h1'
    · simp at hg
  have one : n = none → (isAgg t).run P w = .ok false w → ∃ v, (loadVar t ⟨blk, o0 + off, none⟩).run P w = .ok v w ∧ V σ M Fz w d v := by
    intro hn hagg
    subst hn
    obtain ⟨u, h1, h2⟩ := hcell off d hg
    exact ⟨u, by simp only [loadVar, Sem.run_bind, hagg, Result.andThen_ok, Bool.false_eq_true, if_false, run_load, h1], h2⟩
  cases hi : P.info? t with
  | none => simp [hi] at hn
  | some i =>
    cases hu : P.underlying t with
    | none => simp [hi, hu] at hn
    | some dsc =>
      rw [hi, hu] at hn
      have hisagg : (isAgg t).run P w = .ok (dsc matches .struct _ | .array _ _) w := by
        simp only [isAgg, Sem.run_bind, zbr hu, Result.andThen_ok]
        cases dsc <;> rfl
      cases dsc <;> simp only [Option.some.injEq] at hn <;>
        first
          | exact agg i hi hn.symm hisagg
          | exact one hn.symm hisagg
theorem load_ok (E : zbb σ M Fz w env a.tmps) {o : Oper} {t : TypeId} {x : Operand} {ox : Opd} {n : Option Nat} {d : D} (ho : o.op = .load t x) (hx : opd x = some ox)
    (hn : aggN P t = some n) (hR : ∀ b off sz c cs, ox.ev env = .ptr b off sz → M b = some c → σ[b]? = some (.cells cs) → ∃ arr T, w.heap[c]? = some (.cells arr T (0, 0)) ∧ cs.length ≤ arr.size ∧ ∀ (i : Nat) d v, cs[i]? = some d → arr[i]? = some v → V σ M Fz w d v ∧ v.oneCell' = true)
    (h : (match ox.ev env with
      | .ptr b off sz => do some (← zcs n (← zeO σ b sz) off, σ, ([] : List Nat))
      | .c (.fptr cs off) => do some (← zcs n (cs.map .c) off, σ, [])
      | _ => none) = some (d, σ', [])) : σ' = σ ∧ Yields P (execOp a.eval o) σ M Fz w d := by
  have hv := zcD E hx
  split at h
  · rename_i b off sz he
    rw [he] at hv
    simp only [Option.bind_eq_bind, Option.bind_eq_some_iff, Option.some.injEq, Prod.mk.injEq] at h
    obtain ⟨cs, hr, d', hg, rfl, rfl, _⟩ := h
    refine ⟨rfl, ?_⟩
    obtain ⟨c, hM, hva⟩ := hv.ptr_inv hr
    obtain ⟨hb, _⟩ := ze1 hr
    obtain ⟨arr, T, hh, hl, hcs⟩ := hR b off sz c cs he hM hb
    have hcell : ∀ (i : Nat) x, cs[i]? = some x → ∃ u, w.cell? ⟨c, 0 + i, none⟩ = some u ∧ V σ M Fz w x u := by
      intro i x hxi
      have hi := (List.getElem?_eq_some_iff.1 hxi).1
      have e : arr[i]? = some (arr[i]'(by omega)) := Array.getElem?_eq_getElem _
      exact ⟨_, by rw [Nat.zero_add, cell_of_row w c i arr T (0, 0) hh]; exact e, (hcs i _ _ hxi e).1⟩
    obtain ⟨v, hrun, hvv⟩ := loadVar_ok (P := P) hn hg hcell
    refine Yields.same (v := v) ?_ hvv
    rw [Nat.zero_add] at hrun
    simp [execOp, ho, Instr.loadAt, hva, Instr.sureAddr, hrun]
  · rename_i cs off he
    rw [he] at hv
    simp only [Option.bind_eq_bind, Option.bind_eq_some_iff, Option.some.injEq, Prod.mk.injEq] at h
    obtain ⟨d', hg, rfl, rfl, _⟩ := h
    refine ⟨rfl, ?_⟩
    cases hv with
    | c hv =>
      generalize hva : a.eval x = va at hv
      cases hv with
      | fptr blk o0 c hF hc hvc =>
        have hcell : ∀ (i : Nat) x, (cs.map D.c)[i]? = some x → ∃ u, w.cell? ⟨blk, o0 + i, none⟩ = some u ∧ V σ M Fz w x u := by
          intro i x hxi
          simp only [List.getElem?_map, Option.map_eq_some_iff] at hxi
          obtain ⟨y, hy, rfl⟩ := hxi
          exact ⟨_, (hc i y hy).1, .c (hvc i y hy)⟩
        obtain ⟨v, hrun, hvv⟩ := loadVar_ok (P := P) hn hg hcell
        refine Yields.same (v := v) ?_ hvv
        simp [execOp, ho, Instr.loadAt, hva, Instr.sureAddr, hrun]
  · simp at h
end
end Go.Abs
