/- One operation, soundly (part 5): maps, append, copy. -/
import Derived.Test.YtffiheekdcaihaaDoorDfwG
set_option linter.all false
namespace Go.Abs
variable [Gl]
section
variable {P : Program} {σ σ' : Heap} {M M' : Nat → Option Nat} {Fz : Nat → Prop} {w w' : World} {env : List D} {a : Act}
theorem mkmap_ok {o : Oper} {t : TypeId} (ho : o.op = .makeMap t none) : Allocs P (execOp a.eval o) σ M Fz w (.map [] 0) (.mp σ.length) := by
  refine ⟨.map #[] 0, .map (some w.heap.size), ?_, ?_, ?_⟩
  · simp only [execOp, ho, Instr.makeMap, Option.map_none, Sem.run_bind, Sem.run_pure, Result.andThen_ok, run_newObj]
    rfl
  · exact ⟨#[], rfl, rfl, fun i k d n e h => by simp at h⟩
  · exact .mp _ (.map [] 0) (by simp) (fun _ => by simp [upM])
theorem Rel.mapAt (R : Rel σ M Fz w) {b c : Nat} {es : List (Value × D × Nat)} {clock : Nat} (hb : σ[b]? = some (.map es clock)) (hM : M b = some c) :
    ∃ arr, w.heap[c]? = some (.map arr clock) ∧ arr.size = es.length ∧ ∀ (i : Nat) k d n e, es[i]? = some (k, d, n) → arr[i]? = some e → e.key = k ∧ e.born = n ∧ V σ M Fz w d e.val := by
  obtain ⟨_, ob', o', h1, h2, h3⟩ := R.blk b c hM
  rw [hb] at h1
  simp only [Option.some.injEq] at h1
  subst h1
  obtain ⟨arr, rfl, hsz, hv⟩ := h3
  exact ⟨arr, h2, hsz, hv⟩
theorem V.mp_inv {b : Nat} {v : Value} {es : List (Value × D × Nat)} {clock : Nat} (h : V σ M Fz w (.mp b) v) (hb : σ[b]? = some (.map es clock)) : ∃ c, v = .map (some c) ∧ M b = some c := by
  cases h with
  | mp c ob hob hM =>
    rw [hb] at hob
    simp only [Option.some.injEq] at hob
    subst hob
    exact ⟨c, rfl, hM rfl⟩
theorem zeV {kt : TypeId} {kd : TypeDesc} (hu : P.underlying kt = some kd) (hs : simpleKey kd = true) (empty : Bool) (v : Value) (w : World) : (Instr.checkKey empty 10000 kt v).run P w = .ok () w := by
  show (Instr.checkKey empty (9999 + 1) kt v).run P w = _
  generalize 9999 = n
  unfold Instr.checkKey
  cases kd <;> simp [simpleKey] at hs <;> simp [zbr hu]
theorem findK_ok {kind : TypeDesc} {k : Value} : ∀ (es : List (Value × D × Nat)) (l : List MapEntry) (i : Nat) (r : Option (Nat × D)), l.length = es.length →
    (∀ (j : Nat) k d n e, es[j]? = some (k, d, n) → l[j]? = some e → e.key = k ∧ V σ M Fz w d e.val) → findK kind k es i = some r →
    ∃ r', Instr.findNow kind k l i = some r' ∧ (match r, r' with
      | none, none => True
      | some (j, d), some (j', v) => j = j' ∧ i ≤ j ∧ j < i + es.length ∧ V σ M Fz w d v ∧ ∃ e, l[j - i]? = some e ∧ Instr.sameNow kind k e.key = some true
      | _, _ => False) := by
  intro es
  induction es with
  | nil =>
    intro l i r hl _ h
    simp only [findK, Option.some.injEq] at h
    subst h
    have : l = [] := by simpa using hl
    subst this
    exact ⟨none, rfl, trivial⟩
  | cons x es ih =>
    intro l i r hl hv h
    obtain ⟨k', d, n⟩ := x
    cases l with
    | nil => simp at hl
    | cons e l =>
      obtain ⟨hk, hV⟩ := hv 0 k' d n e (by simp) (by simp)
      simp only [findK] at h
      simp only [Instr.findNow, hk]
      cases hs : Instr.sameNow kind k k' with
      | none => simp [hs] at h
      | some t =>
        cases t with
        | true =>
          simp only [hs, Option.some.injEq] at h
          subst h
          exact ⟨_, rfl, rfl, Nat.le_refl _, by simp, hV, e, by simp, by rw [hk]; exact hs⟩
        | false =>
          simp only [hs] at h
          obtain ⟨r', h1, h2⟩ := ih l (i + 1) r (by simpa using hl) (fun j k d n e h1 h2 => hv (j + 1) k d n e (by simpa using h1) (by simpa using h2)) h
          refine ⟨r', h1, ?_⟩
          cases r with
          | none => cases r' with
            | none => trivial
            | some _ => exact h2
          | some p => cases r' with
            | none => exact h2
            | some q =>
              obtain ⟨j, d'⟩ := p
              obtain ⟨j', v⟩ := q
              obtain ⟨rfl, h3, h4, h5, e', h6, h7⟩ := h2
              refine ⟨rfl, by omega, by simp; omega, h5, e', ?_, h7⟩
              rw [show j - i = (j - (i + 1)) + 1 from by omega]
              simpa using h6
theorem litOf_inv {d : D} {v v' : Value} (h : V σ M Fz w d v') (hl : litOf d = some v) : v' = v := by
  cases d with
  | c x => cases x <;> simp [litOf] at hl; subst hl; exact h.lit_inv
  | _ => simp [litOf] at hl
theorem lookup_ok (R : Rel σ M Fz w) (E : zbb σ M Fz w env a.tmps) {o : Oper} {t kt e : TypeId} {kd : TypeDesc} {m k : Operand} {om ok : Opd} {commaOk : Bool} {zero d : D} {there : Bool} {kv : Value} {es : List (Value × D × Nat)} {r : Option (Nat × D)}
    (ho : o.op = .lookup t m k commaOk) (hu : P.underlying t = some (.map kt e)) (hk : P.underlying kt = some kd) (hs : simpleKey kd = true) (hz : zeroOf P e = some zero) (hm : opd m = some om) (hkk : opd k = some ok)
    (hkv : litOf (ok.ev env) = some kv) (hes : (om.ev env = .c (.lit (.map none)) ∧ es = []) ∨ (∃ b clock, om.ev env = .mp b ∧ σ[b]? = some (.map es clock)) ∨ ∃ fs, om.ev env = .c (.fmp fs) ∧ es = fs.map fun p => (p.1, .c p.2, 0))
    (hf : findK kd kv es 0 = some r) (hr : (d, there) = hit zero r) :
    Gives P (execOp a.eval o) σ M Fz w σ (if commaOk then .tup [d, .c (.lit (.bool there))] else d) := by
  have hkey := litOf_inv (zcD E hkk) hkv
  obtain ⟨i, zv, hi, hzv, hzd⟩ : ∃ i zv, P.info? e = some i ∧ i.zero = some zv ∧ zero = ofVal zv := by
    unfold zeroOf at hz
    split at hz
    · rename_i i hi
      simp only [Option.map_eq_some_iff] at hz
      obtain ⟨v, hv, rfl⟩ := hz
      exact ⟨i, v, hi, hv, rfl⟩
    · simp at hz
  have hv := zcD E hm
  obtain ⟨arr, hget, hsz, hent⟩ : ∃ arr : Array MapEntry, ((a.eval m = .map none ∧ arr = #[]) ∨ ∃ c, a.eval m = .map (some c) ∧ ∃ clock, (getObj c).run P w = .ok (.map arr clock) w) ∧ arr.size = es.length ∧
      ∀ (i : Nat) k d n e, es[i]? = some (k, d, n) → arr[i]? = some e → e.key = k ∧ V σ M Fz w d e.val := by
    rcases hes with ⟨he, rfl⟩ | ⟨b, clock, he, hb⟩ | ⟨fs, he, rfl⟩
    · rw [he] at hv
      exact ⟨#[], .inl ⟨hv.lit_inv, rfl⟩, rfl, fun i k d n e h => by simp at h⟩
    · rw [he] at hv
      obtain ⟨c, hva, hM⟩ := hv.mp_inv hb
      obtain ⟨arr, h1, h2, h3⟩ := R.mapAt hb hM
      exact ⟨arr, .inr ⟨c, hva, clock, by simp [getObj, Sem.run, h1]⟩, h2, fun i k d n e x y => let ⟨p, _, q⟩ := h3 i k d n e x y; ⟨p, q⟩⟩
    · rw [he] at hv
      generalize hva : a.eval m = va at hv
      cases hv with
      | c hv => cases hv with
        | fmp blk clock arr hF hh hsz hk' hv' =>
          refine ⟨arr, .inr ⟨blk, rfl, clock, by simp [getObj, Sem.run, hh]⟩, by simpa using hsz, fun i k d n e x y => ?_⟩
          simp only [List.getElem?_map, Option.map_eq_some_iff, Prod.mk.injEq] at x
          obtain ⟨p, hp, rfl, rfl, _⟩ := x
          exact ⟨hk' i p e hp y, .c (hv' i p e hp y)⟩
  obtain ⟨r', hfn, hrr⟩ := findK_ok (kind := kd) (k := kv) es arr.toList 0 r (by simpa using hsz)
    (fun j k d n e h1 h2 => hent j k d n e h1 (by simpa using h2)) hf
  have hfk : (Instr.findKey kt kv arr.toList).run P w = .ok r' w := by
    simp only [Instr.findKey, Sem.run_bind, zbr hk, Result.andThen_ok, hfn, Sem.run_pure]
  have main : ∀ v ok', (r' = none ∧ v = zv ∧ ok' = false ∨ ∃ j, r' = some (j, v) ∧ ok' = true) →
      (execOp a.eval o).run P w = .ok (.value (if commaOk then .tuple #[v, .bool ok'] else v)) w := by
    intro v ok' h
    rcases h with ⟨rfl, rfl, rfl⟩ | ⟨j, rfl, rfl⟩ <;> rcases hget with ⟨hva, rfl⟩ | ⟨c, hva, clock, hg⟩
    · simp only [execOp, ho, Instr.lookup, Sem.run_bind, zbr hu, Result.andThen_ok, hva, Sem.run_pure, hkey, zeV hk hs, hfk, run_zero hi hzv]
    · simp only [execOp, ho, Instr.lookup, Sem.run_bind, zbr hu, Result.andThen_ok, hva, hg, Sem.run_pure, hkey, zeV hk hs, hfk, run_zero hi hzv]
    · simp only [execOp, ho, Instr.lookup, Sem.run_bind, zbr hu, Result.andThen_ok, hva, Sem.run_pure, hkey, zeV hk hs, hfk]
    · simp only [execOp, ho, Instr.lookup, Sem.run_bind, zbr hu, Result.andThen_ok, hva, hg, Sem.run_pure, hkey, zeV hk hs, hfk]
  have fin : ∀ v ok', V σ M Fz w d v → there = ok' → V σ M Fz w (if commaOk then .tup [d, .c (.lit (.bool there))] else d) (if commaOk then .tuple #[v, .bool ok'] else v) := by
    intro v ok' hV ht
    subst ht
    cases commaOk
    · exact hV
    · refine .tup _ rfl (fun i x u h1 h2 => ?_)
      match i with
      | 0 => simp at h1 h2; subst h1 h2; exact hV
      | 1 => simp at h1 h2; subst h1 h2; exact .c (.lit _)
      | i + 2 => simp at h1
  cases r with
  | none =>
    cases r' with
    | some _ => exact hrr.elim
    | none =>
      simp only [hit, Prod.mk.injEq] at hr
      obtain ⟨rfl, rfl⟩ := hr
      exact Gives.same R (main zv false (.inl ⟨rfl, rfl, rfl⟩)) (fin zv false (hzd ▸ V.ofVal zv) rfl)
  | some p =>
    obtain ⟨j, d'⟩ := p
    cases r' with
    | none => exact hrr.elim
    | some q =>
      obtain ⟨j', v⟩ := q
      obtain ⟨rfl, _, _, hV, _⟩ := hrr
      simp only [hit, Prod.mk.injEq] at hr
      obtain ⟨rfl, rfl⟩ := hr
      exact Gives.same R (main v true (.inr ⟨j, rfl, rfl⟩)) (fin v true hV rfl)
theorem sameNow_eq {kd : TypeDesc} {x y : Value} (hs : simpleKey kd = true) (h : Instr.sameNow kd x y = some true) : x = y ∧ ∀ n, Instr.sameBits n x y = true := by
  cases kd <;> simp [simpleKey] at hs
  cases x <;> cases y <;> simp [Instr.sameNow] at h
  obtain ⟨rfl, rfl⟩ := h
  exact ⟨rfl, fun n => by cases n <;> simp [Instr.sameBits]⟩
theorem upd_ok (R : Rel σ M Fz w) (E : zbb σ M Fz w env a.tmps) {o : Oper} {t kt e : TypeId} {kd : TypeDesc} {m k x : Operand} {om ok ox : Opd} {kv : Value} {b clock : Nat} {es : List (Value × D × Nat)} {r : Option (Nat × D)}
    (ho : o.op = .mapUpdate t m k x) (hu : P.underlying t = some (.map kt e)) (hk : P.underlying kt = some kd) (hs : simpleKey kd = true) (hm : opd m = some om) (hkk : opd k = some ok) (hx : opd x = some ox)
    (hkv : litOf (ok.ev env) = some kv) (he : om.ev env = .mp b) (hb : σ[b]? = some (.map es clock)) (hf : findK kd kv es 0 = some r) :
    Gives P (execOp a.eval o) σ M Fz w (σ.set b (match r with
      | some (i, _) => .map (es.modify i fun (k, _, n) => (k, ox.ev env, n)) clock
      | none => .map (es ++ [(kv, ox.ev env, clock)]) (clock + 1))) (.tup []) := by
  have hkey := litOf_inv (zcD E hkk) hkv
  have hv := zcD E hm
  rw [he] at hv
  have hvx := zcD E hx
  obtain ⟨c, hva, hM⟩ := hv.mp_inv hb
  obtain ⟨arr, h1, hsz, hent⟩ := R.mapAt hb hM
  obtain ⟨r', hfn, hrr⟩ := findK_ok (kind := kd) (k := kv) es arr.toList 0 r (by simpa using hsz)
    (fun j k d n e h1 h2 => let ⟨x, _, y⟩ := hent j k d n e h1 (by simpa using h2); ⟨x, y⟩) hf
  have hfk : (Instr.findKey kt kv arr.toList).run P w = .ok r' w := by
    simp only [Instr.findKey, Sem.run_bind, zbr hk, Result.andThen_ok, hfn, Sem.run_pure]
  have hgo : (getObj c).run P w = .ok (.map arr clock) w := by simp [getObj, Sem.run, h1]
  have hso : ∀ o', (setObj c o').run P w = .ok () (setO w c o') := by
    intro o'
    simp only [setObj, Sem.run, h1]
    rfl
  have hshp : ∀ o' : Obj, ∀ arr0 T fr, Obj.map arr clock = .cells arr0 T fr → ∃ arr', o' = .cells arr' T fr ∧ arr'.size = arr0.size := by
    intro o' arr0 T fr h; simp at h
  have fin : ∀ ob' o', ob'.sz = 0 → (execOp a.eval o).run P w = .ok .skip (setO w c o') → ObRel (σ.set b ob') M Fz (setO w c o') ob' o' → Gives P (execOp a.eval o) σ M Fz w (σ.set b ob') (.tup []) := by
    intro ob' o' hz hrun hob
    have hss : (Ob.map es clock).sz ≤ ob'.sz := by simp [Ob.sz]
    exact ⟨.skip, undef, _, M, hrun, .inr ⟨rfl, rfl⟩, R.upd hM hb h1 hss (hshp o') hob, .tup #[] rfl (fun i d v h => by simp at h), Evo.upd R hM hb h1 hss (hshp o'), by simp⟩
  cases r with
  | none =>
    cases r' with
    | some _ => exact hrr.elim
    | none =>
      refine fin (.map (es ++ [(kv, ox.ev env, clock)]) (clock + 1)) (.map (arr.push { key := kv, val := a.eval x, born := clock }) (clock + 1)) rfl ?_ ?_
      · simp only [execOp, ho, Instr.mapUpdate, Sem.run_bind, zbr hu, Result.andThen_ok, hva, hgo, hkey, zeV hk hs, hfk, hso, Sem.run_pure]
      · have hss : (Ob.map es clock).sz ≤ (Ob.map (es ++ [(kv, ox.ev env, clock)]) (clock + 1)).sz := by simp [Ob.sz]
        have EV := Evo.upd R hM hb h1 hss (hshp (.map (arr.push { key := kv, val := a.eval x, born := clock }) (clock + 1)))
        refine ⟨_, rfl, by simp [hsz], fun i k' d n en h2 h3 => ?_⟩
        by_cases hi : i < es.length
        · rw [List.getElem?_append_left hi] at h2
          rw [Array.getElem?_push_lt (by omega)] at h3
          obtain ⟨x1, x2, x3⟩ := hent i k' d n en h2 (by rw [Array.getElem?_eq_getElem (by omega)]; exact h3)
          exact ⟨x1, x2, x3.mono EV⟩
        · have hlt := (List.getElem?_eq_some_iff.1 h2).1
          simp at hlt
          have : i = es.length := by omega
          subst this
          rw [List.getElem?_append_right (Nat.le_refl _)] at h2
          simp at h2
          obtain ⟨rfl, rfl, rfl⟩ := h2
          rw [← hsz] at h3
          simp at h3
          subst h3
          exact ⟨rfl, rfl, hvx.mono EV⟩
  | some p =>
    obtain ⟨j, d'⟩ := p
    cases r' with
    | none => exact hrr.elim
    | some q =>
      obtain ⟨j', v⟩ := q
      obtain ⟨rfl, _, hj, _, en0, hen0, hsm⟩ := hrr
      simp only [Nat.sub_zero, Array.getElem?_toList] at hen0
      obtain ⟨hkeq, hbits⟩ := sameNow_eq hs hsm
      have hj2 : j < arr.size := (Array.getElem?_eq_some_iff.1 hen0).1
      have hks : ∀ old new, Instr.sameBits 10000 old new = true → (Instr.keyThatStays old new).run P w = .ok new w := by
        intro old new h
        simp only [Instr.keyThatStays, h, if_true, Sem.run_pure]
      refine fin (.map (es.modify j fun (k, _, n) => (k, ox.ev env, n)) clock) (.map (arr.modify j fun e => { e with key := kv, val := a.eval x }) clock) rfl ?_ ?_
      · simp only [execOp, ho, Instr.mapUpdate, Sem.run_bind, zbr hu, Result.andThen_ok, hva, hgo, hkey, zeV hk hs, hfk]
        rw [hen0]
        simp only [Option.map_some, Option.getD_some]
        rw [hks _ _ (by have := hbits 10000; rw [hkeq] at this ⊢; exact this)]
        simp only [Result.andThen_ok, hso, Sem.run_pure]
      · have hss : (Ob.map es clock).sz ≤ (Ob.map (es.modify j fun (k, _, n) => (k, ox.ev env, n)) clock).sz := by simp [Ob.sz]
        have EV := Evo.upd R hM hb h1 hss (hshp (.map (arr.modify j fun e => { e with key := kv, val := a.eval x }) clock))
        refine ⟨_, rfl, by simp [hsz], fun i k' d n en h2 h3 => ?_⟩
        rw [List.getElem?_modify] at h2
        rw [Array.getElem?_modify] at h3
        by_cases hi : j = i
        · subst hi
          rw [hen0] at h3
          simp only [if_true, Option.map_some, Option.some.injEq] at h3
          subst h3
          cases h4 : es[j]? with
          | none => simp [h4] at h2
          | some p =>
            obtain ⟨k0, d0, n0⟩ := p
            simp [h4] at h2
            obtain ⟨rfl, rfl, rfl⟩ := h2
            obtain ⟨x1, x2, _⟩ := hent j k0 d0 n0 en0 h4 hen0
            exact ⟨by rw [← x1]; exact hkeq, x2, hvx.mono EV⟩
        · simp only [hi, if_false] at h2 h3
          obtain ⟨x1, x2, x3⟩ := hent i k' d n en (by simpa using h2) (by simpa using h3)
          exact ⟨x1, x2, x3.mono EV⟩
end
end Go.Abs
