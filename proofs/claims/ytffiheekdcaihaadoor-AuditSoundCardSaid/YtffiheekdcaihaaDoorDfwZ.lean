/- Contracts of functions of data: as oracles, and from a function's code. -/
import Derived.Test.YtffiheekdcaihaaDoorDfwY
set_option linter.all false
namespace Go.Abs
variable [Gl]
open Go.RowKit
def za9 (P : Program) (g : FuncId) (ds : List D) (r : D) : Prop := enterable P g = true ∧ Ok P g ds [] r []
section
variable {P : Program} {σ σ' : Heap} {M M' : Nat → Option Nat} {Fz Fz' : Nat → Prop} {w w' : World}
theorem V.data {d : D} {v : Value} (h : V σ M Fz w d v) (hl : d.low 0 = true) (σ' : Heap) (M' : Nat → Option Nat) : V σ' M' Fz w d v := by
  induction h with
  | c h => exact .c h
  | any v => exact .any v
  | ptr a ob h hle hv => simp [D.low] at hl
  | sl a n cap hnn ob h hle hv => simp [D.low] at hl
  | mp c ob h hv => simp [D.low] at hl
  | fn vs ws h1 h2 hv hw ih1 ih2 =>
    simp only [D.low, Bool.and_eq_true] at hl
    exact .fn vs ws h1 h2 (fun i d v a b => ih1 i d v a b (D.lows_get hl.1 i d a)) (fun i d v a b => ih2 i d v a b (D.lows_get hl.2 i d a))
  | agg vs h1 hv ih => simp only [D.low] at hl; exact .agg vs h1 (fun i d v a b => ih i d v a b (D.lows_get hl i d a))
  | tup vs h1 hv ih => simp only [D.low] at hl; exact .tup vs h1 (fun i d v a b => ih i d v a b (D.lows_get hl i d a))
def D.ground : D → Bool
  | .c (.lit _) => true
  | .agg ds => grounds ds
  | .tup ds => grounds ds
  | _ => false
where grounds : List D → Bool
  | [] => true
  | d :: ds => d.ground && grounds ds
theorem D.grounds_get : ∀ {ds : List D}, D.ground.grounds ds = true → ∀ (i : Nat) d, ds[i]? = some d → d.ground = true := by
  intro ds
  induction ds with
  | nil => intro _ i d h; simp at h
  | cons x ds ih =>
    intro h i d hi
    simp only [D.ground.grounds, Bool.and_eq_true] at h
    cases i with
    | zero => simp at hi; subst hi; exact h.1
    | succ i => exact ih h.2 i d (by simpa using hi)
theorem V.lit {d : D} {v : Value} (h : V σ M Fz w d v) (hl : d.ground = true) (σ' : Heap) (M' : Nat → Option Nat) (Fz' : Nat → Prop) (w' : World) : V σ' M' Fz' w' d v := by
  induction h with
  | c h =>
    rename_i x v
    cases x with
    | lit u => cases h; exact .c (.lit _)
    | _ => simp [D.ground] at hl
  | any v => simp [D.ground] at hl
  | ptr a ob h hle hv => simp [D.ground] at hl
  | sl a n cap hnn ob h hle hv => simp [D.ground] at hl
  | mp c ob h hv => simp [D.ground] at hl
  | fn vs ws h1 h2 hv hw ih1 ih2 => simp [D.ground] at hl
  | agg vs h1 hv ih => simp only [D.ground] at hl; exact .agg vs h1 (fun i d v a b => ih i d v a b (D.grounds_get hl i d a))
  | tup vs h1 hv ih => simp only [D.ground] at hl; exact .tup vs h1 (fun i d v a b => ih i d v a b (D.grounds_get hl i d a))
theorem za9.data {g : FuncId} {ds : List D} {r : D} (h : za9 P g ds r) (hd : ds.all (D.low 0) = true) (hr : r.low 0 = true) : Ok P g ds σ r σ := by
  intro M Fz w vs R hs hvs
  have R0 : Rel [] (fun _ => none) Fz w := ⟨fun b c h => by simp at h, fun b b' c h => by simp at h, R.fz, R.gl⟩
  refine (h.2 _ Fz w vs R0 hs fun i d v a b => (hvs i d v a b).data (List.all_eq_true.1 hd d (List.mem_of_getElem? a)) _ _).mono fun e w' he => ?_
  obtain ⟨v, M', Fz', rfl, R', hv, EV⟩ := he
  have hb : ∀ c : Nat, c < w.heap.size → w'.heap[c]? = w.heap[c]? := fun c hc => EV.frame c hc (fun b h => by simp at h)
  have E : Evo σ M Fz w σ M Fz' w' := {
    size := EV.size
    frame := fun c hc _ => hb c hc
    ran := fun b c h => .inl ⟨b, h⟩
    fz := EV.fz
    fz' := fun c h => by
      rcases EV.fz' c h with h | ⟨b, h⟩ | h
      · exact .inl h
      · simp at h
      · exact .inr (.inr h)
    shp := fun c arr T fr h => ⟨arr, by rw [hb c (Array.getElem?_eq_some_iff.1 h).1]; exact h, rfl⟩
    keep := fun b ob h => ⟨ob, h, Nat.le_refl _, fun _ => rfl⟩
    out := EV.out }
  refine ⟨v, M, Fz', rfl, ⟨fun b c h => ?_, R.inj, R'.fz, R'.gl⟩, hv.data hr _ _, E⟩
  obtain ⟨h1, ob, o, h2, h3, h4⟩ := R.blk b c h
  have hc := (R.lt h).2
  refine ⟨fun hf => ?_, ob, o, h2, by rw [hb c hc]; exact h3, h4.mono E⟩
  rcases EV.fz' c hf with h | ⟨b, h⟩ | h
  · exact h1 h
  · simp at h
  · omega
theorem za9.lend {g : FuncId} {ds ds' : List D} {r : D} (h : za9 P g ds' r) (hd : ds.mapM (frzD σ 0 100) = some ds') (hr : r.ground = true) : Ok P g ds σ r σ := by
  intro M Fz w vs R hs hvs
  have R0 : Rel [] (fun _ => none) (frzF M Fz 0) w := ⟨fun b c h => by simp at h, fun b b' c h => by simp at h, fun c h => by
    rcases h with h | ⟨b, _, h⟩
    · exact R.fz c h
    · exact (R.lt h).2, Gl.mono (fun c h => ⟨.inl h, rfl⟩) R.gl⟩
  have hl : ds'.length = ds.length := (zfn hd).1
  refine (h.2 _ _ w vs R0 (by rw [hs, hl]) fun i d v a b => ?_).mono fun e w' he => ?_
  · obtain ⟨d0, h1, h2⟩ := (zfn hd).2 i d a
    exact frzD_ok R h2 (hvs i d0 v h1 b) _ _
  · obtain ⟨v, M', Fz', rfl, R', hv, EV⟩ := he
    have hb : Below w.heap.size w w' := ⟨EV.out.1, EV.out.2.1, EV.out.2.2, EV.size, fun k hk => EV.frame k hk (fun b h => by simp at h)⟩
    exact ⟨v, M, Fz, rfl, R.below hb, hv.lit hr _ _ _ _, Evo.below R hb⟩
end
def nrmC : C → C
  | .lit (.slice none 0 0) => .frz false []
  | .frz _ es => .frz false es
  | x => x
def nrm1 : D → D
  | .c x => .c (nrmC x)
  | d => d
def nrm : D → D
  | .c x => .c (nrmC x)
  | .agg ds => .agg (ds.map nrm1)
  | d => d
theorem nrmC_ok {Fz : Nat → Prop} {w : World} {x : C} {v : Value} (h : VC Fz w x v) : VC Fz w (nrmC x) v := by
  unfold nrmC
  split
  · cases h
    exact .frz (es := []) 0 none 0 (by simp) (fun _ => rfl) (fun _ _ => undef) (by simp) (by simp) (by simp) (by simp)
  · cases h with
    | frz esz a cap hnn hz c hsz hcap hc hv => exact .frz esz a cap (by simp) hz c hsz hcap hc hv
  · exact h
theorem nrm1xok {σ : Heap} {M : Nat → Option Nat} {Fz : Nat → Prop} {w : World} {d : D} {v : Value} (h : V σ M Fz w d v) : V σ M Fz w (nrm1 d) v := by
  unfold nrm1
  split
  · cases h with | c h => exact .c (nrmC_ok h)
  · exact h
theorem nrm_ok {σ : Heap} {M : Nat → Option Nat} {Fz : Nat → Prop} {w : World} {d : D} {v : Value} (h : V σ M Fz w d v) : V σ M Fz w (nrm d) v := by
  unfold nrm
  split
  · cases h with | c h => exact .c (nrmC_ok h)
  · cases h with
    | agg vs h1 hv =>
      refine .agg vs (by simpa using h1) (fun i d v a b => ?_)
      simp only [List.getElem?_map, Option.map_eq_some_iff] at a
      obtain ⟨d0, h0, rfl⟩ := a
      exact nrm1xok (hv i d0 v h0 b)
  · exact h
theorem Ok.nrm {P : Program} {g : FuncId} {ds : List D} {σ σ' : Heap} {r : D} (h : Ok P g (ds.map nrm) σ r σ') : Ok P g ds σ r σ' := by
  intro M Fz w vs R hs hvs
  refine h M Fz w vs R (by simpa using hs) fun i d v a b => ?_
  simp only [List.getElem?_map, Option.map_eq_some_iff] at a
  obtain ⟨d0, h0, rfl⟩ := a
  exact nrm_ok (hvs i d0 v h0 b)
abbrev za1 := List (Nat × (List D → Option D))
def spk (g : Nat) : za1 → Option (List D → Option D)
  | [] => none
  | (s, f) :: l => match Nat.beq s g with | true => some f | false => spk g l
def D.plain : D → Bool
  | .fn .. => false
  | .agg ds => ds.all fun d => match d with | .fn .. => false | _ => true
  | .tup ds => ds.all fun d => match d with | .fn .. => false | _ => true
  | _ => true
def zat (S : za1) : Orc := fun g ds σ =>
  match spk g S with
  | none => none
  | some f =>
    if ds.all (fun d => d.low 0 && d.plain) then (f (ds.map nrm)).bind fun r => if r.low 0 then some (r, σ, []) else none
    else
      match ds.mapM (frzD σ 0 100) with
      | some ds' => (f (ds'.map nrm)).bind fun r => if r.ground then some (r, σ, []) else none
      | none => none
def zaj (P : Program) (S : za1) : Prop := ∀ p ∈ S, ∀ ds r, p.2 ds = some r → za9 P p.1 ds r
theorem spk_mem {g : Nat} {f : List D → Option D} : ∀ {S : za1}, spk g S = some f → (g, f) ∈ S := by
  intro S
  induction S with
  | nil => intro h; simp [spk] at h
  | cons p S ih =>
    intro h
    obtain ⟨s, f'⟩ := p
    simp only [spk] at h
    split at h
    · rename_i hb
      have := Nat.eq_of_beq_eq_true hb
      simp only [Option.some.injEq] at h
      subst this h
      simp
    · exact List.mem_cons_of_mem _ (ih h)
theorem low_nrm1 {m : Nat} {d : D} (h : d.low m = true) : (nrm1 d).low m = true := by unfold nrm1; split <;> simp_all [D.low]
theorem lows_nrm {m : Nat} : ∀ {ds : List D}, D.low.lows m ds = true → D.low.lows m (ds.map nrm1) = true := by
  intro ds
  induction ds with
  | nil => intro _; rfl
  | cons d ds ih => intro h; simp only [D.low.lows, Bool.and_eq_true, List.map_cons] at h ⊢; exact ⟨low_nrm1 h.1, ih h.2⟩
theorem low_nrm {m : Nat} {d : D} (h : d.low m = true) : (nrm d).low m = true := by
  unfold nrm
  split
  · rfl
  · simp only [D.low] at h ⊢; exact lows_nrm h
  · exact h
theorem zap {P : Program} {S : za1} (h : zaj P S) : zaO P (zat S) := by
  intro g ds σ r σ' wr he
  unfold zat at he
  split at he
  · simp at he
  · rename_i f hf
    have hm := spk_mem hf
    split at he
    · rename_i hl
      rw [Option.bind_eq_some_iff] at he
      obtain ⟨r', h1, h2⟩ := he
      split at h2
      · rename_i hr
        simp only [Option.some.injEq, Prod.mk.injEq] at h2
        obtain ⟨rfl, rfl, rfl⟩ := h2
        have hp := h _ hm _ _ h1
        refine ⟨hp.1, (hp.data ?_ hr).nrm, Nat.le_refl _, fun _ _ _ => rfl⟩
        rw [List.all_eq_true] at hl ⊢
        intro d hd
        rw [List.mem_map] at hd
        obtain ⟨d0, h0, rfl⟩ := hd
        have := hl d0 h0
        rw [Bool.and_eq_true] at this
        exact low_nrm this.1
      · simp at h2
    · split at he
      · rename_i ds' hds
        rw [Option.bind_eq_some_iff] at he
        obtain ⟨r', h1, h2⟩ := he
        split at h2
        · rename_i hr
          simp only [Option.some.injEq, Prod.mk.injEq] at h2
          obtain ⟨rfl, rfl, rfl⟩ := h2
          have hp := h _ hm _ _ h1
          have hp' : za9 P g ds' r' := ⟨hp.1, hp.2.nrm⟩
          exact ⟨hp.1, hp'.lend hds hr, Nat.le_refl _, fun _ _ _ => rfl⟩
        · simp at h2
      · simp at he
noncomputable def spec {A R : Type} (args : A → List D) (res : R → D) (f : A → Option R) : List D → Option D := fun ds =>
  open Classical in if h : ∃ a, args a = ds then (f (Classical.choose h)).map res else none
theorem zaw {A R : Type} {args : A → List D} {res : R → D} {f : A → Option R} (inj : ∀ a b, args a = args b → a = b) {a : A} {r : R} (h : f a = some r) : spec args res f (args a) = some (res r) := by
  have hex : ∃ b, args b = args a := ⟨a, rfl⟩
  unfold spec
  rw [dif_pos hex, inj _ _ (Classical.choose_spec hex), h]
  rfl
theorem zav {P : Program} {g : Nat} {A R : Type} {args : A → List D} {res : R → D} {f : A → Option R} (H : ∀ a r, f a = some r → za9 P g (args a) (res r)) : ∀ ds r, spec args res f ds = some r → za9 P g ds r := by
  intro ds r h
  unfold spec at h
  split at h
  · rename_i hex
    rw [Option.map_eq_some_iff] at h
    obtain ⟨r', h1, rfl⟩ := h
    have := H _ _ h1
    rw [Classical.choose_spec hex] at this
    exact this
  · simp at h
theorem zaS {S : za1} {g : Nat} {F : List D → Option D} {ds ds' : List D} {σ : Heap} {r : D} (hS : spk g S = some F) (hl : (ds.all fun d => d.low 0 && d.plain) = true) (hd : ds.map nrm = ds') (h : F ds' = some r) (hr : r.low 0 = true) :
    zat S g ds σ = some (r, σ, []) := by
  subst hd
  simp only [zat, hS, hl, if_true, h, Option.bind_some, hr]
theorem callOrc_lend {S : za1} {g : Nat} {F : List D → Option D} {ds ds1 ds' : List D} {σ : Heap} {r : D} (hS : spk g S = some F) (hl : (ds.all fun d => d.low 0 && d.plain) = false) (h1 : ds.mapM (frzD σ 0 100) = some ds1) (hd : ds1.map nrm = ds') (h : F ds' = some r) (hr : r.ground = true) :
    zat S g ds σ = some (r, σ, []) := by
  subst hd
  simp only [zat, hS, hl, Bool.false_eq_true, if_false, h1, h, Option.bind_some, hr, if_true]
def nrmR : D → D
  | .tup ds => .tup (ds.map nrm)
  | d => nrm d
theorem DLe.nrmR (d : D) : DLe d (nrmR d) := by
  intro σ M Fz w v h
  unfold Go.Abs.nrmR
  split
  · cases h with
    | tup vs h1 hv =>
      refine .tup vs (by simpa using h1) (fun i d v a b => ?_)
      simp only [List.getElem?_map, Option.map_eq_some_iff] at a
      obtain ⟨d0, h0, rfl⟩ := a
      exact nrm_ok (hv i d0 v h0 b)
  · exact nrm_ok h
theorem DLe.of_nrm {d d' : D} (h : Go.Abs.nrmR d = d') : DLe d d' := h ▸ DLe.nrmR d
theorem zaj.nil {P : Program} : zaj P [] := fun p hp => by simp at hp
theorem zaj.cons {P : Program} {g : Nat} {F : List D → Option D} {S : za1} (h : ∀ ds r, F ds = some r → za9 P g ds r) (hS : zaj P S) : zaj P ((g, F) :: S) := by
  intro p hp
  rcases List.mem_cons.1 hp with rfl | hp
  · exact h
  · exact hS p hp
def resA (al : AL) (σ : Heap) : Nat × Option (Option Nat) → Option D
  | (t, none) => lk t al
  | (t, some n) =>
    match lk t al with
    | some (.ptr b off sz) => (zeO σ b sz).bind fun cs => zcs n cs off
    | _ => none
def zbc : Nat → List D → AL
  | _, [] => []
  | i, d :: ds => (i, d) :: zbc (i + 1) ds
theorem zipAL_lk : ∀ (ds : List D) (i t : Nat) (d : D), lk t (zbc i ds) = some d → i ≤ t ∧ ds[t - i]? = some d := by
  intro ds
  induction ds with
  | nil => intro i t d h; simp [zbc, lk] at h
  | cons x ds ih =>
    intro i t d h
    simp only [zbc, lk] at h
    split at h
    · rename_i hb
      have := Nat.eq_of_beq_eq_true hb
      simp only [Option.some.injEq] at h
      subst this h
      simp
    · rename_i hb
      obtain ⟨h1, h2⟩ := ih (i + 1) t d h
      refine ⟨by omega, ?_⟩
      have : t - i = (t - (i + 1)) + 1 := by omega
      rw [this, List.getElem?_cons_succ]
      exact h2
theorem zan {P : Program} {g : FuncId} {fn : Func} {af : za5} {fz : Bool} {ds : List D} {r : D} (hg : P.funcs[g]? = some fn) (hent : enterable P g = true) (hc : zbe P fn fz = some af)
    (hlen : ds.length ≤ af.ntmps)
    (h : Sem P af.body af.ntmps (zbc 0 ds) [] fun x al σ => (x = .normal ∨ x = .ret) ∧ ∃ ds' r', af.results.mapM (resA al σ) = some ds' ∧ frzD σ 0 100 (one ds') = some r' ∧ DLe r' r) : za9 P g ds r := by
  refine ⟨hent, ?_⟩
  unfold zbe at hc
  split at hc
  · rename_i c hb
    split at hc
    · rename_i ac rs h1 h2
      simp only [Option.some.injEq] at hc
      subst hc
      dsimp only at h hlen
      intro M Fz w vs R hs hvs
      refine calls_of_wp hg hb ?_
      have A0 : AEnv fn.ntmps [] M Fz w (zbc 0 ds) (vs ++ Array.replicate (fn.ntmps - vs.size) undef) := by
        refine ⟨by simp; omega, fun t d ht => ?_⟩
        obtain ⟨_, h3⟩ := zipAL_lk ds 0 t d ht
        rw [Nat.sub_zero] at h3
        have hlt : t < vs.size := by rw [hs]; exact (List.getElem?_eq_some_iff.1 h3).1
        exact ⟨vs[t], by rw [Array.getElem?_append_left hlt, Array.getElem?_eq_getElem hlt], hvs t d _ h3 (Array.getElem?_eq_getElem hlt)⟩
      refine h c h1 M Fz w { tmps := vs ++ Array.replicate (fn.ntmps - vs.size) undef, defers := [] } _ R A0 fun x al' σ' a' w' M' Fz' hQ hd R' A' EV hl => ?_
      obtain ⟨hx, ds', r', hm, hfr, hle⟩ := hQ
      have hm' : rs.mapM (resultOf (envOf fn.ntmps al') σ') = some ds' := by
        have key : ∀ (l : List (Nat × Option (Option Nat))) ds', l.mapM (resA al' σ') = some ds' → l.mapM (resultOf (envOf fn.ntmps al') σ') = some ds' := by
          intro l
          induction l with
          | nil => intro ds' h; simpa using h
          | cons p l ih =>
            intro ds' h
            rw [List.mapM_cons] at h ⊢
            cases hp : resA al' σ' p with
            | none => rw [hp] at h; simp at h
            | some d =>
              rw [hp] at h
              have : resultOf (envOf fn.ntmps al') σ' p = some d := by
                obtain ⟨t, o⟩ := p
                cases o with
                | none => exact A'.toEnv.2.2 t d hp
                | some k =>
                  simp only [resA] at hp
                  split at hp
                  · rename_i b off sz hlk
                    simp only [resultOf, A'.toEnv.2.2 t _ hlk]
                    exact hp
                  · simp at hp
              rw [this]
              cases hr : l.mapM (resA al' σ') with
              | none => rw [hr] at h; simp at h
              | some q => rw [hr] at h; rw [ih q hr]; exact h
        exact key rs ds' hm
      obtain ⟨v, hv1, hv2⟩ := results_ok (P := P) R' A'.toEnv.1 h2 hm'
      obtain ⟨R2, EV2⟩ := Rel.forget R R' EV (fun b hb => by simp at hb)
      have post : a'.defers = [] ∧ ∃ v, (results fn a'.tmps).run P w' = .ok v w' ∧ ∃ v' M'' Fz'', Ending.returned v = .returned v' ∧ Rel [] M'' Fz'' w' ∧ V [] M'' Fz'' w' r v' ∧ Evo [] M Fz w [] M'' Fz'' w' :=
        ⟨hd, v, hv1, v, _, _, rfl, R2, hle _ _ _ _ _ (frzD_ok R' hfr hv2 _ _), EV2⟩
      rcases hx with rfl | rfl
      · exact post
      · exact post
    · simp at hc
  · simp at hc
end Go.Abs
namespace Go.Abs
variable [Gl]
theorem pure_nil {P : Program} {g : FuncId} {es : List (List C)} {r : D} (hpos : ∀ e ∈ es, e ≠ []) (h1 : za9 P g [.c (.frz true es)] r) (h2 : es = [] → za9 P g [.c (.lit (.slice none 0 0))] r) : za9 P g [.c (.frz false es)] r := by
  refine ⟨h1.1, fun M Fz w vs R hs hv => ?_⟩
  have h0 : vs[0]? = some (vs[0]'(by rw [hs]; simp)) := Array.getElem?_eq_getElem _
  have hv0 := hv 0 _ _ rfl h0
  generalize hx : vs[0]'(by rw [hs]; simp) = x at hv0 h0
  have only : ∀ d, V [] M Fz w d x → ∀ (i : Nat) d' v, [d][i]? = some d' → vs[i]? = some v → V [] M Fz w d' v := by
    intro d hd i d' v a b
    cases i with
    | zero => simp only [List.getElem?_cons_zero, Option.some.injEq] at a; rw [h0] at b; simp only [Option.some.injEq] at b; subst a b; exact hd
    | succ i => simp at a
  cases hv0 with
  | c hc =>
    generalize hy : C.frz false es = y at hc
    cases hc with
    | frz esz a cap hnn hz c hsz hcap hcc hvv =>
      simp only [C.frz.injEq] at hy
      obtain ⟨rfl, rfl⟩ := hy
      cases a with
      | some a => exact h1.2 M Fz w vs R hs (only _ (.c (.frz esz (some a) cap (fun _ => rfl) hz c hsz hcap hcc hvv)))
      | none =>
        have he : es = [] := by
          cases es with
          | nil => rfl
          | cons e es =>
            exfalso
            cases e with
            | nil => exact hpos [] (by simp) rfl
            | cons d e => obtain ⟨_, _, h, _⟩ := hcc 0 0 _ d rfl rfl; simp at h
        subst he
        have := hz rfl
        subst this
        exact (h2 rfl).2 M Fz w vs R hs (only _ (.c (.lit _)))
    | _ => simp at hy
end Go.Abs
