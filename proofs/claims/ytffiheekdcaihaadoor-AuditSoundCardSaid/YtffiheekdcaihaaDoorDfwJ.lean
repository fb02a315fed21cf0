/- One operation, soundly: all together. -/
import Derived.Test.YtffiheekdcaihaaDoorDfwI
set_option linter.all false
namespace Go.Abs
variable [Gl]
def Ok (P : Program) (g : FuncId) (ds : List D) (σ : Heap) (r : D) (σ' : Heap) : Prop :=
  ∀ (M : Nat → Option Nat) (Fz : Nat → Prop) (w : World) (vs : Array Value), Rel σ M Fz w → vs.size = ds.length → (∀ (i : Nat) d v, ds[i]? = some d → vs[i]? = some v → V σ M Fz w d v) →
    Calls P g vs w fun e w' => ∃ v M' Fz', e = .returned v ∧ Rel σ' M' Fz' w' ∧ V σ' M' Fz' w' r v ∧ Evo σ M Fz w σ' M' Fz' w'
def enterable (P : Program) (g : FuncId) : Bool :=
  match P.funcs[g]? with
  | some fn => fn.body.isSome && fn.name != "runtime.NumGoroutine"
  | none => false
def zaO (P : Program) (orc : Orc) : Prop :=
  ∀ g ds σ r σ' wr, orc g ds σ = some (r, σ', wr) → enterable P g = true ∧ Ok P g ds σ r σ' ∧ σ.length ≤ σ'.length ∧ ∀ b, b < σ.length → b ∉ wr → σ'[b]? = σ[b]?
section
variable {P : Program} {σ σ' : Heap} {M M' : Nat → Option Nat} {Fz : Nat → Prop} {w w' : World} {env : List D} {a : Act} {orc : Orc}
theorem mapEs_inv {d : D} {es : List (Value × D × Nat)} (h : mapEs σ d = some es) : (d = .c (.lit (.map none)) ∧ es = []) ∨ (∃ b clock, d = .mp b ∧ σ[b]? = some (.map es clock)) ∨ ∃ fs, d = .c (.fmp fs) ∧ es = fs.map fun p => (p.1, .c p.2, 0) := by
  unfold mapEs at h
  split at h
  · simp only [Option.some.injEq] at h; exact .inl ⟨rfl, h.symm⟩
  · simp only [Option.some.injEq] at h; exact .inr (.inr ⟨_, rfl, h.symm⟩)
  · split at h
    · rename_i es' clock hb
      simp only [Option.some.injEq] at h
      subst h
      exact .inr (.inl ⟨_, clock, rfl, hb⟩)
    · simp at h
  · simp at h
def ox1 (ao : AOp) (env : List D) : D :=
  match ao with
  | .load _ x => x.ev env
  | _ => .any
inductive Out (P : Program) (s : Sem Next) (σ : Heap) (M : Nat → Option Nat) (Fz : Nat → Prop) (w : World) (at_ : D) : AOp → Heap → D → List Nat → Prop where
  | y {ao : AOp} {d : D} (hc : cat ao = 0) (h : Yields P s σ M Fz w d) : Out P s σ M Fz w at_ ao σ d []
  | l {ao : AOp} {d : D} {σ' : Heap} (hc : cat ao = 1) (hσ : σ' = σ) (h : (∀ b off sz c cs, at_ = .ptr b off sz → M b = some c → σ[b]? = some (.cells cs) → ∃ arr T, w.heap[c]? = some (.cells arr T (0, 0)) ∧ cs.length ≤ arr.size ∧ ∀ (i : Nat) d v, cs[i]? = some d → arr[i]? = some v → V σ M Fz w d v ∧ v.oneCell' = true) → Yields P s σ M Fz w d) : Out P s σ M Fz w at_ ao σ' d []
  | a {ao : AOp} {d : D} {ob : Ob} (hc : cat ao = 2) (h : (∀ c, Fz c → c < w.heap.size) → Allocs P s σ M Fz w ob d) : Out P s σ M Fz w at_ ao (σ ++ [ob]) d []
  | g {ao : AOp} {d : D} {σ' : Heap} {wr : List Nat} (hc : cat ao = 3) (h : Rel σ M Fz w → Gives P s σ M Fz w σ' d) : Out P s σ M Fz w at_ ao σ' d wr
theorem evOp_out (E : zbb σ M Fz w env a.tmps) {o : Oper} {ao : AOp} {d : D} {wr : List Nat} (hc : zeE P o.op o.type = some ao) (hnc : isCall ao = false)
    (h : zbY P orc ao env σ = some (d, σ', wr)) : Out P (execOp a.eval o) σ M Fz w (ox1 ao env) ao σ' d wr := by
  cases hop : o.op with
  | move x =>
    rw [hop] at hc
    simp only [zeE, Option.map_eq_some_iff] at hc
    obtain ⟨ox, hx, rfl⟩ := hc
    simp only [zbY, Option.some.injEq, Prod.mk.injEq] at h
    obtain ⟨rfl, rfl, rfl⟩ := h
    exact .y rfl (mov_ok E (.inl hop) hx)
  | assign x =>
    rw [hop] at hc
    simp only [zeE, Option.map_eq_some_iff] at hc
    obtain ⟨ox, hx, rfl⟩ := hc
    simp only [zbY, Option.some.injEq, Prod.mk.injEq] at h
    obtain ⟨rfl, rfl, rfl⟩ := h
    exact .y rfl (mov_ok E (.inr hop) hx)
  | pick c x y =>
    rw [hop] at hc
    simp only [zeE, Option.bind_eq_bind, Option.bind_eq_some_iff, Option.some.injEq] at hc
    obtain ⟨oc, hoc, ox, hx, oy, hy, rfl⟩ := hc
    simp only [zbY, Option.map_eq_some_iff, Prod.mk.injEq] at h
    obtain ⟨t, ht, rfl, rfl, rfl⟩ := h
    exact .y rfl (pick_ok E hop hoc hx hy ht)
  | alloc t =>
    rw [hop] at hc
    simp only [zeE, Option.map_eq_some_iff] at hc
    obtain ⟨z, hz, rfl⟩ := hc
    simp only [zbY, Option.some.injEq, Prod.mk.injEq] at h
    obtain ⟨rfl, rfl, rfl⟩ := h
    exact .a rfl (fun hfz => alloc_ok hfz hop hz)
  | box t x =>
    rw [hop] at hc
    simp only [zeE, Option.map_eq_some_iff] at hc
    obtain ⟨ox, hx, rfl⟩ := hc
    simp only [zbY, Option.map_eq_some_iff, Prod.mk.injEq] at h
    obtain ⟨cs, hcs, rfl, rfl, rfl⟩ := h
    exact .a rfl (fun hfz => box_ok hfz E hop hx hcs)
  | build t parts =>
    rw [hop] at hc
    simp only [zeE, Option.bind_eq_bind, Option.bind_eq_some_iff] at hc
    obtain ⟨z, hz, td, hu, hc⟩ := hc
    cases td <;> simp only [Option.bind_eq_some_iff, Option.some.injEq, reduceCtorEq] at hc
    · rename_i len e
      obtain ⟨n, hn, qs, hqs, rfl⟩ := hc
      simp only [zbY, Option.map_eq_some_iff, Prod.mk.injEq] at h
      obtain ⟨cs, hcs, rfl, rfl, rfl⟩ := h
      exact .y rfl (build_ok E hop hz (.inr ⟨len, e, n, hu, hn, rfl⟩) hqs hcs)
    · rename_i fs
      obtain ⟨ps, hps, qs, hqs, rfl⟩ := hc
      simp only [zbY, Option.map_eq_some_iff, Prod.mk.injEq] at h
      obtain ⟨cs, hcs, rfl, rfl, rfl⟩ := h
      exact .y rfl (build_ok E hop hz (.inl ⟨fs, ps, hu, hps, rfl⟩) hqs hcs)
  | buildSlice t len parts =>
    rw [hop] at hc
    simp only [zeE, Option.bind_eq_bind, Option.bind_eq_some_iff] at hc
    obtain ⟨td, hu, hc⟩ := hc
    cases td <;> simp only [Option.bind_eq_some_iff, reduceCtorEq] at hc
    obtain ⟨n, hn, z, hz, hc⟩ := hc
    split at hc
    · simp at hc
    · rename_i hn0
      simp only [Option.bind_eq_some_iff, Option.some.injEq] at hc
      obtain ⟨qs, hqs, rfl⟩ := hc
      simp only [zbY, Option.map_eq_some_iff, Prod.mk.injEq] at h
      obtain ⟨cs, hcs, rfl, rfl, rfl⟩ := h
      exact .a rfl (fun hfz => bslice_ok hfz E hop hu hn hz hn0 hqs hcs)
  | load t x =>
    rw [hop] at hc
    simp only [zeE, Option.bind_eq_bind, Option.bind_eq_some_iff, Option.some.injEq] at hc
    obtain ⟨n, hn, ox, hx, rfl⟩ := hc
    simp only [zbY] at h
    have hw : wr = [] := by
      split at h
      · simp only [Option.bind_eq_bind, Option.bind_eq_some_iff, Option.some.injEq, Prod.mk.injEq] at h; obtain ⟨_, _, _, _, _, _, h⟩ := h; exact h.symm
      · simp only [Option.bind_eq_bind, Option.bind_eq_some_iff, Option.some.injEq, Prod.mk.injEq] at h; obtain ⟨_, _, _, _, h⟩ := h; exact h.symm
      · simp at h
    subst hw
    refine .l rfl ?_ (fun hR => (load_ok E hop hx hn hR h).2)
    revert h
    split
    · simp only [Option.bind_eq_bind, Option.bind_eq_some_iff, Option.some.injEq, Prod.mk.injEq]; rintro ⟨_, _, _, _, _, h, _⟩; exact h.symm
    · simp only [Option.bind_eq_bind, Option.bind_eq_some_iff, Option.some.injEq, Prod.mk.injEq]; rintro ⟨_, _, _, h, _⟩; exact h.symm
    · simp
  | store t x y =>
    rw [hop] at hc
    simp only [zeE, Option.bind_eq_bind, Option.bind_eq_some_iff, Option.some.injEq] at hc
    obtain ⟨n, hn, ox, hx, oy, hy, rfl⟩ := hc
    simp only [zbY] at h
    split at h
    · rename_i b off sz he
      simp only [Option.bind_eq_bind, Option.bind_eq_some_iff] at h
      obtain ⟨cs, hcs, xs, hxs, h⟩ := h
      split at h
      · rename_i hcnd
        simp only [Option.some.injEq, Prod.mk.injEq] at h
        obtain ⟨rfl, rfl, rfl⟩ := h
        exact .g rfl (fun R => store_ok R E hop hx hy hn he hcs hxs hcnd)
      · simp at h
    · simp at h
  | nilCheck x =>
    rw [hop] at hc
    simp only [zeE, Option.map_eq_some_iff] at hc
    obtain ⟨ox, hx, rfl⟩ := hc
    simp only [zbY] at h
    have hw : wr = [] := by
      split at h <;> simp only [Option.some.injEq, Prod.mk.injEq, reduceCtorEq] at h <;> exact h.2.2.symm
    subst hw
    obtain ⟨rfl, hg⟩ := nilck_ok (P := P) E hop hx h
    exact .y rfl hg
  | binOp op t x y t2 =>
    rw [hop] at hc
    simp only [zeE] at hc
    cases hu : P.underlying t with
    | none =>
      rw [hu] at hc
      simp only [Option.bind_none, Option.some.injEq] at hc
      subst hc
      simp only [zbY, Option.map_eq_some_iff, Prod.mk.injEq] at h
      obtain ⟨d', hd, rfl, rfl, rfl⟩ := h
      exact .y rfl (gen_ok E (by rw [hop]; simp) (by rw [hop]; exact hd))
    | some td =>
      rw [hu] at hc
      simp only [Option.bind_some] at hc
      cases hk : nilKind td with
      | none =>
        rw [hk] at hc
        simp only [Option.some.injEq] at hc
        subst hc
        simp only [zbY, Option.map_eq_some_iff, Prod.mk.injEq] at h
        obtain ⟨d', hd, rfl, rfl, rfl⟩ := h
        exact .y rfl (gen_ok E (by rw [hop]; simp) (by rw [hop]; exact hd))
      | some k =>
        rw [hk] at hc
        have shape : ∀ neg, compNil k neg x y = some ao → ∃ k' neg' ox, ao = .isnil k' neg' ox := by
          intro neg hcn
          unfold compNil at hcn
          split at hcn
          · simp only [Option.map_eq_some_iff] at hcn; obtain ⟨ox, _, rfl⟩ := hcn; exact ⟨_, _, _, rfl⟩
          · split at hcn
            · simp only [Option.map_eq_some_iff] at hcn; obtain ⟨ox, _, rfl⟩ := hcn; exact ⟨_, _, _, rfl⟩
            · simp at hcn
        cases op <;> simp only [reduceCtorEq] at hc
        · obtain ⟨k', neg', ox, rfl⟩ := shape false hc
          simp only [zbY, Option.map_eq_some_iff, Prod.mk.injEq] at h
          obtain ⟨b, hb, rfl, rfl, rfl⟩ := h
          exact .y rfl (isnil_ok (neg := false) E (by simpa using hop) hu hk hc hb)
        · obtain ⟨k', neg', ox, rfl⟩ := shape true hc
          simp only [zbY, Option.map_eq_some_iff, Prod.mk.injEq] at h
          obtain ⟨b, hb, rfl, rfl, rfl⟩ := h
          exact .y rfl (isnil_ok (neg := true) E (by simpa using hop) hu hk hc hb)
  | unOp op t x =>
    rw [hop] at hc
    simp only [zeE, Option.some.injEq] at hc
    subst hc
    simp only [zbY, Option.map_eq_some_iff, Prod.mk.injEq] at h
    obtain ⟨d', hd, rfl, rfl, rfl⟩ := h
    exact .y rfl (gen_ok E (by rw [hop]; simp) (by rw [hop]; exact hd))
  | convert s t x =>
    rw [hop] at hc
    simp only [zeE, Option.some.injEq] at hc
    subst hc
    simp only [zbY, Option.map_eq_some_iff, Prod.mk.injEq] at h
    obtain ⟨d', hd, rfl, rfl, rfl⟩ := h
    exact .y rfl (gen_ok E (by rw [hop]; simp) (by rw [hop]; exact hd))
  | makeFunc f first cap =>
    rw [hop] at hc
    simp only [zeE, Option.bind_eq_bind, Option.bind_eq_some_iff, Option.some.injEq] at hc
    obtain ⟨o1, h1, o2, h2, rfl⟩ := hc
    simp only [zbY, Option.some.injEq, Prod.mk.injEq] at h
    obtain ⟨rfl, rfl, rfl⟩ := h
    exact .y rfl (mkfn_ok E hop h1 h2)
  | makeMap t r =>
    rw [hop] at hc
    cases r with
    | some _ => simp [zeE] at hc
    | none =>
      simp only [zeE, Option.some.injEq] at hc
      subst hc
      simp only [zbY, Option.some.injEq, Prod.mk.injEq] at h
      obtain ⟨rfl, rfl, rfl⟩ := h
      exact .a rfl (fun hfz => mkmap_ok hop)
  | makeSlice t x y =>
    rw [hop] at hc
    simp only [zeE, Option.bind_eq_bind, Option.bind_eq_some_iff] at hc
    obtain ⟨td, hu, hc⟩ := hc
    cases td <;> simp only [Option.bind_eq_some_iff, reduceCtorEq] at hc
    obtain ⟨n, hn, z, hz, i, hi, hc⟩ := hc
    split at hc
    · simp at hc
    · rename_i hn0
      simp only [Option.bind_eq_some_iff, Option.some.injEq] at hc
      obtain ⟨ox, hx, oy, hy, rfl⟩ := hc
      simp only [zbY, Option.bind_eq_bind, Option.bind_eq_some_iff] at h
      obtain ⟨l, hl, c, hcc, h⟩ := h
      split at h
      · rename_i hcnd
        simp only [Option.some.injEq, Prod.mk.injEq] at h
        obtain ⟨rfl, rfl, rfl⟩ := h
        exact .a rfl (fun hfz => mk_ok hfz E hop hu hn hz hi hn0 hx hy hl hcc hcnd)
      · simp at h
  | slice t x lo hi mx =>
    rw [hop] at hc
    cases mx with
    | some _ => simp [zeE] at hc
    | none =>
      simp only [zeE, Option.bind_eq_bind, Option.bind_eq_some_iff] at hc
      obtain ⟨td, hu, hc⟩ := hc
      cases td <;> simp only [Option.bind_eq_some_iff, Option.some.injEq, reduceCtorEq] at hc
      · subst hc
        simp only [zbY, Option.map_eq_some_iff, Prod.mk.injEq] at h
        obtain ⟨d', hd, rfl, rfl, rfl⟩ := h
        exact .y rfl (gen_ok E (by rw [hop]; simp) (by rw [hop]; exact hd))
      · obtain ⟨n, hn, ox, hx, olo, hlo, ohi, hhi, rfl⟩ := hc
        simp only [zbY] at h
        have hw : wr = [] := by
          split at h
          · simp only [Option.bind_eq_bind, Option.bind_eq_some_iff, Option.some.injEq, Prod.mk.injEq] at h; obtain ⟨_, _, _, _, _, _, h⟩ := h; exact h.symm
          · simp only [Option.bind_eq_bind, Option.bind_eq_some_iff] at h
            obtain ⟨_, _, _, _, h⟩ := h
            split at h <;> simp only [Option.some.injEq, Prod.mk.injEq, reduceCtorEq] at h
            exact h.2.2.symm
          · simp only [Option.bind_eq_bind, Option.bind_eq_some_iff] at h
            obtain ⟨_, _, _, _, _, _, h⟩ := h
            split at h <;> simp only [Option.some.injEq, Prod.mk.injEq, reduceCtorEq] at h
            exact h.2.2.symm
          · simp at h
        subst hw
        obtain ⟨rfl, hg⟩ := slc_ok (P := P) E hop hx hlo hhi hu hn h
        exact .y rfl hg
  | fieldAddr s x f =>
    rw [hop] at hc
    simp only [zeE, Option.bind_eq_bind, Option.bind_eq_some_iff] at hc
    obtain ⟨td, hu, hc⟩ := hc
    cases td <;> simp only [Option.bind_eq_some_iff, reduceCtorEq] at hc
    obtain ⟨fd, hfd, n, hn, hc⟩ := hc
    split at hc
    · simp at hc
    · rename_i hn0
      simp only [Option.bind_eq_some_iff, Option.some.injEq] at hc
      obtain ⟨ox, hx, rfl⟩ := hc
      simp only [zbY] at h
      have hw : wr = [] := by
        split at h <;> simp only [Option.some.injEq, Prod.mk.injEq, reduceCtorEq] at h <;> exact h.2.2.symm
      subst hw
      obtain ⟨rfl, hg⟩ := fld_ok (P := P) E hop hx hu hfd hn hn0 h
      exact .y rfl hg
  | field t x f =>
    rw [hop] at hc
    simp only [zeE, Option.bind_eq_bind, Option.bind_eq_some_iff] at hc
    obtain ⟨td, hu, hc⟩ := hc
    cases td <;> simp only [Option.bind_eq_some_iff, Option.some.injEq, reduceCtorEq] at hc
    obtain ⟨fd, hfd, n, hn, ox, hx, rfl⟩ := hc
    simp only [zbY] at h
    split at h
    · rename_i cs he
      simp only [Option.map_eq_some_iff, Prod.mk.injEq] at h
      obtain ⟨d', hd, rfl, rfl, rfl⟩ := h
      exact .y rfl (part_ok E hop hx hu hfd hn he hd)
    · simp at h
  | indexAddr t x i =>
    rw [hop] at hc
    simp only [zeE, Option.bind_eq_bind, Option.bind_eq_some_iff] at hc
    obtain ⟨td, hu, hc⟩ := hc
    cases td <;> simp only [Option.bind_eq_some_iff, reduceCtorEq] at hc
    · rename_i e
      obtain ⟨n, hn, hc⟩ := hc
      split at hc
      · simp at hc
      · rename_i hn0
        simp only [Option.bind_eq_some_iff, Option.some.injEq] at hc
        obtain ⟨ox, hx, oi, hi, rfl⟩ := hc
        simp only [zbY] at h
        have hw : wr = [] := by
          simp only [Option.bind_eq_bind, Option.bind_eq_some_iff] at h
          obtain ⟨_, _, h⟩ := h
          split at h
          · simp only [Option.bind_eq_some_iff] at h
            obtain ⟨_, _, _, _, h⟩ := h
            split at h <;> simp only [Option.some.injEq, Prod.mk.injEq, reduceCtorEq] at h
            exact h.2.2.symm
          · simp only [Option.bind_eq_some_iff] at h
            obtain ⟨_, _, _, _, h⟩ := h
            split at h <;> simp only [Option.some.injEq, Prod.mk.injEq, reduceCtorEq] at h
            exact h.2.2.symm
          · simp at h
        subst hw
        obtain ⟨rfl, hg⟩ := idx_ok (P := P) E hop hx hi hu hn hn0 h
        exact .y rfl hg
    · rename_i len e
      obtain ⟨n, hn, hc⟩ := hc
      split at hc
      · simp at hc
      · rename_i hn0
        simp only [Option.bind_eq_some_iff, Option.some.injEq] at hc
        obtain ⟨ox, hx, oi, hi, rfl⟩ := hc
        simp only [zbY] at h
        have hw : wr = [] := by
          simp only [Option.bind_eq_bind, Option.bind_eq_some_iff] at h
          obtain ⟨_, _, _, _, h⟩ := h
          split at h <;> simp only [Option.some.injEq, Prod.mk.injEq, reduceCtorEq] at h <;> exact h.2.2.symm
        subst hw
        obtain ⟨rfl, hg⟩ := aidxAddr_ok (P := P) E hop hx hi hu hn h
        exact .y rfl hg
  | index t x i =>
    rw [hop] at hc
    simp only [zeE, Option.bind_eq_bind, Option.bind_eq_some_iff] at hc
    obtain ⟨td, hu, hc⟩ := hc
    cases td <;> simp only [Option.bind_eq_some_iff, Option.some.injEq, reduceCtorEq] at hc
    · subst hc
      simp only [zbY, Option.map_eq_some_iff, Prod.mk.injEq] at h
      obtain ⟨d', hd, rfl, rfl, rfl⟩ := h
      exact .y rfl (gen_ok E (by rw [hop]; simp) (by rw [hop]; exact hd))
    · rename_i len e
      obtain ⟨sz, hsz, n, hn, ox, hx, oi, hi, rfl⟩ := hc
      simp only [zbY, Option.bind_eq_bind, Option.bind_eq_some_iff] at h
      obtain ⟨z, hz, k, hk, h⟩ := h
      split at h
      · rename_i cs he
        simp only [Option.map_eq_some_iff, Prod.mk.injEq] at h
        obtain ⟨d', hd, rfl, rfl, rfl⟩ := h
        exact .y rfl (aidx_ok E hop hx hi hu hsz hn he hz hk hd)
      · simp at h
  | lookup t m k ok =>
    rw [hop] at hc
    simp only [zeE, Option.bind_eq_bind, Option.bind_eq_some_iff] at hc
    obtain ⟨td, hu, hc⟩ := hc
    cases td <;> simp only [Option.bind_eq_some_iff, reduceCtorEq] at hc
    rename_i kt e
    obtain ⟨kd, hkd, hc⟩ := hc
    split at hc
    · rename_i hs
      simp only [Option.bind_eq_some_iff, Option.some.injEq] at hc
      obtain ⟨zero, hz, om, hm, ok', hk, rfl⟩ := hc
      simp only [zbY, Option.bind_eq_bind, Option.bind_eq_some_iff, Option.some.injEq, Prod.mk.injEq] at h
      obtain ⟨kv, hkv, es, hes, r, hr, rfl, rfl, rfl⟩ := h
      exact .g rfl (fun R => lookup_ok R E hop hu hkd hs hz hm hk hkv (mapEs_inv hes) hr rfl)
    · simp at hc
  | mapUpdate t m k x =>
    rw [hop] at hc
    simp only [zeE, Option.bind_eq_bind, Option.bind_eq_some_iff] at hc
    obtain ⟨td, hu, hc⟩ := hc
    cases td <;> simp only [Option.bind_eq_some_iff, reduceCtorEq] at hc
    rename_i kt e
    obtain ⟨kd, hkd, hc⟩ := hc
    split at hc
    · rename_i hs
      simp only [Option.bind_eq_some_iff, Option.some.injEq] at hc
      obtain ⟨om, hm, ok', hk, ox, hx, rfl⟩ := hc
      simp only [zbY, Option.bind_eq_bind, Option.bind_eq_some_iff] at h
      obtain ⟨kv, hkv, h⟩ := h
      split at h
      · rename_i b he
        split at h
        · rename_i es clock hb
          simp only [Option.bind_eq_some_iff] at h
          obtain ⟨r, hr, h⟩ := h
          have := fun R => upd_ok (P := P) (σ := σ) (M := M) (Fz := Fz) (w := w) R E hop hu hkd hs hm hk hx hkv he hb hr
          split at h
          · simp only [Option.some.injEq, Prod.mk.injEq] at h
            obtain ⟨rfl, rfl, rfl⟩ := h
            exact .g rfl this
          · simp only [Option.some.injEq, Prod.mk.injEq] at h
            obtain ⟨rfl, rfl, rfl⟩ := h
            exact .g rfl this
        · simp at h
      · simp at h
    · simp at hc
  | extract x i =>
    rw [hop] at hc
    simp only [zeE, Option.bind_eq_bind, Option.bind_eq_some_iff, Option.some.injEq] at hc
    obtain ⟨ox, hx, rfl⟩ := hc
    simp only [zbY] at h
    split at h
    · rename_i ds he
      simp only [Option.map_eq_some_iff, Prod.mk.injEq] at h
      obtain ⟨d', hd, rfl, rfl, rfl⟩ := h
      exact .y rfl (extract_ok E hop hx he hd)
    · simp at h
  | call c =>
    obtain ⟨callee, args, ats⟩ := c
    rw [hop] at hc
    cases callee with
    | value f =>
      simp only [zeE, Option.bind_eq_bind, Option.bind_eq_some_iff, Option.some.injEq] at hc
      obtain ⟨of, hf, os, hos, rfl⟩ := hc
      simp [isCall] at hnc
    | invoke r m => simp [zeE] at hc
    | builtin b =>
      cases b with
      | len =>
        simp only [zeE, Option.bind_eq_bind, Option.bind_eq_some_iff] at hc
        obtain ⟨t, ht, x, hx0, hc⟩ := hc
        split at hc
        · simp at hc
        · rename_i hs
          simp only [ne_eq, Decidable.not_not] at hs
          simp only [Option.bind_eq_some_iff] at hc
          obtain ⟨td, hu, hc⟩ := hc
          cases td <;> simp only [Option.map_eq_some_iff, Option.some.injEq, reduceCtorEq] at hc
          · subst hc
            simp only [zbY, Option.map_eq_some_iff, Prod.mk.injEq] at h
            obtain ⟨d', hd, rfl, rfl, rfl⟩ := h
            exact .y rfl (gen_ok E (by rw [hop]; simp) (by rw [hop]; exact hd))
          · obtain ⟨ox, hx, rfl⟩ := hc
            simp only [zbY, Option.map_eq_some_iff, Prod.mk.injEq] at h
            obtain ⟨n, hn, rfl, rfl, rfl⟩ := h
            exact .y rfl (len_ok E hop ht hx0 hs hx hu hn)
          · rename_i n e
            subst hc
            simp only [zbY, Opd.ev, Option.some.injEq, Prod.mk.injEq] at h
            obtain ⟨rfl, rfl, rfl⟩ := h
            exact .y rfl (lenArr_ok hop ht hx0 hs hu)
          · obtain ⟨ox, hx, rfl⟩ := hc
            simp only [zbY, Option.map_eq_some_iff, Prod.mk.injEq] at h
            obtain ⟨es, hes, rfl, rfl, rfl⟩ := h
            refine .g rfl (fun R => lenMap_ok R E hop ht hx0 hs hx hu ?_)
            rcases mapEs_inv hes with ⟨he, rfl⟩ | ⟨b, clock, he, hb⟩ | ⟨fs, he, rfl⟩
            · exact .inr (.inl ⟨he, rfl⟩)
            · exact .inl ⟨b, es, clock, he, hb, rfl⟩
            · exact .inr (.inr ⟨fs, he, by simp⟩)
      | append =>
        simp only [zeE, Option.bind_eq_bind, Option.bind_eq_some_iff] at hc
        obtain ⟨t, ht, t1, ht1, s, hs0, x, hx0, td, hu, td1, hu1, hc⟩ := hc
        cases td <;> cases td1 <;> simp only [Option.bind_eq_some_iff, reduceCtorEq] at hc
        obtain ⟨n, hn, i, hi, z, hz, hc⟩ := hc
        split at hc
        · simp at hc
        · rename_i hn0
          simp only [Option.bind_eq_some_iff, Option.some.injEq] at hc
          obtain ⟨os, hs, ox, hx, rfl⟩ := hc
          simp only [zbY] at h
          exact .g rfl (fun R => append_ok R E hop ht ht1 hs0 hx0 hu hu1 hn hi hz hn0 hs hx h)
      | copy =>
        simp only [zeE, Option.bind_eq_bind, Option.bind_eq_some_iff] at hc
        obtain ⟨t, ht, s, hs0, x, hx0, td, hu, hc⟩ := hc
        cases td <;> simp only [Option.bind_eq_some_iff, reduceCtorEq] at hc
        obtain ⟨n, hn, hc⟩ := hc
        split at hc
        · simp at hc
        · rename_i hn0
          simp only [Option.bind_eq_some_iff, Option.some.injEq] at hc
          obtain ⟨os, hs, ox, hx, rfl⟩ := hc
          simp only [zbY] at h
          split at h
          · rename_i b off len es sz he
            simp only [Option.bind_eq_bind, Option.bind_eq_some_iff, Option.map_eq_some_iff] at h
            obtain ⟨cs, hr, k, ⟨m, hm, hk⟩, new, hnew, h⟩ := h
            split at h
            · rename_i hcnd
              obtain ⟨rfl, hle⟩ := hcnd
              simp only [Option.some.injEq, Prod.mk.injEq] at h
              obtain ⟨rfl, rfl, rfl⟩ := h
              exact .g rfl (fun R => copy_ok R E hop ht hs0 hx0 hu hn hn0 hs hx he hr hm hk.symm hnew hle.1 hle.2)
            · simp at h
          · simp at h
      | min =>
        simp only [zeE, Option.some.injEq] at hc
        subst hc
        simp only [zbY, Option.map_eq_some_iff, Prod.mk.injEq] at h
        obtain ⟨d', hd, rfl, rfl, rfl⟩ := h
        exact .y rfl (gen_ok E (by rw [hop]; simp) (by rw [hop]; exact hd))
      | max =>
        simp only [zeE, Option.some.injEq] at hc
        subst hc
        simp only [zbY, Option.map_eq_some_iff, Prod.mk.injEq] at h
        obtain ⟨d', hd, rfl, rfl, rfl⟩ := h
        exact .y rfl (gen_ok E (by rw [hop]; simp) (by rw [hop]; exact hd))
      | complex =>
        simp only [zeE, Option.some.injEq] at hc
        subst hc
        simp only [zbY, Option.map_eq_some_iff, Prod.mk.injEq] at h
        obtain ⟨d', hd, rfl, rfl, rfl⟩ := h
        exact .y rfl (gen_ok E (by rw [hop]; simp) (by rw [hop]; exact hd))
      | real =>
        simp only [zeE, Option.some.injEq] at hc
        subst hc
        simp only [zbY, Option.map_eq_some_iff, Prod.mk.injEq] at h
        obtain ⟨d', hd, rfl, rfl, rfl⟩ := h
        exact .y rfl (gen_ok E (by rw [hop]; simp) (by rw [hop]; exact hd))
      | imag =>
        simp only [zeE, Option.some.injEq] at hc
        subst hc
        simp only [zbY, Option.map_eq_some_iff, Prod.mk.injEq] at h
        obtain ⟨d', hd, rfl, rfl, rfl⟩ := h
        exact .y rfl (gen_ok E (by rw [hop]; simp) (by rw [hop]; exact hd))
      | _ => simp [zeE] at hc
  | _ => rw [hop] at hc; simp [zeE] at hc
theorem evOp_ok (R : Rel σ M Fz w) (E : zbb σ M Fz w env a.tmps) {o : Oper} {ao : AOp} {d : D} {wr : List Nat} (hc : zeE P o.op o.type = some ao) (hnc : isCall ao = false)
    (h : zbY P orc ao env σ = some (d, σ', wr)) : Gives P (execOp a.eval o) σ M Fz w σ' d := by
  cases evOp_out (M := M) (Fz := Fz) (w := w) E hc hnc h with
  | y _ hy => exact hy.gives R
  | l _ hσ hy => rw [hσ]; exact (hy fun b off sz c cs _ hM hb => R.row hM hb).gives R
  | a _ hy => exact (hy R.fz).gives R
  | g _ hy => exact hy R
theorem comp_inv {op : Op} {ty : TypeId} {ao : AOp} (h : comp P op ty = some ao) :
    (∃ f args ats of os, op = .call { callee := .value f, args := args, argTypes := ats } ∧ opd f = some of ∧ opds args = some os ∧ ao = .call of os) ∨ (zeE P op ty = some ao ∧ isCall ao = false ∧ isSel ao = false) := by
  unfold comp at h
  split at h
  · rename_i f args ats
    split at h
    · rename_i of os h1 h2
      simp only [Option.some.injEq] at h
      exact .inl ⟨f, args, ats, of, os, rfl, h1, h2, h.symm⟩
    · simp at h
  · split at h
    · rename_i ao' h1
      split at h
      · simp at h
      · rename_i h2
        simp only [Option.some.injEq] at h
        subst h
        simp only [Bool.or_eq_true, not_or, Bool.not_eq_true] at h2
        exact .inr ⟨h1, h2.1, h2.2⟩
    · simp at h
end
end Go.Abs
