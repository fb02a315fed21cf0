/- Regions that draw their order: the run in the order of the text, and what is so while another order runs. -/
import Derived.Test.YtffiheekdcaihaaDoorDfwN
set_option linter.all false
namespace Go.Abs
variable [Gl]
structure Tr (P : Program) (orc : Orc) (ops : Array Oper) (os : List AOper) (p0 n0 : Nat) (env : Nat → List D) (sg : Nat → Heap) (wrs : Nat → List Nat) : Prop where
  len : os.length = ops.size
  comp : ∀ (j : Nat) ao, os[j]? = some ao → ∃ o, ops[j]? = some o ∧ compOper P ops o = some ao
  step : ∀ (i : Nat) ao, os[i]? = some ao → evOper P orc ao (env i) (sg i) = some (env (i + 1), sg (i + 1), wrs i)
  wrk : ∀ i, i < n0 → wrOk (sg i) (sg (i + 1)) (wrs i) = true
  le : n0 ≤ os.length
  pair : ∀ (i j : Nat) x y, i < j → os[i]? = some x → os[j]? = some y → Bef ops i j ∨ apart (infoOf x (env i) (sg i).length (sg (i + 1)).length (wrs i)) (infoOf y (env j) (sg j).length (sg (j + 1)).length (wrs j)) = true
  tail : ∀ i j, p0 ≤ i → i < j → n0 ≤ j → j < os.length → Bef ops i j
  lead : ∀ i, i < p0 → sg (i + 1) = sg i ∧ wrs i = []
  ple : p0 ≤ n0
section
variable {P : Program} {orc : Orc} {ops : Array Oper} {os : List AOper} {p0 n0 : Nat} {env : Nat → List D} {sg : Nat → Heap} {wrs : Nat → List Nat}
theorem evOper_frame (O : zaO P orc) {ao : AOper} {e e' : List D} {σ σ' : Heap} {wr : List Nat} (h : evOper P orc ao e σ = some (e', σ', wr)) :
    σ.length ≤ σ'.length ∧ (∀ b, b < σ.length → b ∉ wr → σ'[b]? = σ[b]?) ∧ ∃ d, e' = putE e ao.dst d := by
  unfold evOper at h
  split at h
  · simp only [Option.map_eq_some_iff] at h
    obtain ⟨⟨d, σ1, wr1⟩, hev, h⟩ := h
    simp only [Prod.mk.injEq] at h
    obtain ⟨rfl, rfl, rfl⟩ := h
    obtain ⟨h1, h2⟩ := evOp_frame O hev
    exact ⟨h1, h2, d, rfl⟩
  · simp only [Option.some.injEq, Prod.mk.injEq] at h
    obtain ⟨rfl, rfl, rfl⟩ := h
    exact ⟨Nat.le_refl _, fun _ _ _ => rfl, _, rfl⟩
  · simp at h
theorem Tr.at (T : Tr P orc ops os p0 n0 env sg wrs) {i : Nat} (h : i < os.length) : ∃ ao, os[i]? = some ao := ⟨_, List.getElem?_eq_getElem h⟩
theorem Tr.frame (T : Tr P orc ops os p0 n0 env sg wrs) (O : zaO P orc) {i : Nat} (h : i < os.length) :
    (sg i).length ≤ (sg (i + 1)).length ∧ ∀ b, b < (sg i).length → b ∉ wrs i → (sg (i + 1))[b]? = (sg i)[b]? := by
  obtain ⟨ao, hao⟩ := T.at h
  obtain ⟨h1, h2, _⟩ := evOper_frame O (T.step i ao hao)
  exact ⟨h1, h2⟩
theorem Tr.sz1 (T : Tr P orc ops os p0 n0 env sg wrs) (O : zaO P orc) {i : Nat} (h : i < n0) : SzLe (sg i) (sg (i + 1)) := by
  intro b ob hb
  have hlt := (List.getElem?_eq_some_iff.1 hb).1
  by_cases hw : b ∈ wrs i
  · have := List.all_eq_true.1 (T.wrk i h) b hw
    rw [hb] at this
    split at this
    · rename_i x y h1 h2
      simp only [Option.some.injEq] at h1
      subst h1
      exact ⟨y, h2, (by simpa using this : ob.sz = y.sz).symm⟩
    · simp at this
  · exact ⟨ob, by rw [(T.frame O (Nat.lt_of_lt_of_le h T.le)).2 b hlt hw]; exact hb, rfl⟩
theorem Tr.sz (T : Tr P orc ops os p0 n0 env sg wrs) (O : zaO P orc) {m m' : Nat} (h : m ≤ m') (h' : m' ≤ n0) : SzLe (sg m) (sg m') := by
  induction m' with
  | zero => obtain rfl : m = 0 := by omega
            exact SzLe.refl
  | succ k ih =>
    by_cases e : m = k + 1
    · subst e; exact SzLe.refl
    · intro b ob hb
      obtain ⟨o1, h1, s1⟩ := ih (by omega) (by omega) b ob hb
      obtain ⟨o2, h2, s2⟩ := T.sz1 O (by omega) b o1 h1
      exact ⟨o2, h2, by omega⟩
theorem Tr.len_le (T : Tr P orc ops os p0 n0 env sg wrs) (O : zaO P orc) {m m' : Nat} (h : m ≤ m') (h' : m' ≤ os.length) : (sg m).length ≤ (sg m').length := by
  induction m' with
  | zero => obtain rfl : m = 0 := by omega
            exact Nat.le_refl _
  | succ k ih =>
    by_cases e : m = k + 1
    · subst e; exact Nat.le_refl _
    · exact Nat.le_trans (ih (by omega) (by omega)) (T.frame O (by omega)).1
theorem Tr.stab (T : Tr P orc ops os p0 n0 env sg wrs) (O : zaO P orc) {m m' b : Nat} (h : m ≤ m') (h' : m' ≤ os.length) (hb : b < (sg m).length) (hn : ∀ i, m ≤ i → i < m' → b ∉ wrs i) :
    (sg m')[b]? = (sg m)[b]? := by
  induction m' with
  | zero => obtain rfl : m = 0 := by omega
            rfl
  | succ k ih =>
    by_cases e : m = k + 1
    · subst e; rfl
    · have h1 := ih (by omega) (by omega) (fun i hi hk => hn i hi (by omega))
      rw [← h1]
      exact (T.frame O (by omega)).2 b (Nat.lt_of_lt_of_le hb (T.len_le O (by omega) (by omega))) (hn k (by omega) (by omega))
theorem Tr.envlen (T : Tr P orc ops os p0 n0 env sg wrs) (O : zaO P orc) {m : Nat} (h : m ≤ os.length) : (env m).length = (env 0).length := by
  induction m with
  | zero => rfl
  | succ k ih =>
    obtain ⟨ao, hao⟩ := T.at (i := k) (by omega)
    obtain ⟨_, _, d, hd⟩ := evOper_frame O (T.step k ao hao)
    rw [hd, ← ih (by omega)]
    cases ao.dst <;> simp [putE]
theorem Tr.envstab (T : Tr P orc ops os p0 n0 env sg wrs) (O : zaO P orc) {m m' t : Nat} (h : m ≤ m') (h' : m' ≤ os.length) (hn : ∀ i ao, m ≤ i → i < m' → os[i]? = some ao → ao.dst ≠ some t) :
    (env m')[t]? = (env m)[t]? := by
  induction m' with
  | zero => obtain rfl : m = 0 := by omega
            rfl
  | succ k ih =>
    by_cases e : m = k + 1
    · subst e; rfl
    · rw [← ih (by omega) (by omega) (fun i ao hi hk => hn i ao hi (by omega))]
      obtain ⟨ao, hao⟩ := T.at (i := k) (by omega)
      obtain ⟨_, _, d, hd⟩ := evOper_frame O (T.step k ao hao)
      rw [hd]
      have := hn k ao (by omega) (by omega) hao
      cases hdst : ao.dst with
      | none => rfl
      | some s =>
        simp only [putE]
        rw [List.getElem?_set_ne (fun he => this (by rw [hdst, he]))]
structure Inv (os : List AOper) (n0 : Nat) (env : Nat → List D) (sg : Nat → Heap) (wrs : Nat → List Nat) (M0 : Nat → Option Nat) (Fz0 : Nat → Prop) (w0 : World) (dfr : List Deferred)
    (S : Nat → Prop) (M : Nat → Option Nat) (Fz : Nat → Prop) (w : World) (a : Act) : Prop where
  tsz : a.tmps.size = (env 0).length
  dfr : a.defers = dfr
  tmp : ∀ (t m : Nat), m ≤ n0 → (∀ i o, i < n0 → os[i]? = some o → o.dst = some t → (i < m ↔ S i)) → ∀ d v, (env m)[t]? = some d → a.tmps[t]? = some v → V (sg m) M Fz w d v
  own : ∀ b c, M b = some c → ¬ Fz c ∧ c < w.heap.size ∧ ((b < (sg 0).length ∧ M0 b = some c) ∨ ∃ j, j < n0 ∧ S j ∧ (sg j).length ≤ b ∧ b < (sg (j + 1)).length)
  blk : ∀ b c, M b = some c → ∀ m ob, m ≤ n0 → (sg m)[b]? = some ob → (∀ i, i < n0 → b ∈ wrs i → (i < m ↔ S i)) → ∃ o, w.heap[c]? = some o ∧ ObRel (sg m) M Fz w ob o
  inj : ∀ b b' c, M b = some c → M b' = some c → b = b'
  fz : ∀ c, Fz c → c < w.heap.size
  stp : Stp M0 Fz0 w0 M Fz w
  gl0 : Gl.ok Fz0 w0
theorem Tr.lead_sg (T : Tr P orc ops os p0 n0 env sg wrs) : ∀ m, m ≤ p0 → sg m = sg 0 := by
  intro m
  induction m with
  | zero => intro _; rfl
  | succ m ih => intro h; rw [(T.lead m (by omega)).1, ih (by omega)]
theorem Inv.start {σ : Heap} {M : Nat → Option Nat} {Fz : Nat → Prop} {w : World} {a : Act} (R : Rel σ M Fz w) (hσ : sg 0 = σ) (E : zbb σ M Fz w (env p0) a.tmps) {S : Nat → Prop} (hS : ∀ i, i < os.length → (S i ↔ i < p0))
    (T : Tr P orc ops os p0 n0 env sg wrs) (O : zaO P orc) : Inv os n0 env sg wrs M Fz w a.defers S M Fz w a := {
  tsz := by rw [E.1, T.envlen O (Nat.le_trans T.ple T.le)]
  dfr := rfl
  tmp := fun t m hm hc d v h1 h2 => by
    have hle := T.le
    have hple := T.ple
    have he : (env m)[t]? = (env p0)[t]? := by
      rcases Nat.le_total m p0 with h | h
      · exact (T.envstab O (m := m) (m' := p0) (t := t) h (by omega) (fun i ao hi hip hao hd => by
          have := (hc i ao (by omega) hao hd).2 ((hS i (by omega)).2 hip)
          omega)).symm
      · exact T.envstab O (m := p0) (m' := m) (t := t) h (by omega) (fun i ao hi him hao hd => by
          have := (hS i (by omega)).1 ((hc i ao (by omega) hao hd).1 him)
          omega)
    rw [he] at h1
    have hv : V (sg 0) M Fz w d v := hσ ▸ E.2 t d v h1 h2
    exact hv.ext (T.sz O (Nat.zero_le m) hm) Stp.refl
  own := fun b c h => by
    have hl := R.lt h
    exact ⟨(R.blk b c h).1, hl.2, .inl ⟨by rw [hσ]; exact hl.1, h⟩⟩
  blk := fun b c h m ob hm hob hc => by
    have hl := R.lt h
    have hle := T.le
    have := T.stab O (m := 0) (m' := m) (b := b) (by omega) (Nat.le_trans hm T.le) (by rw [hσ]; exact hl.1) (fun i _ hi hb => by
      have h3 := (hS i (by omega)).1 ((hc i (by omega) hb).1 hi)
      rw [(T.lead i h3).2] at hb
      simp at hb)
    rw [this, hσ] at hob
    obtain ⟨_, ob', o, h1, h2, h3⟩ := R.blk b c h
    rw [hob] at h1
    simp only [Option.some.injEq] at h1
    subst h1
    exact ⟨o, h2, (hσ ▸ h3 : ObRel (sg 0) M Fz w ob o).ext (T.sz O (by omega) hm) Stp.refl⟩
  inj := R.inj
  fz := R.fz
  stp := Stp.refl
  gl0 := R.gl }
theorem Inv.done {M0 M : Nat → Option Nat} {Fz0 Fz : Nat → Prop} {w0 w : World} {a : Act} {dfr : List Deferred} {S : Nat → Prop} (I : Inv os n0 env sg wrs M0 Fz0 w0 dfr S M Fz w a) (T : Tr P orc ops os p0 n0 env sg wrs) (O : zaO P orc)
    (hS : ∀ i, i < n0 → S i) (hdom : ∀ b, M0 b ≠ none → b < (sg 0).length) : Rel (sg n0) M Fz w ∧ zbb (sg n0) M Fz w (env n0) a.tmps ∧ Evo (sg 0) M0 Fz0 w0 (sg n0) M Fz w := by
  refine ⟨⟨fun b c h => ?_, I.inj, I.fz, Gl.mono I.stp.fz I.gl0⟩, ⟨by rw [I.tsz, T.envlen O T.le], fun t d v h1 h2 => I.tmp t n0 (Nat.le_refl _) (fun i _ hi _ _ => ⟨fun _ => hS i hi, fun _ => hi⟩) d v h1 h2⟩, ?_⟩
  · obtain ⟨h1, h2, h3⟩ := I.own b c h
    have hb : b < (sg n0).length := by
      rcases h3 with ⟨h3, _⟩ | ⟨j, hj, _, _, h3⟩
      · exact Nat.lt_of_lt_of_le h3 (T.len_le O (by omega) T.le)
      · exact Nat.lt_of_lt_of_le h3 (T.len_le O (by omega) T.le)
    have hob : (sg n0)[b]? = some (sg n0)[b] := List.getElem?_eq_getElem hb
    obtain ⟨o, h4, h5⟩ := I.blk b c h n0 _ (Nat.le_refl _) hob (fun i hi _ => ⟨fun _ => hS i hi, fun _ => hi⟩)
    exact ⟨h1, _, o, hob, h4, h5⟩
  · refine ⟨I.stp.size, I.stp.frame, fun b c h => ?_, I.stp.fz, fun c h => ?_, I.stp.shp, fun b ob hb => ?_, I.stp.out⟩
    · rcases I.stp.ran b c h with h | h
      · exact .inl ⟨b, h⟩
      · exact .inr h
    · rcases I.stp.fz' c h with h | h
      · exact .inl h
      · exact .inr (.inr h)
    · obtain ⟨ob', h1, h2⟩ := T.sz O (by omega) (Nat.le_refl n0) b ob hb
      refine ⟨ob', h1, by omega, fun _ => ?_⟩
      have hlt := (List.getElem?_eq_some_iff.1 hb).1
      cases hM : M0 b with
      | some c => exact I.stp.ext b c hM
      | none =>
        cases hM' : M b with
        | none => rfl
        | some c =>
          obtain ⟨_, _, h3⟩ := I.own b c hM'
          rcases h3 with ⟨_, h3⟩ | ⟨j, hj, _, h3, _⟩
          · rw [hM] at h3; simp at h3
          · have := T.len_le O (m := 0) (m' := j) (by omega) (by have := T.le; omega)
            omega
end
end Go.Abs
