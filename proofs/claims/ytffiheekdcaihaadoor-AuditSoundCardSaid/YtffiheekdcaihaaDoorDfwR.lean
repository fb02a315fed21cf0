/- Regions that draw their order: calls and stores; all together. -/
import Derived.Test.YtffiheekdcaihaaDoorDfwQ
set_option linter.all false
namespace Go.Abs
variable [Gl]
section
variable {P : Program} {orc : Orc} {ops : Array Oper} {os : List AOper} {p0 n0 : Nat} {env : Nat → List D} {sg : Nat → Heap} {wrs : Nat → List Nat}
variable {M0 M M' : Nat → Option Nat} {Fz0 Fz Fz' : Nat → Prop} {w0 w w' : World} {a : Act} {dfr : List Deferred} {S S' : Nat → Prop}
theorem Tr.heavy (T : Tr P orc ops os p0 n0 env sg wrs) (hC : Closed ops S) {k i : Nat} {x : AOper} (hk : k < n0) (hx : os[k]? = some x) (hnS : ¬ S k)
    (hrd : ∀ o e, ops[k]? = some o → e ∈ o.after → Region.binds .any e = true → S e.on) (hcat : (infoOf x (env k) (sg k).length (sg (k + 1)).length (wrs k)).cat = 3) (hi : i < n0) (hw : wrs i ≠ []) (hne : i ≠ k) :
    (i < k ∧ S i) ∨ (k < i ∧ ¬ S i) := by
  obtain ⟨y, hy⟩ := T.at (i := i) (by have := T.le; omega)
  rcases T.other hC hx hy hne hnS hrd with h | h | ⟨_, _, h, _⟩
  · exact .inl h
  · exact .inr h
  · simp only [safe, hcat] at h
    simp at h
    exact absurd h hw
theorem Inv.rel (I : Inv os n0 env sg wrs M0 Fz0 w0 dfr S M Fz w a) (T : Tr P orc ops os p0 n0 env sg wrs) (hC : Closed ops S) {k : Nat} {x : AOper} (hk : k < n0) (hx : os[k]? = some x) (hnS : ¬ S k)
    (hrd : ∀ o e, ops[k]? = some o → e ∈ o.after → Region.binds .any e = true → S e.on) (hcat : (infoOf x (env k) (sg k).length (sg (k + 1)).length (wrs k)).cat = 3) :
    Rel (sg k) (cutM M (sg k).length) Fz w := {
  blk := fun b c h => by
    unfold cutM at h
    split at h
    · rename_i hb
      have hob : (sg k)[b]? = some (sg k)[b] := List.getElem?_eq_getElem hb
      obtain ⟨o, h1, h2⟩ := I.blk b c h k _ (by omega) hob (fun i hi hbw => by
        by_cases hne : i = k
        · subst hne; exact ⟨fun h => by omega, fun h => absurd h hnS⟩
        · rcases T.heavy hC hk hx hnS hrd hcat hi (fun he => by rw [he] at hbw; simp at hbw) hne with ⟨h1, h2⟩ | ⟨h1, h2⟩
          · exact ⟨fun _ => h2, fun _ => h1⟩
          · exact ⟨fun h => by omega, fun h => absurd h h2⟩)
      exact ⟨(I.own b c h).1, _, o, hob, h1, h2.cut⟩
    · simp at h
  inj := fun b b' c h h' => by
    unfold cutM at h h'
    split at h
    · split at h'
      · exact I.inj b b' c h h'
      · simp at h'
    · simp at h
  fz := I.fz
  gl := Gl.mono I.stp.fz I.gl0 }
theorem Inv.heavy (I : Inv os n0 env sg wrs M0 Fz0 w0 dfr S M Fz w a) (T : Tr P orc ops os p0 n0 env sg wrs) (O : zaO P orc) (hC : Closed ops S) {k : Nat} {ao : AOper} {d : D} {v : Value} {M1 : Nat → Option Nat} {Fz1 : Nat → Prop} {w1 : World} (hk : k < n0) (hao : os[k]? = some ao) (hnS : ¬ S k)
    (hrd : ∀ o e, ops[k]? = some o → e ∈ o.after → Region.binds .any e = true → S e.on) (hS' : ∀ i, S' i ↔ S i ∨ i = k) (henv : env (k + 1) = putE (env k) ao.dst d)
    (hcat : (infoOf ao (env k) (sg k).length (sg (k + 1)).length (wrs k)).cat = 3) (R1 : Rel (sg (k + 1)) M1 Fz1 w1) (hv : V (sg (k + 1)) M1 Fz1 w1 d v) (EV : Evo (sg k) (cutM M (sg k).length) Fz w (sg (k + 1)) M1 Fz1 w1) :
    ∃ M', Inv os n0 env sg wrs M0 Fz0 w0 dfr S' M' Fz1 w1 (a.put ao.dst v) := by
  have hle := T.le
  have hL := (T.frame O (i := k) (by omega)).1
  -- old blocks keep their places
  have f1 : ∀ b, b < (sg k).length → M1 b = M b := by
    intro b hb
    obtain ⟨ob', h1, _, h2⟩ := EV.keep b _ (List.getElem?_eq_getElem hb)
    obtain ⟨ob2, h3, h4⟩ := T.sz1 O hk b _ (List.getElem?_eq_getElem hb)
    rw [h1] at h3
    simp only [Option.some.injEq] at h3
    subst h3
    rw [h2 h4]
    simp only [cutM, if_pos hb]
  have f2 : ∀ b, (sg k).length ≤ b → b < (sg (k + 1)).length → M b = none := by
    intro b h1 h2
    cases h : M b with
    | none => rfl
    | some c =>
      rcases (I.own b c h).2.2 with ⟨h3, _⟩ | ⟨j, hj, hSj, h3, h4⟩
      · have := T.len_le O (m := 0) (m' := k) (by omega) (by omega); omega
      · rcases Nat.lt_trichotomy j k with h5 | h5 | h5
        · have := T.len_le O (m := j + 1) (m' := k) (by omega) (by omega); omega
        · subst h5; exact absurd hSj hnS
        · have := T.len_le O (m := k + 1) (m' := j) (by omega) (by omega); omega
  have f3 : ∀ b c, M1 b = some c → b < (sg k).length ∨ w.heap.size ≤ c := by
    intro b c h
    by_cases hb : b < (sg k).length
    · exact .inl hb
    · right
      rcases EV.ran b c h with ⟨b0, h0⟩ | h0
      · exfalso
        unfold cutM at h0
        split at h0
        · rename_i hb0
          have := R1.inj b b0 c h (by rw [f1 b0 hb0]; exact h0)
          omega
        · simp at h0
      · exact h0
  let M' : Nat → Option Nat := fun b => if b < (sg (k + 1)).length then M1 b else M b
  have hM1 : ∀ b, b < (sg (k + 1)).length → M' b = M1 b := fun b h => by simp only [M', if_pos h]
  have hM2 : ∀ b, ¬ b < (sg (k + 1)).length → M' b = M b := fun b h => by simp only [M', if_neg h]
  have sub1 : ∀ b c, M1 b = some c → M' b = some c := fun b c h => by rw [hM1 b (R1.lt h).1]; exact h
  have fz' : ∀ c, Fz1 c → Fz c ∨ w.heap.size ≤ c := by
    intro c h
    rcases EV.fz' c h with h | ⟨b, h1⟩ | h
    · exact .inl h
    · exfalso
      unfold cutM at h1
      split at h1
      · rename_i hb
        exact (R1.blk b c (by rw [f1 b hb]; exact h1)).1 h
      · simp at h1
    · exact .inr h
  have st : Stp M Fz w M' Fz1 w1 := by
    refine ⟨EV.size, fun c hc hn => EV.frame c hc (fun b hb => ?_), fun b c h => ?_, fun b c h => ?_, EV.fz, fz', EV.shp, EV.out⟩
    · unfold cutM at hb
      split at hb
      · exact hn b hb
      · simp at hb
    · by_cases h1 : b < (sg k).length
      · rw [hM1 b (by omega), f1 b h1]; exact h
      · by_cases h2 : b < (sg (k + 1)).length
        · rw [f2 b (by omega) h2] at h; simp at h
        · rw [hM2 b h2]; exact h
    · by_cases h2 : b < (sg (k + 1)).length
      · rw [hM1 b h2] at h
        rcases f3 b c h with h3 | h3
        · rw [f1 b h3] at h; exact .inl h
        · exact .inr h3
      · rw [hM2 b h2] at h; exact .inl h
  refine ⟨M', I.next T O hC hk hao hnS hrd hS' st henv (hv.sub SzLe.refl sub1 (fun c h => ⟨h, rfl⟩) (fun c arr T fr h => ⟨arr, h, rfl⟩)) (fun b b' c h h' => ?_) R1.fz (fun b c h => ?_) (fun b c h m ob hm hob hc => ?_)⟩
  · have mixed : ∀ b b', b < (sg (k + 1)).length → ¬ b' < (sg (k + 1)).length → M' b = some c → M' b' = some c → b = b' := by
      intro b b' h1 h2 h3 h4
      rw [hM1 b h1] at h3
      rw [hM2 b' h2] at h4
      rcases f3 b c h3 with h5 | h5
      · rw [f1 b h5] at h3; exact I.inj b b' c h3 h4
      · have := (I.own b' c h4).2.1; omega
    by_cases h1 : b < (sg (k + 1)).length
    · by_cases h2 : b' < (sg (k + 1)).length
      · rw [hM1 b h1] at h; rw [hM1 b' h2] at h'; exact R1.inj b b' c h h'
      · exact mixed b b' h1 h2 h h'
    · by_cases h2 : b' < (sg (k + 1)).length
      · exact (mixed b' b h2 h1 h' h).symm
      · rw [hM2 b h1] at h; rw [hM2 b' h2] at h'; exact I.inj b b' c h h'
  · by_cases h1 : b < (sg (k + 1)).length
    · rw [hM1 b h1] at h
      refine ⟨(R1.blk b c h).1, (R1.lt h).2, ?_⟩
      by_cases h2 : b < (sg k).length
      · rw [f1 b h2] at h; exact .inl h
      · exact .inr ⟨by omega, h1⟩
    · rw [hM2 b h1] at h
      obtain ⟨h2, h3, _⟩ := I.own b c h
      refine ⟨fun hf => ?_, Nat.lt_of_lt_of_le h3 EV.size, .inl h⟩
      rcases fz' c hf with h4 | h4
      · exact h2 h4
      · omega
  · have hcS : b ∉ wrs k → ∀ i, i < n0 → b ∈ wrs i → (i < m ↔ S i) := by
      intro hbk i hi hb
      rw [hc i hi hb, hS' i]
      constructor
      · rintro (h | rfl)
        · exact h
        · exact absurd hb hbk
      · exact .inl
    by_cases h1 : b < (sg (k + 1)).length
    · rw [hM1 b h1] at h
      have hheavy : ∀ i, i < n0 → b ∈ wrs i → i ≠ k → (i < k ∧ S i) ∨ (k < i ∧ ¬ S i) := fun i hi hb hne => T.heavy hC hk hao hnS hrd hcat hi (fun he => by rw [he] at hb; simp at hb) hne
      obtain ⟨_, ob1, o1, h2, h3, h4⟩ := R1.blk b c h
      by_cases hkm : k < m
      · have hst := T.stab O (m := k + 1) (m' := m) (b := b) (by omega) (Nat.le_trans hm T.le) h1 (fun i hi him hb => by
          have hSi := (hc i (by omega) hb).1 him
          rcases (hS' i).1 hSi with hSi | hSi
          · rcases hheavy i (by omega) hb (by omega) with ⟨h5, _⟩ | ⟨_, h5⟩
            · omega
            · exact h5 hSi
          · omega)
        rw [hst, h2] at hob
        simp only [Option.some.injEq] at hob
        subst hob
        exact ⟨o1, h3, h4.sub (T.sz O (by omega) hm) sub1⟩
      · have hbm := (List.getElem?_eq_some_iff.1 hob).1
        have hbk : b ∉ wrs k := fun hb => hkm ((hc k hk hb).2 ((hS' k).2 (.inr rfl)))
        have hst := T.stab O (m := m) (m' := k + 1) (b := b) (by omega) (by omega) hbm (fun i hi him hb => by
          by_cases hik : i = k
          · subst hik; exact hbk hb
          · have hnSi : ¬ S i := fun hSi => by have := (hc i (by omega) hb).2 ((hS' i).2 (.inl hSi)); omega
            rcases hheavy i (by omega) hb hik with ⟨_, h5⟩ | ⟨h5, _⟩
            · exact hnSi h5
            · omega)
        rw [hst, hob] at h2
        simp only [Option.some.injEq] at h2
        subst h2
        have hbL : b < (sg k).length := Nat.lt_of_lt_of_le hbm (T.len_le O (by omega) (by omega))
        rw [f1 b hbL] at h
        obtain ⟨o0, _, h5⟩ := I.blk b c h m ob hm hob (hcS hbk)
        exact ⟨o1, h3, (h4.down (T.sz O (by omega) (by omega)) h5).sub SzLe.refl sub1⟩
    · rw [hM2 b h1] at h
      have hbk : b ∉ wrs k := fun hb => by have := T.wr_lt hk hb; omega
      obtain ⟨o, h2, h3⟩ := I.blk b c h m ob hm hob (hcS hbk)
      refine ⟨o, ?_, h3.ext SzLe.refl st⟩
      rw [EV.frame c (I.own b c h).2.1 (fun b0 h0 => ?_)]
      · exact h2
      · unfold cutM at h0
        split at h0
        · rename_i hb0
          have := I.inj b0 b c h0 h
          omega
        · simp at h0
def maskE (T : List Nat) (e : List D) : List D := e.mapIdx fun i d => if T.contains i then d else .any
theorem maskE_get {T : List Nat} {e : List D} {i : Nat} : (maskE T e)[i]? = (e[i]?).map fun d => if T.contains i then d else .any := by
  simp [maskE, List.getElem?_mapIdx]
theorem maskE_ev {T : List Nat} {e : List D} {x : Opd} (h : ∀ n, x = .t n → n ∈ T) : x.ev (maskE T e) = x.ev e := by
  cases x with
  | k d => rfl
  | t n =>
    simp only [Opd.ev, maskE_get]
    have : n ∈ T := h n rfl
    cases e[n]? <;> simp [this]
theorem Inv.step (I : Inv os n0 env sg wrs M0 Fz0 w0 dfr S M Fz w a) (T : Tr P orc ops os p0 n0 env sg wrs) (O : zaO P orc) (hC : Closed ops S) {k : Nat} {Q : Exit → Act → World → Prop} (hk : k < n0) (hnS : ¬ S k)
    (hrd : ∀ o e, ops[k]? = some o → e ∈ o.after → Region.binds .any e = true → S e.on) (hS' : ∀ i, S' i ↔ S i ∨ i = k) (K : Act → World → Prop)
    (hK : ∀ a' w' M' Fz', Inv os n0 env sg wrs M0 Fz0 w0 dfr S' M' Fz' w' a' → K a' w') : wpOp P ops Q k K a w := by
  have hle := T.le
  obtain ⟨ao, hao⟩ := T.at (i := k) (by omega)
  obtain ⟨o, ho, hco⟩ := T.comp k ao hao
  have hstep := T.step k ao hao
  have hE : zbb (sg k) M Fz w (maskE (tmpsOf ao) (env k)) a.tmps := by
    refine ⟨by rw [I.tsz, ← T.envlen O (m := k) (by omega)]; simp [maskE], fun i d v h1 h2 => ?_⟩
    rw [maskE_get] at h1
    simp only [Option.map_eq_some_iff] at h1
    obtain ⟨d0, h3, h4⟩ := h1
    by_cases ht : (tmpsOf ao).contains i = true
    · rw [if_pos ht] at h4
      subst h4
      refine I.tmp i k (by omega) (fun j x hj hx hd => ?_) d0 v h3 h2
      by_cases hjk : j = k
      · subst hjk; exact ⟨fun h => by omega, fun h => absurd h hnS⟩
      · rcases T.other hC hao hx hjk hnS hrd with ⟨h5, h6⟩ | ⟨h5, h6⟩ | ⟨h5, _⟩
        · exact ⟨fun _ => h6, fun _ => h5⟩
        · exact ⟨fun h => by omega, fun h => absurd h h6⟩
        · exact absurd (by simpa using ht) (h5 i hd)
    · rw [if_neg ht] at h4
      subst h4
      exact .any v
  have hgm : wantE (maskE (tmpsOf ao) (env k)) ao.g = wantE (env k) ao.g := by
    cases hg : ao.g with
    | none => rfl
    | some p =>
      obtain ⟨t, want⟩ := p
      have : (tmpsOf ao).contains t = true := by simp [tmpsOf, hg]
      simp only [wantE, maskE_get, this, if_true]
      cases (env k)[t]? <;> rfl
  unfold compOper at hco
  split at hco
  · rename_i g ao' hg hcomp
    simp only [Option.some.injEq] at hco
    subst hco
    simp only at hstep hgm hE
    have hcong : zbY P orc ao' (maskE (tmpsOf ⟨o.dst, ao', g⟩) (env k)) (sg k) = zbY P orc ao' (env k) (sg k) := by
      refine evOp_congr (comp_notSelect hcomp) (fun x hx => maskE_ev (fun n hn => ?_))
      subst hn
      simp only [tmpsOf, List.mem_append, List.mem_filterMap]
      exact .inl ⟨.t n, hx, rfl⟩
    unfold evOper at hstep
    split at hstep
    · rename_i hw
      simp only at hw
      have hwant := want_ok (σ := sg k) (M := M) (Fz := Fz) (w := w) (ops := ops) (o := o) hE hg (by rw [hgm]; exact hw)
      simp only [Option.map_eq_some_iff] at hstep
      obtain ⟨⟨d, σ1, wr1⟩, hev, h⟩ := hstep
      simp only [Prod.mk.injEq] at h
      obtain ⟨henv, hsg, hwr⟩ := h
      subst hsg hwr
      have hcatk : (infoOf ⟨o.dst, ao', g⟩ (env k) (sg k).length (sg (k + 1)).length (wrs k)).cat = cat ao' := by simp only [infoOf, hw]
      unfold wpOp
      rw [ho]
      simp only [hwant, if_true]
      left
      have heavy : cat ao' = 3 → o.wp P a w K Q := by
        intro hc3
        have R := I.rel T hC hk hao hnS hrd (by rw [hcatk]; exact hc3)
        have hE' : zbb (sg k) (cutM M (sg k).length) Fz w (maskE (tmpsOf ⟨o.dst, ao', g⟩) (env k)) a.tmps := ⟨hE.1, fun i d v h1 h2 => (hE.2 i d v h1 h2).cut⟩
        refine op_wp O R hE' hcomp (by rw [hcong]; exact hev) K fun v w1 M1 Fz1 R1 hv EV _ => ?_
        obtain ⟨M', hI⟩ := I.heavy (ao := ⟨o.dst, ao', g⟩) T O hC hk hao hnS hrd hS' henv.symm (by rw [hcatk]; exact hc3) R1 hv EV
        exact hK _ _ M' Fz1 hI
      rcases comp_inv hcomp with ⟨f, args, ats, of, os', _, _, _, rfl⟩ | ⟨hc0, hcall, _⟩
      · exact heavy rfl
      · have hev' : zbY P orc ao' (maskE (tmpsOf ⟨o.dst, ao', g⟩) (env k)) (sg k) = some (d, sg (k + 1), wrs k) := by rw [hcong]; exact hev
        have out := evOp_out (M := M) (Fz := Fz) (w := w) hE hc0 hcall hev'
        generalize hsk : sg (k + 1) = s1 at out
        generalize hwk : wrs k = w1 at out
        cases out with
        | y _ hy =>
          obtain ⟨v, hr, hv⟩ := hy
          unfold Oper.wp
          rw [hr]
          exact hK _ _ M Fz (I.light (ao := ⟨o.dst, ao', g⟩) T O hC hk hao hnS hrd hS' henv.symm hsk hwk hv)
        | l hc1 hσ hy =>
          obtain ⟨v, hr, hv⟩ := hy (fun b off sz c cs hat hM hb => by
            obtain ⟨o', h1, h2⟩ := I.blk b c hM k _ (by omega) hb (fun i hi hbw => by
              by_cases hne : i = k
              · subst hne; exact ⟨fun h => by omega, fun h => absurd h hnS⟩
              · obtain ⟨y, hy⟩ := T.at (i := i) (by omega)
                rcases T.other hC hao hy hne hnS hrd with ⟨h5, h6⟩ | ⟨h5, h6⟩ | ⟨_, _, h5, _⟩
                · exact ⟨fun _ => h6, fun _ => h5⟩
                · exact ⟨fun h => by omega, fun h => absurd h h6⟩
                · exfalso
                  have hblk : (infoOf ⟨o.dst, ao', g⟩ (env k) (sg k).length (sg (k + 1)).length (wrs k)).blk = some b := by
                    have : ox1 ao' (env k) = ox1 ao' (maskE (tmpsOf ⟨o.dst, ao', g⟩) (env k)) := by
                      cases ao' with
                      | load n x =>
                        simp only [ox1]
                        exact (maskE_ev (fun n hn => by subst hn; simp [tmpsOf, zc2])).symm
                      | _ => rfl
                    simp only [infoOf, this, hat]
                  simp only [safe, hcatk, hc1, hblk] at h5
                  simp at h5
                  rcases h5 with h5 | h5
                  · rw [h5] at hbw; simp at hbw
                  · exact h5 hbw)
            obtain ⟨arr, T', rfl, h3, h4⟩ := h2
            exact ⟨arr, T', h1, h3, h4⟩)
          unfold Oper.wp
          rw [hr]
          exact hK _ _ M Fz (I.light (ao := ⟨o.dst, ao', g⟩) T O hC hk hao hnS hrd hS' henv.symm (by rw [hsk, hσ]) hwk hv)
        | a _ hy =>
          obtain ⟨ob', v, hr, h1, hv⟩ := hy I.fz
          unfold Oper.wp
          rw [hr]
          exact hK _ _ _ Fz (I.alloc (ao := ⟨o.dst, ao', g⟩) T O hC hk hao hnS hrd hS' henv.symm hsk hwk h1 hv)
        | g hc3 _ => exact heavy hc3
    · rename_i hw
      simp only at hw
      have hwant := want_ok (σ := sg k) (M := M) (Fz := Fz) (w := w) (ops := ops) (o := o) hE hg (by rw [hgm]; exact hw)
      simp only [Option.some.injEq, Prod.mk.injEq] at hstep
      obtain ⟨henv, hsg, hwr⟩ := hstep
      unfold wpOp
      rw [ho]
      simp only [hwant, Bool.false_eq_true, if_false]
      exact hK _ _ M Fz (I.light (ao := ⟨o.dst, ao', g⟩) T O hC hk hao hnS hrd hS' henv.symm hsg.symm hwr.symm V.undef)
    · simp at hstep
  · simp at hco
end
end Go.Abs
