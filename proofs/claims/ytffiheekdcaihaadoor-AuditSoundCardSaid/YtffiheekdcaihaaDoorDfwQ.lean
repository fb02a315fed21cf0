/- Regions that draw their order: one operation more. -/
import Derived.Test.YtffiheekdcaihaaDoorDfwO
set_option linter.all false
namespace Go.Abs
variable [Gl]
section
variable {P : Program} {orc : Orc} {ops : Array Oper} {os : List AOper} {p0 n0 : Nat} {env : Nat → List D} {sg : Nat → Heap} {wrs : Nat → List Nat}
variable {M0 M M' : Nat → Option Nat} {Fz0 Fz Fz' : Nat → Prop} {w0 w w' : World} {a : Act} {dfr : List Deferred} {S S' : Nat → Prop}
theorem Tr.wr_lt (T : Tr P orc ops os p0 n0 env sg wrs) {i b : Nat} (h : i < n0) (hb : b ∈ wrs i) : b < (sg i).length := by
  have := List.all_eq_true.1 (T.wrk i h) b hb
  split at this
  · rename_i x y h1 h2; exact (List.getElem?_eq_some_iff.1 h1).1
  · simp at this
theorem apart_parts {x y : Info} (h : apart x y = true) :
    (∀ t, x.dst = some t → t ∉ y.rds) ∧ (∀ t, y.dst = some t → t ∉ x.rds) ∧ (∀ t, x.dst = some t → y.dst ≠ some t) ∧ safe x y.wr = true ∧ safe y x.wr = true ∧
      (∀ b ∈ y.wr, ¬ (x.lo ≤ b ∧ b < x.hi)) ∧ (∀ b ∈ x.wr, ¬ (y.lo ≤ b ∧ b < y.hi)) := by
  simp only [apart, Bool.and_eq_true] at h
  obtain ⟨⟨⟨⟨h1, h2⟩, h3⟩, h4, h5⟩, h6, h7⟩ := h
  refine ⟨fun t ht => ?_, fun t ht => ?_, fun t ht hy => ?_, h4, h5, fun b hb => ?_, fun b hb => ?_⟩
  · simp only [disj, ht] at h1; simpa using h1
  · simp only [disj, ht] at h2; simpa using h2
  · simp [ht, hy] at h3
  · have := List.all_eq_true.1 h6 b hb
    simp at this
    omega
  · have := List.all_eq_true.1 h7 b hb
    simp at this
    omega
theorem Tr.other (T : Tr P orc ops os p0 n0 env sg wrs) (hC : Closed ops S) {k i : Nat} {x y : AOper} (hx : os[k]? = some x) (hy : os[i]? = some y) (hne : i ≠ k) (hnS : ¬ S k)
    (hrd : ∀ o e, ops[k]? = some o → e ∈ o.after → Region.binds .any e = true → S e.on) :
    (i < k ∧ S i) ∨ (k < i ∧ ¬ S i) ∨
      ((∀ t, y.dst = some t → t ∉ tmpsOf x) ∧ (∀ t, x.dst = some t → y.dst ≠ some t) ∧
        safe (infoOf x (env k) (sg k).length (sg (k + 1)).length (wrs k)) (wrs i) = true ∧ safe (infoOf y (env i) (sg i).length (sg (i + 1)).length (wrs i)) (wrs k) = true ∧
        (∀ b ∈ wrs i, ¬ ((sg k).length ≤ b ∧ b < (sg (k + 1)).length))) := by
  rcases Nat.lt_or_gt_of_ne hne with h | h
  · rcases T.pair i k y x h hy hx with hb | hb
    · exact .inl ⟨h, hb.ready hC hrd⟩
    · obtain ⟨h1, _, h3, h4, h5, _, h7⟩ := apart_parts hb
      exact .inr (.inr ⟨h1, fun t ht hy' => h3 t hy' ht, h5, h4, h7⟩)
  · rcases T.pair k i x y h hx hy with hb | hb
    · exact .inr (.inl ⟨h, fun hS => hnS (hb.in hC hS)⟩)
    · obtain ⟨_, h2, h3, h4, h5, h6, _⟩ := apart_parts hb
      exact .inr (.inr ⟨h2, h3, h4, h5, h6⟩)
theorem Inv.next (I : Inv os n0 env sg wrs M0 Fz0 w0 dfr S M Fz w a) (T : Tr P orc ops os p0 n0 env sg wrs) (O : zaO P orc) (hC : Closed ops S) {k : Nat} {ao : AOper} {d : D} {v : Value} (hk : k < n0) (hao : os[k]? = some ao) (hnS : ¬ S k)
    (hrd : ∀ o e, ops[k]? = some o → e ∈ o.after → Region.binds .any e = true → S e.on) (hS' : ∀ i, S' i ↔ S i ∨ i = k) (st : Stp M Fz w M' Fz' w') (henv : env (k + 1) = putE (env k) ao.dst d)
    (hv : V (sg (k + 1)) M' Fz' w' d v) (hinj : ∀ b b' c, M' b = some c → M' b' = some c → b = b') (hfz : ∀ c, Fz' c → c < w'.heap.size)
    (hown : ∀ b c, M' b = some c → ¬ Fz' c ∧ c < w'.heap.size ∧ (M b = some c ∨ ((sg k).length ≤ b ∧ b < (sg (k + 1)).length)))
    (hblk : ∀ b c, M' b = some c → ∀ m ob, m ≤ n0 → (sg m)[b]? = some ob → (∀ i, i < n0 → b ∈ wrs i → (i < m ↔ S' i)) → ∃ o, w'.heap[c]? = some o ∧ ObRel (sg m) M' Fz' w' ob o) :
    Inv os n0 env sg wrs M0 Fz0 w0 dfr S' M' Fz' w' (a.put ao.dst v) := {
  tsz := by
    rw [← I.tsz]
    cases ao.dst <;> simp [Act.put]
  dfr := by
    rw [← I.dfr]
    cases ao.dst <;> rfl
  tmp := fun t m hm hc d' v' h1 h2 => by
    by_cases ht : ao.dst = some t
    · have hkm : k < m := (hc k ao hk hao ht).2 ((hS' k).2 (.inr rfl))
      have hst := T.envstab O (m := k + 1) (m' := m) (t := t) (by omega) (Nat.le_trans hm T.le) (fun i x hi him hx hd => by
        have hSi := (hc i x (by omega) hx hd).1 him
        rcases (hS' i).1 hSi with hSi | hSi
        · rcases T.other hC hao hx (by omega) hnS hrd with ⟨h, _⟩ | ⟨_, h⟩ | ⟨_, h, _⟩
          · omega
          · exact h hSi
          · exact h t ht hd
        · omega)
      rw [hst, henv, ht] at h1
      rw [ht] at h2
      simp only [putE, List.getElem?_set] at h1
      simp only [Act.put, Array.getElem?_setIfInBounds] at h2
      simp only [if_true] at h1 h2
      split at h1
      · rename_i hlt
        rw [if_pos (by rw [I.tsz, ← T.envlen O (m := k) (by have := T.le; omega)]; exact hlt)] at h2
        simp only [Option.some.injEq] at h1 h2
        subst h1 h2
        exact hv.ext (T.sz O (by omega) hm) Stp.refl
      · simp at h1
    · have h2' : a.tmps[t]? = some v' := by
        cases hd : ao.dst with
        | none => rw [hd] at h2; exact h2
        | some s =>
          rw [hd] at h2
          simp only [Act.put, Array.getElem?_setIfInBounds] at h2
          rw [if_neg (fun e => ht (by rw [hd, e]))] at h2
          exact h2
      refine (I.tmp t m hm (fun i o hi ho hd => ?_) d' v' h1 h2').ext SzLe.refl st
      rw [hc i o hi ho hd, hS' i]
      constructor
      · rintro (h | rfl)
        · exact h
        · rw [hao] at ho
          simp only [Option.some.injEq] at ho
          subst ho
          exact absurd hd ht
      · exact .inl
  own := fun b c h => by
    obtain ⟨h1, h2, h3⟩ := hown b c h
    refine ⟨h1, h2, ?_⟩
    rcases h3 with h3 | h3
    · rcases (I.own b c h3).2.2 with h4 | ⟨j, hj, hSj, h4⟩
      · exact .inl h4
      · exact .inr ⟨j, hj, (hS' j).2 (.inl hSj), h4⟩
    · exact .inr ⟨k, hk, (hS' k).2 (.inr rfl), h3⟩
  blk := hblk
  inj := hinj
  fz := hfz
  stp := I.stp.trans st
  gl0 := I.gl0 }
theorem Inv.light (I : Inv os n0 env sg wrs M0 Fz0 w0 dfr S M Fz w a) (T : Tr P orc ops os p0 n0 env sg wrs) (O : zaO P orc) (hC : Closed ops S) {k : Nat} {ao : AOper} {d : D} {v : Value} (hk : k < n0) (hao : os[k]? = some ao) (hnS : ¬ S k)
    (hrd : ∀ o e, ops[k]? = some o → e ∈ o.after → Region.binds .any e = true → S e.on) (hS' : ∀ i, S' i ↔ S i ∨ i = k) (henv : env (k + 1) = putE (env k) ao.dst d)
    (hsg : sg (k + 1) = sg k) (hwr : wrs k = []) (hv : V (sg k) M Fz w d v) : Inv os n0 env sg wrs M0 Fz0 w0 dfr S' M Fz w (a.put ao.dst v) := by
  refine I.next T O hC hk hao hnS hrd hS' Stp.refl henv (hsg ▸ hv) I.inj I.fz (fun b c h => ⟨(I.own b c h).1, (I.own b c h).2.1, .inl h⟩) (fun b c h m ob hm hob hc => ?_)
  refine I.blk b c h m ob hm hob (fun i hi hb => ?_)
  rw [hc i hi hb, hS' i]
  constructor
  · rintro (h | rfl)
    · exact h
    · rw [hwr] at hb; simp at hb
  · exact .inl
theorem Inv.alloc (I : Inv os n0 env sg wrs M0 Fz0 w0 dfr S M Fz w a) (T : Tr P orc ops os p0 n0 env sg wrs) (O : zaO P orc) (hC : Closed ops S) {k : Nat} {ao : AOper} {d : D} {v : Value} {ob : Ob} {o : Obj} (hk : k < n0) (hao : os[k]? = some ao) (hnS : ¬ S k)
    (hrd : ∀ o e, ops[k]? = some o → e ∈ o.after → Region.binds .any e = true → S e.on) (hS' : ∀ i, S' i ↔ S i ∨ i = k) (henv : env (k + 1) = putE (env k) ao.dst d)
    (hsg : sg (k + 1) = sg k ++ [ob]) (hwr : wrs k = []) (hob : ObRel (sg k ++ [ob]) (upM M (sg k).length w.heap.size) Fz (w.alloc o) ob o)
    (hv : V (sg k ++ [ob]) (upM M (sg k).length w.heap.size) Fz (w.alloc o) d v) : Inv os n0 env sg wrs M0 Fz0 w0 dfr S' (upM M (sg k).length w.heap.size) Fz (w.alloc o) (a.put ao.dst v) := by
  have hfresh : M (sg k).length = none := by
    cases h : M (sg k).length with
    | none => rfl
    | some c =>
      rcases (I.own _ c h).2.2 with ⟨h1, _⟩ | ⟨j, hj, hSj, h1, h2⟩
      · have := T.len_le O (m := 0) (m' := k) (by omega) (by have := T.le; omega); omega
      · have hle := T.le
        rcases Nat.lt_trichotomy j k with h3 | h3 | h3
        · have := T.len_le O (m := j + 1) (m' := k) (by omega) (by omega); omega
        · subst h3; exact absurd hSj hnS
        · have := T.len_le O (m := k + 1) (m' := j) (by omega) (by omega)
          rw [hsg] at this
          simp at this
          omega
  have st : Stp M Fz w (upM M (sg k).length w.heap.size) Fz (w.alloc o) := by
    refine ⟨by simp, fun c hc _ => heap_alloc_old w o c hc, fun b c h => ?_, fun b c h => ?_, fun c h => ⟨h, heap_alloc_old w o c (I.fz c h)⟩, fun c h => .inl h,
      fun c arr T fr h => ⟨arr, by rw [heap_alloc_old w o c (Array.getElem?_eq_some_iff.1 h).1]; exact h, rfl⟩, ⟨rfl, rfl, rfl⟩⟩
    · unfold upM
      rw [if_neg (fun e => by rw [e, hfresh] at h; simp at h)]
      exact h
    · unfold upM at h
      split at h
      · simp only [Option.some.injEq] at h; exact .inr (by omega)
      · exact .inl h
  have hpart : ∀ b c, upM M (sg k).length w.heap.size b = some c → (b = (sg k).length ∧ c = w.heap.size) ∨ M b = some c := by
    intro b c h
    unfold upM at h
    split at h
    · simp only [Option.some.injEq] at h; exact .inl ⟨‹_›, h.symm⟩
    · exact .inr h
  refine I.next T O hC hk hao hnS hrd hS' st henv (hsg ▸ hv) (fun b b' c h h' => ?_) (fun c h => by have := I.fz c h; simp; omega) (fun b c h => ?_) (fun b c h m ob' hm hob' hc => ?_)
  · rcases hpart b c h with ⟨rfl, rfl⟩ | h1 <;> rcases hpart b' _ h' with ⟨rfl, h2⟩ | h2
    · rfl
    · have := (I.own _ _ h2).2.1; omega
    · have := (I.own _ _ h1).2.1; omega
    · exact I.inj b b' c h1 h2
  · rcases hpart b c h with ⟨rfl, rfl⟩ | h1
    · exact ⟨fun hf => by have := I.fz _ hf; omega, by simp, .inr ⟨Nat.le_refl _, by rw [hsg]; simp⟩⟩
    · obtain ⟨h2, h3, _⟩ := I.own b c h1
      exact ⟨h2, by simp; omega, .inl h1⟩
  · rcases hpart b c h with ⟨rfl, rfl⟩ | h1
    · have hkm : k < m := by
        rcases Nat.lt_or_ge k m with h | h
        · exact h
        · have h1 := T.len_le O h (by have := T.le; omega)
          have h2 := (List.getElem?_eq_some_iff.1 hob').1
          omega
      have hst := T.stab O (m := k + 1) (m' := m) (b := (sg k).length) (by omega) (Nat.le_trans hm T.le) (by rw [hsg]; simp) (fun i hi him hb => by
        have hSi := (hc i (by omega) hb).1 him
        rcases (hS' i).1 hSi with hSi | hSi
        · obtain ⟨y, hy⟩ := T.at (i := i) (by have := T.le; omega)
          rcases T.other hC hao hy (by omega) hnS hrd with ⟨h, _⟩ | ⟨_, h⟩ | ⟨_, _, _, _, h⟩
          · omega
          · exact h hSi
          · exact h _ hb ⟨Nat.le_refl _, by rw [hsg]; simp⟩
        · omega)
      rw [hst, hsg] at hob'
      simp at hob'
      subst hob'
      refine ⟨o, heap_alloc_new w o, hob.ext ?_ Stp.refl⟩
      rw [← hsg]
      exact T.sz O (by omega) hm
    · obtain ⟨o', h2, h3⟩ := I.blk b c h1 m ob' hm hob' (fun i hi hb => by
        rw [hc i hi hb, hS' i]
        constructor
        · rintro (h | rfl)
          · exact h
          · rw [hwr] at hb; simp at hb
        · exact .inl)
      exact ⟨o', by rw [heap_alloc_old w o c (I.own b c h1).2.1]; exact h2, h3.ext SzLe.refl st⟩
end
end Go.Abs
