/- Freezing, and functions, soundly. -/
import Derived.Test.YtffiheekdcaihaaDoorDfwT
set_option linter.all false
namespace Go.Abs
variable [Gl]
section
variable {P : Program} {σ σ0 : Heap} {M M0 : Nat → Option Nat} {Fz Fz0 : Nat → Prop} {w w0 : World}
def frzF (M : Nat → Option Nat) (Fz : Nat → Prop) (n : Nat) : Nat → Prop := fun c => Fz c ∨ ∃ b, n ≤ b ∧ M b = some c
theorem chunks_len (n : Nat) : ∀ (k : Nat) (l : List C), (chunks n k l).length = k := by
  intro k
  induction k with
  | zero => intro l; rfl
  | succ k ih => intro l; simp [chunks, ih]
theorem chunks_get {n : Nat} : ∀ (k : Nat) (l : List C), l.length = k * n → ∀ (i : Nat) e, (chunks n k l)[i]? = some e → e.length = n ∧ ∀ (j : Nat), j < n → e[j]? = l[i * n + j]? := by
  intro k
  induction k with
  | zero => intro l _ i e h; simp [chunks] at h
  | succ k ih =>
    intro l hl i e h
    rw [Nat.succ_mul] at hl
    cases i with
    | zero =>
      simp only [chunks, List.getElem?_cons_zero, Option.some.injEq] at h
      subst h
      refine ⟨by simp; omega, fun j hj => ?_⟩
      rw [List.getElem?_take_of_lt hj]
      simp
    | succ i =>
      simp only [chunks, List.getElem?_cons_succ] at h
      obtain ⟨h1, h2⟩ := ih (l.drop n) (by simp; omega) i e h
      refine ⟨h1, fun j hj => ?_⟩
      rw [h2 j hj, List.getElem?_drop]
      congr 1
      rw [Nat.succ_mul]
      omega
theorem mapM_get' {α β : Type} {f : α → Option β} : ∀ {l : List α} {r : List β}, l.mapM f = some r → ∀ (i : Nat) a, l[i]? = some a → ∃ b, r[i]? = some b ∧ f a = some b := by
  intro l
  induction l with
  | nil => intro r h i a hi; simp at hi
  | cons a l ih =>
    intro r h i a' hi
    simp only [List.mapM_cons, Option.pure_def, Option.bind_eq_bind, Option.bind_eq_some_iff, Option.some.injEq] at h
    obtain ⟨b, hb, r', hr, rfl⟩ := h
    cases i with
    | zero => simp at hi; subst hi; exact ⟨b, by simp, hb⟩
    | succ i => simpa using ih hr i a' (by simpa using hi)
theorem frzC_ok (R : Rel σ M Fz w) {n : Nat} : ∀ (k : Nat) (d : D) (x : C) (v : Value), frzC σ n k d = some x → V σ M Fz w d v → VC (frzF M Fz n) w x v := by
  intro k
  induction k with
  | zero => intro d x v h; simp [frzC] at h
  | succ k ih =>
    intro d x v h hv
    cases d with
    | c y =>
      simp only [frzC, Option.some.injEq] at h
      subst h
      exact hv.c_inv.mono (fun c hc => ⟨.inl hc, rfl⟩)
    | ptr b off sz =>
      simp only [frzC] at h
      split at h
      · rename_i hb
        split at h
        · rename_i cs hr
          simp only [Option.map_eq_some_iff] at h
          obtain ⟨l, hl, rfl⟩ := h
          obtain ⟨c, hM, rfl⟩ := hv.ptr_inv hr
          obtain ⟨hbb, _⟩ := ze1 hr
          obtain ⟨arr, T, hh, hla, hcs⟩ := R.row hM hbb
          obtain ⟨m1, m2⟩ := zfn hl
          have := VC.fptr (Fz := frzF M Fz n) (w := w) (cs := l) (off := off) c 0 (fun j => arr[j]!) (.inr ⟨b, hb, hM⟩) (fun j d hj => ?_) (fun j d hj => ?_)
          · simpa using this
          · obtain ⟨a, ha, _⟩ := m2 j d hj
            have hjl := (List.getElem?_eq_some_iff.1 ha).1
            have e : arr[j]? = some (arr[j]'(by omega)) := Array.getElem?_eq_getElem _
            have e2 : arr[j]! = arr[j]'(by omega) := getElem!_pos arr j (by omega)
            rw [Nat.zero_add, cell_of_row w c j arr T (0, 0) hh, e, e2]
            exact ⟨rfl, (hcs j a _ ha e).2⟩
          · obtain ⟨a, ha, hfa⟩ := m2 j d hj
            have hjl := (List.getElem?_eq_some_iff.1 ha).1
            have e : arr[j]? = some (arr[j]'(by omega)) := Array.getElem?_eq_getElem _
            have e2 : arr[j]! = arr[j]'(by omega) := getElem!_pos arr j (by omega)
            rw [e2]
            exact ih a d _ hfa (hcs j a _ ha e).1
        · simp at h
      · simp at h
    | sl b off len esz sz =>
      simp only [frzC] at h
      split at h
      · rename_i hcnd
        obtain ⟨hb, hesz, hle⟩ := hcnd
        split at h
        · rename_i cs hr
          simp only [Option.map_eq_some_iff] at h
          obtain ⟨l, hl, rfl⟩ := h
          rcases hv.sl_inv hr with ⟨rfl, e2, _, _, _⟩ | ⟨c, o, cap, arr0, T0, hM, rfl, hlc, hoff, hh0, hcap, _⟩
          · subst e2
            exact VC.frz (nn := Nat.blt 0 0) (es := []) esz none 0 (fun h => by cases h) (fun _ => rfl) (fun _ _ => undef) (fun _ h => by simp at h) (Nat.le_refl _) (fun i j e d h => by simp at h) (fun i j e d h => by simp at h)
          obtain ⟨hbb, hsz⟩ := ze1 hr
          obtain ⟨arr, T, hh, hla, hcs⟩ := R.row hM hbb
          obtain ⟨m1, m2⟩ := zfn hl
          have hll : l.length = len * esz := by rw [m1]; simp; omega
          have key : ∀ (i j : Nat) (e : List C) (d : C), (chunks esz len l)[i]? = some e → e[j]? = some d → j < esz ∧ i < len ∧ o = off ∧ ∃ a, cs[off + (i * esz + j)]? = some a ∧ frzC σ n k a = some d := by
            intro i j e d h1 h2
            obtain ⟨h3, h4⟩ := chunks_get len l hll i e h1
            have hj : j < esz := by have := (List.getElem?_eq_some_iff.1 h2).1; omega
            have hi : i < len := by have := (List.getElem?_eq_some_iff.1 h1).1; rw [chunks_len] at this; exact this
            rw [h4 j hj] at h2
            obtain ⟨a, ha, hfa⟩ := m2 _ d h2
            have hlt : i * esz + j < len * esz := by
              have := (List.getElem?_eq_some_iff.1 h2).1; omega
            rw [List.getElem?_take_of_lt hlt, List.getElem?_drop] at ha
            refine ⟨hj, hi, ?_, a, ha, hfa⟩
            rcases hoff with h | h
            · exact h
            · omega
          have := VC.frz (Fz := frzF M Fz n) (w := w) (nn := Nat.blt 0 len) (es := chunks esz len l) esz (some ⟨c, o, none⟩) cap (fun _ => rfl) (fun h => by cases h) (fun i j => arr[o + i * esz + j]!) (fun e he => ?_) (by rw [chunks_len]; exact hlc) (fun i j e d h1 h2 => ?_) (fun i j e d h1 h2 => ?_)
          · rw [chunks_len] at this; exact this
          · obtain ⟨i, hi⟩ := List.mem_iff_getElem?.1 he
            exact (chunks_get len l hll i e hi).1
          · obtain ⟨hj, hi, rfl, a, ha, hfa⟩ := key i j e d h1 h2
            have hjl := (List.getElem?_eq_some_iff.1 ha).1
            rw [← Nat.add_assoc] at ha hjl
            have e1 : arr[o + i * esz + j]? = some (arr[o + i * esz + j]'(by omega)) := Array.getElem?_eq_getElem _
            have e2 : arr[o + i * esz + j]! = arr[o + i * esz + j]'(by omega) := getElem!_pos arr _ (by omega)
            refine ⟨c, o, rfl, .inr ⟨b, hb, hM⟩, ?_, ?_⟩
            · rw [cell_of_row w c _ arr T (0, 0) hh, e1, e2]
            · rw [e2]; exact (hcs _ a _ ha e1).2
          · obtain ⟨hj, hi, rfl, a, ha, hfa⟩ := key i j e d h1 h2
            have hjl := (List.getElem?_eq_some_iff.1 ha).1
            rw [← Nat.add_assoc] at ha hjl
            have e1 : arr[o + i * esz + j]? = some (arr[o + i * esz + j]'(by omega)) := Array.getElem?_eq_getElem _
            have e2 : arr[o + i * esz + j]! = arr[o + i * esz + j]'(by omega) := getElem!_pos arr _ (by omega)
            rw [e2]
            exact ih a d _ hfa (hcs _ a _ ha e1).1
        · simp at h
      · simp at h
    | fn f first cap =>
      simp only [frzC] at h
      split at h
      · rename_i l1 l2 h1 h2
        simp only [Option.some.injEq] at h
        subst h
        obtain ⟨m1, m2⟩ := zfn h1
        obtain ⟨m3, m4⟩ := zfn h2
        cases hv with
        | fn vs ws k1 k2 hv hw =>
          refine .fn vs ws (by rw [k1, m1]) (by rw [k2, m3]) (fun i d v a b => ?_) (fun i d v a b => ?_)
          · obtain ⟨x, hx, hfx⟩ := m2 i d a
            exact ih x d v hfx (hv i x v hx b)
          · obtain ⟨x, hx, hfx⟩ := m4 i d a
            exact ih x d v hfx (hw i x v hx b)
      · simp at h
    | mp b =>
      simp only [frzC] at h
      split at h
      · rename_i hb
        split at h
        · rename_i es clock hbb
          simp only [Option.map_eq_some_iff] at h
          obtain ⟨l, hl, rfl⟩ := h
          obtain ⟨c, rfl, hM⟩ := hv.mp_inv hbb
          obtain ⟨arr, hh, hsz, hent⟩ := R.mapAt hbb hM
          obtain ⟨m1, m2⟩ := zfn hl
          refine .fmp c clock arr (.inr ⟨b, hb, hM⟩) hh (by rw [hsz, m1]) (fun i p e hi he => ?_) (fun i p e hi he => ?_)
          · obtain ⟨⟨k0, d0, n0⟩, ha, hfa⟩ := m2 i p hi
            simp only [Option.map_eq_some_iff] at hfa
            obtain ⟨x, _, rfl⟩ := hfa
            exact (hent i k0 d0 n0 e ha he).1
          · obtain ⟨⟨k0, d0, n0⟩, ha, hfa⟩ := m2 i p hi
            simp only [Option.map_eq_some_iff] at hfa
            obtain ⟨x, hx, rfl⟩ := hfa
            exact ih d0 x _ hx (hent i k0 d0 n0 e ha he).2.2
        · simp at h
      · simp at h
    | agg cs => simp [frzC] at h
    | tup vs => simp [frzC] at h
    | any => simp [frzC] at h
theorem frzD1xok (R : Rel σ M Fz w) {n k : Nat} {d r : D} {v : Value} (h : frzD1 σ n k d = some r) (hv : V σ M Fz w d v) (σ' : Heap) (M' : Nat → Option Nat) : V σ' M' (frzF M Fz n) w r v := by
  have plain : ∀ d, (frzC σ n k d).map D.c = some r → V σ M Fz w d v → V σ' M' (frzF M Fz n) w r v := by
    intro d h hv
    simp only [Option.map_eq_some_iff] at h
    obtain ⟨x, hx, rfl⟩ := h
    exact .c (frzC_ok R k d x v hx hv)
  cases d with
  | agg cs =>
    simp only [frzD1, Option.map_eq_some_iff] at h
    obtain ⟨l, hl, rfl⟩ := h
    obtain ⟨m1, m2⟩ := zfn hl
    cases hv with
    | agg vs k1 hv =>
      refine .agg vs (by simp [k1, m1]) (fun i d v a b => ?_)
      simp only [List.getElem?_map, Option.map_eq_some_iff] at a
      obtain ⟨x, hx, rfl⟩ := a
      obtain ⟨y, hy, hfy⟩ := m2 i x hx
      exact .c (frzC_ok R k y x v hfy (hv i y v hy b))
  | _ => exact plain _ h hv
theorem frzD_ok (R : Rel σ M Fz w) {n k : Nat} {d r : D} {v : Value} (h : frzD σ n k d = some r) (hv : V σ M Fz w d v) (σ' : Heap) (M' : Nat → Option Nat) : V σ' M' (frzF M Fz n) w r v := by
  cases d with
  | tup ds =>
    simp only [frzD, Option.map_eq_some_iff] at h
    obtain ⟨l, hl, rfl⟩ := h
    obtain ⟨m1, m2⟩ := zfn hl
    cases hv with
    | tup vs k1 hv =>
      refine .tup vs (by simp [k1, m1]) (fun i d v a b => ?_)
      obtain ⟨y, hy, hfy⟩ := m2 i d a
      exact frzD1xok R hfy (hv i y v hy b) σ' M'
  | _ => simp only [frzD] at h; exact frzD1xok R h hv σ' M'
theorem Rel.forget (R0 : Rel σ0 M0 Fz0 w0) (R : Rel σ M Fz w) (EV : Evo σ0 M0 Fz0 w0 σ M Fz w) (hsame : ∀ b, b < σ0.length → σ[b]? = σ0[b]?) :
    Rel σ0 (cutM M σ0.length) (frzF M Fz σ0.length) w ∧ Evo σ0 M0 Fz0 w0 σ0 (cutM M σ0.length) (frzF M Fz σ0.length) w := by
  have hsz : SzLe σ0 σ := fun b ob hb => ⟨ob, by rw [hsame b (List.getElem?_eq_some_iff.1 hb).1]; exact hb, rfl⟩
  have hkeep : ∀ b, b < σ0.length → M b = M0 b := fun b hb => by
    obtain ⟨ob', h1, _, h2⟩ := EV.keep b _ (List.getElem?_eq_getElem hb)
    rw [hsame b hb, List.getElem?_eq_getElem hb] at h1
    simp only [Option.some.injEq] at h1
    exact h2 (by rw [h1])
  refine ⟨⟨fun b c h => ?_, fun b b' c h h' => ?_, fun c h => ?_, Gl.mono (fun c h => ⟨.inl h, rfl⟩) R.gl⟩, ⟨EV.size, EV.frame, fun b c h => ?_, fun c h => ⟨.inl (EV.fz c h).1, (EV.fz c h).2⟩, fun c h => ?_, EV.shp, fun b ob hb => ⟨ob, hb, Nat.le_refl _, fun _ => ?_⟩, EV.out⟩⟩
  · unfold cutM at h
    split at h
    · rename_i hb
      obtain ⟨h1, ob, o, h2, h3, h4⟩ := R.blk b c h
      have hM0 : M0 b = some c := by rw [← hkeep b hb]; exact h
      obtain ⟨_, ob0, o0, h5, _, h6⟩ := R0.blk b c hM0
      have : ob0 = ob := by rw [hsame b hb, h5] at h2; simpa using h2
      subst this
      refine ⟨fun hf => ?_, ob0, o, h5, h3, ?_⟩
      · rcases hf with hf | ⟨b', hb', hM'⟩
        · exact h1 hf
        · have := R.inj b b' c h hM'; omega
      · have h7 := (h4.down hsz h6).cut
        have e : ∀ {d v}, V σ0 (cutM M σ0.length) Fz w d v → V σ0 (cutM M σ0.length) (frzF M Fz σ0.length) w d v := fun h => h.sub SzLe.refl (fun _ _ h => h) (fun c h => ⟨.inl h, rfl⟩) (fun c arr T fr h => ⟨arr, h, rfl⟩)
        cases ob0 with
        | cells cs => obtain ⟨arr, T, ho, hl, hv⟩ := h7; exact ⟨arr, T, ho, hl, fun i d v x y => ⟨e (hv i d v x y).1, (hv i d v x y).2⟩⟩
        | map es clock => obtain ⟨arr, ho, hl, hv⟩ := h7; exact ⟨arr, ho, hl, fun i k d n e' x y => let ⟨a, b, c⟩ := hv i k d n e' x y; ⟨a, b, e c⟩⟩
        | gone n => exact h7.elim
    · simp at h
  · unfold cutM at h h'
    split at h
    · split at h'
      · exact R.inj b b' c h h'
      · simp at h'
    · simp at h
  · rcases h with h | ⟨b, _, h⟩
    · exact R.fz c h
    · exact (R.lt h).2
  · unfold cutM at h
    split at h
    · exact EV.ran b c h
    · simp at h
  · rcases h with h | ⟨b, _, h⟩
    · exact EV.fz' c h
    · rcases EV.ran b c h with h | h
      · exact .inr (.inl h)
      · exact .inr (.inr h)
  · have hb' := (List.getElem?_eq_some_iff.1 hb).1
    simp only [cutM, if_pos hb']
    exact hkeep b hb'
theorem one_ok {ds : List D} {vs : Array Value} (hs : vs.size = ds.length) (hv : ∀ (i : Nat) d v, ds[i]? = some d → vs[i]? = some v → V σ M Fz w d v) :
    V σ M Fz w (one ds) (if h : vs.size = 1 then vs[0] else .tuple vs) := by
  match ds, hs, hv with
  | [d], hs, hv =>
    have h1 : vs.size = 1 := by simpa using hs
    rw [dif_pos h1]
    exact hv 0 d _ (by simp) (Array.getElem?_eq_getElem (by omega))
  | [], hs, hv =>
    rw [dif_neg (by simp at hs; simp [hs])]
    exact .tup vs hs hv
  | a :: b :: l, hs, hv =>
    rw [dif_neg (by simp at hs; omega)]
    exact .tup vs hs hv
def resOne (tmps : Array Value) : ResultVar → Sem Value
  | .tmp t => pure (tmps.getD t undef)
  | .cell x t => do loadVar t (← asAddr (tmps.getD x undef))
theorem results_eq (fn : Func) (tmps : Array Value) : results fn tmps = (do
    let vs ← fn.results.mapM (resOne tmps)
    pure (if h : vs.size = 1 then vs[0] else .tuple vs)) := by
  unfold results
  congr 2
theorem results_ok (R : Rel σ M Fz w) {env : List D} {a : Act} (E : zbb σ M Fz w env a.tmps) {fn : Func} {rs : List (Nat × Option (Option Nat))} {ds : List D} (hr : fn.results.toList.mapM (compR P) = some rs) (hd : rs.mapM (resultOf env σ) = some ds) :
    ∃ v, (results fn a.tmps).run P w = .ok v w ∧ V σ M Fz w (one ds) v := by
  have key : ∀ (l : List ResultVar) (rs : List (Nat × Option (Option Nat))) (ds : List D), l.mapM (compR P) = some rs → rs.mapM (resultOf env σ) = some ds →
      ∃ vs : List Value, (l.mapM (resOne a.tmps)).run P w = .ok vs w ∧ vs.length = ds.length ∧ ∀ (i : Nat) d v, ds[i]? = some d → vs[i]? = some v → V σ M Fz w d v := by
    intro l
    induction l with
    | nil =>
      intro rs ds h1 h2
      simp only [List.mapM_nil, Option.pure_def, Option.some.injEq] at h1
      subst h1
      simp only [List.mapM_nil, Option.pure_def, Option.some.injEq] at h2
      subst h2
      exact ⟨[], rfl, rfl, fun i d v h => by simp at h⟩
    | cons x l ih =>
      intro rs ds h1 h2
      simp only [List.mapM_cons, Option.pure_def, Option.bind_eq_bind, Option.bind_eq_some_iff, Option.some.injEq] at h1
      obtain ⟨r, hr, rs', hrs, rfl⟩ := h1
      simp only [List.mapM_cons, Option.pure_def, Option.bind_eq_bind, Option.bind_eq_some_iff, Option.some.injEq] at h2
      obtain ⟨d, hd, ds', hds, rfl⟩ := h2
      obtain ⟨vs, h3, h4, h5⟩ := ih rs' ds' hrs hds
      have hx : ∃ v, (resOne a.tmps x).run P w = .ok v w ∧ V σ M Fz w d v := by
        cases x with
        | tmp t =>
          simp only [compR, Option.some.injEq] at hr
          subst hr
          simp only [resultOf] at hd
          have hlt := (List.getElem?_eq_some_iff.1 hd).1
          have e : a.tmps[t]? = some (a.tmps[t]'(by rw [E.1]; exact hlt)) := Array.getElem?_eq_getElem _
          refine ⟨_, rfl, ?_⟩
          rw [Array.getD_eq_getD_getElem?, e]
          exact E.2 t _ _ hd e
        | cell y t =>
          simp only [compR, Option.map_eq_some_iff] at hr
          obtain ⟨n, hn, rfl⟩ := hr
          simp only [resultOf] at hd
          split at hd
          · rename_i b off sz hy
            simp only [Option.bind_eq_some_iff] at hd
            obtain ⟨cs, hrow, hg⟩ := hd
            have hlt := (List.getElem?_eq_some_iff.1 hy).1
            have e : a.tmps[y]? = some (a.tmps[y]'(by rw [E.1]; exact hlt)) := Array.getElem?_eq_getElem _
            have hv := E.2 y _ _ hy e
            obtain ⟨c, hM, hva⟩ := hv.ptr_inv hrow
            obtain ⟨hbb, _⟩ := ze1 hrow
            obtain ⟨arr, T, hh, hla, hcs⟩ := R.row hM hbb
            have hcell : ∀ (i : Nat) x, cs[i]? = some x → ∃ u, w.cell? ⟨c, 0 + i, none⟩ = some u ∧ V σ M Fz w x u := by
              intro i x hxi
              have hi := (List.getElem?_eq_some_iff.1 hxi).1
              have e : arr[i]? = some (arr[i]'(by omega)) := Array.getElem?_eq_getElem _
              exact ⟨_, by rw [Nat.zero_add, cell_of_row w c i arr T (0, 0) hh]; exact e, (hcs i _ _ hxi e).1⟩
            obtain ⟨v, hrun, hvv⟩ := loadVar_ok (P := P) hn hg hcell
            refine ⟨v, ?_, hvv⟩
            rw [Nat.zero_add] at hrun
            have eg : a.tmps.getD y undef = .pointer (some ⟨c, off, none⟩) := by rw [Array.getD_eq_getD_getElem?, e, Option.getD_some, hva]
            show (do loadVar t (← asAddr (a.tmps.getD y undef)) : Sem Value).run P w = _
            rw [eg]
            simp only [asAddr, Sem.run_bind, Sem.run_pure, Result.andThen_ok, hrun]
          · simp at hd
      obtain ⟨v, hv1, hv2⟩ := hx
      refine ⟨v :: vs, ?_, by simp [h4], fun i d' v' hi hi' => ?_⟩
      · simp only [List.mapM_cons, Sem.run_bind]
        rw [hv1]
        simp only [Result.andThen_ok, h3, Sem.run_pure]
      · cases i with
        | zero => simp at hi hi'; subst hi hi'; exact hv2
        | succ i => exact h5 i d' v' (by simpa using hi) (by simpa using hi')
  obtain ⟨vs, h1, h2, h3⟩ := key _ _ _ hr hd
  refine ⟨_, ?_, one_ok (vs := vs.toArray) (by simpa using h2) (fun i d v a b => h3 i d v a (by simpa using b))⟩
  rw [results_eq]
  simp only [Sem.run_bind]
  rw [Array.mapM_eq_mapM_toList]
  simp only [Sem.run_map]
  rw [h1]
  simp only [Result.andThen_ok, Sem.run_pure]
end
theorem func_ok {P : Program} (hmix : P.follows .mixedOrders = true) {orc : Orc} (O : zaO P orc) {g : FuncId} {fn : Func} {af : za5} {fz : Bool} {k : Nat} {ds : List D} {σ σ' : Heap} {r : D} {wr : List Nat}
    (hg : P.funcs[g]? = some fn) (hc : zbe P fn fz = some af) (h : evF1 P orc k af ds σ = some (r, σ', wr)) :
    Ok P g ds σ r σ' ∧ σ.length ≤ σ'.length ∧ ∀ b, b < σ.length → b ∉ wr → σ'[b]? = σ[b]? := by
  unfold zbe at hc
  split at hc
  · rename_i c hb
    split at hc
    · rename_i ac rs h1 h2
      simp only [Option.some.injEq] at hc
      subst hc
      unfold evF1 at h
      split at h
      · rename_i hlen
        have main : ∀ env σ1 wr1 x, (x = .normal ∨ x = .ret) → evC P orc k ac (ds ++ List.replicate (fn.ntmps - ds.length) (.tup [])) σ [] = some (x, env, σ1, wr1) →
            finish ⟨fn.params.size + fn.nfree, fn.ntmps, rs, ac, fz⟩ σ env σ1 wr1 = some (r, σ', wr) → Ok P g ds σ r σ' ∧ σ.length ≤ σ'.length ∧ ∀ b, b < σ.length → b ∉ wr → σ'[b]? = σ[b]? := by
          intro env σ1 wr1 x hx hev hfin
          obtain ⟨k1, _, k3⟩ := evC_frame O _ _ _ _ _ _ _ _ _ hev
          unfold finish at hfin
          split at hfin
          · rename_i ds' hds
            dsimp only at hds hfin
            -- what is handed back as it is
            have asIs : some (one ds', σ1, wr1.filter (· < σ.length)) = some (r, σ', wr) → Ok P g ds σ r σ' ∧ σ.length ≤ σ'.length ∧ ∀ b, b < σ.length → b ∉ wr → σ'[b]? = σ[b]? := by
              intro he
              simp only [Option.some.injEq, Prod.mk.injEq] at he
              obtain ⟨rfl, rfl, rfl⟩ := he
              refine ⟨fun M Fz w vs R hs hvs => ?_, k1, fun b hb hn => k3 b hb (fun hw => hn (by simp [hw, hb]))⟩
              refine calls_of_wp hg hb ?_
              have E0 : zbb σ M Fz w (ds ++ List.replicate (fn.ntmps - ds.length) (.tup [])) (vs ++ Array.replicate (fn.ntmps - vs.size) undef) := by
                refine ⟨by simp [hs], fun i d v a b => ?_⟩
                rw [List.getElem?_append] at a
                rw [Array.getElem?_append] at b
                split at a
                · rename_i hi
                  rw [if_pos (by omega)] at b
                  exact hvs i d v a b
                · rename_i hi
                  rw [if_neg (by omega)] at b
                  rw [List.getElem?_replicate] at a
                  rw [Array.getElem?_replicate] at b
                  split at a
                  · split at b
                    · simp only [Option.some.injEq] at a b
                      subst a b
                      exact V.undef
                    · simp at b
                  · simp at a
              refine (code_wp hmix O k).1 c ac σ σ1 M Fz w _ env { tmps := vs ++ Array.replicate (fn.ntmps - vs.size) undef, defers := [] } [] wr1 x _ h1 R E0 hev fun a' w' M' Fz' hd R' E' EV => ?_
              obtain ⟨v, hv1, hv2⟩ := results_ok (P := P) R' E' h2 hds
              have post : a'.defers = [] ∧ ∃ v, (results fn a'.tmps).run P w' = .ok v w' ∧ ∃ v' M'' Fz'', Ending.returned v = .returned v' ∧ Rel σ1 M'' Fz'' w' ∧ V σ1 M'' Fz'' w' (one ds') v' ∧ Evo σ M Fz w σ1 M'' Fz'' w' :=
                ⟨hd, v, hv1, v, M', Fz', rfl, R', hv2, EV⟩
              rcases hx with rfl | rfl
              · exact post
              · exact post
            split at hfin
            · rename_i hcnd
              simp only [Bool.and_eq_true] at hcnd
              split at hfin
              · rename_i r' hfr
                simp only [Option.some.injEq, Prod.mk.injEq] at hfin
                obtain ⟨rfl, rfl, rfl⟩ := hfin
                have hsame : ∀ b, b < σ.length → σ1[b]? = σ[b]? := by
                  intro b hb
                  refine k3 b hb (fun hw => ?_)
                  have := hcnd.2
                  rw [List.isEmpty_iff, List.filter_eq_nil_iff] at this
                  have := this b hw
                  simp at this
                  omega
                refine ⟨fun M Fz w vs R hs hvs => ?_, Nat.le_refl _, fun _ _ _ => rfl⟩
                refine calls_of_wp hg hb ?_
                have E0 : zbb σ M Fz w (ds ++ List.replicate (fn.ntmps - ds.length) (.tup [])) (vs ++ Array.replicate (fn.ntmps - vs.size) undef) := by
                  refine ⟨by simp [hs], fun i d v a b => ?_⟩
                  rw [List.getElem?_append] at a
                  rw [Array.getElem?_append] at b
                  split at a
                  · rename_i hi
                    rw [if_pos (by omega)] at b
                    exact hvs i d v a b
                  · rename_i hi
                    rw [if_neg (by omega)] at b
                    rw [List.getElem?_replicate] at a
                    rw [Array.getElem?_replicate] at b
                    split at a
                    · split at b
                      · simp only [Option.some.injEq] at a b
                        subst a b
                        exact V.undef
                      · simp at b
                    · simp at a
                refine (code_wp hmix O k).1 c ac σ σ1 M Fz w _ env { tmps := vs ++ Array.replicate (fn.ntmps - vs.size) undef, defers := [] } [] wr1 x _ h1 R E0 hev fun a' w' M' Fz' hd R' E' EV => ?_
                obtain ⟨v, hv1, hv2⟩ := results_ok (P := P) R' E' h2 hds
                obtain ⟨R2, EV2⟩ := Rel.forget R R' EV hsame
                have post : a'.defers = [] ∧ ∃ v, (results fn a'.tmps).run P w' = .ok v w' ∧ ∃ v' M'' Fz'', Ending.returned v = .returned v' ∧ Rel σ M'' Fz'' w' ∧ V σ M'' Fz'' w' r' v' ∧ Evo σ M Fz w σ M'' Fz'' w' :=
                  ⟨hd, v, hv1, v, _, _, rfl, R2, frzD_ok R' hfr hv2 _ _, EV2⟩
                rcases hx with rfl | rfl
                · exact post
                · exact post
              · exact asIs hfin
            · exact asIs hfin
          · simp at hfin
        split at h
        · rename_i env σ1 wr1 hev
          exact main env σ1 wr1 .normal (.inl rfl) hev h
        · rename_i env σ1 wr1 hev
          exact main env σ1 wr1 .ret (.inr rfl) hev h
        · simp at h
      · simp at h
    · simp at hc
  · simp at hc
def TblOk (P : Program) (tbl : FuncId → Option za5) : Prop := ∀ g af, tbl g = some af → enterable P g = true ∧ ∃ fn fz, P.funcs[g]? = some fn ∧ zbe P fn fz = some af
theorem evF_ok {P : Program} (hmix : P.follows .mixedOrders = true) {tbl : FuncId → Option za5} (hT : TblOk P tbl) {prim : Orc} (hp : zaO P prim) (k : Nat) : ∀ n, zaO P (evF P tbl prim k n) := by
  intro n
  induction n with
  | zero => intro g ds σ r σ' wr h; simp [evF] at h
  | succ n ih =>
    intro g ds σ r σ' wr h
    simp only [evF] at h
    split at h
    · rename_i res hres
      simp only [Option.some.injEq] at h
      subst h
      exact hp g ds σ r σ' wr hres
    · split at h
      · rename_i af haf
        obtain ⟨h1, fn, fz, h2, h3⟩ := hT g af haf
        obtain ⟨h4, h5, h6⟩ := func_ok hmix ih h2 h3 h
        exact ⟨h1, h4, h5, h6⟩
      · simp at h
end Go.Abs
