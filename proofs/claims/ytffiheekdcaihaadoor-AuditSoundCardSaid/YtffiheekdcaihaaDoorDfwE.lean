/- One operation, soundly (part 2): aggregates, stores, addresses, slices. -/
import Derived.Test.YtffiheekdcaihaaDoorDfwD
set_option linter.all false
namespace Go.Abs
variable [Gl]
section
variable {P : Program} {σ σ' : Heap} {M M' : Nat → Option Nat} {Fz : Nat → Prop} {w w' : World} {env : List D} {a : Act}
theorem foldl_putA (off : Nat) : ∀ (l : List Value) (k : Nat) (arr : Array Value), off + k + l.length ≤ arr.size →
    (l.zipIdx k).foldl (fun cs (p : Value × Nat) => cs.setIfInBounds (off + p.2) p.1) arr = putA arr (off + k) l := by
  intro l
  induction l with
  | nil => intro k arr _; apply Array.ext'; simp [putA]
  | cons x l ih =>
    intro k arr h
    simp only [List.length_cons] at h
    simp only [List.zipIdx_cons, List.foldl_cons]
    rw [ih (k + 1) _ (by simp; omega), ← putA_cons (by omega)]
    rfl
def zft (σ : Heap) (M : Nat → Option Nat) (Fz : Nat → Prop) (w : World) (cs : List D) (arr : Array Value) : Prop :=
  arr.size = cs.length ∧ ∀ (i : Nat) x u, cs[i]? = some x → arr[i]? = some u → V σ M Fz w x u ∧ u.oneCell' = true
theorem zft.put {cs xs : List D} {arr : Array Value} {vs : List Value} {off : Nat} (h : zft σ M Fz w cs arr) (hl : vs.length = xs.length) (ho : off + xs.length ≤ cs.length)
    (hx : ∀ (i : Nat) x u, xs[i]? = some x → vs[i]? = some u → V σ M Fz w x u ∧ u.oneCell' = true) : zft σ M Fz w (put cs off xs) (putA arr off vs) := by
  refine ⟨by rw [putA_size (by rw [h.1]; omega), length_put ho, h.1], fun i x u h1 h2 => ?_⟩
  rw [getElem?_put ho] at h1
  rw [getElem?_putA (by rw [h.1]; omega), hl] at h2
  split at h1
  · rename_i hc; rw [if_pos hc] at h2; exact hx _ _ _ h1 h2
  · rename_i hc; rw [if_neg hc] at h2; exact h.2 _ _ _ h1 h2
theorem zft.ofCells {d : D} {v : Value} {cs : List D} (h : V σ M Fz w d v) (hc : d.cells? = some cs) : zft σ M Fz w cs v.cells := by
  obtain ⟨h1, h2, h3, _⟩ := h.cells hc
  exact ⟨h1, fun i x u hx hu => ⟨h2 i x u hx hu, h3 u (mem_of_get hu)⟩⟩
theorem fill_ok (E : zbb σ M Fz w env a.tmps) (pl : Nat → Option (Nat × Nat)) : ∀ (ps : List (Nat × Operand)) (qs : List (Nat × Nat × Opd)) (cs cs' : List D) (arr : Array Value),
    (ps.mapM fun (i, x) => (pl i).bind fun (o, n) => (opd x).bind fun ox => some (o, n, ox)) = some qs → zft σ M Fz w cs arr → fillD env cs qs = some cs' →
    ∃ arr', Instr.fill pl arr (ps.map fun (i, x) => (i, a.eval x)) = some arr' ∧ zft σ M Fz w cs' arr' := by
  intro ps
  induction ps with
  | nil =>
    intro qs cs cs' arr hq hr hf
    simp only [List.mapM_nil, Option.pure_def, Option.some.injEq] at hq
    subst hq
    simp only [fillD, Option.some.injEq] at hf
    subst hf
    exact ⟨arr, rfl, hr⟩
  | cons p ps ih =>
    intro qs cs cs' arr hq hr hf
    obtain ⟨i, x⟩ := p
    simp only [List.mapM_cons, Option.pure_def, Option.bind_eq_bind, Option.bind_eq_some_iff, Option.some.injEq] at hq
    obtain ⟨q, ⟨⟨o, n⟩, hpl, ox, hox, rfl⟩, qs', hqs, rfl⟩ := hq
    simp only [fillD, Option.bind_eq_bind, Option.bind_eq_some_iff] at hf
    obtain ⟨xs, hxs, hf⟩ := hf
    split at hf
    · simp at hf
    · rename_i hcond
      simp only [not_or, Decidable.not_not, Nat.not_lt] at hcond
      obtain ⟨hn, hle⟩ := hcond
      have hrow := zft.ofCells (zcD E hox) hxs
      obtain ⟨arr', h1, h2⟩ := ih qs' _ cs' (putA arr o (a.eval x).cells.toList) hqs (hr.put (by simp [hrow.1]) (by omega) (fun i y u h1 h2 => hrow.2 i y u h1 (by simpa using h2))) hf
      refine ⟨arr', ?_, h2⟩
      simp only [List.map_cons, Instr.fill, hpl]
      rw [if_neg (by simp [hrow.1, hn, hr.1]; omega)]
      rw [← h1]
      congr 1
      have := foldl_putA o (a.eval x).cells.toList 0 arr (by simp [hrow.1, hr.1]; omega)
      rw [← Array.foldl_toList]
      simpa using this
theorem places_inv {fs : Array Field} {ps : List (Nat × Nat)} (h : places P fs = some ps) (w : World) :
    (fs.mapM fun (f : Field) => (do pure (f.offset, ← sizeOf f.type) : Sem (Nat × Nat))).run P w = .ok ps.toArray w := by
  have key : ∀ (l : List Field) (ps : List (Nat × Nat)), (l.mapM fun f => (sizeOf? P f.type).map fun n => (f.offset, n)) = some ps →
      (l.mapM fun f => (do pure (f.offset, ← sizeOf f.type) : Sem (Nat × Nat))).run P w = .ok ps w := by
    intro l
    induction l with
    | nil => intro ps h; simp only [List.mapM_nil, Option.pure_def, Option.some.injEq] at h; subst h; simp
    | cons f l ih =>
      intro ps h
      simp only [List.mapM_cons, Option.pure_def, Option.bind_eq_bind, Option.bind_eq_some_iff, Option.map_eq_some_iff, Option.some.injEq] at h
      obtain ⟨q, ⟨n, hn, rfl⟩, qs, hqs, rfl⟩ := h
      simp only [List.mapM_cons, Sem.run_bind, zfm hn, Result.andThen_ok, Sem.run_pure, ih qs hqs]
  unfold places at h
  rw [Array.mapM_eq_mapM_toList]
  simp only [Sem.run_map, key _ _ h, Result.andThen_ok]
theorem build_ok (E : zbb σ M Fz w env a.tmps) {o : Oper} {t : TypeId} {parts : Array (Nat × Operand)} {z : List D} {qs : List (Nat × Nat × Opd)} {pl : Nat → Option (Nat × Nat)} {cs : List D}
    (ho : o.op = .build t parts) (hz : zd5 P t = some z)
    (hpl : (∃ fs ps, P.underlying t = some (.struct fs) ∧ places P fs = some ps ∧ pl = (ps[·]?)) ∨ (∃ m e n, P.underlying t = some (.array m e) ∧ sizeOf? P e = some n ∧ pl = fun i => some (i * n, n)))
    (hq : (parts.toList.mapM fun (i, x) => (pl i).bind fun (o, n) => (opd x).bind fun ox => some (o, n, ox)) = some qs) (hf : fillD env z qs = some cs) :
    Yields P (execOp a.eval o) σ M Fz w (.agg cs) := by
  obtain ⟨i, v, hi, hv, hc⟩ := zfb hz
  have hrow := zft.ofCells (V.ofVal (σ := σ) (M := M) (Fz := Fz) (w := w) v) hc
  obtain ⟨arr, h1, h2⟩ := fill_ok E pl parts.toList qs z cs v.cells hq hrow hf
  refine Yields.same (v := .agg arr) ?_ (.agg arr h2.1 (fun i d v h3 h4 => (h2.2 i d v h3 h4).1))
  rcases hpl with ⟨fs, ps, hu, hp, rfl⟩ | ⟨m, e, n, hu, hn, rfl⟩
  · simp only [execOp, ho, Instr.build, Sem.run_bind, run_zero hi hv, Result.andThen_ok, zbr hu, places_inv hp]
    simp only [Array.toList_map, List.getElem?_toArray, h1, Sem.run_pure, Result.andThen_ok]
  · simp only [execOp, ho, Instr.build, Sem.run_bind, run_zero hi hv, Result.andThen_ok, zbr hu, zfm hn]
    simp only [Array.toList_map, h1, Sem.run_pure, Result.andThen_ok]
theorem length_zeros (n : Nat) (z : List D) : (zeros n z).length = n * z.length := by simp [zeros]
theorem getElem?_zeros {z : List D} (hz : z ≠ []) : ∀ (n i : Nat), i < n * z.length → (zeros n z)[i]? = z[i % z.length]? := by
  intro n
  have hp : 0 < z.length := List.length_pos_iff.2 hz
  induction n with
  | zero => intro i hi; omega
  | succ n ih =>
    intro i hi
    have e : zeros (n + 1) z = z ++ zeros n z := by simp [zeros, List.replicate_succ]
    rw [e, List.getElem?_append]
    split
    · rename_i h; rw [Nat.mod_eq_of_lt h]
    · rename_i h
      rw [ih (i - z.length) (by rw [Nat.succ_mul] at hi; omega)]
      congr 1
      conv => rhs; rw [show i = i - z.length + z.length from by omega]
      rw [Nat.add_mod_right]
theorem zeros_row {z : List D} {v : Value} (hrow : zft σ M Fz w z v.cells) (hz : z ≠ []) (n m : Nat) (hnm : n ≤ m) :
    n * z.length ≤ ((Array.range (m * v.cells.size)).map (v.cells[· % v.cells.size]!)).size ∧
    ∀ (i : Nat) x u, (zeros n z)[i]? = some x → ((Array.range (m * v.cells.size)).map (v.cells[· % v.cells.size]!))[i]? = some u → V σ M Fz w x u ∧ u.oneCell' = true := by
  have hp : 0 < z.length := List.length_pos_iff.2 hz
  refine ⟨by simp [hrow.1]; exact Nat.mul_le_mul_right _ hnm, fun i x u h1 h2 => ?_⟩
  have hi := (List.getElem?_eq_some_iff.1 h1).1
  rw [length_zeros] at hi
  rw [getElem?_zeros hz n i hi] at h1
  have hm : i % z.length < v.cells.size := by rw [hrow.1]; exact Nat.mod_lt _ hp
  have hi2 : i < m * v.cells.size := by
    rw [hrow.1]
    exact Nat.lt_of_lt_of_le hi (Nat.mul_le_mul_right _ hnm)
  refine hrow.2 (i % z.length) x u h1 ?_
  rw [Array.getElem?_map, Array.getElem?_range, if_pos hi2] at h2
  simp only [Option.map_some, Option.some.injEq, hrow.1] at h2
  rw [getElem!_pos v.cells (i % z.length) hm] at h2
  rw [Array.getElem?_eq_getElem hm, h2]
theorem V.newSl {cs : List D} {arr : Array Value} {T : TypeId} {len esz cap : Nat} (hlen : len ≤ cap) (hcap : cap * esz ≤ arr.size) (hl : len * esz ≤ cs.length) :
    V (σ ++ [.cells cs]) (upM M σ.length w.heap.size) Fz (w.alloc (.cells arr T)) (.sl σ.length 0 len esz cs.length) (.slice (some ⟨w.heap.size, 0, none⟩) len cap) :=
  .sl _ _ _ (by simp) (.cells cs) (by simp) (by simp [Ob.sz]) (fun _ => .inr ⟨w.heap.size, 0, arr, T, by simp [upM], rfl, rfl, hlen, .inl rfl, heap_alloc_new w _, by omega, by omega⟩)
theorem bslice_ok (hfz : ∀ c, Fz c → c < w.heap.size) (E : zbb σ M Fz w env a.tmps) {o : Oper} {t e : TypeId} {len n : Nat} {parts : Array (Nat × Operand)} {z : List D} {qs : List (Nat × Nat × Opd)} {cs : List D}
    (ho : o.op = .buildSlice t len parts) (hu : P.underlying t = some (.slice e)) (hn : sizeOf? P e = some n) (hz : zd5 P e = some z) (hn0 : ¬ (n = 0 ∨ z.length ≠ n ∨ len * n > 2 ^ 20))
    (hq : (parts.toList.mapM fun (i, x) => (some (i * n, n)).bind fun (p : Nat × Nat) => (opd x).bind fun ox => some (p.1, p.2, ox)) = some qs) (hf : fillD env (zeros len z) qs = some cs) :
    Allocs P (execOp a.eval o) σ M Fz w (.cells cs) (.sl σ.length 0 len n cs.length) := by
  obtain ⟨i, v, hi, hv, hc⟩ := zfb hz
  have hrow := zft.ofCells (V.ofVal (σ := σ) (M := M) (Fz := Fz) (w := w) v) hc
  simp only [not_or, Decidable.not_not, Nat.not_lt] at hn0
  obtain ⟨hn1, hzn, hlim⟩ := hn0
  have hzne : z ≠ [] := fun h => by simp [h] at hzn; omega
  have hvn : v.cells.size = n := by rw [hrow.1, hzn]
  obtain ⟨hz1, hz2⟩ := zeros_row hrow hzne len len (Nat.le_refl _)
  have hzr : zft σ M Fz w (zeros len z) ((Array.range (len * v.cells.size)).map (v.cells[· % v.cells.size]!)) := ⟨by simp [length_zeros, hvn, hzn], hz2⟩
  obtain ⟨arr, h1, h2⟩ := fill_ok E (fun i => some (i * n, n)) parts.toList qs (zeros len z) cs _ hq hzr hf
  have hcsz : cs.length = len * n := by
    have : arr.size = len * n := by
      have hpres : ∀ (l : List (Nat × Value)) (x y : Array Value), Instr.fill (fun i => some (i * n, n)) x l = some y → y.size = x.size := by
        intro l
        induction l with
        | nil => intro x y h; simp only [Instr.fill, Option.some.injEq] at h; rw [h]
        | cons p l ih =>
          intro x y h
          obtain ⟨i, u⟩ := p
          simp only [Instr.fill] at h
          split at h
          · simp at h
          · rename_i hcnd
            simp at hcnd
            rw [ih _ _ h, ← Array.foldl_toList]
            have := foldl_putA (i * n) u.cells.toList 0 x (by simp; omega)
            simp only [Nat.add_zero] at this
            simp only [Array.toList_zipIdx]
            rw [this, putA_size (by simp; omega)]
      rw [hpres _ _ _ h1]
      simp [hvn]
    rw [← h2.1, this]
  obtain ⟨r1, r2⟩ := newRow_ok (P := P) hfz (arr := arr) (cs := cs) e (by rw [h2.1]; exact Nat.le_refl _) h2.2
  refine ⟨_, .slice (some ⟨w.heap.size, 0, none⟩) len len, ?_, r2, V.newSl (cap := len) (Nat.le_refl _) (by rw [h2.1, hcsz]; exact Nat.le_refl _) (by omega)⟩
  simp only [execOp, ho, Instr.buildSlice, Sem.run_bind, zbr hu, Result.andThen_ok, zfm hn]
  rw [if_neg (by omega)]
  by_cases h0 : len * n = 0
  · have hl0 : len = 0 := by
      rcases Nat.mul_eq_zero.1 h0 with h | h
      · exact h
      · exact absurd h hn1
    subst hl0
    simp only [Nat.zero_mul] at h1 ⊢
    simp only [if_true, Sem.run_bind, Sem.run_pure, Result.andThen_ok]
    have e0 : (Array.range 0).map (fun (x : Nat) => (#[] : Array Value)[x % (#[] : Array Value).size]!) = (Array.range 0).map (fun (x : Nat) => v.cells[x % v.cells.size]!) := by simp
    rw [e0, Array.toList_map, h1]
    simp only [Sem.run_bind, r1, Result.andThen_ok, Sem.run_pure]
  · rw [if_neg h0]
    simp only [Sem.run_bind, run_zero hi hv, Result.andThen_ok, Sem.run_pure]
    rw [hvn] at h1
    rw [hvn, Array.toList_map, h1]
    simp only [Sem.run_bind, r1, Result.andThen_ok, Sem.run_pure]
theorem store_ok (R : Rel σ M Fz w) (E : zbb σ M Fz w env a.tmps) {o : Oper} {t : TypeId} {x y : Operand} {ox oy : Opd} {n b off sz : Nat} {cs xs : List D} (ho : o.op = .store t x y)
    (hx : opd x = some ox) (hy : opd y = some oy) (hn : sizeOf? P t = some n) (he : ox.ev env = .ptr b off sz) (hr : zeO σ b sz = some cs) (hxs : (oy.ev env).cells? = some xs)
    (hc : xs.length = n ∧ off + n ≤ sz) : Gives P (execOp a.eval o) σ M Fz w (σ.set b (.cells (put cs off xs))) (.tup []) := by
  have hv := zcD E hx
  rw [he] at hv
  obtain ⟨c, hM, hva⟩ := hv.ptr_inv hr
  obtain ⟨hb, hsz⟩ := ze1 hr
  obtain ⟨arr, T, hh, hl, hcs⟩ := R.row hM hb
  have hrow := zft.ofCells (zcD E hy) hxs
  obtain ⟨_, _, h1c, _⟩ := (zcD E hy).cells hxs
  have hle : off + xs.length ≤ cs.length := by omega
  have hrun := run_storeCells P T c (a.eval y).cells.toList 0 off w arr hh h1c (by simp [hrow.1]; omega)
  have hshp : ∀ arr0 T0 fr, Obj.cells arr T (0, 0) = .cells arr0 T0 fr → ∃ arr', Obj.cells (putA arr off (a.eval y).cells.toList) T (0, 0) = .cells arr' T0 fr ∧ arr'.size = arr0.size := by
    intro arr0 T0 fr h
    simp only [Obj.cells.injEq] at h
    obtain ⟨rfl, rfl, rfl⟩ := h
    exact ⟨_, rfl, putA_size (by simp [hrow.1]; omega)⟩
  have hsame : (if (a.eval y).cells.toList = [] then w else setO w c (.cells (putA arr (off + 0) (a.eval y).cells.toList) T (0, 0))) = setO w c (.cells (putA arr off (a.eval y).cells.toList) T (0, 0)) := by
    split
    · rename_i hnil
      rw [hnil]
      have : putA arr off [] = arr := by apply Array.ext'; simp [putA]
      rw [this]
      unfold setO
      have hlt := (Array.getElem?_eq_some_iff.1 hh).1
      have : w.heap.setIfInBounds c (.cells arr T (0, 0)) = w.heap := by
        apply Array.ext'
        apply List.ext_getElem?
        intro i
        simp only [Array.getElem?_toList, Array.getElem?_setIfInBounds]
        split
        · rename_i e; subst e; exact hh.symm
        · rfl
      rw [this]
    · rfl
  rw [hsame] at hrun
  have hs : (Ob.cells cs).sz ≤ (Ob.cells (put cs off xs)).sz := by simp [Ob.sz, length_put hle]
  have EV := Evo.upd R hM hb hh hs hshp
  refine ⟨.skip, undef, _, M, ?_, .inr ⟨rfl, rfl⟩, R.upd hM hb hh hs hshp ?_, .tup #[] rfl (fun i d v h => by simp at h), EV, by simp⟩
  · simp only [execOp, ho, Instr.storeAt, hva, Instr.sureAddr, Sem.run_bind, Sem.run_pure, Result.andThen_ok, storeVar, zfm hn]
    rw [if_neg (by simp [hrow.1]; omega)]
    simp [hrun]
  · refine ⟨_, T, rfl, by rw [length_put hle, putA_size (by simp [hrow.1]; omega)]; exact hl, fun i d v h1 h2 => ?_⟩
    rw [getElem?_put hle] at h1
    rw [getElem?_putA (by simp [hrow.1]; omega)] at h2
    simp only [Array.length_toList, hrow.1] at h2
    split at h1
    · rename_i hcnd
      rw [if_pos hcnd] at h2
      have := hrow.2 _ _ _ h1 (by simpa using h2)
      exact ⟨this.1.mono EV, this.2⟩
    · rename_i hcnd
      rw [if_neg hcnd] at h2
      have := hcs _ _ _ h1 h2
      exact ⟨this.1.mono EV, this.2⟩
end
end Go.Abs
