/- One operation, soundly (part 6): append and copy. -/
import Derived.Test.YtffiheekdcaihaaDoorDfwH
set_option linter.all false
namespace Go.Abs
variable [Gl]
section
variable {P : Program} {σ σ' : Heap} {M M' : Nat → Option Nat} {Fz : Nat → Prop} {w w' : World} {env : List D} {a : Act}
theorem growBy_le (n : Nat) : ∀ (r c : Nat), c ≤ n + (n + 768) / 4 → Builtin.growBy n r c ≤ n + (n + 768) / 4 := by
  intro r
  induction r with
  | zero => intro c h; exact h
  | succ r ih =>
    intro c h
    simp only [Builtin.growBy]
    split
    · exact h
    · exact ih _ (by omega)
theorem nextcap_le (n c : Nat) (h : c < n) : Builtin.nextslicecap n c ≤ 2 * n + 1000 := by
  unfold Builtin.nextslicecap
  split
  · omega
  · split
    · omega
    · have := growBy_le n 4 c (by omega); omega
theorem setO_id {c : Nat} {o : Obj} (h : w.heap[c]? = some o) : setO w c o = w := by
  unfold setO
  have : w.heap.setIfInBounds c o = w.heap := by
    apply Array.ext'
    apply List.ext_getElem?
    intro i
    simp only [Array.getElem?_toList, Array.getElem?_setIfInBounds]
    split
    · rename_i e; subst e; rw [if_pos (Array.getElem?_eq_some_iff.1 h).1]; exact h.symm
    · rfl
  rw [this]
theorem run_storeCells' (P : Program) (T : TypeId) (c : Nat) (xs : List Value) (off : Nat) (w : World) (arr : Array Value)
    (h : w.heap[c]? = some (.cells arr T (0, 0))) (hx : ∀ x ∈ xs, x.oneCell' = true) (hl : off + xs.length ≤ arr.size) :
    (storeCells ⟨c, off, none⟩ xs).run P w = .ok () (setO w c (.cells (putA arr off xs) T (0, 0))) := by
  rw [run_storeCells P T c xs 0 off w arr h hx (by omega)]
  congr 1
  split
  · rename_i hn
    subst hn
    have : putA arr off [] = arr := by apply Array.ext'; simp [putA]
    rw [this, setO_id h]
  · rfl
theorem zft.ones {cs : List D} {arr : Array Value} (h : zft σ M Fz w cs arr) : ∀ u ∈ arr.toList, u.oneCell' = true := by
  intro u hu
  obtain ⟨i, hi, rfl⟩ := List.mem_iff_getElem.1 hu
  simp only [Array.length_toList] at hi
  exact (h.2 i _ _ (List.getElem?_eq_getElem (by rw [← h.1]; exact hi)) (Array.getElem?_eq_getElem (by simpa using hi))).2
theorem run_append {t t1 e : TypeId} {et : TypeId} {ats : Array TypeId} {ty : TypeId} {args : Array Value} {base : Option Addr} {sLen sCap n cap' : Nat} {ad : Option Addr} {esz : Nat} {i : TypeInfo} {zv : Value}
    (ht : ats[0]? = some t) (ht1 : ats[1]? = some t1) (hu : P.underlying t = some (.slice e)) (hu1 : P.underlying t1 = some (.slice et)) (hsz : sizeOf? P e = some esz) (hi : P.info? e = some i) (hz : i.zero = some zv)
    (h0 : args[0]? = some (.slice base sLen sCap)) (h1 : args[1]? = some (.slice ad n cap')) (hroom : roomOk (sLen + n) i.bytes = true) (w : World) :
    (Builtin.append_ ats ty args).run P w =
      if sLen + n ≤ sCap then
        ((Builtin.firstCells esz n (.slice ad n cap')).run P w).andThen fun new w1 =>
          match (generalizing := false) base with
          | some b => ((storeCells (b.add (sLen * esz)) new.toList).run P w1).andThen fun _ w2 => .ok (.slice base (sLen + n) sCap) w2
          | none => .ok (.slice base (sLen + n) sCap) w1
      else
        ((Builtin.firstCells esz sLen (.slice base sLen sCap)).run P w.drew).andThen fun old w1 =>
          ((Builtin.firstCells esz n (.slice ad n cap')).run P w1).andThen fun new w2 =>
            ((newRow e (old ++ new ++ Builtin.zeroCells zv.cells ((Question.appendCap (sLen + n) sCap e).cut (w.tape w.drawn (.appendCap (sLen + n) sCap e)) - (sLen + n)))).run P w2).andThen fun r w3 =>
              .ok (.slice (some r) (sLen + n) ((Question.appendCap (sLen + n) sCap e).cut (w.tape w.drawn (.appendCap (sLen + n) sCap e)))) w3 := by
  simp only [roomOk, Bool.and_eq_true, decide_eq_true_eq] at hroom
  obtain ⟨⟨hr1, hr2⟩, hr3⟩ := hroom
  have hlen : ∀ w, (Builtin.lenOf (.slice ad n cap')).run P w = .ok n w := fun w => rfl
  simp only [Builtin.append_, ht, ht1, h0, h1, Sem.run_bind, zbr hu, zbr hu1, zfm hsz, Result.andThen_ok, Sem.run_pure, Bool.false_eq_true, if_false, Bool.not_false, if_true, hlen]
  split
  · rename_i hle
    cases base with
    | none => simp only [Sem.run_bind, Sem.run_pure]
    | some b => simp only [Sem.run_bind, Sem.run_pure]
  · rename_i hle
    have hb1 : ¬ (((sLen + n : Nat) : Int) > IntKind.i64.max ∧ (False ∨ i.bytes = 0)) := by
      have : IntKind.i64.max = 9223372036854775807 := by decide
      rw [this]
      omega
    have hb2 : ¬ (Builtin.nextslicecap (sLen + n) sCap * i.bytes > 2 ^ 48) := by
      have hc := nextcap_le (sLen + n) sCap (by omega)
      have h2 : Builtin.nextslicecap (sLen + n) sCap * i.bytes ≤ (2 * (sLen + n) + 1000) * i.bytes := Nat.mul_le_mul_right _ hc
      rw [Nat.add_mul, Nat.mul_assoc] at h2
      omega
    simp only [Sem.run_bind, zeW hi, Result.andThen_ok, Bool.false_eq_true]
    rw [if_neg hb1]
    simp only [Sem.run_bind, Sem.run_pure, zeW hi, Result.andThen_ok]
    rw [if_neg hb2]
    simp only [Sem.run_bind, Sem.run_pure, zeW hi, Result.andThen_ok, run_choose, Question.forced, Bool.false_eq_true, if_false, run_askRoom, run_zero hi hz, World.drew_eq]
theorem cut_le (n c : Nat) (e : TypeId) (t : Nat) : n ≤ (Question.appendCap n c e).cut t := by
  simp only [Question.cut]; omega
theorem zeroCells_size (z : Array Value) (n : Nat) : (Builtin.zeroCells z n).size = n * z.size := by simp [Builtin.zeroCells]
theorem append_ok (R : Rel σ M Fz w) (E : zbb σ M Fz w env a.tmps) {o : Oper} {t t1 e et : TypeId} {args : Array Operand} {ats : Array TypeId} {s x : Operand} {os ox : Opd} {esz : Nat} {i : TypeInfo} {z : List D} {d : D} {wr : List Nat}
    (ho : o.op = .call { callee := .builtin .append, args := args, argTypes := ats }) (ht : ats[0]? = some t) (ht1 : ats[1]? = some t1) (hs0 : args[0]? = some s) (hx0 : args[1]? = some x)
    (hu : P.underlying t = some (.slice e)) (hu1 : P.underlying t1 = some (.slice et)) (hsz : sizeOf? P e = some esz) (hi : P.info? e = some i) (hz : zd5 P e = some z) (hn0 : ¬ (esz = 0 ∨ z.length ≠ esz))
    (hs : opd s = some os) (hx : opd x = some ox)
    (h : (do
    let xd := ox.ev env
    let n ← zey σ xd
    let new ← ze6 σ esz n xd
    match os.ev env with
    | .c (.lit (.slice none 0 0)) =>
      if roomOk n i.bytes then
        if n = 0 then some (.c (.lit (.slice none 0 0)), σ, []) else some (.sl σ.length 0 n esz (n * esz), σ ++ [.cells new], [])
      else none
    | .sl b off len es sz => do
      let cs ← zeO σ b sz
      if es = esz ∧ off = 0 ∧ len * esz = sz ∧ roomOk (len + n) i.bytes then
        if n = 0 then some (.sl b 0 len esz sz, σ, [b])
        else some (.sl b 0 (len + n) esz (sz + n * esz), σ.set b (.cells (cs ++ new)), [b])
      else none
    | _ => none) = some (d, σ', wr)) : Gives P (execOp a.eval o) σ M Fz w σ' d := by
  obtain ⟨i', zv, hi', hzv, hzc⟩ := zfb hz
  rw [hi] at hi'
  simp only [Option.some.injEq] at hi'
  subst hi'
  simp only [not_or, Decidable.not_not] at hn0
  obtain ⟨hesz, hzl⟩ := hn0
  have hzs : zv.cells.size = esz := by
    have := (zft.ofCells (V.ofVal (σ := σ) (M := M) (Fz := Fz) (w := w) zv) hzc).1
    omega
  simp only [Option.bind_eq_bind, Option.bind_eq_some_iff] at h
  obtain ⟨n, hn, new, hnew, h⟩ := h
  have hvx := zcD E hx
  have hvs := zcD E hs
  obtain ⟨xad, xcap, hxv⟩ := sliceLen_inv hvx hn
  have heo : ∀ r, (Builtin.append_ ats o.type (args.map a.eval)).run P w = r → (execOp a.eval o).run P w = r.andThen fun v w' => .ok (.value v) w' := by
    intro r hr
    simp only [execOp, ho, resolve, invoke, builtin, Sem.run_bind, Sem.run_pure, Result.andThen_ok, hr]
  have ha1 : (args.map a.eval)[1]? = some (.slice xad n xcap) := by rw [Array.getElem?_map, hx0, Option.map_some, hxv]
  split at h
  · rename_i hes
    rw [hes] at hvs
    have hsv := hvs.lit_inv
    have ha0 : (args.map a.eval)[0]? = some (.slice none 0 0) := by rw [Array.getElem?_map, hs0, Option.map_some, hsv]
    split at h
    · rename_i hroom
      have hrun := run_append (ty := o.type) ht ht1 hu hu1 hsz hi hzv ha0 ha1 (by simpa using hroom) w
      split at h
      · rename_i hn0
        subst hn0
        simp only [Option.some.injEq, Prod.mk.injEq] at h
        obtain ⟨rfl, rfl, _⟩ := h
        obtain ⟨arr, hfc, hrow, hnl⟩ := zeg (P := P) R hvx hesz hnew
        rw [hxv] at hfc
        rw [if_pos (by omega), hfc] at hrun
        refine Gives.same R (v := .slice none 0 0) ?_ (.c (.lit _))
        rw [heo _ hrun]
        rfl
      · rename_i hn0
        simp only [Option.some.injEq, Prod.mk.injEq] at h
        obtain ⟨rfl, rfl, _⟩ := h
        rw [if_neg (by omega)] at hrun
        simp only [Nat.zero_add] at hrun
        have EH : Evo σ M Fz w σ M Fz w.drew := Evo.heap R rfl ⟨rfl, rfl, rfl⟩
        have R1 : Rel σ M Fz w.drew := R.heap rfl ⟨rfl, rfl, rfl⟩
        obtain ⟨arr, hfc, hrow, hnl⟩ := zeg (P := P) R1 (hvx.mono EH) hesz hnew
        rw [hxv] at hfc
        have hold : (Builtin.firstCells esz 0 (.slice none 0 0)).run P w.drew = .ok #[] w.drew := rfl
        rw [hold] at hrun
        simp only [Result.andThen_ok, hfc] at hrun
        have hnc := cut_le n 0 e (w.tape w.drawn (.appendCap n 0 e))
        generalize (Question.appendCap n 0 e).cut (w.tape w.drawn (.appendCap n 0 e)) = nc at hrun hnc
        have hm : n * esz + (nc - n) * esz = nc * esz := by rw [← Nat.add_mul]; congr 1; omega
        have hsize : (#[] ++ arr ++ Builtin.zeroCells zv.cells (nc - n)).size = nc * esz := by
          simp only [Array.size_append, zeroCells_size, hzs, hrow.1, hnl, Array.size_empty]
          omega
        obtain ⟨r1, r2⟩ := newRow_ok (P := P) R1.fz (cs := new) (arr := #[] ++ arr ++ Builtin.zeroCells zv.cells (nc - n)) e (by rw [hsize, hnl]; omega) (fun j y u h1 h2 => by
          have hj := (List.getElem?_eq_some_iff.1 h1).1
          rw [Array.getElem?_append_left (by simp [hrow.1]; exact hj)] at h2
          exact hrow.2 j y u h1 (by simpa using h2))
        rw [r1] at hrun
        refine ⟨_, _, _, _, by rw [heo _ hrun]; rfl, .inl rfl, R1.alloc _ _ r2, ?_, EH.trans (Evo.alloc R1.fz _ _) (Nat.le_refl _), by simp⟩
        rw [← hnl]
        exact V.newSl (by omega) (by rw [hsize]; exact Nat.le_refl _) (by omega)
    · simp at h
  · rename_i b off len es sz hes
    rw [hes] at hvs
    simp only [Option.bind_eq_some_iff] at h
    obtain ⟨cs, hr, h⟩ := h
    split at h
    · rename_i hcnd
      obtain ⟨rfl, rfl, hlsz, hroom⟩ := hcnd
      obtain ⟨hb, hcsz⟩ := ze1 hr
      rcases hvs.sl_inv hr with ⟨hva, e2, _, e4, e6⟩ | ⟨c, o', cap, arr0, T, hM, hva, hlc, hoff, hh, hcap, _⟩
      · subst e2 e4 e6
        have ha0 : (args.map a.eval)[0]? = some (.slice none 0 0) := by rw [Array.getElem?_map, hs0, Option.map_some, hva]
        have hrun := run_append (ty := o.type) ht ht1 hu hu1 hsz hi hzv ha0 ha1 hroom w
        split at h
        · rename_i hn0
          subst hn0
          simp only [Option.some.injEq, Prod.mk.injEq] at h
          obtain ⟨rfl, rfl, _⟩ := h
          obtain ⟨arr, hfc, hrow, hnl⟩ := zeg (P := P) R hvx hesz hnew
          rw [hxv] at hfc
          rw [if_pos (by omega), hfc] at hrun
          refine Gives.same R (v := .slice none 0 0) ?_ (hva ▸ hvs)
          rw [heo _ hrun]
          rfl
        · rename_i hn0
          simp only [Option.some.injEq, Prod.mk.injEq] at h
          obtain ⟨rfl, rfl, _⟩ := h
          rw [if_neg (by omega)] at hrun
          simp only [Nat.zero_add] at hrun
          have EH : Evo σ M Fz w σ M Fz w.drew := Evo.heap R rfl ⟨rfl, rfl, rfl⟩
          have R1 : Rel σ M Fz w.drew := R.heap rfl ⟨rfl, rfl, rfl⟩
          obtain ⟨arr, hfc, hrow, hnl⟩ := zeg (P := P) R1 (hvx.mono EH) hesz hnew
          rw [hxv] at hfc
          have hold : (Builtin.firstCells es 0 (.slice none 0 0)).run P w.drew = .ok #[] w.drew := rfl
          rw [hold] at hrun
          simp only [Result.andThen_ok, hfc] at hrun
          have hnc := cut_le n 0 e (w.tape w.drawn (.appendCap n 0 e))
          generalize (Question.appendCap n 0 e).cut (w.tape w.drawn (.appendCap n 0 e)) = nc at hrun hnc
          have hm : n * es + (nc - n) * es = nc * es := by rw [← Nat.add_mul]; congr 1; omega
          have hsize : (#[] ++ arr ++ Builtin.zeroCells zv.cells (nc - n)).size = nc * es := by
            simp only [Array.size_append, zeroCells_size, hzs, hrow.1, hnl, Array.size_empty]
            omega
          have hnrun : ∀ row, (newRow e row).run P w.drew = .ok ⟨w.drew.heap.size, 0, none⟩ (w.drew.alloc (.cells row e)) := fun _ => rfl
          rw [hnrun] at hrun
          have hnp : 0 < n * es := Nat.mul_pos (by omega) (by omega)
          have hss : (Ob.cells []).sz < (Ob.cells ([] ++ new)).sz := by simp [Ob.sz, hnl]; exact hnp
          have EV := Evo.move (o' := .cells (#[] ++ arr ++ Builtin.zeroCells zv.cells (nc - n)) e) R1 hb hss
          refine ⟨_, _, _, _, by rw [heo _ hrun]; rfl, .inl rfl, R1.move hb hss ?_, ?_, EH.trans EV (Nat.le_refl _), by simp⟩
          · refine ⟨_, e, rfl, by rw [hsize]; simp [hnl]; omega, fun j d v h1 h2 => ?_⟩
            have hjl := (List.getElem?_eq_some_iff.1 h1).1
            simp [hnl] at hjl
            rw [Array.getElem?_append_left (by simp [hrow.1, hnl]; omega)] at h2
            have := hrow.2 j d v (by simpa using h1) (by simpa using h2)
            exact ⟨this.1.mono EV, this.2⟩
          · have hbl := (List.getElem?_eq_some_iff.1 hb).1
            refine .sl _ _ _ (by simp) (.cells ([] ++ new)) (by simp [List.getElem?_set, hbl]) (by simp [Ob.sz, hnl]) (fun _ => .inr ?_)
            refine ⟨w.drew.heap.size, 0, _, e, by simp [upM], rfl, by omega, by omega, .inl rfl, heap_alloc_new _ _, by rw [hsize]; omega, by simp⟩
      have ha0 : (args.map a.eval)[0]? = some (.slice (some ⟨c, o', none⟩) len cap) := by rw [Array.getElem?_map, hs0, Option.map_some, hva]
      have hrun := run_append (ty := o.type) ht ht1 hu hu1 hsz hi hzv ha0 ha1 hroom w
      obtain ⟨arr0', T', hh', hl0, hcs⟩ := R.row hM hb
      rw [hh] at hh'
      simp only [Option.some.injEq, Obj.cells.injEq, and_true] at hh'
      obtain ⟨rfl, rfl⟩ := hh'
      split at h
      · rename_i hn0
        subst hn0
        simp only [Option.some.injEq, Prod.mk.injEq] at h
        obtain ⟨rfl, rfl, _⟩ := h
        obtain ⟨arr, hfc, hrow, hnl⟩ := zeg (P := P) R hvx hesz hnew
        rw [hxv] at hfc
        rw [if_pos (by omega), hfc] at hrun
        have harr : arr.toList = [] := by
          have : arr.size = 0 := by rw [hrow.1, hnl]; omega
          simpa using this
        simp only [Result.andThen_ok, harr, storeCells, Sem.run_pure] at hrun
        refine Gives.same R (v := .slice (some ⟨c, o', none⟩) len cap) ?_ (hva ▸ hvs)
        rw [heo _ hrun]
        rfl
      · rename_i hn0
        simp only [Option.some.injEq, Prod.mk.injEq] at h
        obtain ⟨rfl, rfl, _⟩ := h
        by_cases hle : len + n ≤ cap
        · rw [if_pos hle] at hrun
          obtain ⟨arr, hfc, hrow, hnl⟩ := zeg (P := P) R hvx hesz hnew
          rw [hxv] at hfc
          have hoo : o' = 0 := by
            rcases hoff with h | h
            · exact h
            · omega
          subst hoo
          have hm : (len + n) * es ≤ cap * es := Nat.mul_le_mul_right _ hle
          rw [Nat.add_mul] at hm
          have hst := run_storeCells' P T c arr.toList (0 + len * es) w arr0 hh hrow.ones (by simp [hrow.1, hnl]; omega)
          rw [hfc] at hrun
          simp only [Result.andThen_ok, add_off, hst] at hrun
          have hss : (Ob.cells cs).sz ≤ (Ob.cells (cs ++ new)).sz := by simp [Ob.sz]
          have hshp : ∀ arr1 T1 fr, Obj.cells arr0 T (0, 0) = .cells arr1 T1 fr → ∃ arr', Obj.cells (putA arr0 (0 + len * es) arr.toList) T (0, 0) = .cells arr' T1 fr ∧ arr'.size = arr1.size := by
            intro arr1 T1 fr h
            simp only [Obj.cells.injEq] at h
            obtain ⟨rfl, rfl, rfl⟩ := h
            exact ⟨_, rfl, putA_size (by simp [hrow.1, hnl]; omega)⟩
          have EV := Evo.upd R hM hb hh hss hshp
          refine ⟨_, _, _, M, by rw [heo _ hrun]; rfl, .inl rfl, R.upd hM hb hh hss hshp ?_, ?_, EV, by simp⟩
          · refine ⟨_, T, rfl, ?_, fun j d v h1 h2 => ?_⟩
            · rw [putA_size (by simp [hrow.1, hnl]; omega)]
              simp [hnl]
              omega
            · rw [getElem?_putA (by simp [hrow.1, hnl]; omega)] at h2
              simp only [Array.length_toList, hrow.1, hnl] at h2
              by_cases hj : j < cs.length
              · rw [List.getElem?_append_left hj] at h1
                rw [if_neg (by omega)] at h2
                have := hcs j d v h1 h2
                exact ⟨this.1.mono EV, this.2⟩
              · rw [List.getElem?_append_right (by omega)] at h1
                have hjl := (List.getElem?_eq_some_iff.1 h1).1
                rw [if_pos (by omega)] at h2
                have := hrow.2 (j - cs.length) d v h1 (by
                  rw [Array.getElem?_toList] at h2
                  rw [← h2]
                  congr 1
                  omega)
                exact ⟨this.1.mono EV, this.2⟩
          · have hbl := (List.getElem?_eq_some_iff.1 hb).1
            refine .sl _ _ _ (by simp) (.cells (cs ++ new)) (by simp [List.getElem?_set, hbl]) (by simp [Ob.sz, hcsz, hnl]) (fun _ => .inr ?_)
            refine ⟨c, 0, _, T, hM, rfl, rfl, hle, .inl rfl, setO_same (R.lt hM).2, ?_, ?_⟩
            · rw [putA_size (by simp [hrow.1, hnl]; omega)]
              omega
            · rw [Nat.add_mul]
              omega
        · rw [if_neg hle] at hrun
          have EH : Evo σ M Fz w σ M Fz w.drew := Evo.heap R rfl ⟨rfl, rfl, rfl⟩
          have R1 : Rel σ M Fz w.drew := R.heap rfl ⟨rfl, rfl, rfl⟩
          obtain ⟨arr, hfc, hrow, hnl⟩ := zeg (P := P) R1 (hvx.mono EH) hesz hnew
          rw [hxv] at hfc
          have hsc : ze6 σ es len (.sl b 0 len es sz) = some cs := by
            have hc : es = es ∧ len ≤ len ∧ 0 + len * es ≤ sz := ⟨rfl, Nat.le_refl _, by omega⟩
            show ((zeO σ b sz).bind fun cs => if es = es ∧ len ≤ len ∧ 0 + len * es ≤ sz then some ((cs.drop 0).take (len * es)) else none) = some cs
            rw [hr, Option.bind_some, if_pos hc, List.drop_zero, List.take_of_length_le (by omega)]
          obtain ⟨old, hfo, hro, hol⟩ := zeg (P := P) R1 (hvs.mono EH) hesz hsc
          rw [hva] at hfo
          rw [hfo] at hrun
          simp only [Result.andThen_ok, hfc] at hrun
          have hnc := cut_le (len + n) cap e (w.tape w.drawn (.appendCap (len + n) cap e))
          generalize (Question.appendCap (len + n) cap e).cut (w.tape w.drawn (.appendCap (len + n) cap e)) = nc at hrun hnc
          have hm : (len + n) * es + (nc - (len + n)) * es = nc * es := by rw [← Nat.add_mul]; congr 1; omega
          rw [Nat.add_mul] at hm
          have hsize : (old ++ arr ++ Builtin.zeroCells zv.cells (nc - (len + n))).size = nc * es := by
            simp only [Array.size_append, zeroCells_size, hzs, hrow.1, hnl, hro.1, hol]
            omega
          have hnrun : ∀ row, (newRow e row).run P w.drew = .ok ⟨w.drew.heap.size, 0, none⟩ (w.drew.alloc (.cells row e)) := fun _ => rfl
          rw [hnrun] at hrun
          have hnp : 0 < n * es := Nat.mul_pos (by omega) (by omega)
          have hss : (Ob.cells cs).sz < (Ob.cells (cs ++ new)).sz := by simp [Ob.sz, hnl]; exact hnp
          have EV := Evo.move (o' := .cells (old ++ arr ++ Builtin.zeroCells zv.cells (nc - (len + n))) e) R1 hb hss 
          refine ⟨_, _, _, _, by rw [heo _ hrun]; rfl, .inl rfl, R1.move hb hss  ?_, ?_, EH.trans EV (Nat.le_refl _), by simp⟩
          · refine ⟨_, e, rfl, by rw [hsize]; simp [hnl]; omega, fun j d v h1 h2 => ?_⟩
            have hjl := (List.getElem?_eq_some_iff.1 h1).1
            simp [hnl] at hjl
            rw [Array.getElem?_append_left (by simp [hro.1, hrow.1, hnl]; omega)] at h2
            by_cases hj : j < cs.length
            · rw [List.getElem?_append_left hj] at h1
              rw [Array.getElem?_append_left (by rw [hro.1]; exact hj)] at h2
              have := hro.2 j d v h1 h2
              exact ⟨this.1.mono EV, this.2⟩
            · rw [List.getElem?_append_right (by omega)] at h1
              rw [Array.getElem?_append_right (by rw [hro.1]; omega), hro.1] at h2
              have := hrow.2 _ d v h1 h2
              exact ⟨this.1.mono EV, this.2⟩
          · have hbl := (List.getElem?_eq_some_iff.1 hb).1
            refine .sl _ _ _ (by simp) (.cells (cs ++ new)) (by simp [List.getElem?_set, hbl]) (by simp [Ob.sz, hcsz, hnl]) (fun _ => .inr ?_)
            refine ⟨w.drew.heap.size, 0, _, e, by simp [upM], rfl, rfl, by omega, .inl rfl, heap_alloc_new _ _, by rw [hsize]; omega, by rw [Nat.add_mul]; omega⟩
    · simp at h
  · simp at h
theorem copy_ok (R : Rel σ M Fz w) (E : zbb σ M Fz w env a.tmps) {o : Oper} {t e : TypeId} {args : Array Operand} {ats : Array TypeId} {s x : Operand} {os ox : Opd} {esz b off len sz n m : Nat} {cs new : List D}
    (ho : o.op = .call { callee := .builtin .copy, args := args, argTypes := ats }) (ht : ats[0]? = some t) (hs0 : args[0]? = some s) (hx0 : args[1]? = some x)
    (hu : P.underlying t = some (.slice e)) (hsz : sizeOf? P e = some esz) (hn0 : esz ≠ 0) (hs : opd s = some os) (hx : opd x = some ox)
    (hes : os.ev env = .sl b off len esz sz) (hr : zeO σ b sz = some cs) (hm : zey σ (ox.ev env) = some m) (hn : n = min m len) (hnew : ze6 σ esz n (ox.ev env) = some new) (hle : off + len * esz ≤ sz) (hpos : 0 < sz) :
    Gives P (execOp a.eval o) σ M Fz w (σ.set b (.cells (put cs off new))) (.c (.lit (.int .i64 n))) := by
  have hvx := zcD E hx
  have hvs := zcD E hs
  rw [hes] at hvs
  obtain ⟨xad, xcap, hxv⟩ := sliceLen_inv hvx hm
  rcases hvs.sl_inv hr with ⟨_, _, _, e4, _⟩ | ⟨c, o', cap, arr0, T, hM, hva, hlc, hoff, hh, hcap, _⟩
  · omega
  obtain ⟨hb, hcsz⟩ := ze1 hr
  obtain ⟨arr0', T', hh', hl0, hcs⟩ := R.row hM hb
  rw [hh] at hh'
  simp only [Option.some.injEq, Obj.cells.injEq, and_true] at hh'
  obtain ⟨rfl, rfl⟩ := hh'
  obtain ⟨arr, hfc, hrow, hnl⟩ := zeg (P := P) R hvx hn0 hnew
  rw [hxv] at hfc
  have hnlen : n * esz ≤ len * esz := Nat.mul_le_mul_right _ (by omega)
  have hst : (storeCells ⟨c, o', none⟩ arr.toList).run P w = .ok () (setO w c (.cells (putA arr0 off arr.toList) T (0, 0))) := by
    by_cases hz : n = 0
    · have : arr.toList = [] := by
        have : arr.size = 0 := by rw [hrow.1, hnl, hz, Nat.zero_mul]
        simpa using this
      rw [this]
      have h2 : putA arr0 off [] = arr0 := by apply Array.ext'; simp [putA]
      rw [h2, setO_id hh]
      rfl
    · have hoo : o' = off := by
        rcases hoff with h | h
        · exact h
        · omega
      subst hoo
      exact run_storeCells' P T c arr.toList o' w arr0 hh hrow.ones (by simp [hrow.1, hnl]; omega)
  have hlen : off + new.length ≤ cs.length := by omega
  have hss : (Ob.cells cs).sz ≤ (Ob.cells (put cs off new)).sz := by simp [Ob.sz, length_put hlen]
  have hshp : ∀ arr1 T1 fr, Obj.cells arr0 T (0, 0) = .cells arr1 T1 fr → ∃ arr', Obj.cells (putA arr0 off arr.toList) T (0, 0) = .cells arr' T1 fr ∧ arr'.size = arr1.size := by
    intro arr1 T1 fr h
    simp only [Obj.cells.injEq] at h
    obtain ⟨rfl, rfl, rfl⟩ := h
    exact ⟨_, rfl, putA_size (by simp [hrow.1, hnl]; omega)⟩
  have EV := Evo.upd R hM hb hh hss hshp
  refine ⟨.value (.int .i64 n), _, _, M, ?_, .inl rfl, R.upd hM hb hh hss hshp ?_, .c (.lit _), EV, by simp⟩
  · have ha0 : (args.map a.eval)[0]? = some (.slice (some ⟨c, o', none⟩) len cap) := by rw [Array.getElem?_map, hs0, Option.map_some, hva]
    have ha1 : (args.map a.eval)[1]? = some (.slice xad m xcap) := by rw [Array.getElem?_map, hx0, Option.map_some, hxv]
    have hl : (Builtin.lenOf (.slice xad m xcap)).run P w = .ok m w := rfl
    have hmin : Nat.min m len = n := hn.symm
    simp only [execOp, ho, resolve, invoke, builtin, Builtin.copy_, ht, ha0, ha1, Sem.run_bind, Sem.run_pure, zbr hu, Result.andThen_ok, hl, zfm hsz, hmin, hfc, hst, goInt]
  · refine ⟨_, T, rfl, by rw [length_put hlen, putA_size (by simp [hrow.1, hnl]; omega)]; exact hl0, fun j d v h1 h2 => ?_⟩
    rw [getElem?_put hlen] at h1
    rw [getElem?_putA (by simp [hrow.1, hnl]; omega)] at h2
    simp only [Array.length_toList, hrow.1] at h2
    split at h1
    · rename_i hcnd
      rw [if_pos hcnd] at h2
      have := hrow.2 _ _ _ h1 (by simpa using h2)
      exact ⟨this.1.mono EV, this.2⟩
    · rename_i hcnd
      rw [if_neg hcnd] at h2
      have := hcs _ _ _ h1 h2
      exact ⟨this.1.mono EV, this.2⟩
end
end Go.Abs
