/- One operation, soundly (part 3): addresses, slices, functions, parts. -/
import Derived.Test.YtffiheekdcaihaaDoorDfwE
set_option linter.all false
namespace Go.Abs
variable [Gl]
section
variable {P : Program} {σ σ' : Heap} {M M' : Nat → Option Nat} {Fz : Nat → Prop} {w w' : World} {env : List D} {a : Act}
theorem V.fld {b o sz off : Nat} {v : Value} (h : V σ M Fz w (.ptr b o sz) v) : ∃ ad, v = .pointer (some ad) ∧ V σ M Fz w (.ptr b (o + off) sz) (.pointer (some (ad.add off))) := by
  cases h with
  | ptr ad ob hb hle hv =>
    refine ⟨ad, rfl, .ptr _ ob hb hle (fun he => ?_)⟩
    obtain ⟨c, hc, rfl⟩ := hv he
    exact ⟨c, hc, by rw [add_off]⟩
theorem VC.fld {cs : List C} {o off : Nat} {v : Value} (h : VC Fz w (.fptr cs o) v) : ∃ ad, v = .pointer (some ad) ∧ VC Fz w (.fptr cs (o + off)) (.pointer (some (ad.add off))) := by
  generalize hx : C.fptr cs o = x at h
  cases h with
  | fptr blk o0 c hF hc hv =>
    simp only [C.fptr.injEq] at hx
    obtain ⟨rfl, rfl⟩ := hx
    refine ⟨_, rfl, ?_⟩
    rw [add_off, Nat.add_assoc]
    exact .fptr blk o0 c hF hc hv
  | _ => simp at hx
theorem V.c_inv {x : C} {v : Value} (h : V σ M Fz w (.c x) v) : VC Fz w x v := by cases h with | c h => exact h
theorem fld_ok (E : zbb σ M Fz w env a.tmps) {o : Oper} {s : TypeId} {x : Operand} {ox : Opd} {f n : Nat} {fs : Array Field} {fd : Field} {d : D} (ho : o.op = .fieldAddr s x f)
    (hx : opd x = some ox) (hu : P.underlying s = some (.struct fs)) (hf : fs[f]? = some fd) (hn : sizeOf? P fd.type = some n) (hn0 : n ≠ 0)
    (h : (match ox.ev env with
    | .ptr b o sz => some (.ptr b (o + fd.offset) sz, σ, ([] : List Nat))
    | .c (.fptr cs o) => some (.c (.fptr cs (o + fd.offset)), σ, [])
    | _ => none) = some (d, σ', [])) : σ' = σ ∧ Yields P (execOp a.eval o) σ M Fz w d := by
  have hv := zcD E hx
  have key : ∀ ad, a.eval x = .pointer (some ad) → (execOp a.eval o).run P w = .ok (.value (.pointer (some (ad.add fd.offset)))) w := by
    intro ad had
    simp only [execOp, ho, Instr.fieldAt, Sem.run_bind, zbr hu, Result.andThen_ok, hf, had, Instr.sureAddr, Sem.run_pure, fieldPlace, zfm hn]
    rw [if_neg hn0]
    simp only [Sem.run_pure, Result.andThen_ok]
  split at h
  · rename_i b o' sz he
    rw [he] at hv
    simp only [Option.some.injEq, Prod.mk.injEq] at h
    obtain ⟨rfl, rfl, _⟩ := h
    obtain ⟨ad, had, hV⟩ := hv.fld (off := fd.offset)
    exact ⟨rfl, Yields.same (key ad had) hV⟩
  · rename_i cs o' he
    rw [he] at hv
    simp only [Option.some.injEq, Prod.mk.injEq] at h
    obtain ⟨rfl, rfl, _⟩ := h
    obtain ⟨ad, had, hV⟩ := hv.c_inv.fld (off := fd.offset)
    exact ⟨rfl, Yields.same (key ad had) (.c hV)⟩
  · simp at h
theorem inR_inv {i : Int} {n k : Nat} (h : inR i n = some k) : 0 ≤ i ∧ i < n ∧ i.toNat = k ∧ k < n := by
  unfold inR at h
  split at h
  · rename_i hc; simp only [Option.some.injEq] at h; omega
  · simp at h
theorem inB_inv {i : Int} {n k : Nat} (h : inB i n = some k) : 0 ≤ i ∧ i ≤ n ∧ i.toNat = k ∧ k ≤ n := by
  unfold inB at h
  split at h
  · rename_i hc; simp only [Option.some.injEq] at h; omega
  · simp at h
theorem V.sl_inv {b off len esz sz : Nat} {v : Value} {cs : List D} (h : V σ M Fz w (.sl b off len esz sz) v) (hr : zeO σ b sz = some cs) :
    (v = .slice none 0 0 ∧ len = 0 ∧ off = 0 ∧ sz = 0 ∧ cs = []) ∨ ∃ c o cap arr T, M b = some c ∧ v = .slice (some ⟨c, o, none⟩) len cap ∧ len ≤ cap ∧ (o = off ∨ cap = 0) ∧ w.heap[c]? = some (.cells arr T (0, 0)) ∧ o + cap * esz ≤ arr.size ∧ off + len * esz ≤ sz := by
  obtain ⟨h1, h2⟩ := ze1 hr
  cases h with
  | sl ad n cap hnn ob hb hle hv =>
    rw [h1] at hb
    simp only [Option.some.injEq] at hb
    subst hb
    rcases hv h2 with ⟨e1, e2, e3, e4, e5, e6⟩ | ⟨c, o, arr, T, hc, ha, hn, hl, ho, hh, hb, hz⟩
    · subst e1 e2 e3
      refine .inl ⟨rfl, e4, e5, e6, ?_⟩
      rw [e6] at h2
      exact List.eq_nil_of_length_eq_zero h2
    · exact .inr ⟨c, o, cap, arr, T, hc, by rw [ha, hn], hl, ho, hh, hb, hz⟩
theorem V.mkPtr {b c off sz : Nat} {cs : List D} (hr : zeO σ b sz = some cs) (hM : M b = some c) : V σ M Fz w (.ptr b off sz) (.pointer (some ⟨c, off, none⟩)) := by
  obtain ⟨h1, h2⟩ := ze1 hr
  exact .ptr _ _ h1 (by simp [Ob.sz, h2]) (fun _ => ⟨c, hM, rfl⟩)
theorem idx_ok (E : zbb σ M Fz w env a.tmps) {o : Oper} {t e : TypeId} {x i : Operand} {ox oi : Opd} {n : Nat} {d : D} (ho : o.op = .indexAddr t x i)
    (hx : opd x = some ox) (hi : opd i = some oi) (hu : P.underlying t = some (.slice e)) (hn : sizeOf? P e = some n) (hn0 : n ≠ 0)
    (h : (do
    let i ← ze3 (oi.ev env)
    match ox.ev env with
    | .sl b off len es sz => do
      let _ ← zeO σ b sz
      let k ← inR i len
      if es = n then some (.ptr b (off + k * n) sz, σ, ([] : List Nat)) else none
    | .c (.frz _ es) => do
      let k ← inR i es.length
      let e ← es[k]?
      if e.length = n then some (.c (.fptr e 0), σ, []) else none
    | _ => none) = some (d, σ', [])) : σ' = σ ∧ Yields P (execOp a.eval o) σ M Fz w d := by
  have hv := zcD E hx
  have hvi := zcD E hi
  simp only [Option.bind_eq_bind, Option.bind_eq_some_iff] at h
  obtain ⟨z, hz, h⟩ := h
  obtain ⟨k0, hk0⟩ := litInt_inv hvi hz
  have key : ∀ ad len cap, a.eval x = .slice (some ad) len cap → 0 ≤ z → z < len → (execOp a.eval o).run P w = .ok (.value (.pointer (some (ad.add (z.toNat * n))))) w := by
    intro ad len cap had h1 h2
    simp only [execOp, ho, Instr.indexAt, Sem.run_bind, hk0, asIntOf, Sem.run_pure, Result.andThen_ok, zbr hu, had]
    rw [if_pos ⟨h1, h2⟩]
    simp only [Sem.run_bind, zfm hn, Result.andThen_ok, Sem.run_pure]
  split at h
  · rename_i b off len es sz he
    rw [he] at hv
    simp only [Option.bind_eq_some_iff] at h
    obtain ⟨cs, hr, k, hk, h⟩ := h
    split at h
    · rename_i hes
      simp only [Option.some.injEq, Prod.mk.injEq] at h
      obtain ⟨rfl, rfl, _⟩ := h
      obtain ⟨h1, h2, h3, h4⟩ := inR_inv hk
      rcases hv.sl_inv hr with ⟨_, e2, _⟩ | ⟨c, o', cap, arr, T, hM, hva, hl, hoff, hh, hcap, hsz⟩
      · omega
      have hoo : o' = off := by
        rcases hoff with h | h
        · exact h
        · omega
      subst hoo
      refine ⟨rfl, Yields.same (key _ _ _ hva h1 h2) ?_⟩
      rw [add_off, h3]
      exact V.mkPtr hr hM
    · simp at h
  · rename_i nn es he
    rw [he] at hv
    simp only [Option.bind_eq_some_iff] at h
    obtain ⟨k, hk, el, hel, h⟩ := h
    split at h
    · rename_i hes
      simp only [Option.some.injEq, Prod.mk.injEq] at h
      obtain ⟨rfl, rfl, _⟩ := h
      obtain ⟨h1, h2, h3, h4⟩ := inR_inv hk
      have hvc := hv.c_inv
      generalize hva : a.eval x = va at hvc
      cases hvc with
      | frz esz ad cap hnn hz c hsz hcap hc hvv =>
        have hesz : esz = n := by rw [← hes]; exact (hsz el (List.mem_of_getElem? hel)).symm
        subst hesz
        have hpos : 0 < el.length := by omega
        obtain ⟨blk, o0, rfl, hF, _, _⟩ := hc k 0 el el[0] hel (List.getElem?_eq_getElem hpos)
        refine ⟨rfl, Yields.same (key _ _ _ hva h1 h2) ?_⟩
        rw [add_off, h3]
        refine .c ?_
        have := VC.fptr (Fz := Fz) (w := w) (cs := el) (off := 0) blk (o0 + k * esz) (c k) hF (fun j d hj => ?_) (fun j d hj => hvv k j el d hel hj)
        · simpa using this
        · obtain ⟨blk', o0', h5, _, h6, h7⟩ := hc k j el d hel hj
          simp only [Option.some.injEq, Addr.mk.injEq, and_true] at h5
          obtain ⟨rfl, rfl⟩ := h5
          exact ⟨h6, h7⟩
    · simp at h
  · simp at h
theorem aidxAddr_ok (E : zbb σ M Fz w env a.tmps) {o : Oper} {t e : TypeId} {x i : Operand} {ox oi : Opd} {n len : Nat} {d : D} (ho : o.op = .indexAddr t x i)
    (hx : opd x = some ox) (hi : opd i = some oi) (hu : P.underlying t = some (.array len e)) (hn : sizeOf? P e = some n)
    (h : (do
    let i ← ze3 (oi.ev env)
    let k ← inR i len
    match ox.ev env with
    | .ptr b off sz => some (.ptr b (off + k * n) sz, σ, ([] : List Nat))
    | .c (.fptr cs off) => some (.c (.fptr cs (off + k * n)), σ, [])
    | _ => none) = some (d, σ', [])) : σ' = σ ∧ Yields P (execOp a.eval o) σ M Fz w d := by
  have hv := zcD E hx
  have hvi := zcD E hi
  simp only [Option.bind_eq_bind, Option.bind_eq_some_iff] at h
  obtain ⟨z, hz, k, hk, h⟩ := h
  obtain ⟨k0, hk0⟩ := litInt_inv hvi hz
  obtain ⟨h1, h2, h3, h4⟩ := inR_inv hk
  have key : ∀ ad, a.eval x = .pointer (some ad) → (execOp a.eval o).run P w = .ok (.value (.pointer (some (ad.add (k * n))))) w := by
    intro ad had
    simp only [execOp, ho, Instr.indexAt, Sem.run_bind, hk0, asIntOf, Sem.run_pure, Result.andThen_ok, zbr hu, had, Instr.sureAddr]
    rw [if_pos ⟨h1, h2⟩]
    simp only [Sem.run_bind, zfm hn, Result.andThen_ok, Sem.run_pure, h3]
  split at h
  · rename_i b off sz he
    rw [he] at hv
    simp only [Option.some.injEq, Prod.mk.injEq] at h
    obtain ⟨rfl, rfl, _⟩ := h
    obtain ⟨ad, had, hV⟩ := hv.fld (off := k * n)
    exact ⟨rfl, Yields.same (key ad had) hV⟩
  · rename_i cs off he
    rw [he] at hv
    simp only [Option.some.injEq, Prod.mk.injEq] at h
    obtain ⟨rfl, rfl, _⟩ := h
    obtain ⟨ad, had, hV⟩ := hv.c_inv.fld (off := k * n)
    exact ⟨rfl, Yields.same (key ad had) (.c hV)⟩
  · simp at h
theorem sliceBound_ok (E : zbb σ M Fz w env a.tmps) {x : Operand} {ox : Opd} {n k : Nat} (hx : opd x = some ox) (h : ((ze3 (ox.ev env)).bind fun i => inB i n) = some k) (most : Nat) (hm : n ≤ most) (code : BoundsCode) :
    (Instr.sliceBound (a.eval x) most code).run P w = .ok k w ∧ k ≤ n := by
  simp only [Option.bind_eq_some_iff] at h
  obtain ⟨i, hi, hb⟩ := h
  obtain ⟨k0, hk0⟩ := litInt_inv (zcD E hx) hi
  obtain ⟨h1, h2, h3, h4⟩ := inB_inv hb
  refine ⟨?_, h4⟩
  simp only [Instr.sliceBound, Sem.run_bind, hk0, asIntOf, Sem.run_pure, Result.andThen_ok]
  rw [if_pos ⟨h1, by omega⟩, h3]
  rfl
theorem sliceBounds_ok (E : zbb σ M Fz w env a.tmps) {lo hi : Option Operand} {olo ohi : Option Opd} {len cap l h : Nat} (hlo : opdO lo = some olo) (hhi : opdO hi = some ohi) (hc : len ≤ cap)
    (h1 : zcJ env len len ohi = some h) (h2 : zcJ env 0 h olo = some l) :
    (Instr.sliceBounds true len cap (lo.map a.eval) (hi.map a.eval) none).run P w = .ok (l, h, cap) w ∧ h ≤ len ∧ l ≤ h := by
  have hh : h ≤ len ∧ (match hi.map a.eval, (none : Option Value) with
    | some v, some _ => Instr.sliceBound v cap .slice3B
    | some v, none => Instr.sliceBound v cap (if true then .sliceAcap else .sliceAlen)
    | none, none => pure len
    | none, some _ => stuck "Slice: max without high" : Sem Nat).run P w = .ok h w := by
    cases hi with
    | none =>
      simp only [opdO, Option.some.injEq] at hhi
      subst hhi
      simp only [zcJ, Option.some.injEq] at h1
      subst h1
      exact ⟨Nat.le_refl _, rfl⟩
    | some x =>
      simp only [opdO, Option.map_eq_some_iff] at hhi
      obtain ⟨ox, hox, rfl⟩ := hhi
      simp only [zcJ] at h1
      obtain ⟨h3, h4⟩ := sliceBound_ok (P := P) (w := w) E hox h1 cap hc .sliceAcap
      exact ⟨h4, by simpa using h3⟩
  have hl : l ≤ h ∧ (match lo.map a.eval with
    | some v => Instr.sliceBound v h (if (none : Option Value).isSome then .slice3C else .sliceB)
    | none => pure 0 : Sem Nat).run P w = .ok l w := by
    cases lo with
    | none =>
      simp only [opdO, Option.some.injEq] at hlo
      subst hlo
      simp only [zcJ, Option.some.injEq] at h2
      subst h2
      exact ⟨Nat.zero_le _, rfl⟩
    | some x =>
      simp only [opdO, Option.map_eq_some_iff] at hlo
      obtain ⟨ox, hox, rfl⟩ := hlo
      simp only [zcJ] at h2
      obtain ⟨h3, h4⟩ := sliceBound_ok (P := P) (w := w) E hox h2 h (Nat.le_refl _) .sliceB
      exact ⟨h4, by simpa using h3⟩
  refine ⟨?_, hh.1, hl.1⟩
  have hh2 := hh.2
  have hl2 := hl.2
  clear hh hl
  cases hi <;> cases lo <;> simp only [Option.map_some, Option.map_none, Sem.run_pure, Result.ok.injEq, and_true] at hh2 hl2 <;>
    simp only [Instr.sliceBounds, Option.map_some, Option.map_none, Sem.run_bind, Sem.run_pure, Result.andThen_ok, hh2, hl2]
theorem slc_ok (E : zbb σ M Fz w env a.tmps) {o : Oper} {t e : TypeId} {x : Operand} {lo hi : Option Operand} {ox : Opd} {olo ohi : Option Opd} {n : Nat} {d : D}
    (ho : o.op = .slice t x lo hi none) (hx : opd x = some ox) (hlo : opdO lo = some olo) (hhi : opdO hi = some ohi) (hu : P.underlying t = some (.slice e)) (hn : sizeOf? P e = some n)
    (h : (match ox.ev env with
    | .c (.lit (.slice none 0 0)) => do
      let h ← zcJ env 0 0 ohi
      let _ ← zcJ env 0 h olo
      some (.c (.lit (.slice none 0 0)), σ, ([] : List Nat))
    | .c (.frz nn es) => do
      let h ← zcJ env es.length es.length ohi
      let l ← zcJ env 0 h olo
      if es.all (fun e => e.length = n) then some (.c (.frz nn ((es.take h).drop l)), σ, []) else none
    | .sl b off len es sz => do
      let _ ← zeO σ b sz
      let h ← zcJ env len len ohi
      let l ← zcJ env 0 h olo
      if es = n then some (.sl b (off + l * n) (h - l) n sz, σ, []) else none
    | _ => none) = some (d, σ', [])) : σ' = σ ∧ Yields P (execOp a.eval o) σ M Fz w d := by
  have hv := zcD E hx
  have key : ∀ ad len cap l h, a.eval x = .slice ad len cap → (Instr.sliceBounds true len cap (lo.map a.eval) (hi.map a.eval) none).run P w = .ok (l, h, cap) w →
      (execOp a.eval o).run P w = .ok (.value (.slice (if cap = l then ad else ad.map (·.add (l * n))) (h - l) (cap - l))) w := by
    intro ad len cap l h hva hb
    have hnotarr : ∀ (s : Sem Value), (match TypeDesc.slice e with | .array _ _ => s | _ => Instr.slice t (a.eval x) (lo.map a.eval) (hi.map a.eval) none) = Instr.slice t (a.eval x) (lo.map a.eval) (hi.map a.eval) none := fun _ => rfl
    simp only [execOp, ho, Instr.sliceAt, Sem.run_bind, zbr hu, Result.andThen_ok, Option.map_none]
    simp only [Instr.slice, Sem.run_bind, zbr hu, Result.andThen_ok, hva, hb, zfm hn, Sem.run_pure]
  split at h
  · rename_i he
    rw [he] at hv
    simp only [Option.bind_eq_bind, Option.bind_eq_some_iff, Option.some.injEq, Prod.mk.injEq] at h
    obtain ⟨h', h1, l, h2, rfl, rfl, _⟩ := h
    obtain ⟨hb, h3, h4⟩ := sliceBounds_ok (P := P) (w := w) E hlo hhi (Nat.le_refl 0) h1 h2
    refine ⟨rfl, Yields.same (key _ _ _ _ _ hv.lit_inv hb) ?_⟩
    obtain rfl : h' = 0 := by omega
    obtain rfl : l = 0 := by omega
    exact .c (.lit _)
  · rename_i nn es he
    rw [he] at hv
    simp only [Option.bind_eq_bind, Option.bind_eq_some_iff] at h
    obtain ⟨h', h1, l, h2, h⟩ := h
    split at h
    · rename_i hall
      simp only [Option.some.injEq, Prod.mk.injEq] at h
      obtain ⟨rfl, rfl, _⟩ := h
      have hvc := hv.c_inv
      generalize hva : a.eval x = va at hvc
      cases hvc with
      | frz esz ad cap hnn hz c hsz hcap hc hvv =>
        obtain ⟨hb, h3, h4⟩ := sliceBounds_ok (P := P) (w := w) E hlo hhi hcap h1 h2
        refine ⟨rfl, Yields.same (key _ _ _ _ _ hva hb) (.c ?_)⟩
        have hlen : ((es.take h').drop l).length = h' - l := by simp; omega
        rw [← hlen]
        refine .frz n _ _ (fun hn => by have := hnn hn; split <;> simp [this]) (fun hn => by
          by_cases hcl : cap = l
          · omega
          · rw [if_neg hcl] at hn
            simp only [Option.map_eq_none_iff] at hn
            have := hz hn
            omega) (fun i j => c (l + i) j) (fun e he => ?_) (by rw [hlen]; omega) (fun i j e d h5 h6 => ?_) (fun i j e d h5 h6 => ?_)
        · have := List.all_eq_true.1 hall e (List.mem_of_mem_take (List.mem_of_mem_drop he))
          simpa using this
        · rw [List.getElem?_drop] at h5
          have hlt := (List.getElem?_eq_some_iff.1 h5).1
          simp at hlt
          rw [List.getElem?_take_of_lt (by omega)] at h5
          obtain ⟨blk, o0, rfl, hF, hcell, h1c⟩ := hc (l + i) j e d h5 h6
          have hesz : esz = n := by
            rw [← hsz e (List.mem_of_getElem? h5)]
            have := List.all_eq_true.1 hall e (List.mem_of_getElem? h5)
            simpa using this
          subst hesz
          refine ⟨blk, o0 + l * esz, by rw [if_neg (by omega)]; simp [add_off], hF, ?_, h1c⟩
          rw [← hcell]
          congr 2
          rw [Nat.add_mul]
          omega
        · rw [List.getElem?_drop] at h5
          have hlt := (List.getElem?_eq_some_iff.1 h5).1
          simp at hlt
          rw [List.getElem?_take_of_lt (by omega)] at h5
          exact hvv (l + i) j e d h5 h6
    · simp at h
  · rename_i b off len es sz he
    rw [he] at hv
    simp only [Option.bind_eq_bind, Option.bind_eq_some_iff] at h
    obtain ⟨cs, hr, h', h1, l, h2, h⟩ := h
    split at h
    · rename_i hes
      subst hes
      simp only [Option.some.injEq, Prod.mk.injEq] at h
      obtain ⟨rfl, rfl, _⟩ := h
      obtain ⟨h5, h6⟩ := ze1 hr
      rcases hv.sl_inv hr with ⟨hva, e2, e3, e4, e6⟩ | ⟨c, o', cap, arr, T, hM, hva, hl, hoff, hh, hcap, hsz⟩
      · subst e2
        obtain ⟨hb, h3, h4⟩ := sliceBounds_ok (P := P) (w := w) E hlo hhi (Nat.le_refl 0) h1 h2
        refine ⟨rfl, Yields.same (key _ _ _ _ _ hva hb) ?_⟩
        obtain rfl : h' = 0 := by omega
        obtain rfl : l = 0 := by omega
        exact .sl _ _ _ (by simp) _ h5 (by simp [Ob.sz, h6]) (fun _ => .inl ⟨rfl, rfl, rfl, rfl, by omega, e4⟩)
      obtain ⟨hb, h3, h4⟩ := sliceBounds_ok (P := P) (w := w) E hlo hhi hl h1 h2
      refine ⟨rfl, Yields.same (key _ _ _ _ _ hva hb) ?_⟩
      have hsome : (if cap = l then some (Addr.mk c o' none) else (some (Addr.mk c o' none)).map (·.add (l * es))) = some (if cap = l then Addr.mk c o' none else (Addr.mk c o' none).add (l * es)) := by split <;> rfl
      rw [hsome]
      refine .sl _ _ _ (by simp) _ h5 (by simp [Ob.sz, h6]) (fun _ => ?_)
      have hm1 : l * es + (h' - l) * es = h' * es := by rw [← Nat.add_mul]; congr 1; omega
      have hm2 : h' * es ≤ len * es := Nat.mul_le_mul_right _ h3
      by_cases hcl : cap = l
      · rw [if_pos hcl]
        refine .inr ⟨c, o', arr, T, hM, rfl, rfl, by omega, .inr (by omega), hh, ?_, ?_⟩
        · have : cap - l = 0 := by omega
          rw [this]; omega
        · omega
      · rw [if_neg hcl]
        have hm3 : l * es + (cap - l) * es = cap * es := by rw [← Nat.add_mul]; congr 1; omega
        refine .inr ⟨c, o' + l * es, arr, T, hM, by rw [add_off], rfl, by omega, ?_, hh, by omega, by omega⟩
        rcases hoff with h | h
        · exact .inl (by omega)
        · exact .inr (by omega)
    · simp at h
  · simp at h
theorem extract_ok (E : zbb σ M Fz w env a.tmps) {o : Oper} {x : Operand} {i : Nat} {ox : Opd} {ds : List D} {d : D} (ho : o.op = .extract x i) (hx : opd x = some ox)
    (he : ox.ev env = .tup ds) (hd : ds[i]? = some d) : Yields P (execOp a.eval o) σ M Fz w d := by
  have hv := zcD E hx
  rw [he] at hv
  generalize hva : a.eval x = va at hv
  cases hv with
  | tup vs h1 hvs =>
    have hi := (List.getElem?_eq_some_iff.1 hd).1
    have e : vs[i]? = some (vs[i]'(by omega)) := Array.getElem?_eq_getElem _
    refine Yields.same ?_ (hvs i _ _ hd e)
    simp [execOp, ho, Instr.extract, hva, e]
theorem list_ok (E : zbb σ M Fz w env a.tmps) : ∀ (xs : List Operand) (os : List Opd), xs.mapM opd = some os →
    (xs.map a.eval).length = (os.map (Opd.ev env)).length ∧ ∀ (i : Nat) d v, (os.map (Opd.ev env))[i]? = some d → (xs.map a.eval)[i]? = some v → V σ M Fz w d v := by
  intro xs
  induction xs with
  | nil => intro os h; simp only [List.mapM_nil, Option.pure_def, Option.some.injEq] at h; subst h; simp
  | cons x xs ih =>
    intro os h
    simp only [List.mapM_cons, Option.pure_def, Option.bind_eq_bind, Option.bind_eq_some_iff, Option.some.injEq] at h
    obtain ⟨ox, hox, os', hos, rfl⟩ := h
    obtain ⟨h1, h2⟩ := ih os' hos
    refine ⟨by simp at h1 ⊢; exact h1, fun i d v h3 h4 => ?_⟩
    cases i with
    | zero => simp at h3 h4; subst h3 h4; exact zcD E hox
    | succ i => exact h2 i d v (by simpa using h3) (by simpa using h4)
theorem opds_ok (E : zbb σ M Fz w env a.tmps) {xs : Array Operand} {os : List Opd} (h : opds xs = some os) :
    (xs.map a.eval).size = (os.map (Opd.ev env)).length ∧ ∀ (i : Nat) d v, (os.map (Opd.ev env))[i]? = some d → (xs.map a.eval)[i]? = some v → V σ M Fz w d v := by
  obtain ⟨h1, h2⟩ := list_ok E xs.toList os h
  refine ⟨by simpa using h1, fun i d v h3 h4 => h2 i d v h3 ?_⟩
  rw [← Array.toList_map, Array.getElem?_toList]
  exact h4
theorem mkfn_ok (E : zbb σ M Fz w env a.tmps) {o : Oper} {f : Fn} {first cap : Array Operand} {o1 o2 : List Opd} (ho : o.op = .makeFunc f first cap) (h1 : opds first = some o1) (h2 : opds cap = some o2) :
    Yields P (execOp a.eval o) σ M Fz w (.fn f (o1.map (Opd.ev env)) (o2.map (Opd.ev env))) := by
  obtain ⟨a1, a2⟩ := opds_ok E h1
  obtain ⟨b1, b2⟩ := opds_ok E h2
  refine Yields.same (v := .func f (first.map a.eval) (cap.map a.eval)) ?_ (.fn _ _ a1 b1 a2 b2)
  simp [execOp, ho, Instr.makeFunc]
theorem part_run {t : TypeId} {n : Option Nat} {cs : List D} {vs : Array Value} {off : Nat} {d : D} (hn : aggN P t = some n) (hg : zcs n cs off = some d) (h1 : vs.size = cs.length)
    (hv : ∀ (i : Nat) d v, cs[i]? = some d → vs[i]? = some v → V σ M Fz w d v) : ∃ v, (part t vs off).run P w = .ok v w ∧ V σ M Fz w d v := by
  unfold aggN at hn
  have agg : ∀ (i : TypeInfo), P.info? t = some i → n = some i.size → (isAgg t).run P w = .ok true w → ∃ v, (part t vs off).run P w = .ok v w ∧ V σ M Fz w d v := by
    intro i hi hn hagg
    subst hn
    simp only [zcs] at hg
    split at hg
    · rename_i hle
      simp only [Option.some.injEq] at hg
      subst hg
      refine ⟨.agg (vs.extract off (off + i.size)), by simp only [part, Sem.run_bind, hagg, Result.andThen_ok, if_true, sizeOf, zeW hi, Sem.run_pure], ?_⟩
      refine .agg _ (by simp; omega) (fun j x v h3 h4 => ?_)
      have hj : j < i.size := by
        have := (List.getElem?_eq_some_iff.1 h3).1
        simp at this; omega
      rw [List.getElem?_take_of_lt hj, List.getElem?_drop] at h3
      rw [Array.getElem?_extract, if_pos (by omega)] at h4
      exact hv _ _ _ h3 h4
    · simp at hg
  have one : n = none → (isAgg t).run P w = .ok false w → ∃ v, (part t vs off).run P w = .ok v w ∧ V σ M Fz w d v := by
    intro hn hagg
    subst hn
    simp only [zcs] at hg
    have hi := (List.getElem?_eq_some_iff.1 hg).1
    have e : vs[off]? = some (vs[off]'(by omega)) := Array.getElem?_eq_getElem _
    exact ⟨_, by simp only [part, Sem.run_bind, hagg, Result.andThen_ok, Bool.false_eq_true, if_false, e, Sem.run_pure], hv _ _ _ hg e⟩
  cases hi : P.info? t with
  | none => simp [hi] at hn
  | some i =>
    cases hu : P.underlying t with
    | none => simp [hi, hu] at hn
    | some dsc =>
      rw [hi, hu] at hn
      have hisagg : (isAgg t).run P w = .ok (dsc matches .struct _ | .array _ _) w := by
        simp only [isAgg, Sem.run_bind, zbr hu, Result.andThen_ok]
        cases dsc <;> rfl
      cases dsc <;> simp only [Option.some.injEq] at hn <;>
        first
          | exact agg i hi hn.symm hisagg
          | exact one hn.symm hisagg
theorem part_ok (E : zbb σ M Fz w env a.tmps) {o : Oper} {t : TypeId} {x : Operand} {ox : Opd} {f : Nat} {fs : Array Field} {fd : Field} {n : Option Nat} {cs : List D} {d : D} (ho : o.op = .field t x f)
    (hx : opd x = some ox) (hu : P.underlying t = some (.struct fs)) (hf : fs[f]? = some fd) (hn : aggN P fd.type = some n) (he : ox.ev env = .agg cs) (hg : zcs n cs fd.offset = some d) :
    Yields P (execOp a.eval o) σ M Fz w d := by
  have hv := zcD E hx
  rw [he] at hv
  generalize hva : a.eval x = va at hv
  cases hv with
  | agg vs h1 hvs =>
    obtain ⟨v, hr, hV⟩ := part_run (P := P) hn hg h1 hvs
    refine Yields.same (v := v) ?_ hV
    simp only [execOp, ho, Instr.field, Sem.run_bind, zbr hu, Result.andThen_ok, hf, hva, asAgg, Sem.run_pure, hr]
theorem aidx_ok (E : zbb σ M Fz w env a.tmps) {o : Oper} {t e : TypeId} {x i : Operand} {ox oi : Opd} {len sz k : Nat} {n : Option Nat} {cs : List D} {d : D} {z : Int} (ho : o.op = .index t x i)
    (hx : opd x = some ox) (hi : opd i = some oi) (hu : P.underlying t = some (.array len e)) (hs : sizeOf? P e = some sz) (hn : aggN P e = some n) (he : ox.ev env = .agg cs) (hz : ze3 (oi.ev env) = some z) (hk : inR z len = some k)
    (hg : zcs n cs (k * sz) = some d) : Yields P (execOp a.eval o) σ M Fz w d := by
  have hv := zcD E hx
  rw [he] at hv
  obtain ⟨k0, hk0⟩ := litInt_inv (zcD E hi) hz
  obtain ⟨h1, h2, h3, h4⟩ := inR_inv hk
  generalize hva : a.eval x = va at hv
  cases hv with
  | agg vs h5 hvs =>
    obtain ⟨v, hr, hV⟩ := part_run (P := P) hn hg h5 hvs
    refine Yields.same (v := v) ?_ hV
    simp only [execOp, ho, Instr.index, Sem.run_bind, hk0, asIntOf, Sem.run_pure, Result.andThen_ok, zbr hu, hva]
    rw [if_pos ⟨h1, h2⟩]
    simp only [Sem.run_bind, zfm hs, Result.andThen_ok, h3, hr]
end
end Go.Abs
