/- How the relation between abstract states and worlds goes on: a new block, a block written, a block that grows. -/
import Derived.Test.YtffiheekdcaihaaDoorDfwB
set_option linter.all false
namespace Go.Abs
variable [Gl]
section
variable {σ σ' : Heap} {M M' : Nat → Option Nat} {Fz Fz' : Nat → Prop} {w w' : World}
theorem Rel.lt (R : Rel σ M Fz w) {b c : Nat} (h : M b = some c) : b < σ.length ∧ c < w.heap.size := by
  obtain ⟨_, ob, o, h1, h2, _⟩ := R.blk b c h
  exact ⟨(List.getElem?_eq_some_iff.1 h1).1, (Array.getElem?_eq_some_iff.1 h2).1⟩
theorem Rel.fresh (R : Rel σ M Fz w) {b : Nat} (h : σ.length ≤ b) : M b = none := by
  cases hM : M b with
  | none => rfl
  | some c => have := (R.lt hM).1; omega
theorem VC.heap (hh : w'.heap = w.heap) {x : C} {v : Value} (h : VC Fz w x v) : VC Fz w' x v := h.mono fun c hc => ⟨hc, by rw [hh]⟩
theorem Evo.heap (R : Rel σ M Fz w) (hh : w'.heap = w.heap) (ho : w'.os = w.os ∧ w'.tape = w.tape ∧ w'.output = w.output) : Evo σ M Fz w σ M Fz w' := {
  size := by rw [hh]; exact Nat.le_refl _
  frame := fun _ _ _ => by rw [hh]
  ran := fun b c h => .inl ⟨b, h⟩
  fz := fun c h => ⟨h, by rw [hh]⟩
  fz' := fun c h => .inl h
  shp := fun c arr T fr h => ⟨arr, by rw [hh]; exact h, rfl⟩
  keep := fun b ob h => ⟨ob, h, Nat.le_refl _, fun _ => rfl⟩
  out := ho }
theorem Rel.heap (R : Rel σ M Fz w) (hh : w'.heap = w.heap) (ho : w'.os = w.os ∧ w'.tape = w.tape ∧ w'.output = w.output) : Rel σ M Fz w' := {
  blk := fun b c h => by
    obtain ⟨hf, ob, o, h1, h2, h3⟩ := R.blk b c h
    exact ⟨hf, ob, o, h1, by rw [hh]; exact h2, h3.mono (Evo.heap R hh ho)⟩
  inj := R.inj
  fz := fun c h => by rw [hh]; exact R.fz c h
  gl := Gl.mono (Evo.heap R hh ho).fz R.gl }
def upM (M : Nat → Option Nat) (b c : Nat) : Nat → Option Nat := fun x => if x = b then some c else M x
theorem Evo.alloc (hfz : ∀ c, Fz c → c < w.heap.size) (ob : Ob) (o : Obj) : Evo σ M Fz w (σ ++ [ob]) (upM M σ.length w.heap.size) Fz (w.alloc o) := {
  size := by simp
  frame := fun c hc _ => heap_alloc_old w o c hc
  ran := fun b c h => by
    unfold upM at h
    split at h
    · simp only [Option.some.injEq] at h; exact .inr (by omega)
    · exact .inl ⟨b, h⟩
  fz := fun c h => ⟨h, heap_alloc_old w o c (hfz c h)⟩
  fz' := fun c h => .inl h
  shp := fun c arr T fr h => ⟨arr, by rw [heap_alloc_old w o c (Array.getElem?_eq_some_iff.1 h).1]; exact h, rfl⟩
  keep := fun b ob' h => by
    have hb := (List.getElem?_eq_some_iff.1 h).1
    refine ⟨ob', by rw [List.getElem?_append_left hb]; exact h, Nat.le_refl _, fun _ => ?_⟩
    unfold upM
    rw [if_neg (by omega)]
  out := ⟨rfl, rfl, rfl⟩ }
theorem Rel.alloc (R : Rel σ M Fz w) (ob : Ob) (o : Obj) (h : ObRel (σ ++ [ob]) (upM M σ.length w.heap.size) Fz (w.alloc o) ob o) :
    Rel (σ ++ [ob]) (upM M σ.length w.heap.size) Fz (w.alloc o) := {
  blk := fun b c hM => by
    unfold upM at hM
    split at hM
    · rename_i hb
      subst hb
      simp only [Option.some.injEq] at hM
      subst hM
      exact ⟨fun hf => by have := R.fz _ hf; omega, ob, o, by simp, heap_alloc_new w o, h⟩
    · obtain ⟨hf, ob', o', h1, h2, h3⟩ := R.blk b c hM
      have hl := R.lt hM
      exact ⟨hf, ob', o', by rw [List.getElem?_append_left hl.1]; exact h1, by rw [heap_alloc_old w o c hl.2]; exact h2, h3.mono (Evo.alloc R.fz ob o)⟩
  inj := fun b b' c h h' => by
    unfold upM at h h'
    split at h <;> split at h'
    · omega
    · simp only [Option.some.injEq] at h; have := (R.lt h').2; omega
    · simp only [Option.some.injEq] at h'; have := (R.lt h).2; omega
    · exact R.inj b b' c h h'
  fz := fun c h => by have := R.fz c h; simp; omega
  gl := Gl.mono (Evo.alloc (σ := σ) (M := M) R.fz ob o).fz R.gl }
def setO (w : World) (c : Nat) (o : Obj) : World := { w with heap := w.heap.setIfInBounds c o }
theorem setO_same {c : Nat} {o : Obj} (h : c < w.heap.size) : (setO w c o).heap[c]? = some o := by simp [setO, h]
theorem setO_other {c k : Nat} {o : Obj} (h : k ≠ c) : (setO w c o).heap[k]? = w.heap[k]? := by
  simp only [setO]; rw [Array.getElem?_setIfInBounds_ne (by omega)]
@[simp] theorem setO_size {c : Nat} {o : Obj} : (setO w c o).heap.size = w.heap.size := by simp [setO]
theorem Evo.upd (R : Rel σ M Fz w) {b c : Nat} (hM : M b = some c) {ob ob' : Ob} {o o' : Obj} (hb : σ[b]? = some ob) (hc : w.heap[c]? = some o) (hs : ob.sz ≤ ob'.sz)
    (hshp : ∀ arr T fr, o = .cells arr T fr → ∃ arr', o' = .cells arr' T fr ∧ arr'.size = arr.size) : Evo σ M Fz w (σ.set b ob') M Fz (setO w c o') := {
  size := by simp
  frame := fun k hk hn => setO_other (fun h => hn b (by rw [hM, h]))
  ran := fun b c h => .inl ⟨b, h⟩
  fz := fun k h => ⟨h, setO_other (fun e => (R.blk b c hM).1 (e ▸ h))⟩
  fz' := fun c h => .inl h
  shp := fun k arr T fr h => by
    by_cases e : k = c
    · subst e
      obtain ⟨arr', h1, h2⟩ := hshp arr T fr (by rw [hc] at h; simpa using h)
      exact ⟨arr', by rw [setO_same (R.lt hM).2, h1], h2⟩
    · exact ⟨arr, by rw [setO_other e]; exact h, rfl⟩
  keep := fun k ob'' h => by
    by_cases e : k = b
    · subst e
      have hl := (List.getElem?_eq_some_iff.1 h).1
      have : ob = ob'' := by rw [hb] at h; simpa using h
      subst this
      exact ⟨ob', by simp [List.getElem?_set, hl], hs, fun _ => rfl⟩
    · exact ⟨ob'', by rw [List.getElem?_set_ne (by omega)]; exact h, Nat.le_refl _, fun _ => rfl⟩
  out := ⟨rfl, rfl, rfl⟩ }
theorem Rel.upd (R : Rel σ M Fz w) {b c : Nat} (hM : M b = some c) {ob ob' : Ob} {o o' : Obj} (hb : σ[b]? = some ob) (hc : w.heap[c]? = some o) (hs : ob.sz ≤ ob'.sz)
    (hshp : ∀ arr T fr, o = .cells arr T fr → ∃ arr', o' = .cells arr' T fr ∧ arr'.size = arr.size)
    (h : ObRel (σ.set b ob') M Fz (setO w c o') ob' o') : Rel (σ.set b ob') M Fz (setO w c o') := {
  blk := fun b1 c1 h1 => by
    obtain ⟨hf, ob1, o1, h2, h3, h4⟩ := R.blk b1 c1 h1
    by_cases e : b1 = b
    · subst e
      have : c1 = c := by rw [hM] at h1; simpa using h1.symm
      subst this
      exact ⟨hf, ob', o', by simp [List.getElem?_set, (R.lt hM).1], setO_same (R.lt hM).2, h⟩
    · refine ⟨hf, ob1, o1, by rw [List.getElem?_set_ne (by omega)]; exact h2, ?_, h4.mono (Evo.upd R hM hb hc hs hshp)⟩
      rw [setO_other (fun e2 : c1 = c => e (R.inj b1 b c (by rw [h1, e2]) hM))]
      exact h3
  inj := R.inj
  fz := fun c h => by simp; exact R.fz c h
  gl := Gl.mono (Evo.upd R hM hb hc hs hshp).fz R.gl }
theorem Evo.move (R : Rel σ M Fz w) {b : Nat} {ob ob' : Ob} {o' : Obj} (hb : σ[b]? = some ob) (hs : ob.sz < ob'.sz) :
    Evo σ M Fz w (σ.set b ob') (upM M b w.heap.size) Fz (w.alloc o') := {
  size := by simp
  frame := fun c hc _ => heap_alloc_old w o' c hc
  ran := fun b c h => by
    unfold upM at h
    split at h
    · simp only [Option.some.injEq] at h; exact .inr (by omega)
    · exact .inl ⟨_, h⟩
  fz := fun c h => ⟨h, heap_alloc_old w o' c (R.fz c h)⟩
  fz' := fun c h => .inl h
  shp := fun c arr T fr h => ⟨arr, by rw [heap_alloc_old w o' c (Array.getElem?_eq_some_iff.1 h).1]; exact h, rfl⟩
  keep := fun k ob'' h => by
    by_cases e : k = b
    · subst e
      have hl := (List.getElem?_eq_some_iff.1 h).1
      have : ob = ob'' := by rw [hb] at h; simpa using h
      subst this
      exact ⟨ob', by simp [List.getElem?_set, hl], by omega, fun he => by omega⟩
    · refine ⟨ob'', by rw [List.getElem?_set_ne (by omega)]; exact h, Nat.le_refl _, fun _ => ?_⟩
      unfold upM
      rw [if_neg e]
  out := ⟨rfl, rfl, rfl⟩ }
theorem Rel.move (R : Rel σ M Fz w) {b : Nat} {ob ob' : Ob} {o' : Obj} (hb : σ[b]? = some ob) (hs : ob.sz < ob'.sz)
    (h : ObRel (σ.set b ob') (upM M b w.heap.size) Fz (w.alloc o') ob' o') : Rel (σ.set b ob') (upM M b w.heap.size) Fz (w.alloc o') := {
  blk := fun b1 c1 h1 => by
    unfold upM at h1
    split at h1
    · rename_i e
      subst e
      simp only [Option.some.injEq] at h1
      subst h1
      exact ⟨fun hf => by have := R.fz _ hf; omega, ob', o', by simp [List.getElem?_set, (List.getElem?_eq_some_iff.1 hb).1], heap_alloc_new w o', h⟩
    · rename_i e
      obtain ⟨hf, ob1, o1, h2, h3, h4⟩ := R.blk b1 c1 h1
      exact ⟨hf, ob1, o1, by rw [List.getElem?_set_ne (by omega)]; exact h2, by rw [heap_alloc_old w o' c1 (R.lt h1).2]; exact h3, h4.mono (Evo.move R hb hs)⟩
  inj := fun b1 b2 c h1 h2 => by
    unfold upM at h1 h2
    split at h1 <;> split at h2
    · omega
    · simp only [Option.some.injEq] at h1; have := (R.lt h2).2; omega
    · simp only [Option.some.injEq] at h2; have := (R.lt h1).2; omega
    · exact R.inj b1 b2 c h1 h2
  fz := fun c h => by have := R.fz c h; simp; omega
  gl := Gl.mono (Evo.move (o' := o') R hb hs).fz R.gl }
def putA (arr : Array Value) (off : Nat) (xs : List Value) : Array Value := (arr.toList.take off ++ xs ++ arr.toList.drop (off + xs.length)).toArray
theorem putA_size {arr : Array Value} {off : Nat} {xs : List Value} (h : off + xs.length ≤ arr.size) : (putA arr off xs).size = arr.size := by
  simp [putA]; omega
theorem putA_cons {arr : Array Value} {off : Nat} {x : Value} {xs : List Value} (h : off + (xs.length + 1) ≤ arr.size) :
    putA (arr.setIfInBounds off x) (off + 1) xs = putA arr off (x :: xs) := by
  apply Array.ext'
  simp only [putA, Array.toList_setIfInBounds, List.length_cons]
  apply List.ext_getElem?
  intro i
  have hsz : arr.toList.length = arr.size := by simp
  simp only [List.getElem?_append, List.length_append, List.length_take, List.length_set, hsz, List.length_cons]
  by_cases h1 : i < off
  · rw [if_pos (by omega), if_pos (by omega), if_pos (by omega), if_pos (by omega)]
    rw [List.getElem?_take_of_lt (by omega), List.getElem?_take_of_lt h1, List.getElem?_set_ne (by omega)]
  · by_cases h2 : i = off
    · subst h2
      rw [if_pos (by omega), if_pos (by omega), if_pos (by omega), if_neg (by omega)]
      rw [List.getElem?_take_of_lt (by omega)]
      have : i - min i arr.size = 0 := by omega
      rw [this, List.getElem?_set_self (by simp; omega)]
      rfl
    · by_cases h3 : i < off + (xs.length + 1)
      · rw [if_pos (by omega), if_neg (by omega), if_pos (by omega), if_neg (by omega)]
        have e1 : i - min (off + 1) arr.size = i - (off + 1) := by omega
        have e2 : i - min off arr.size = (i - (off + 1)) + 1 := by omega
        rw [e1, e2]
        simp
      · rw [if_neg (by omega), if_neg (by omega)]
        rw [List.getElem?_drop, List.getElem?_drop, List.getElem?_set_ne (by omega)]
        congr 1
        omega
theorem getElem?_putA {arr : Array Value} {off : Nat} {xs : List Value} (h : off + xs.length ≤ arr.size) (i : Nat) :
    (putA arr off xs)[i]? = if off ≤ i ∧ i < off + xs.length then xs[i - off]? else arr[i]? := by
  have hsz : arr.toList.length = arr.size := by simp
  simp only [putA, List.getElem?_toArray, List.getElem?_append, List.length_append, List.length_take, hsz]
  by_cases h1 : i < off
  · rw [if_pos (by omega), if_pos (by omega), if_neg (by omega), List.getElem?_take_of_lt h1]
    simp
  · by_cases h2 : i < off + xs.length
    · rw [if_pos (by omega), if_neg (by omega), if_pos (by omega)]
      congr 1
      omega
    · rw [if_neg (by omega), if_neg (by omega), List.getElem?_drop]
      rw [show off + xs.length + (i - (min off arr.size + xs.length)) = i from by omega]
      simp
theorem getElem?_put {cs xs : List D} {off : Nat} (h : off + xs.length ≤ cs.length) (i : Nat) :
    (put cs off xs)[i]? = if off ≤ i ∧ i < off + xs.length then xs[i - off]? else cs[i]? := by
  simp only [put, List.getElem?_append, List.length_append, List.length_take]
  by_cases h1 : i < off
  · rw [if_pos (by omega), if_pos (by omega), if_neg (by omega), List.getElem?_take_of_lt h1]
  · by_cases h2 : i < off + xs.length
    · rw [if_pos (by omega), if_neg (by omega), if_pos (by omega)]
      congr 1
      omega
    · rw [if_neg (by omega), if_neg (by omega), List.getElem?_drop]
      congr 1
      omega
theorem length_put {cs xs : List D} {off : Nat} (h : off + xs.length ≤ cs.length) : (put cs off xs).length = cs.length := by
  simp [put]; omega
theorem add_off (blk o i : Nat) : (Addr.mk blk o none).add i = ⟨blk, o + i, none⟩ := by
  unfold Addr.add
  split
  · subst_vars; rfl
  · rfl
theorem setCell_setO {c off : Nat} {arr : Array Value} {T : TypeId} {v : Value} (h : w.heap[c]? = some (.cells arr T (0, 0))) :
    w.setCell ⟨c, off, none⟩ v = setO w c (.cells (arr.setIfInBounds off v) T (0, 0)) := by
  unfold World.setCell setO
  congr 1
  have hl := (Array.getElem?_eq_some_iff.1 h).1
  apply Array.ext'
  apply List.ext_getElem?
  intro i
  simp only [Array.getElem?_toList, Array.getElem?_modify, Array.getElem?_setIfInBounds]
  by_cases e : c = i
  · subst e
    rw [if_pos rfl, if_pos rfl, if_pos hl, h]
    simp
  · rw [if_neg e, if_neg e]
theorem setO_setO {c : Nat} {o o' : Obj} : setO (setO w c o) c o' = setO w c o' := by
  simp [setO]
theorem run_storeCells (P : Program) (T : TypeId) (c : Nat) : ∀ (xs : List Value) (i off : Nat) (w : World) (arr : Array Value),
    w.heap[c]? = some (.cells arr T (0, 0)) → (∀ x ∈ xs, x.oneCell' = true) → off + i + xs.length ≤ arr.size →
    (storeCells ⟨c, off, none⟩ xs i).run P w = .ok () (if xs = [] then w else setO w c (.cells (putA arr (off + i) xs) T (0, 0))) := by
  intro xs
  induction xs with
  | nil => intro i off w arr _ _ _; simp [storeCells]
  | cons x xs ih =>
    intro i off w arr hc hx hl
    simp only [List.length_cons] at hl
    have hlt := (Array.getElem?_eq_some_iff.1 hc).1
    have hcell : w.cell? ⟨c, off + i, none⟩ = some (arr[off + i]'(by omega)) := by
      rw [cell_of_row w c (off + i) arr T (0, 0) hc]
      exact Array.getElem?_eq_getElem (by omega)
    simp only [storeCells, Sem.run_bind, add_off]
    rw [run_store P w _ x _ (hx x (by simp)), hcell]
    simp only [frozen_of_row w c (off + i) arr T hc, Bool.false_eq_true, if_false, Result.andThen_ok]
    rw [setCell_setO hc]
    have h2 := ih (i + 1) off (setO w c (.cells (arr.setIfInBounds (off + i) x) T (0, 0))) (arr.setIfInBounds (off + i) x) (setO_same hlt)
      (fun y hy => hx y (by simp [hy])) (by simp; omega)
    rw [h2]
    simp only [List.cons_ne_nil, if_false, reduceCtorEq]
    congr 1
    by_cases hn : xs = []
    · subst hn
      simp only [if_true]
      rw [← putA_cons (by simp; omega)]
      congr 2
      apply Array.ext'
      simp [putA]
    · rw [if_neg hn, setO_setO, ← putA_cons (by omega)]
      rfl
end
end Go.Abs
