/- From a run of the machine to what a law's row asks of the call. -/
import Derived.Test.YtffiheekdcaihaaDoorDfwV
import Derived.Below
set_option linter.all false
namespace Go.Abs
variable [Gl]
open Go.RowKit
theorem Rel.start (w : World) (hg : Gl.ok (fun c => c < w.heap.size) w) : Rel [] (fun _ => none) (fun c => c < w.heap.size) w := {
  blk := fun b c h => by simp at h
  inj := fun b b' c h => by simp at h
  fz := fun c h => h
  gl := hg }
theorem law_calls {P : Program} {orc : Orc} (O : zaO P orc) {g : FuncId} {ds : List D} {σ' : Heap} {wr : List Nat} (h : orc g ds [] = some (.c (.lit (.bool true)), σ', wr)) {w : World} {vs : Array Value} (hs : vs.size = ds.length)
    (hv : ∀ (i : Nat) d v, ds[i]? = some d → vs[i]? = some v → V [] (fun _ => none) (fun c => c < w.heap.size) w d v)
    (hg : Gl.ok (fun c => c < w.heap.size) w) : Calls P g vs w fun e w' => e = .returned (.bool true) ∧ Below w.heap.size w w' := by
  obtain ⟨_, hok, _, _⟩ := O g ds [] _ σ' wr h
  refine (hok _ _ w vs (Rel.start w hg) hs hv).mono fun e w' he => ?_
  obtain ⟨v, M', Fz', rfl, R', hv, EV⟩ := he
  exact ⟨by rw [hv.lit_inv], EV.out.1, EV.out.2.1, EV.out.2.2, EV.size, fun k hk => (EV.fz k hk).2⟩
theorem V.cells_agg {w : World} {shs : List Sh} {xs : List C} {vs : Array Value} (h : zeu w shs xs vs.toList) {σ : Heap} {M : Nat → Option Nat} : V σ M (fun c => c < w.heap.size) w (.agg (xs.map .c)) (.agg vs) := by
  obtain ⟨h1, h2, _, h4⟩ := h
  refine .agg vs (by simp at h2 ⊢; omega) (fun i d v a b => ?_)
  simp only [List.getElem?_map, Option.map_eq_some_iff] at a
  obtain ⟨x, hx, rfl⟩ := a
  exact .c (h4 i x v hx (by simpa using b)).1
theorem V.cells_one {w : World} {s : Sh} {xs : List C} {v : Value} (h : zeu w [s] xs [v]) {σ : Heap} {M : Nat → Option Nat} : ∃ x, xs = [x] ∧ Shaped s x ∧ V σ M (fun c => c < w.heap.size) w (.c x) v := by
  obtain ⟨h1, _, h3, h4⟩ := h
  match xs, h1, h3, h4 with
  | [x], _, h3, h4 => exact ⟨x, rfl, h3 0 s x rfl rfl, .c (h4 0 x v rfl rfl).1⟩
theorem Evo.below {σ : Heap} {M : Nat → Option Nat} {Fz : Nat → Prop} {w w' : World} (R : Rel σ M Fz w) (hb : Below w.heap.size w w') : Evo σ M Fz w σ M Fz w' := {
  size := hb.size
  frame := fun c hc _ => hb.block c hc
  ran := fun b c h => .inl ⟨b, h⟩
  fz := fun c h => ⟨h, hb.block c (R.fz c h)⟩
  fz' := fun c h => .inl h
  shp := fun c arr T fr h => ⟨arr, by rw [hb.block c (Array.getElem?_eq_some_iff.1 h).1]; exact h, rfl⟩
  keep := fun b ob h => ⟨ob, h, Nat.le_refl _, fun _ => rfl⟩
  out := ⟨hb.os, hb.tape, hb.output⟩ }
theorem Rel.below {σ : Heap} {M : Nat → Option Nat} {Fz : Nat → Prop} {w w' : World} (R : Rel σ M Fz w) (hb : Below w.heap.size w w') : Rel σ M Fz w' := {
  blk := fun b c h => by
    obtain ⟨h1, ob, o, h2, h3, h4⟩ := R.blk b c h
    exact ⟨h1, ob, o, h2, by rw [hb.block c (R.lt h).2]; exact h3, h4.mono (Evo.below R hb)⟩
  inj := R.inj
  fz := fun c h => Nat.lt_of_lt_of_le (R.fz c h) hb.size
  gl := Gl.mono (Evo.below R hb).fz R.gl }
noncomputable def tblOf (P : Program) (keep : List Nat) (g : FuncId) : Option za5 :=
  match P.funcs[g]? with
  | some fn => if enterable P g then zbe P fn (!keep.contains g) else none
  | none => none
theorem tblOf_ok (P : Program) (keep : List Nat) : TblOk P (tblOf P keep) := by
  intro g af h
  unfold tblOf at h
  split at h
  · rename_i fn hfn
    split at h
    · rename_i he
      exact ⟨he, fn, _, hfn, h⟩
    · simp at h
  · simp at h
end Go.Abs
