/- The abstract domain: data that never changes (C), values with references into an abstract heap (D), and what it is for them to stand for values of a world. -/
import Derived.Calls
import Derived.Orders
import Derived.Laws.Sem
import Derived.Laws.World
import Derived.Laws.Cells
import Derived.Laws.Rows
set_option linter.all false
namespace Go.Abs
inductive C where
  | lit (v : Value)
  | frz (nn : Bool) (es : List (List C))
  | fptr (cs : List C) (off : Nat)
  | fn (f : Fn) (first cap : List C)
  | fmp (es : List (Value × C))
  deriving Inhabited
inductive D where
  | c (x : C)
  | ptr (b off sz : Nat)
  | sl (b off len esz sz : Nat)
  | mp (b : Nat)
  | fn (f : Fn) (first cap : List D)
  | agg (cs : List D)
  | tup (vs : List D)
  | any
  deriving Inhabited
inductive Ob where
  | cells (cs : List D)
  | map (es : List (Value × D × Nat)) (clock : Nat)
  | gone (n : Nat)
  deriving Inhabited
def Ob.sz : Ob → Nat
  | .cells cs => cs.length
  | .map _ _ => 0
  | .gone n => n
abbrev Heap := List Ob
inductive VC (Fz : Nat → Prop) (w : World) : C → Value → Prop where
  | lit (v : Value) : VC Fz w (.lit v) v
  | frz {nn : Bool} {es : List (List C)} (esz : Nat) (a : Option Addr) (cap : Nat) (hnn : nn = true → a.isSome = true) (hz : a = none → cap = 0) (c : Nat → Nat → Value) (hsz : ∀ e ∈ es, e.length = esz) (hcap : es.length ≤ cap)
      (hc : ∀ (i j : Nat) e d, es[i]? = some e → e[j]? = some d → ∃ blk o, a = some ⟨blk, o, none⟩ ∧ Fz blk ∧ w.cell? ⟨blk, o + i * esz + j, none⟩ = some (c i j) ∧ (c i j).oneCell' = true)
      (hv : ∀ (i j : Nat) e d, es[i]? = some e → e[j]? = some d → VC Fz w d (c i j)) : VC Fz w (.frz nn es) (.slice a es.length cap)
  | fptr {cs : List C} {off : Nat} (blk o : Nat) (c : Nat → Value) (hF : Fz blk) (hc : ∀ (j : Nat) d, cs[j]? = some d → w.cell? ⟨blk, o + j, none⟩ = some (c j) ∧ (c j).oneCell' = true)
      (hv : ∀ (j : Nat) d, cs[j]? = some d → VC Fz w d (c j)) : VC Fz w (.fptr cs off) (.pointer (some ⟨blk, o + off, none⟩))
  | fn {f : Fn} {first cap : List C} (vs ws : Array Value) (h1 : vs.size = first.length) (h2 : ws.size = cap.length)
      (hv : ∀ (i : Nat) d v, first[i]? = some d → vs[i]? = some v → VC Fz w d v) (hw : ∀ (i : Nat) d v, cap[i]? = some d → ws[i]? = some v → VC Fz w d v) :
      VC Fz w (.fn f first cap) (.func f vs ws)
  | fmp {es : List (Value × C)} (blk clock : Nat) (arr : Array MapEntry) (hF : Fz blk) (hh : w.heap[blk]? = some (.map arr clock)) (hs : arr.size = es.length)
      (hk : ∀ (i : Nat) p e, es[i]? = some p → arr[i]? = some e → e.key = p.1) (hv : ∀ (i : Nat) p e, es[i]? = some p → arr[i]? = some e → VC Fz w p.2 e.val) : VC Fz w (.fmp es) (.map (some blk))
theorem cell_heap {w w' : World} {blk o : Nat} (h : w'.heap[blk]? = w.heap[blk]?) : w'.cell? ⟨blk, o, none⟩ = w.cell? ⟨blk, o, none⟩ := by
  unfold World.cell?
  simp only [h]
theorem VC.mono {Fz Fz' : Nat → Prop} {w w' : World} (hF : ∀ c : Nat, Fz c → Fz' c ∧ w'.heap[c]? = w.heap[c]?) {x : C} {v : Value} (h : VC Fz w x v) : VC Fz' w' x v := by
  induction h with
  | lit v => exact .lit v
  | frz esz a cap hnn hz c hsz hcap hc hv ih =>
    refine .frz esz a cap hnn hz c hsz hcap (fun i j e d h1 h2 => ?_) ih
    obtain ⟨blk, o, ha, hf, hcell, h1c⟩ := hc i j e d h1 h2
    exact ⟨blk, o, ha, (hF _ hf).1, by rw [cell_heap (hF _ hf).2]; exact hcell, h1c⟩
  | fptr blk o c hf hc hv ih =>
    exact .fptr blk o c (hF _ hf).1 (fun j d h => ⟨by rw [cell_heap (hF _ hf).2]; exact (hc j d h).1, (hc j d h).2⟩) ih
  | fn vs ws h1 h2 hv hw ih1 ih2 => exact .fn vs ws h1 h2 ih1 ih2
  | fmp blk clock arr hf hh hs hk hv ih => exact .fmp blk clock arr (hF _ hf).1 (by rw [(hF _ hf).2]; exact hh) hs hk ih
inductive V (σ : Heap) (M : Nat → Option Nat) (Fz : Nat → Prop) (w : World) : D → Value → Prop where
  | c {x : C} {v : Value} (h : VC Fz w x v) : V σ M Fz w (.c x) v
  | any (v : Value) : V σ M Fz w .any v
  | ptr {b off sz : Nat} (a : Addr) (ob : Ob) (h : σ[b]? = some ob) (hle : sz ≤ ob.sz)
      (hv : ob.sz = sz → ∃ c, M b = some c ∧ a = ⟨c, off, none⟩) : V σ M Fz w (.ptr b off sz) (.pointer (some a))
  | sl {b off len esz sz : Nat} (a : Option Addr) (n cap : Nat) (hnn : len ≠ 0 → a ≠ none) (ob : Ob) (h : σ[b]? = some ob) (hle : sz ≤ ob.sz)
      (hv : ob.sz = sz → (a = none ∧ n = 0 ∧ cap = 0 ∧ len = 0 ∧ off = 0 ∧ sz = 0) ∨ ∃ c o arr T, M b = some c ∧ a = some ⟨c, o, none⟩ ∧ n = len ∧ len ≤ cap ∧ (o = off ∨ cap = 0) ∧
        w.heap[c]? = some (.cells arr T (0, 0)) ∧ o + cap * esz ≤ arr.size ∧ off + len * esz ≤ sz) : V σ M Fz w (.sl b off len esz sz) (.slice a n cap)
  | mp {b : Nat} (c : Nat) (ob : Ob) (h : σ[b]? = some ob) (hv : ob.sz = 0 → M b = some c) : V σ M Fz w (.mp b) (.map (some c))
  | fn {f : Fn} {first cap : List D} (vs ws : Array Value) (h1 : vs.size = first.length) (h2 : ws.size = cap.length)
      (hv : ∀ (i : Nat) d v, first[i]? = some d → vs[i]? = some v → V σ M Fz w d v) (hw : ∀ (i : Nat) d v, cap[i]? = some d → ws[i]? = some v → V σ M Fz w d v) :
      V σ M Fz w (.fn f first cap) (.func f vs ws)
  | agg {cs : List D} (vs : Array Value) (h1 : vs.size = cs.length) (hv : ∀ (i : Nat) d v, cs[i]? = some d → vs[i]? = some v → V σ M Fz w d v) : V σ M Fz w (.agg cs) (.agg vs)
  | tup {cs : List D} (vs : Array Value) (h1 : vs.size = cs.length) (hv : ∀ (i : Nat) d v, cs[i]? = some d → vs[i]? = some v → V σ M Fz w d v) : V σ M Fz w (.tup cs) (.tuple vs)
def ObRel (σ : Heap) (M : Nat → Option Nat) (Fz : Nat → Prop) (w : World) : Ob → Obj → Prop
  | .cells cs, o => ∃ arr T, o = .cells arr T (0, 0) ∧ cs.length ≤ arr.size ∧ ∀ (i : Nat) d v, cs[i]? = some d → arr[i]? = some v → V σ M Fz w d v ∧ v.oneCell' = true
  | .map es clock, o => ∃ arr, o = .map arr clock ∧ arr.size = es.length ∧ ∀ (i : Nat) k d n e, es[i]? = some (k, d, n) → arr[i]? = some e → e.key = k ∧ e.born = n ∧ V σ M Fz w d e.val
  | .gone _, _ => False
class Gl where
  ok : (Nat → Prop) → World → Prop
  mono : ∀ {Fz Fz' : Nat → Prop} {w w' : World}, (∀ c : Nat, Fz c → Fz' c ∧ w'.heap[c]? = w.heap[c]?) → ok Fz w → ok Fz' w'
structure Rel [Gl] (σ : Heap) (M : Nat → Option Nat) (Fz : Nat → Prop) (w : World) : Prop where
  blk : ∀ (b c : Nat), M b = some c → ¬ Fz c ∧ ∃ ob o, σ[b]? = some ob ∧ w.heap[c]? = some o ∧ ObRel σ M Fz w ob o
  inj : ∀ b b' c, M b = some c → M b' = some c → b = b'
  fz : ∀ c, Fz c → c < w.heap.size
  gl : Gl.ok Fz w
structure Evo (σ : Heap) (M : Nat → Option Nat) (Fz : Nat → Prop) (w : World) (σ' : Heap) (M' : Nat → Option Nat) (Fz' : Nat → Prop) (w' : World) : Prop where
  size : w.heap.size ≤ w'.heap.size
  frame : ∀ c : Nat, c < w.heap.size → (∀ b, M b ≠ some c) → w'.heap[c]? = w.heap[c]?
  ran : ∀ b c, M' b = some c → (∃ b0, M b0 = some c) ∨ w.heap.size ≤ c
  fz : ∀ c : Nat, Fz c → Fz' c ∧ w'.heap[c]? = w.heap[c]?
  fz' : ∀ c, Fz' c → Fz c ∨ (∃ b, M b = some c) ∨ w.heap.size ≤ c
  shp : ∀ (c : Nat) arr T fr, w.heap[c]? = some (.cells arr T fr) → ∃ arr', w'.heap[c]? = some (.cells arr' T fr) ∧ arr'.size = arr.size
  keep : ∀ (b : Nat) ob, σ[b]? = some ob → ∃ ob', σ'[b]? = some ob' ∧ ob.sz ≤ ob'.sz ∧ (ob'.sz = ob.sz → M' b = M b)
  out : w'.os = w.os ∧ w'.tape = w.tape ∧ w'.output = w.output
section
variable {σ σ' σ'' : Heap} {M M' M'' : Nat → Option Nat} {Fz Fz' Fz'' : Nat → Prop} {w w' w'' : World}
theorem V.mono (E : Evo σ M Fz w σ' M' Fz' w') {d : D} {v : Value} (h : V σ M Fz w d v) : V σ' M' Fz' w' d v := by
  induction h with
  | c h => exact .c (h.mono E.fz)
  | any v => exact .any v
  | ptr a ob h hle hv =>
    obtain ⟨ob', h', hs, hk⟩ := E.keep _ _ h
    refine .ptr a ob' h' (by omega) (fun he => ?_)
    obtain ⟨c, hM, ha⟩ := hv (by omega)
    exact ⟨c, by rw [hk (by omega)]; exact hM, ha⟩
  | sl a n cap hnn ob h hle hv =>
    obtain ⟨ob', h', hs, hk⟩ := E.keep _ _ h
    refine .sl a n cap hnn ob' h' (by omega) (fun he => ?_)
    rcases hv (by omega) with ⟨h1, h2, h3, h4, h5, h6⟩ | ⟨c, o, arr, T, hM, ha, hn, hl, ho, hh, hb, hz⟩
    · exact .inl ⟨h1, h2, h3, h4, h5, h6⟩
    · obtain ⟨arr', hh', hsz⟩ := E.shp _ _ _ _ hh
      exact .inr ⟨c, o, arr', T, by rw [hk (by omega)]; exact hM, ha, hn, hl, ho, hh', by omega, hz⟩
  | mp c ob h hv =>
    obtain ⟨ob', h', hs, hk⟩ := E.keep _ _ h
    exact .mp c ob' h' (fun he => by rw [hk (by omega)]; exact hv (by omega))
  | fn vs ws h1 h2 hv hw ih1 ih2 => exact .fn vs ws h1 h2 ih1 ih2
  | agg vs h1 hv ih => exact .agg vs h1 ih
  | tup vs h1 hv ih => exact .tup vs h1 ih
variable [Gl] in
theorem Evo.refl (R : Rel σ M Fz w) : Evo σ M Fz w σ M Fz w := {
  size := Nat.le_refl _
  frame := fun _ _ _ => rfl
  ran := fun b c h => .inl ⟨b, h⟩
  fz := fun c h => ⟨h, rfl⟩
  fz' := fun c h => .inl h
  shp := fun c arr T fr h => ⟨arr, h, rfl⟩
  keep := fun b ob h => ⟨ob, h, Nat.le_refl _, fun _ => rfl⟩
  out := ⟨rfl, rfl, rfl⟩ }
theorem Evo.trans (A : Evo σ M Fz w σ' M' Fz' w') (B : Evo σ' M' Fz' w' σ'' M'' Fz'' w'') (hl : σ.length ≤ σ'.length) : Evo σ M Fz w σ'' M'' Fz'' w'' := {
  size := Nat.le_trans A.size B.size
  frame := fun c hc hM => by
    rw [← A.frame c hc hM]
    refine B.frame c (Nat.lt_of_lt_of_le hc A.size) (fun b hb => ?_)
    rcases A.ran b c hb with ⟨b0, h0⟩ | h0
    · exact hM b0 h0
    · omega
  ran := fun b c h => by
    rcases B.ran b c h with ⟨b0, h0⟩ | h0
    · exact A.ran b0 c h0
    · exact .inr (Nat.le_trans A.size h0)
  fz := fun c h => by
    obtain ⟨h1, h2⟩ := A.fz c h
    obtain ⟨h3, h4⟩ := B.fz c h1
    exact ⟨h3, by rw [h4, h2]⟩
  fz' := fun c h => by
    rcases B.fz' c h with h | ⟨b, h⟩ | h
    · exact A.fz' c h
    · rcases A.ran b c h with ⟨b0, h0⟩ | h0
      · exact .inr (.inl ⟨b0, h0⟩)
      · exact .inr (.inr h0)
    · exact .inr (.inr (Nat.le_trans A.size h))
  shp := fun c arr T fr h => by
    obtain ⟨a1, h1, e1⟩ := A.shp c arr T fr h
    obtain ⟨a2, h2, e2⟩ := B.shp c a1 T fr h1
    exact ⟨a2, h2, by rw [e2, e1]⟩
  keep := fun b ob h => by
    obtain ⟨o1, h1, s1, k1⟩ := A.keep b ob h
    obtain ⟨o2, h2, s2, k2⟩ := B.keep b o1 h1
    refine ⟨o2, h2, by omega, fun he => ?_⟩
    rw [k2 (by omega), k1 (by omega)]
  out := ⟨B.out.1.trans A.out.1, B.out.2.1.trans A.out.2.1, B.out.2.2.trans A.out.2.2⟩ }
theorem ObRel.mono (E : Evo σ M Fz w σ' M' Fz' w') {ob : Ob} {o : Obj} (h : ObRel σ M Fz w ob o) : ObRel σ' M' Fz' w' ob o := by
  cases ob with
  | cells cs => obtain ⟨arr, T, ho, hl, hv⟩ := h; exact ⟨arr, T, ho, hl, fun i d v h1 h2 => ⟨(hv i d v h1 h2).1.mono E, (hv i d v h1 h2).2⟩⟩
  | map es clock => obtain ⟨arr, ho, hl, hv⟩ := h; exact ⟨arr, ho, hl, fun i k d n e h1 h2 => let ⟨a, b, c⟩ := hv i k d n e h1 h2; ⟨a, b, c.mono E⟩⟩
  | gone n => exact h.elim
end
end Go.Abs
