/- SubmitNil: whatever the input, the law returns true and the input reads as it did. No condition. -/
import Derived.Test.YtghmmmglndpmoaaGreatTzSubWalk
import Derived.Test.YtghmmmglndpmoaaGreatRows
import Derived.WalkKit
import Derived.ProofKit
import Derived.OpenShut
import Derived.ShutString
import Derived.ChangeOld
import Derived.Below
namespace Go.Proofs.YtghmmmglndpmoaaGreat
open Go.ChangeShapes Go.WideShapes Go.ChangeAt Go.RowKit Go.Abs
set_option linter.unusedVariables false

theorem own : ownKnob Tryz.prog.godebug = none := by kernel_rfl
theorem laidOut : laidOutB Tryz.prog = true := by kernel_rfl
theorem mixed : Tryz.prog.follows .mixedOrders = true := by kernel_rfl
theorem law_pure {P : Program} {g : FuncId} {ds : List D} (h : Pure P g ds (.c (.lit (.bool true)))) {w : World} {vs : Array Value} (hs : vs.size = ds.length)
    (hv : ∀ (i : Nat) d v, ds[i]? = some d → vs[i]? = some v → V [] (fun _ => none) (fun c => c < w.heap.size) w d v) :
    Calls P g vs w fun e w' => e = .returned (.bool true) ∧ Below w.heap.size w w' := by
  refine (h.2 _ _ w vs (Rel.start w) hs hv).mono fun e w' he => ?_
  obtain ⟨v, M', Fz', rfl, R', hv, EV⟩ := he
  exact ⟨by rw [hv.lit_inv], EV.out.1, EV.out.2.1, EV.out.2.2, EV.size, fun k hk => (EV.fz k hk).2⟩

theorem list_of {α : Type} {f : α → List C} : ∀ {es : List (List C)}, (∀ x ∈ es, ∃ a, x = f a) → ∃ l : List α, es = l.map f := by
  intro es
  induction es with
  | nil => intro _; exact ⟨[], rfl⟩
  | cons x es ih =>
    intro h
    obtain ⟨a, rfl⟩ := h x (by simp)
    obtain ⟨l, rfl⟩ := ih (fun y hy => h y (by simp [hy]))
    exact ⟨a :: l, rfl⟩

theorem int_of {k : IntKind} {x : C} (h : Shaped (.int k) x) : ∃ n, x = .lit (.int k n) := by cases h with | int h => exact ⟨_, rfl⟩
theorem bool_of {x : C} (h : Shaped .bool x) : ∃ b, x = .lit (.bool b) := by cases h with | bool b => exact ⟨_, rfl⟩
theorem sl_of {e : List Sh} {x : C} (h : Shaped (.sl e) x) : ∃ es, x = .frz false es := by cases h with | sl => exact ⟨_, rfl⟩
theorem dep_of {x : C} (h : Shaped (.sl [.int .i64, .bool]) x) : ∃ l : List api_Dep, x = .frz false (l.map api_Dep.enc) := by
  cases h with
  | sl hl hn hh =>
    rename_i es
    obtain ⟨l, hl⟩ := list_of (f := api_Dep.enc) (es := es) (fun y hy => by
      have h1 := hn y hy
      match y, h1 with
      | [c0, c1], _ =>
        obtain ⟨n, rfl⟩ := int_of (hh _ hy 0 _ c0 rfl rfl)
        obtain ⟨b, rfl⟩ := bool_of (hh _ hy 1 _ c1 rfl rfl)
        exact ⟨⟨n, b⟩, rfl⟩)
    exact ⟨l, by rw [hl]⟩
theorem shaped_cons {w : World} {s : Sh} {shs : List Sh} {xs : List C} (hl : xs.length = (s :: shs).length) (h : ∀ (i : Nat) t x, (s :: shs)[i]? = some t → xs[i]? = some x → Shaped t x) :
    ∃ x ys, xs = x :: ys ∧ Shaped s x ∧ ys.length = shs.length ∧ ∀ (i : Nat) t y, shs[i]? = some t → ys[i]? = some y → Shaped t y := by
  match xs, hl, h with
  | x :: ys, hl, h => exact ⟨x, ys, rfl, h 0 s x rfl rfl, by simpa using hl, fun i t y h1 h2 => h (i + 1) t y (by simpa using h1) (by simpa using h2)⟩

theorem walk (W : World) (cs : Array Value) (xs : List C) (h : CellsOk W ([.int .i64, .int .i64, .int .i64, .int .i64, .int .i64, .int .i64, .int .i64, .int .i64, .int .i64, .int .i64, .int .i64, .int .i64, .int .i64, .sl [.int .i64, .bool], .int .i64, .int .i64, .int .i64, .int .i64]) xs cs.toList) :
    Calls Tryz.prog 3 #[.agg cs] W fun e w' => e = .returned (.bool true) ∧ Below W.heap.size W w' := by
  have hV := V.cells_agg h (σ := []) (M := fun _ => none)
  obtain ⟨hl0, _, hsh0, _⟩ := h
  obtain ⟨x0, ys0, rfl, s0, hl1, hsh1⟩ := shaped_cons (w := W) hl0 hsh0
  clear hl0 hsh0
  obtain ⟨n0, rfl⟩ := int_of s0
  obtain ⟨x1, ys1, rfl, s1, hl2, hsh2⟩ := shaped_cons (w := W) hl1 hsh1
  clear hl1 hsh1
  obtain ⟨n1, rfl⟩ := int_of s1
  obtain ⟨x2, ys2, rfl, s2, hl3, hsh3⟩ := shaped_cons (w := W) hl2 hsh2
  clear hl2 hsh2
  obtain ⟨n2, rfl⟩ := int_of s2
  obtain ⟨x3, ys3, rfl, s3, hl4, hsh4⟩ := shaped_cons (w := W) hl3 hsh3
  clear hl3 hsh3
  obtain ⟨n3, rfl⟩ := int_of s3
  obtain ⟨x4, ys4, rfl, s4, hl5, hsh5⟩ := shaped_cons (w := W) hl4 hsh4
  clear hl4 hsh4
  obtain ⟨n4, rfl⟩ := int_of s4
  obtain ⟨x5, ys5, rfl, s5, hl6, hsh6⟩ := shaped_cons (w := W) hl5 hsh5
  clear hl5 hsh5
  obtain ⟨n5, rfl⟩ := int_of s5
  obtain ⟨x6, ys6, rfl, s6, hl7, hsh7⟩ := shaped_cons (w := W) hl6 hsh6
  clear hl6 hsh6
  obtain ⟨n6, rfl⟩ := int_of s6
  obtain ⟨x7, ys7, rfl, s7, hl8, hsh8⟩ := shaped_cons (w := W) hl7 hsh7
  clear hl7 hsh7
  obtain ⟨n7, rfl⟩ := int_of s7
  obtain ⟨x8, ys8, rfl, s8, hl9, hsh9⟩ := shaped_cons (w := W) hl8 hsh8
  clear hl8 hsh8
  obtain ⟨n8, rfl⟩ := int_of s8
  obtain ⟨x9, ys9, rfl, s9, hl10, hsh10⟩ := shaped_cons (w := W) hl9 hsh9
  clear hl9 hsh9
  obtain ⟨n9, rfl⟩ := int_of s9
  obtain ⟨x10, ys10, rfl, s10, hl11, hsh11⟩ := shaped_cons (w := W) hl10 hsh10
  clear hl10 hsh10
  obtain ⟨n10, rfl⟩ := int_of s10
  obtain ⟨x11, ys11, rfl, s11, hl12, hsh12⟩ := shaped_cons (w := W) hl11 hsh11
  clear hl11 hsh11
  obtain ⟨n11, rfl⟩ := int_of s11
  obtain ⟨x12, ys12, rfl, s12, hl13, hsh13⟩ := shaped_cons (w := W) hl12 hsh12
  clear hl12 hsh12
  obtain ⟨n12, rfl⟩ := int_of s12
  obtain ⟨x13, ys13, rfl, s13, hl14, hsh14⟩ := shaped_cons (w := W) hl13 hsh13
  clear hl13 hsh13
  obtain ⟨n13, rfl⟩ := dep_of s13
  obtain ⟨x14, ys14, rfl, s14, hl15, hsh15⟩ := shaped_cons (w := W) hl14 hsh14
  clear hl14 hsh14
  obtain ⟨n14, rfl⟩ := int_of s14
  obtain ⟨x15, ys15, rfl, s15, hl16, hsh16⟩ := shaped_cons (w := W) hl15 hsh15
  clear hl15 hsh15
  obtain ⟨n15, rfl⟩ := int_of s15
  obtain ⟨x16, ys16, rfl, s16, hl17, hsh17⟩ := shaped_cons (w := W) hl16 hsh16
  clear hl16 hsh16
  obtain ⟨n16, rfl⟩ := int_of s16
  obtain ⟨x17, ys17, rfl, s17, hl18, hsh18⟩ := shaped_cons (w := W) hl17 hsh17
  clear hl17 hsh17
  obtain ⟨n17, rfl⟩ := int_of s17
  obtain rfl : ys17 = [] := by simpa using hl18
  exact law_pure (runLaw ⟨n0, ⟨n1, n2, n3, n4, n5, n6, ⟨n7, n8, n9, n10⟩, n11, n12, n13, n14, n15, n16, n17⟩⟩) rfl (fun i d v h1 h2 => by
    cases i with
    | zero => simp at h1 h2; subst h1 h2; exact hV
    | succ i => simp at h1)

set_option maxRecDepth 100000 in
theorem lifted (os : Os) (started : os.Started) (H : Type) (enc : TypeId × Value → H) :
    ReturnsInHanded {} Tryz.checked os 3 .any (Rows.submitNilSpec.pre6 enc Tryz.prog Tryz.f3 Rows.submitNilRow.domain false) (Rows.submitNilSpec.post enc Tryz.prog Tryz.f3 false true false false) := by
  refine returnsInHanded_of_change (C := Tryz.checked) own started (by kernel_rfl) Tryz.func3
    (ChangeSpec.witness6 (enc := enc) (C := Tryz.checked) false ⟨#[], #[.agg #[.int .i64 0, .int .i64 0, .int .i64 0, .int .i64 0, .int .i64 0, .int .i64 0, .int .i64 0, .int .i64 0, .int .i64 0, .int .i64 0, .int .i64 0, .int .i64 0, .int .i64 0, .slice none 0 0, .int .i64 0, .int .i64 0, .int .i64 0, .int .i64 0]], []⟩ 8 (by kernel_rfl) (by kernel_rfl) (by kernel_rfl) (by kernel_rfl)) ?_
  intro W base args ds gs before hval0 hW hcnd _
  have hval : ∀ (j : Nat) t v, Tryz.f3.params[j]? = some t → args[j]? = some v → Value.okWide Tryz.prog W .any base t v := hval0
  have hW' := hW
  obtain ⟨p, q, hA0, hV, rfl, hfz, hnd⟩ := hW
  have hA : DataW.TrodAll enc Tryz.prog W 0 (fun _ => true) true Tryz.f3.params.toList args.toList ds p := hA0
  rw [Tryz.params3] at hA hval
  obtain ⟨v0, vs0, d0, ds0, p0, q0, hargs, rfl, rfl, h0, r0⟩ := trodAll_cons hA
  obtain ⟨rfl, rfl, rfl⟩ := trodAll_nil r0
  obtain rfl : args = #[v0] := by cases args; simp_all
  obtain ⟨rfl, rfl⟩ := trodVars_none hV
  obtain ⟨cs, rfl, hcsz⟩ := okWide_struct Tryz.underlying28 (hval 0 28 v0 rfl rfl)
  have k0 := h0
  have lt0 : ∀ x ∈ p0, x.block < W.heap.size := by obtain ⟨m, hm⟩ := k0; exact DataW.trod_lt m _ _ _ hm
  obtain ⟨fuel, hf⟩ := h0
  obtain ⟨xs, hxs⟩ := trod_cells 20 fuel 28 _ _ _ _ hf callShape
  clear hA0 hval0
  refine (walk W cs xs hxs).mono fun e W' ⟨he, bel⟩ => ?_
  subst he
  exact ⟨_, rfl, _, _, _, [], _, [], hW', trodAll_mk1 (shut_bool Tryz.underlying4 _), (trodAll_cons_mk (Below.trod laidOut (by kernel_rfl) (of_decide_eq_true (by kernel_rfl)) k0 bel lt0) trodAll_mk0), rfl, bel.frame _, fun h => by cases h⟩

end Go.Proofs.YtghmmmglndpmoaaGreat
