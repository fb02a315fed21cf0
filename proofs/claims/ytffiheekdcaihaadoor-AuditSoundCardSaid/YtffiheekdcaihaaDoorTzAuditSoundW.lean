/- AuditSound: whatever the input, the law returns true and the input reads as it did (the package variables as the text lays them). -/
import Derived.Test.YtffiheekdcaihaaDoorTzWalk5
import Derived.Test.YtffiheekdcaihaaDoorTzP7
import Derived.Test.YtffiheekdcaihaaDoorTzDec
import Derived.Test.YtffiheekdcaihaaDoorRows
import Derived.WalkKit
import Derived.ProofKit
import Derived.OpenShut
import Derived.ShutString
import Derived.ChangeOld
import Derived.Below
import Derived.Deep.DeepHandedRow
import Derived.LaidLaws
set_option linter.all false
namespace Go.Proofs.YtffiheekdcaihaaDoor
open Go.ChangeShapes Go.WideShapes Go.ChangeAt Go.RowKit Go.Abs
set_option linter.unusedVariables false
set_option maxRecDepth 100000
theorem own : ownKnob Tryd.prog.godebug = none := by kernel_rfl
theorem laidOut : laidOutB Tryd.prog = true := by kernel_rfl
theorem shape0 : shapesOf Tryd.prog 20 38 = some [.sl [.int .i64, .int .i64, .int .i64, .int .i64], .sl [.sl [.int .i64]], .sl [.int .i64, .sl [.int .i64], .int .i64, .int .i64, .int .i64, .int .i64], .int .i64, .int .i64, .int .i64, .int .i64, .int .i64, .int .i64, .int .i64, .int .i64, .int .i64, .int .i64, .int .i64, .int .i64, .int .i64, .int .i64, .int .i64, .int .i64, .int .i64, .int .i64, .sl [.int .i64, .int .i64, .int .i64, .int .i64, .int .i64, .int .i64, .int .i64, .int .i64, .int .i64, .sl [.int .i64, .bool], .int .i64, .bool, .bool, .int .i64, .int .i64, .int .i64, .int .i64, .int .i64], .sl [.int .i64, .int .i64, .int .i64, .int .i64, .int .i64, .sl [.int .i64, .int .i64]], .sl [.int .i64, .int .i64, .int .i64, .int .i64], .sl [.int .i64], .sl [.int .i64], .int .i64] := by kernel_rfl
theorem law_pure [Gl] {P : Program} {g : FuncId} {ds : List D} (h : za9 P g ds (.c (.lit (.bool true)))) {w : World} {vs : Array Value} (hs : vs.size = ds.length)
    (hv : ∀ (i : Nat) d v, ds[i]? = some d → vs[i]? = some v → V [] (fun _ => none) (fun c => c < w.heap.size) w d v) (hg : Gl.ok (fun c => c < w.heap.size) w) :
    Calls P g vs w fun e w' => e = .returned (.bool true) ∧ Below w.heap.size w w' := by
  refine (h.2 _ _ w vs (Rel.start w hg) hs hv).mono fun e w' he => ?_
  obtain ⟨v, M', Fz', rfl, R', hv, EV⟩ := he
  exact ⟨by rw [hv.lit_inv], EV.out.1, EV.out.2.1, EV.out.2.2, EV.size, fun k hk => (EV.fz k hk).2⟩
theorem arg_dec {α : Type} {f : α → List C} {w : World} {shs : List Sh} {xs : List C} {vs : Array Value} (hf : ∀ xs, Shp shs xs → ∃ a, xs = f a) (h : zeu w shs xs vs.toList) : ∃ a, V [] (fun _ => none) (fun c => c < w.heap.size) w (ST (f a)) (.agg vs) := by
  have hV := V.cells_agg h (σ := []) (M := fun _ => none)
  obtain ⟨a, rfl⟩ := hf xs ⟨h.1, h.2.2.1⟩
  exact ⟨a, hV⟩
theorem law_true (a0 : zaC) : za9 Tryd.prog 3 [ST a0.enc] (B true) := zfj 100 a0 true (Go.Plain.auditSound_plain a0)
theorem contract (H : Type) (enc : TypeId × Value → H) (W : World) (base : Nat) (args : Array Value) (ds gs : List (DataW H)) (before : List MemPlace)
    (hval : ∀ (j : Nat) t v, Tryd.f3.params[j]? = some t → args[j]? = some v → Value.okWide Tryd.prog W .any base t v)
    (hW : DataW.Whole enc Tryd.prog Tryd.f3.params.toList Rows.auditSoundSpec.vars false W args.toList ds gs before) (hg : Gl.ok (fun c => c < W.heap.size) W) :
    Calls Tryd.prog 3 args W fun e W' => ∃ v, e = .returned v ∧ Rows.auditSoundSpec.post enc Tryd.prog Tryd.f3 false true false false W args v W' := by
  have hW' := hW
  obtain ⟨p, q, hA0, hV, rfl, hfz, hnd⟩ := hW
  have hA : DataW.TrodAll enc Tryd.prog W 0 (fun _ => true) true Tryd.f3.params.toList args.toList ds p := hA0
  rw [Tryd.params3] at hA hval
  obtain ⟨v0, vs0, d0, ds0, p0, q0, hargs0, rfl, rfl, h0, r0⟩ := trodAll_cons hA
  obtain ⟨rfl, rfl, rfl⟩ := trodAll_nil r0
  obtain rfl : args = #[v0] := by cases args; simp_all
  obtain ⟨rfl, rfl⟩ := trodVars_none hV
  obtain ⟨cs0, rfl, hcsz0⟩ := okWide_struct Tryd.underlying38 (hval 0 38 v0 rfl rfl)
  have k0 := h0
  have lt0 : ∀ x ∈ p0, x.block < W.heap.size := by obtain ⟨m, hm⟩ := k0; exact DataW.trod_lt m _ _ _ hm
  obtain ⟨fuel0, hf0⟩ := h0
  obtain ⟨xs0, hxs0⟩ := trod_cells 20 fuel0 38 _ _ _ _ hf0 shape0
  obtain ⟨a0, hv0⟩ := arg_dec drayagelaw23xWorld_dec hxs0
  clear hA0
  refine (law_pure (law_true a0) rfl (fun i d v h1 h2 => by
    match i with
    | 0 => simp at h1 h2; subst h1 h2; exact hv0
    | i + 1 => simp at h1) hg).mono fun e W' ⟨he, bel⟩ => ?_
  subst he
  exact ⟨_, rfl, _, _, _, [], _, [], hW', trodAll_mk1 (shut_bool Tryd.underlying4 _), (trodAll_cons_mk (Below.trod laidOut (by kernel_rfl) (of_decide_eq_true (by kernel_rfl)) k0 bel lt0) trodAll_mk0), rfl, bel.frame _, fun h => by cases h⟩
theorem gTab : Tryd.prog.globalNamed (Rows.auditSoundRow.named.getD 0 default) = some 0 := by kernel_rfl
theorem gTabType : (Tryd.prog.globals[0]?).map (·.type) = some 72 := by kernel_rfl
theorem gl_of_laid {W : World} (h : laidMetH Tryd.prog Rows.auditSoundRow.laid W) : Gl.ok (fun c => c < W.heap.size) W := by
  obtain ⟨ps, ⟨g0, t0, cs0, f0, p0, q0, hg0, ht0, hv0, hd0, _, _⟩, _⟩ := (show laidMet Tryd.prog Rows.auditSoundRow.laid W from h)
  obtain rfl := Option.some.inj (gTab.symm.trans hg0)
  obtain rfl := Option.some.inj (gTabType.symm.trans ht0)
  obtain ⟨xs, m1, rfl, hx1, hlen, hn, hel⟩ := DataW.trod_array Tryd.underlying72 hd0
  have c9 : Tryd.prog.cellsOf 9 = 1 := by kernel_rfl
  have h4 := hel 4 (by decide)
  rw [c9] at h4
  obtain ⟨x4, hx4⟩ : ∃ x, xs[4]? = some x := ⟨_, List.getElem?_eq_getElem (by omega)⟩
  rw [hx4] at h4
  obtain ⟨s, hc, hz, _⟩ := DataW.trod_string Tryd.underlying9 h4
  have e2 : (xs.map (·.1))[4]? = some (DataW.lit (.string s.data.toList)) := by simp [hx4, hz]
  have e3 := congrArg Prod.fst hx1
  simp only [Rows.laid_drayage_audit_names, DataW.agg.injEq] at e3
  rw [← e3] at e2
  have es : s = jobS := by
    simp only [List.getElem?_cons_succ, List.getElem?_cons_zero, Option.some.injEq, DataW.lit.injEq, Lit.string.injEq] at e2
    have : s.data = #[106, 111, 98] := by rw [← Array.toList_inj]; exact e2.symm
    cases s
    simp only at this
    subst this
    rfl
  subst es
  have hcell : W.cell? ⟨0, 4, none⟩ = some (.string jobS) := by
    rw [World.var?_cell hg0 hv0 4]
    have : cs0.toList[4]? = some (.string jobS) := by
      have := congrArg (·[0]?) hc
      simpa [List.getElem?_take, List.getElem?_drop] using this
    simpa using this
  refine ⟨?_, hcell⟩
  cases hs : W.heap[0]? with
  | none => simp [World.cell?, hs] at hcell
  | some o => exact (Array.getElem?_eq_some_iff.1 hs).1
noncomputable def laidWorld (os : Os) : World :=
  { World.holding Tryd.prog os ⟨#[], #[], []⟩ with heap := (World.holding Tryd.prog os ⟨#[], #[], []⟩).heap.modify 0 fun
      | .cells _ t frozen => .cells #[.string ⟨#[]⟩, .string ⟨#[110, 111, 100, 101]⟩, .string ⟨#[108, 97, 116, 101]⟩, .string ⟨#[98, 111, 111, 107, 101, 100]⟩, .string ⟨#[106, 111, 98]⟩, .string ⟨#[97, 108, 108, 111, 99]⟩, .string ⟨#[113, 117, 101, 117, 101]⟩, .string ⟨#[117, 115, 101, 114]⟩, .string ⟨#[97, 102, 116, 101, 114]⟩, .string ⟨#[117, 115, 101]⟩] t frozen
      | o => o }
theorem laid_met (os : Os) : laidMet Tryd.prog Rows.auditSoundRow.laid ((laidWorld os).forCall (fun _ _ => 0) ⟨#[], #[.agg #[.slice none 0 0, .slice none 0 0, .slice none 0 0, .int .i64 0, .int .i64 0, .int .i64 0, .int .i64 0, .int .i64 0, .int .i64 0, .int .i64 0, .int .i64 0, .int .i64 0, .int .i64 0, .int .i64 0, .int .i64 0, .int .i64 0, .int .i64 0, .int .i64 0, .int .i64 0, .int .i64 0, .int .i64 0, .slice none 0 0, .slice none 0 0, .slice none 0 0, .slice none 0 0, .slice none 0 0, .int .i64 0]], []⟩).memory :=
  laidMet_of_run' 8 (by kernel_rfl) (by kernel_rfl)
theorem reads (os : Os) {H : Type} (enc : TypeId × Value → H) : ∃ places, DataW.whole enc Tryd.prog ((laidWorld os).forCall (fun _ _ => 0) ⟨#[], #[.agg #[.slice none 0 0, .slice none 0 0, .slice none 0 0, .int .i64 0, .int .i64 0, .int .i64 0, .int .i64 0, .int .i64 0, .int .i64 0, .int .i64 0, .int .i64 0, .int .i64 0, .int .i64 0, .int .i64 0, .int .i64 0, .int .i64 0, .int .i64 0, .int .i64 0, .int .i64 0, .int .i64 0, .int .i64 0, .slice none 0 0, .slice none 0 0, .slice none 0 0, .slice none 0 0, .slice none 0 0, .int .i64 0]], []⟩).memory Tryd.f3.params.toList Rows.auditSoundSpec.vars false (#[.agg #[.slice none 0 0, .slice none 0 0, .slice none 0 0, .int .i64 0, .int .i64 0, .int .i64 0, .int .i64 0, .int .i64 0, .int .i64 0, .int .i64 0, .int .i64 0, .int .i64 0, .int .i64 0, .int .i64 0, .int .i64 0, .int .i64 0, .int .i64 0, .int .i64 0, .int .i64 0, .int .i64 0, .int .i64 0, .slice none 0 0, .slice none 0 0, .slice none 0 0, .slice none 0 0, .slice none 0 0, .int .i64 0]] : Array Value).toList 8 = some ([.agg [.agg [.nil, .nil, .nil, .lit (.int .i64 0), .agg [.lit (.int .i64 0), .lit (.int .i64 0), .lit (.int .i64 0), .lit (.int .i64 0)], .lit (.int .i64 0), .lit (.int .i64 0), .lit (.int .i64 0), .lit (.int .i64 0), .lit (.int .i64 0), .lit (.int .i64 0), .lit (.int .i64 0), .lit (.int .i64 0), .lit (.int .i64 0), .lit (.int .i64 0)], .agg [.lit (.int .i64 0), .lit (.int .i64 0), .lit (.int .i64 0), .nil, .nil, .nil, .nil, .agg [.nil, .lit (.int .i64 0)]]]], [], places) :=
  ⟨[], by kernel_rfl⟩
theorem lifted (os : Os) (started : os.Started) (H : Type) (enc : TypeId × Value → H) (F : Stop.Interp) :
    ReturnsInHanded {} Tryd.checked os 3 .any ((OpenSpec.ofChange Rows.auditSoundSpec).preRow enc Tryd.prog Tryd.f3 Rows.auditSoundRow.domain false Rows.auditSoundRow.laid) (((OpenSpec.ofChange Rows.auditSoundSpec).at F).post enc Tryd.prog Tryd.f3 false true false false) := by
  obtain ⟨places, hx⟩ := reads os enc
  refine returnsInHanded_of_row (C := Tryd.checked) (s := OpenSpec.ofChange Rows.auditSoundSpec) own started (by kernel_rfl) Tryd.func3
    (witness_row_at (enc := enc) (C := Tryd.checked) false (laidWorld os) #[.agg #[.slice none 0 0, .slice none 0 0, .slice none 0 0, .int .i64 0, .int .i64 0, .int .i64 0, .int .i64 0, .int .i64 0, .int .i64 0, .int .i64 0, .int .i64 0, .int .i64 0, .int .i64 0, .int .i64 0, .int .i64 0, .int .i64 0, .int .i64 0, .int .i64 0, .int .i64 0, .int .i64 0, .int .i64 0, .slice none 0 0, .slice none 0 0, .slice none 0 0, .slice none 0 0, .slice none 0 0, .int .i64 0]] rfl (by kernel_rfl) (by kernel_rfl) (by kernel_rfl)
      (OpenSpec.preRow_of_cond 8 (hx) (by kernel_rfl) (fun k hk => by cases hk) (by kernel_rfl) (laid_met os))) ?_
  intro W base args ds gs before hval hW _ _ _ hL _ _
  exact contract H enc W base args ds gs before hval hW (gl_of_laid hL)
end Go.Proofs.YtffiheekdcaihaaDoor
