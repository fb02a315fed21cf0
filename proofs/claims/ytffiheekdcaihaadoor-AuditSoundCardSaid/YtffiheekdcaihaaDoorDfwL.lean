/- What an operation looks at, and what it leaves alone. -/
import Derived.Test.YtffiheekdcaihaaDoorDfwK
set_option linter.all false
namespace Go.Abs
variable [Gl]
def zc2 : AOp → List Opd
  | .mov x => [x]
  | .pick c a b => [c, a, b]
  | .gen op _ => op.operands.toList.filterMap opd
  | .box x => [x]
  | .alloc _ => []
  | .build _ ps => ps.map (·.2.2)
  | .bslice _ _ _ ps => ps.map (·.2.2)
  | .load _ a => [a]
  | .store _ a x => [a, x]
  | .nilck x => [x]
  | .isnil _ _ x => [x]
  | .fld _ x => [x]
  | .idx _ _ x i => [x, i]
  | .slc _ x lo hi => x :: (lo.toList ++ hi.toList)
  | .len x => [x]
  | .lenm x => [x]
  | .mk _ _ _ l c => [l, c]
  | .mkmap => []
  | .lookup _ _ m k _ => [m, k]
  | .upd _ m k x => [m, k, x]
  | .extract x _ => [x]
  | .mkfn _ f c => f ++ c
  | .part _ _ x => [x]
  | .aidx _ _ _ x i => [x, i]
  | .append _ _ s x => [s, x]
  | .copy _ d s => [d, s]
  | .call f as => f :: as
theorem fillD_congr {env env' : List D} : ∀ (ps : List (Nat × Nat × Opd)) (cs : List D), (∀ x ∈ ps.map (·.2.2), x.ev env = x.ev env') → fillD env cs ps = fillD env' cs ps := by
  intro ps
  induction ps with
  | nil => intro cs _; rfl
  | cons p ps ih =>
    intro cs h
    obtain ⟨o, n, x⟩ := p
    simp only [fillD, h x (by simp)]
    congr 1
    funext xs
    split
    · rfl
    · exact ih _ (fun y hy => h y (by simp at hy ⊢; exact .inr hy))
theorem evBound_congr {env env' : List D} (d m : Nat) (o : Option Opd) (h : ∀ x ∈ o.toList, x.ev env = x.ev env') : zcJ env d m o = zcJ env' d m o := by
  cases o with
  | none => rfl
  | some x => simp only [zcJ, h x (by simp)]
theorem genEv_congr {P : Program} {op : Op} {ty : TypeId} {env env' : List D} (hsel : ∀ cs b, op ≠ .select cs b) (h : ∀ x ∈ op.operands.toList.filterMap opd, x.ev env = x.ev env') : genEv P op ty env = genEv P op ty env' := by
  have hx : ∀ x ∈ op.operands.toList, ((opd x).map (Opd.ev env)) = ((opd x).map (Opd.ev env')) := by
    intro x hx
    cases ho : opd x with
    | none => rfl
    | some o => simp only [Option.map_some, h o (List.mem_filterMap.2 ⟨x, hx, ho⟩)]
  unfold genEv
  have h1 : op.operands.toList.all (fun x => (((opd x).map (Opd.ev env)).bind D.val?).isSome) = op.operands.toList.all (fun x => (((opd x).map (Opd.ev env')).bind D.val?).isSome) := by
    rw [Bool.eq_iff_iff, List.all_eq_true, List.all_eq_true]
    constructor
    · intro hh x hm; rw [← hx x hm]; exact hh x hm
    · intro hh x hm; rw [hx x hm]; exact hh x hm
  have h2 : ∀ o : Oper, o.op = op → execOp (fun x => ((((opd x).map (Opd.ev env)).bind D.val?).getD undef)) o = execOp (fun x => ((((opd x).map (Opd.ev env')).bind D.val?).getD undef)) o := by
    intro o ho
    refine execOp_congr o (by rw [ho]; exact hsel) (fun x hm => ?_)
    rw [ho] at hm
    show (((opd x).map (Opd.ev env)).bind D.val?).getD undef = _
    rw [hx x (by simpa using hm)]
  rw [h1, h2 _ rfl]
def notSelect : AOp → Prop
  | .gen op _ => ∀ cs b, op ≠ .select cs b
  | _ => True
theorem evOp_congr {P : Program} {orc : Orc} {ao : AOp} {env env' : List D} {σ : Heap} (hs : notSelect ao) (h : ∀ x ∈ zc2 ao, x.ev env = x.ev env') : zbY P orc ao env σ = zbY P orc ao env' σ := by
  cases ao with
  | gen op ty => simp only [zbY, genEv_congr hs h]
  | build z ps => simp only [zbY, fillD_congr ps z h]
  | bslice n l z ps => simp only [zbY, fillD_congr ps _ h]
  | slc e x lo hi =>
    simp only [zbY, h x (by simp [zc2])]
    have h1 : ∀ d m, zcJ env d m lo = zcJ env' d m lo := fun d m => evBound_congr d m lo (fun y hy => h y (by simp [zc2]; simp at hy; exact .inr (.inl hy)))
    have h2 : ∀ d m, zcJ env d m hi = zcJ env' d m hi := fun d m => evBound_congr d m hi (fun y hy => h y (by simp [zc2]; simp at hy; exact .inr (.inr hy)))
    simp only [h1, h2]
  | mkfn f a b =>
    have h1 : a.map (Opd.ev env) = a.map (Opd.ev env') := List.map_congr_left (fun x hx => h x (by simp [zc2, hx]))
    have h2 : b.map (Opd.ev env) = b.map (Opd.ev env') := List.map_congr_left (fun x hx => h x (by simp [zc2, hx]))
    simp only [zbY, h1, h2]
  | call f a =>
    have h1 : a.map (Opd.ev env) = a.map (Opd.ev env') := List.map_congr_left (fun x hx => h x (by simp [zc2, hx]))
    simp only [zbY, h1, h f (by simp [zc2])]
  | idx e o x i =>
    cases o <;> simp only [zbY, h x (by simp [zc2]), h i (by simp [zc2])]
  | mov x => simp only [zbY, h x (by simp [zc2])]
  | pick c a b => simp only [zbY, h c (by simp [zc2]), h a (by simp [zc2]), h b (by simp [zc2])]
  | box x => simp only [zbY, h x (by simp [zc2])]
  | alloc z => rfl
  | load n x => simp only [zbY, h x (by simp [zc2])]
  | store n x y => simp only [zbY, h x (by simp [zc2]), h y (by simp [zc2])]
  | nilck x => simp only [zbY, h x (by simp [zc2])]
  | isnil k n x => simp only [zbY, h x (by simp [zc2])]
  | fld o x => simp only [zbY, h x (by simp [zc2])]
  | len x => simp only [zbY, h x (by simp [zc2])]
  | lenm x => simp only [zbY, h x (by simp [zc2])]
  | mk e b z x y => simp only [zbY, h x (by simp [zc2]), h y (by simp [zc2])]
  | mkmap => rfl
  | lookup k z x y o => simp only [zbY, h x (by simp [zc2]), h y (by simp [zc2])]
  | upd k x y z => simp only [zbY, h x (by simp [zc2]), h y (by simp [zc2]), h z (by simp [zc2])]
  | extract x i => simp only [zbY, h x (by simp [zc2])]
  | part o n x => simp only [zbY, h x (by simp [zc2])]
  | aidx e l n x y => simp only [zbY, h x (by simp [zc2]), h y (by simp [zc2])]
  | append e b x y => simp only [zbY, h x (by simp [zc2]), h y (by simp [zc2])]
  | copy e x y => simp only [zbY, h x (by simp [zc2]), h y (by simp [zc2])]
theorem comp_notSelect {P : Program} {op : Op} {ty : TypeId} {ao : AOp} (h : comp P op ty = some ao) : notSelect ao := by
  rcases comp_inv h with ⟨f, args, ats, of, os, rfl, _, _, rfl⟩ | ⟨_, _, h0⟩
  · trivial
  · cases ao with
    | gen op' ty' =>
      intro cs b he
      subst he
      simp [isSel] at h0
    | _ => trivial
theorem evOp_frame {P : Program} {orc : Orc} (O : zaO P orc) {ao : AOp} {env : List D} {σ σ' : Heap} {d : D} {wr : List Nat} (h : zbY P orc ao env σ = some (d, σ', wr)) :
    σ.length ≤ σ'.length ∧ ∀ b, b < σ.length → b ∉ wr → σ'[b]? = σ[b]? := by
  have same : σ' = σ → σ.length ≤ σ'.length ∧ ∀ b, b < σ.length → b ∉ wr → σ'[b]? = σ[b]? := by
    rintro rfl; exact ⟨Nat.le_refl _, fun _ _ _ => rfl⟩
  have app : ∀ ob, σ' = σ ++ [ob] → σ.length ≤ σ'.length ∧ ∀ b, b < σ.length → b ∉ wr → σ'[b]? = σ[b]? := by
    rintro ob rfl; exact ⟨by simp, fun b hb _ => List.getElem?_append_left hb⟩
  have set : ∀ b ob, σ' = σ.set b ob → wr = [b] → σ.length ≤ σ'.length ∧ ∀ b, b < σ.length → b ∉ wr → σ'[b]? = σ[b]? := by
    rintro b ob rfl rfl
    refine ⟨by simp, fun b' _ hn => ?_⟩
    rw [List.getElem?_set_ne (by simp at hn; omega)]
  cases ao with
  | call f args =>
    simp only [zbY] at h
    split at h
    · exact ⟨(O _ _ _ _ _ _ h).2.2.1, (O _ _ _ _ _ _ h).2.2.2⟩
    · exact ⟨(O _ _ _ _ _ _ h).2.2.1, (O _ _ _ _ _ _ h).2.2.2⟩
    · simp at h
  | mov x => simp only [zbY, Option.some.injEq, Prod.mk.injEq] at h; exact same h.2.1.symm
  | pick c a b => simp only [zbY, Option.map_eq_some_iff, Prod.mk.injEq] at h; obtain ⟨_, _, _, h, _⟩ := h; exact same h.symm
  | gen op ty => simp only [zbY, Option.map_eq_some_iff, Prod.mk.injEq] at h; obtain ⟨_, _, _, h, _⟩ := h; exact same h.symm
  | box x => simp only [zbY, Option.map_eq_some_iff, Prod.mk.injEq] at h; obtain ⟨_, _, _, h, _⟩ := h; exact app _ h.symm
  | alloc z => simp only [zbY, Option.some.injEq, Prod.mk.injEq] at h; exact app _ h.2.1.symm
  | build z ps => simp only [zbY, Option.map_eq_some_iff, Prod.mk.injEq] at h; obtain ⟨_, _, _, h, _⟩ := h; exact same h.symm
  | bslice n l z ps => simp only [zbY, Option.map_eq_some_iff, Prod.mk.injEq] at h; obtain ⟨_, _, _, h, _⟩ := h; exact app _ h.symm
  | load n x =>
    simp only [zbY] at h
    split at h
    · simp only [Option.bind_eq_bind, Option.bind_eq_some_iff, Option.some.injEq, Prod.mk.injEq] at h; obtain ⟨_, _, _, _, _, h, _⟩ := h; exact same h.symm
    · simp only [Option.bind_eq_bind, Option.bind_eq_some_iff, Option.some.injEq, Prod.mk.injEq] at h; obtain ⟨_, _, _, h, _⟩ := h; exact same h.symm
    · simp at h
  | store n x y =>
    simp only [zbY] at h
    split at h
    · simp only [Option.bind_eq_bind, Option.bind_eq_some_iff] at h
      obtain ⟨_, _, _, _, h⟩ := h
      split at h
      · simp only [Option.some.injEq, Prod.mk.injEq] at h; exact set _ _ h.2.1.symm h.2.2.symm
      · simp at h
    · simp at h
  | nilck x =>
    simp only [zbY] at h
    split at h <;> simp only [Option.some.injEq, Prod.mk.injEq, reduceCtorEq] at h <;> exact same h.2.1.symm
  | isnil k n x => simp only [zbY, Option.map_eq_some_iff, Prod.mk.injEq] at h; obtain ⟨_, _, _, h, _⟩ := h; exact same h.symm
  | fld o x =>
    simp only [zbY] at h
    split at h <;> simp only [Option.some.injEq, Prod.mk.injEq, reduceCtorEq] at h <;> exact same h.2.1.symm
  | idx e o x i =>
    cases o with
    | none =>
      simp only [zbY, Option.bind_eq_bind, Option.bind_eq_some_iff] at h
      obtain ⟨_, _, h⟩ := h
      split at h
      · simp only [Option.bind_eq_some_iff] at h
        obtain ⟨_, _, _, _, h⟩ := h
        split at h <;> simp only [Option.some.injEq, Prod.mk.injEq, reduceCtorEq] at h
        exact same h.2.1.symm
      · simp only [Option.bind_eq_some_iff] at h
        obtain ⟨_, _, _, _, h⟩ := h
        split at h <;> simp only [Option.some.injEq, Prod.mk.injEq, reduceCtorEq] at h
        exact same h.2.1.symm
      · simp at h
    | some len =>
      simp only [zbY, Option.bind_eq_bind, Option.bind_eq_some_iff] at h
      obtain ⟨_, _, _, _, h⟩ := h
      split at h <;> simp only [Option.some.injEq, Prod.mk.injEq, reduceCtorEq] at h <;> exact same h.2.1.symm
  | slc e x lo hi =>
    simp only [zbY] at h
    split at h
    · simp only [Option.bind_eq_bind, Option.bind_eq_some_iff, Option.some.injEq, Prod.mk.injEq] at h; obtain ⟨_, _, _, _, _, h, _⟩ := h; exact same h.symm
    · simp only [Option.bind_eq_bind, Option.bind_eq_some_iff] at h
      obtain ⟨_, _, _, _, h⟩ := h
      split at h <;> simp only [Option.some.injEq, Prod.mk.injEq, reduceCtorEq] at h
      exact same h.2.1.symm
    · simp only [Option.bind_eq_bind, Option.bind_eq_some_iff] at h
      obtain ⟨_, _, _, _, _, _, h⟩ := h
      split at h <;> simp only [Option.some.injEq, Prod.mk.injEq, reduceCtorEq] at h
      exact same h.2.1.symm
    · simp at h
  | len x => simp only [zbY, Option.map_eq_some_iff, Prod.mk.injEq] at h; obtain ⟨_, _, _, h, _⟩ := h; exact same h.symm
  | lenm x => simp only [zbY, Option.map_eq_some_iff, Prod.mk.injEq] at h; obtain ⟨_, _, _, h, _⟩ := h; exact same h.symm
  | mk e b z x y =>
    simp only [zbY, Option.bind_eq_bind, Option.bind_eq_some_iff] at h
    obtain ⟨_, _, _, _, h⟩ := h
    split at h <;> simp only [Option.some.injEq, Prod.mk.injEq, reduceCtorEq] at h
    exact app _ h.2.1.symm
  | mkmap => simp only [zbY, Option.some.injEq, Prod.mk.injEq] at h; exact app _ h.2.1.symm
  | lookup k z x y o =>
    simp only [zbY, Option.bind_eq_bind, Option.bind_eq_some_iff, Option.some.injEq, Prod.mk.injEq] at h
    obtain ⟨_, _, _, _, _, _, _, h, _⟩ := h
    exact same h.symm
  | upd k x y z =>
    simp only [zbY, Option.bind_eq_bind, Option.bind_eq_some_iff] at h
    obtain ⟨_, _, h⟩ := h
    split at h
    · split at h
      · simp only [Option.bind_eq_some_iff] at h
        obtain ⟨_, _, h⟩ := h
        split at h <;> simp only [Option.some.injEq, Prod.mk.injEq] at h <;> exact set _ _ h.2.1.symm h.2.2.symm
      · simp at h
    · simp at h
  | extract x i =>
    simp only [zbY] at h
    split at h
    · simp only [Option.map_eq_some_iff, Prod.mk.injEq] at h; obtain ⟨_, _, _, h, _⟩ := h; exact same h.symm
    · simp at h
  | mkfn f a b => simp only [zbY, Option.some.injEq, Prod.mk.injEq] at h; exact same h.2.1.symm
  | part o n x =>
    simp only [zbY] at h
    split at h
    · simp only [Option.map_eq_some_iff, Prod.mk.injEq] at h; obtain ⟨_, _, _, h, _⟩ := h; exact same h.symm
    · simp at h
  | aidx e l n x y =>
    simp only [zbY, Option.bind_eq_bind, Option.bind_eq_some_iff] at h
    obtain ⟨_, _, _, _, h⟩ := h
    split at h
    · simp only [Option.map_eq_some_iff, Prod.mk.injEq] at h; obtain ⟨_, _, _, h, _⟩ := h; exact same h.symm
    · simp at h
  | append e b x y =>
    simp only [zbY, Option.bind_eq_bind, Option.bind_eq_some_iff] at h
    obtain ⟨_, _, _, _, h⟩ := h
    split at h
    · split at h
      · split at h
        · simp only [Option.some.injEq, Prod.mk.injEq] at h; exact same h.2.1.symm
        · simp only [Option.some.injEq, Prod.mk.injEq] at h; exact app _ h.2.1.symm
      · simp at h
    · simp only [Option.bind_eq_some_iff] at h
      obtain ⟨_, _, h⟩ := h
      split at h
      · split at h
        · simp only [Option.some.injEq, Prod.mk.injEq] at h; exact same h.2.1.symm
        · simp only [Option.some.injEq, Prod.mk.injEq] at h; exact set _ _ h.2.1.symm h.2.2.symm
      · simp at h
    · simp at h
  | copy e x y =>
    simp only [zbY] at h
    split at h
    · simp only [Option.bind_eq_bind, Option.bind_eq_some_iff] at h
      obtain ⟨_, _, _, _, _, _, h⟩ := h
      split at h <;> simp only [Option.some.injEq, Prod.mk.injEq, reduceCtorEq] at h
      exact set _ _ h.2.1.symm h.2.2.symm
    · simp at h
end Go.Abs
