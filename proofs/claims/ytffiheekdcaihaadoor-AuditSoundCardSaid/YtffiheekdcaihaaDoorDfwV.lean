/- From what a row reads to frozen data. -/
import Derived.Test.YtffiheekdcaihaaDoorDfwU
import GoSem.ClaimChange
import Derived.DataReads
set_option linter.all false
namespace Go.Abs
variable [Gl]
inductive Sh where
  | int (k : IntKind)
  | bool
  | str
  | sl (e : List Sh)
  deriving Inhabited
inductive Shaped : Sh → C → Prop where
  | int {k : IntKind} {n : Int} (h : (Lit.int k n).wf = true) : Shaped (.int k) (.lit (.int k n))
  | bool (b : Bool) : Shaped .bool (.lit (.bool b))
  | str {s : ByteArray} (h : s.size ≤ maxLen) : Shaped .str (.lit (.string s))
  | sl {e : List Sh} {es : List (List C)} (hl : es.length ≤ maxLen) (hn : ∀ x ∈ es, x.length = e.length) (h : ∀ (x : List C), x ∈ es → ∀ (j : Nat) s c, e[j]? = some s → x[j]? = some c → Shaped s c) : Shaped (.sl e) (.frz false es)
def shapesOf (P : Program) : Nat → TypeId → Option (List Sh)
  | 0, _ => none
  | f + 1, t =>
    match P.underlying t with
    | some .bool => some [.bool]
    | some (.int k) => some [.int k]
    | some .string => some [.str]
    | some (.slice e) =>
      match shapesOf P f e with
      | some s => if s.length = P.cellsOf e ∧ s ≠ [] then some [.sl s] else none
      | none => none
    | some (.struct fs) =>
      match fs.toList.foldl (fun acc fd => match acc, shapesOf P f fd.type with
        | some l, some s => if fd.offset = l.length ∧ s.length = P.cellsOf fd.type then some (l ++ s) else none
        | _, _ => none) (some []) with
      | some l => if l.length = P.cellsOf t then some l else none
      | none => none
    | some (.array n e) =>
      match shapesOf P f e with
      | some s => if s.length = P.cellsOf e ∧ n * s.length = P.cellsOf t then some (List.replicate n s).flatten else none
      | none => none
    | _ => none
def zeu (w : World) (shs : List Sh) (xs : List C) (cs : List Value) : Prop :=
  xs.length = shs.length ∧ cs.length = shs.length ∧ (∀ (i : Nat) s x, shs[i]? = some s → xs[i]? = some x → Shaped s x) ∧
    ∀ (i : Nat) x v, xs[i]? = some x → cs[i]? = some v → VC (fun c => c < w.heap.size) w x v ∧ v.oneCell' = true
theorem zeu.append {w : World} {s1 s2 : List Sh} {x1 x2 : List C} {c1 c2 : List Value} (h1 : zeu w s1 x1 c1) (h2 : zeu w s2 x2 c2) : zeu w (s1 ++ s2) (x1 ++ x2) (c1 ++ c2) := by
  obtain ⟨a1, a2, a3, a4⟩ := h1
  obtain ⟨b1, b2, b3, b4⟩ := h2
  refine ⟨by simp [a1, b1], by simp [a2, b2], fun i s x hs hx => ?_, fun i x v hx hv => ?_⟩
  · rw [List.getElem?_append] at hs hx
    split at hs
    · rw [if_pos (by omega)] at hx; exact a3 i s x hs hx
    · rw [if_neg (by omega)] at hx; exact b3 _ s x hs (by rw [← a1]; exact hx)
  · rw [List.getElem?_append] at hx hv
    split at hx
    · rw [if_pos (by omega)] at hv; exact a4 i x v hx hv
    · rw [if_neg (by omega)] at hv; exact b4 _ x v hx (by rw [a1, ← a2]; exact hv)
theorem zeu.nil {w : World} : zeu w [] [] [] := ⟨rfl, rfl, fun i s x h => by simp at h, fun i x v h => by simp at h⟩
theorem zeu.one {w : World} {s : Sh} {x : C} {v : Value} (h1 : Shaped s x) (h2 : VC (fun c => c < w.heap.size) w x v) (h3 : v.oneCell' = true) : zeu w [s] [x] [v] := by
  refine ⟨rfl, rfl, fun i s' x' hs hx => ?_, fun i x' v' hx hv => ?_⟩
  · cases i with
    | zero => simp at hs hx; subst hs hx; exact h1
    | succ i => simp at hs
  · cases i with
    | zero => simp at hx hv; subst hx hv; exact ⟨h2, h3⟩
    | succ i => simp at hx
theorem cells_get {w : World} {base : Nat} {a : Addr} {n : Nat} {cs : List Value} (h : w.cells? base a n = some cs) : cs.length = n ∧ ∀ (j : Nat) v, cs[j]? = some v → w.cell? (a.add j) = some v := by
  unfold World.cells? at h
  split at h
  · obtain ⟨h1, h2⟩ := zfn h
    refine ⟨by simpa using h1, fun j v hj => ?_⟩
    obtain ⟨i, hi, hv⟩ := h2 j v hj
    have hl := (List.getElem?_eq_some_iff.1 hi).1
    simp at hl
    rw [List.getElem?_range hl] at hi
    simp only [Option.some.injEq] at hi
    subst hi
    exact hv
  · simp at h
theorem pick_list {α : Type} {n : Nat} {p : Nat → α → Prop} (h : ∀ i, i < n → ∃ a, p i a) : ∃ l : List α, l.length = n ∧ ∀ (i : Nat) a, l[i]? = some a → p i a := by
  induction n with
  | zero => exact ⟨[], rfl, fun i a h => by simp at h⟩
  | succ n ih =>
    obtain ⟨l, h1, h2⟩ := ih (fun i hi => h i (by omega))
    obtain ⟨a, ha⟩ := h n (by omega)
    refine ⟨l ++ [a], by simp [h1], fun i b hb => ?_⟩
    rw [List.getElem?_append] at hb
    split at hb
    · exact h2 i b hb
    · rename_i hi
      have hlt := (List.getElem?_eq_some_iff.1 hb).1
      simp at hlt
      have : i = n := by omega
      subst this
      rw [show i - l.length = 0 from by omega] at hb
      simp at hb
      subst hb
      exact ha
theorem trod_slice_inv {H : Type} {enc : TypeId × Value → H} {P : Program} {w : World} {spare : Nat → Bool} {held : Bool} {f : Nat} {t e : TypeId} {cs : List Value} {d : DataW H} {ps : List MemPlace}
    (hu : P.underlying t = some (.slice e)) (h : DataW.trod enc P w 0 spare held (f + 1) t cs = some (d, ps)) :
    cs = [.slice none 0 0] ∨ ∃ a len cap, cs = [.slice (some a) len cap] ∧ len ≤ cap ∧ cap ≤ maxLen ∧ ∀ i, i < len → ∃ ci di pi, w.cells? 0 (a.add (i * P.cellsOf e)) (P.cellsOf e) = some ci ∧ DataW.trod enc P w 0 spare held f e ci = some (di, pi) := by
  unfold DataW.trod at h
  rw [hu] at h
  split at h <;> rename_i heq <;> first
    | (simp only [Option.some.injEq, reduceCtorEq] at heq; done)
    | skip
  · exact .inl rfl
  · rename_i e' a len cap
    simp only [Option.some.injEq, TypeDesc.slice.injEq] at heq
    subst heq
    simp only at h
    split at h
    · rename_i hc
      simp only [Option.bind_eq_some_iff] at h
      obtain ⟨elems, hel, _⟩ := h
      refine .inr ⟨a, len, cap, rfl, hc.2.1, hc.2.2, fun i hi => ?_⟩
      obtain ⟨⟨di, pi⟩, _, hdi⟩ := mapM_get' hel i i (List.getElem?_range hi)
      simp only [Option.bind_eq_some_iff] at hdi
      obtain ⟨ci, h1, h2⟩ := hdi
      exact ⟨ci, di, pi, h1, h2⟩
    · simp at h
  · simp at h
theorem trod_struct_inv {H : Type} {enc : TypeId × Value → H} {P : Program} {w : World} {spare : Nat → Bool} {held : Bool} {f : Nat} {t : TypeId} {fs : Array Field} {cs : List Value} {d : DataW H} {ps : List MemPlace}
    (hu : P.underlying t = some (.struct fs)) (h : DataW.trod enc P w 0 spare held (f + 1) t cs = some (d, ps)) :
    cs.length = P.cellsOf t ∧ ∀ fd ∈ fs.toList, ∃ di pi, DataW.trod enc P w 0 spare held f fd.type ((cs.drop fd.offset).take (P.cellsOf fd.type)) = some (di, pi) := by
  unfold DataW.trod at h
  rw [hu] at h
  split at h <;> rename_i heq <;> first
    | (simp only [Option.some.injEq, reduceCtorEq] at heq; done)
    | skip
  · simp only [Option.some.injEq, TypeDesc.struct.injEq] at heq
    subst heq
    split at h
    · rename_i hl
      simp only [Option.map_eq_some_iff] at h
      obtain ⟨xs, hxs, _⟩ := h
      refine ⟨hl, fun fd hfd => ?_⟩
      obtain ⟨i, hi⟩ := List.mem_iff_getElem?.1 hfd
      obtain ⟨⟨di, pi⟩, _, h1⟩ := mapM_get' hxs i fd hi
      exact ⟨di, pi, h1⟩
    · simp at h
  · exact absurd rfl (‹∀ (fs_1 : Array Field), some (TypeDesc.struct fs) = some (TypeDesc.struct fs_1) → False› fs)
theorem trod_array_inv {H : Type} {enc : TypeId × Value → H} {P : Program} {w : World} {spare : Nat → Bool} {held : Bool} {f n : Nat} {t e : TypeId} {cs : List Value} {d : DataW H} {ps : List MemPlace}
    (hu : P.underlying t = some (.array n e)) (h : DataW.trod enc P w 0 spare held (f + 1) t cs = some (d, ps)) :
    cs.length = P.cellsOf t ∧ ∀ i, i < n → ∃ di pi, DataW.trod enc P w 0 spare held f e ((cs.drop (i * P.cellsOf e)).take (P.cellsOf e)) = some (di, pi) := by
  unfold DataW.trod at h
  rw [hu] at h
  split at h <;> rename_i heq <;> first
    | (simp only [Option.some.injEq, reduceCtorEq] at heq; done)
    | skip
  · simp only [Option.some.injEq, TypeDesc.array.injEq] at heq
    obtain ⟨rfl, rfl⟩ := heq
    split at h
    · rename_i hl
      simp only [Option.map_eq_some_iff] at h
      obtain ⟨xs, hxs, _⟩ := h
      refine ⟨hl, fun i hi => ?_⟩
      obtain ⟨⟨di, pi⟩, _, h1⟩ := mapM_get' hxs i i (List.getElem?_range hi)
      exact ⟨di, pi, h1⟩
    · simp at h
  · exact absurd rfl (‹∀ (n_1 : Nat) (e_1 : TypeId), some (TypeDesc.array n e) = some (TypeDesc.array n_1 e_1) → False› n e)
theorem trod_cells {H : Type} {enc : TypeId × Value → H} {P : Program} {w : World} {spare : Nat → Bool} {held : Bool} : ∀ (f : Nat) (f' : Nat) (t : TypeId) (cs : List Value) (d : DataW H) (ps : List MemPlace) (shs : List Sh),
    DataW.trod enc P w 0 spare held f' t cs = some (d, ps) → shapesOf P f t = some shs → ∃ xs, zeu w shs xs cs := by
  intro f
  induction f with
  | zero => intro f' t cs d ps shs _ h; simp [shapesOf] at h
  | succ f ih =>
    intro f' t cs d ps shs ht hs
    cases f' with
    | zero => simp [DataW.trod] at ht
    | succ f' =>
      simp only [shapesOf] at hs
      split at hs
      · -- bool
        rename_i hu
        simp only [Option.some.injEq] at hs
        subst hs
        unfold DataW.trod at ht
        rw [hu] at ht
        split at ht <;> simp_all
        subst_vars
        exact ⟨_, zeu.one (.bool _) (.lit _) rfl⟩
      · -- int
        rename_i k hu
        simp only [Option.some.injEq] at hs
        subst hs
        unfold DataW.trod at ht
        rw [hu] at ht
        split at ht <;> simp_all
        obtain ⟨⟨rfl, hwf⟩, _⟩ := ht
        exact ⟨_, zeu.one (.int hwf) (.lit _) rfl⟩
      · -- string
        rename_i hu
        simp only [Option.some.injEq] at hs
        subst hs
        unfold DataW.trod at ht
        rw [hu] at ht
        split at ht <;> simp_all
        exact ⟨_, zeu.one (.str ht.1) (.lit _) rfl⟩
      · -- slice
        rename_i e hu
        split at hs
        · rename_i s hse
          split at hs
          · rename_i hsl
            obtain ⟨hsl, hsne⟩ := hsl
            simp only [Option.some.injEq] at hs
            subst hs
            have hpos : 0 < s.length := List.length_pos_iff.2 hsne
            rcases trod_slice_inv hu ht with rfl | ⟨ad, len, cap, rfl, hlc, hcm, hel⟩
            · refine ⟨[.frz false []], zeu.one (.sl (by simp) (fun x h => by simp at h) (fun x h => by simp at h)) ?_ rfl⟩
              exact .frz 0 none 0 (by simp) (fun _ => rfl) (fun _ _ => undef) (fun e h => by simp at h) (by simp) (fun i j e d h => by simp at h) (fun i j e d h => by simp at h)
            · rw [← hsl] at hel
              have hex : ∀ i, i < len → ∃ (p : List C × List Value), w.cells? 0 (ad.add (i * s.length)) s.length = some p.2 ∧ zeu w s p.1 p.2 := by
                intro i hi
                obtain ⟨ci, di, pi, h1, h2⟩ := hel i hi
                obtain ⟨xs, hxs⟩ := ih f' e ci di pi s h2 hse
                exact ⟨(xs, ci), h1, hxs⟩
              obtain ⟨l, hl1, hl2⟩ := pick_list hex
              have hspot : 0 < len → ad.spot = none ∧ ad.block < w.heap.size := by
                intro h0
                obtain ⟨ci, di, pi, h1, _⟩ := hel 0 h0
                obtain ⟨h3, h4⟩ := cells_get h1
                have hc := h4 0 _ (List.getElem?_eq_getElem (by omega))
                have e0 : (ad.add (0 * s.length)).add 0 = ad := by simp [Addr.add]
                rw [e0] at hc
                exact ⟨World.cell?_spot hc, block_lt_of_cell hc⟩
              let g : Nat → Nat → Value := fun i j => (((l[i]?).map (·.2)).bind (·[j]?)).getD undef
              have hcellij : ∀ (i j : Nat) (x : List C) (c : C), (l.map (·.1))[i]? = some x → x[j]? = some c → ad = ⟨ad.block, ad.off, none⟩ ∧ ad.block < w.heap.size ∧ w.cell? ⟨ad.block, ad.off + i * s.length + j, none⟩ = some (g i j) ∧
                  VC (fun c => c < w.heap.size) w c (g i j) ∧ (g i j).oneCell' = true := by
                intro i j x c hx hc
                simp only [List.getElem?_map, Option.map_eq_some_iff] at hx
                obtain ⟨p, hp, rfl⟩ := hx
                obtain ⟨h1, h2, h3, h4, h5⟩ := hl2 i p hp
                have hi : i < len := by rw [← hl1]; exact (List.getElem?_eq_some_iff.1 hp).1
                obtain ⟨hsp, hbl⟩ := hspot (by omega)
                have had : ad = ⟨ad.block, ad.off, none⟩ := by cases ad; simp_all
                have hjl : j < p.2.length := by have := (List.getElem?_eq_some_iff.1 hc).1; omega
                have hv : p.2[j]? = some p.2[j] := List.getElem?_eq_getElem hjl
                have hg : g i j = p.2[j] := by simp only [g, hp, Option.map_some, Option.bind_some, hv, Option.getD_some]
                have hcell := (cells_get h1).2 j _ hv
                rw [had, add_off, add_off] at hcell
                rw [hg]
                exact ⟨had, hbl, hcell, h5 j c _ hc hv⟩
              have hlen : (l.map (·.1)).length = len := by simp [hl1]
              refine ⟨[.frz false (l.map (·.1))], zeu.one (.sl (by rw [hlen]; omega) (fun x hx => ?_) (fun x hx j sj c h1 h2 => ?_)) ?_ rfl⟩
              · simp only [List.mem_map] at hx
                obtain ⟨p, hp, rfl⟩ := hx
                obtain ⟨i, hi⟩ := List.mem_iff_getElem?.1 hp
                exact (hl2 i p hi).2.1
              · simp only [List.mem_map] at hx
                obtain ⟨p, hp, rfl⟩ := hx
                obtain ⟨i, hi⟩ := List.mem_iff_getElem?.1 hp
                exact (hl2 i p hi).2.2.2.1 j sj c h1 h2
              · have := VC.frz (Fz := fun c => c < w.heap.size) (w := w) (nn := false) (es := l.map (·.1)) s.length (some ad) cap (by simp) (fun h => by cases h) g (fun x hx => ?_) (by rw [hlen]; exact hlc) (fun i j x c h1 h2 => ?_) (fun i j x c h1 h2 => (hcellij i j x c h1 h2).2.2.2.1)
                · rw [hlen] at this; exact this
                · simp only [List.mem_map] at hx
                  obtain ⟨p, hp, rfl⟩ := hx
                  obtain ⟨i, hi⟩ := List.mem_iff_getElem?.1 hp
                  exact (hl2 i p hi).2.1
                · obtain ⟨k1, k2, k3, k4, k5⟩ := hcellij i j x c h1 h2
                  exact ⟨ad.block, ad.off, by rw [← k1], k2, k3, k5⟩
          · simp at hs
        · simp at hs
      · -- struct
        rename_i fs hu
        split at hs
        · rename_i l hl
          split at hs
          · rename_i hll
            simp only [Option.some.injEq] at hs
            subst hs
            obtain ⟨h1, h2⟩ := trod_struct_inv hu ht
            have key : ∀ (fl : List Field) (acc : List Sh) (ax : List C), (∀ fd ∈ fl, fd ∈ fs.toList) → acc.length ≤ cs.length → zeu w acc ax (cs.take acc.length) →
                fl.foldl (fun acc fd => match acc, shapesOf P f fd.type with
                  | some l, some s => if fd.offset = l.length ∧ s.length = P.cellsOf fd.type then some (l ++ s) else none
                  | _, _ => none) (some acc) = some l → l.length ≤ cs.length → ∃ xs, zeu w l xs (cs.take l.length) := by
              intro fl
              induction fl with
              | nil => intro acc ax _ _ hok he _; simp only [List.foldl_nil, Option.some.injEq] at he; subst he; exact ⟨ax, hok⟩
              | cons fd fl ihf =>
                intro acc ax hmem hacc hok he hle
                simp only [List.foldl_cons] at he
                have hnone : ∀ (gl : List Field), gl.foldl (fun acc fd => match acc, shapesOf P f fd.type with
                  | some l, some s => if fd.offset = l.length ∧ s.length = P.cellsOf fd.type then some (l ++ s) else none
                  | _, _ => none) none = none := by
                  intro gl
                  induction gl with
                  | nil => rfl
                  | cons _ _ ih => simp only [List.foldl_cons]; exact ih
                cases hsf : shapesOf P f fd.type with
                | none => rw [hsf] at he; simp only [hnone] at he; simp at he
                | some s =>
                  rw [hsf] at he
                  simp only at he
                  split at he
                  · rename_i hc
                    obtain ⟨hoff, hsl⟩ := hc
                    obtain ⟨di, pi, hd⟩ := h2 fd (hmem fd (by simp))
                    obtain ⟨xs, hxs⟩ := ih f' fd.type _ di pi s hd hsf
                    have hlen2 : acc.length + s.length ≤ cs.length := by
                      have := hxs.2.1
                      simp only [List.length_take, List.length_drop] at this
                      omega
                    refine ihf (acc ++ s) (ax ++ xs) (fun x hx => hmem x (by simp [hx])) (by simp; omega) ?_ he hle
                    have htake : cs.take (acc ++ s).length = cs.take acc.length ++ (cs.drop fd.offset).take (P.cellsOf fd.type) := by
                      rw [List.length_append, List.take_add, hoff, hsl]
                    rw [htake]
                    exact hok.append hxs
                  · simp only [hnone] at he; simp at he
            obtain ⟨xs, hxs⟩ := key fs.toList [] [] (fun _ h => h) (by simp) (by simpa using zeu.nil) hl (by omega)
            rw [List.take_of_length_le (by omega)] at hxs
            exact ⟨xs, hxs⟩
          · simp at hs
        · simp at hs
      · -- array
        rename_i n e hu
        split at hs
        · rename_i s hse
          split at hs
          · rename_i hsl
            obtain ⟨hsl, hnl⟩ := hsl
            simp only [Option.some.injEq] at hs
            subst hs
            obtain ⟨h1, h2⟩ := trod_array_inv hu ht
            rw [← hsl] at h2
            have key : ∀ m, m ≤ n → ∃ xs, zeu w (List.replicate m s).flatten xs (cs.take (m * s.length)) := by
              intro m
              induction m with
              | zero => intro _; exact ⟨[], by simpa using zeu.nil⟩
              | succ m ihm =>
                intro hm
                obtain ⟨xs, hxs⟩ := ihm (by omega)
                obtain ⟨di, pi, hd⟩ := h2 m (by omega)
                obtain ⟨ys, hys⟩ := ih f' e _ di pi s hd hse
                refine ⟨xs ++ ys, ?_⟩
                have e1 : (List.replicate (m + 1) s).flatten = (List.replicate m s).flatten ++ s := by
                  rw [List.replicate_succ', List.flatten_append]
                  simp
                rw [e1, Nat.succ_mul, List.take_add]
                exact hxs.append hys
            obtain ⟨xs, hxs⟩ := key n (Nat.le_refl _)
            rw [List.take_of_length_le (by omega)] at hxs
            exact ⟨xs, hxs⟩
          · simp at hs
        · simp at hs
      · simp at hs
end Go.Abs
