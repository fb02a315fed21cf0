/- Slices that a function owns: rows that grow, and are written. -/
import Derived.Test.YtffiheekdcaihaaDoorDfwEq
set_option linter.all false
namespace Go.Abs
variable [Gl]
abbrev OS (esz b n : Nat) : D := .sl b 0 n esz (n * esz)
abbrev OB {α : Type} (f : α → List C) (l : List α) : Ob := .cells ((l.flatMap f).map .c)
section
variable {α : Type} {f : α → List C} {esz : Nat}
theorem flat_len (hf : ∀ a, (f a).length = esz) : ∀ (l : List α), (l.flatMap f).length = l.length * esz := by
  intro l
  induction l with
  | nil => simp
  | cons a l ih => simp only [List.flatMap_cons, List.length_append, hf, ih, List.length_cons, Nat.add_mul, Nat.one_mul]; omega
theorem flat_at (hf : ∀ a, (f a).length = esz) : ∀ (l : List α) (i : Nat) (a : α), l[i]? = some a → ((l.flatMap f).drop (i * esz)).take esz = f a := by
  intro l
  induction l with
  | nil => intro i a h; simp at h
  | cons x l ih =>
    intro i a h
    cases i with
    | zero =>
      simp only [List.getElem?_cons_zero, Option.some.injEq] at h
      subst h
      simp only [List.flatMap_cons, Nat.zero_mul, List.drop_zero]
      rw [List.take_append_of_le_length (by rw [hf]; exact Nat.le_refl _), List.take_of_length_le (by rw [hf]; exact Nat.le_refl _)]
    | succ i =>
      simp only [List.getElem?_cons_succ] at h
      simp only [List.flatMap_cons]
      have : (i + 1) * esz = (f x).length + i * esz := by rw [hf, Nat.add_mul]; omega
      rw [this, List.drop_append, ← ih i a h, List.drop_eq_nil_of_le (by omega), List.nil_append]
      congr 2
      omega
theorem flat_sub (hf : ∀ a, (f a).length = esz) (l : List α) (lo n : Nat) : ((l.flatMap f).drop (lo * esz)).take (n * esz) = ((l.drop lo).take n).flatMap f := by
  induction l generalizing lo n with
  | nil => simp
  | cons x l ih =>
    cases lo with
    | succ lo =>
      simp only [List.flatMap_cons, List.drop_succ_cons]
      have : (lo + 1) * esz = (f x).length + lo * esz := by rw [hf, Nat.add_mul]; omega
      rw [this, List.drop_append, ← ih lo n, List.drop_eq_nil_of_le (by omega), List.nil_append]
      congr 2
      omega
    | zero =>
      cases n with
      | zero => simp
      | succ n =>
        simp only [Nat.zero_mul, List.drop_zero, List.flatMap_cons, List.take_succ_cons]
        have h1 : (n + 1) * esz = (f x).length + n * esz := by rw [hf, Nat.add_mul]; omega
        rw [h1, List.take_append]
        have := ih 0 n
        simp only [Nat.zero_mul, List.drop_zero] at this
        rw [List.take_of_length_le (by omega), Nat.add_sub_cancel_left, this]
theorem row_own {σ : Heap} {b : Nat} {l : List α} (hf : ∀ a, (f a).length = esz) (h : σ[b]? = some (OB f l)) : zeO σ b (l.length * esz) = some ((l.flatMap f).map .c) := by
  unfold zeO
  rw [h]
  simp [flat_len hf]
theorem chunks_map (hf : ∀ a, (f a).length = esz) : ∀ (l : List α), chunks esz l.length (l.flatMap f) = l.map f := by
  intro l
  induction l with
  | nil => rfl
  | cons a l ih =>
    simp only [List.length_cons, chunks, List.flatMap_cons, List.map_cons]
    rw [List.take_append_of_le_length (by rw [hf]; exact Nat.le_refl _), List.take_of_length_le (by rw [hf]; exact Nat.le_refl _)]
    congr 1
    have : ((f a) ++ l.flatMap f).drop esz = l.flatMap f := by
      have h := hf a
      rw [← h, List.drop_left]
    rw [this, ih]
theorem mapM_frzC {σ : Heap} {n k : Nat} : ∀ (l : List C), (l.map D.c).mapM (frzC σ n (k + 1)) = some l := by
  intro l
  induction l with
  | nil => rfl
  | cons x l ih => rw [List.map_cons, List.mapM_cons, ih]; rfl
theorem frzC_own {σ : Heap} {b k n : Nat} {l : List α} (hf : ∀ a, (f a).length = esz) (he : 0 < esz) (h : σ[b]? = some (OB f l)) (hn : l.length = n) : frzC σ 0 (k + 2) (OS esz b n) = some (.frz (Nat.blt 0 n) (l.map f)) := by
  subst hn
  have : frzC σ 0 (k + 2) (OS esz b l.length) = (if 0 ≤ b ∧ 0 < esz ∧ 0 + l.length * esz ≤ l.length * esz then
        match zeO σ b (l.length * esz) with
        | some cs => (((cs.drop 0).take (l.length * esz)).mapM (frzC σ 0 (k + 1))).map fun r => C.frz (Nat.blt 0 l.length) (chunks esz l.length r)
        | none => none
      else none) := rfl
  rw [this, if_pos ⟨Nat.zero_le _, he, by omega⟩, row_own hf h]
  simp only [List.drop_zero]
  rw [List.take_of_length_le (by simp [flat_len hf]), mapM_frzC]
  simp [chunks_map hf]
theorem frz_own {σ : Heap} {b n : Nat} {l : List α} (hf : ∀ a, (f a).length = esz) (he : 0 < esz) (h : σ[b]? = some (OB f l)) (hn : l.length = n) : frzD σ 0 100 (OS esz b n) = some (.c (.frz (Nat.blt 0 n) (l.map f))) := by
  show (frzC σ 0 100 (OS esz b n)).map D.c = _
  rw [frzC_own (k := 98) hf he h hn]
  rfl
theorem frz1xown {σ : Heap} {b n : Nat} {l : List α} (hf : ∀ a, (f a).length = esz) (he : 0 < esz) (h : σ[b]? = some (OB f l)) (hn : l.length = n) : frzD1 σ 0 100 (OS esz b n) = some (.c (.frz (Nat.blt 0 n) (l.map f))) := by
  show (frzC σ 0 100 (OS esz b n)).map D.c = _
  rw [frzC_own (k := 98) hf he h hn]
  rfl
theorem zb2 {β : Type} {g : D → Option β} {d : D} {ds : List D} {r : β} {rs : List β} (h : g d = some r) (h2 : ds.mapM g = some rs) : (d :: ds).mapM g = some (r :: rs) := by
  rw [List.mapM_cons, h, h2]; rfl
theorem frz_tup {σ : Heap} {ds rs : List D} (h : ds.mapM (frzD1 σ 0 100) = some rs) : frzD σ 0 100 (.tup ds) = some (.tup rs) := by
  show (ds.mapM (frzD1 σ 0 100)).map D.tup = _
  rw [h]; rfl
theorem frz_agg {σ : Heap} {ds : List D} {rs : List C} (h : ds.mapM (frzC σ 0 100) = some rs) : frzD1 σ 0 100 (.agg ds) = some (.agg (rs.map .c)) := by
  show (ds.mapM (frzC σ 0 100)).map (fun l => D.agg (l.map .c)) = _
  rw [h]; rfl
def Src (σ : Heap) (f : α → List C) (esz : Nat) (d : D) (m : List α) : Prop := zey σ d = some m.length ∧ ze6 σ esz m.length d = some ((m.flatMap f).map .c)
theorem src_frz {σ : Heap} {nn : Bool} {m : List α} (hf : ∀ a, (f a).length = esz) : Src σ f esz (.c (.frz nn (m.map f))) m := by
  refine ⟨by simp [zey], ?_⟩
  show (if m.length ≤ (m.map f).length ∧ (m.map f).all (fun e => e.length = esz) then some (((m.map f).take m.length).flatten.map D.c) else none) = _
  rw [if_pos ⟨by simp, by simp [hf]⟩, List.take_of_length_le (by simp)]
  simp [List.flatMap]
theorem src_nil {σ : Heap} : Src σ f esz (.c (.lit (.slice none 0 0))) [] := ⟨rfl, rfl⟩
theorem zeL {σ : Heap} {b n : Nat} {l : List α} (hf : ∀ a, (f a).length = esz) (h : σ[b]? = some (OB f l)) (hn : l.length = n) : Src σ f esz (OS esz b n) l := by
  subst hn
  refine ⟨by simp [zey, row_own hf h], ?_⟩
  show ((zeO σ b (l.length * esz)).bind fun cs => if esz = esz ∧ l.length ≤ l.length ∧ 0 + l.length * esz ≤ l.length * esz then some ((cs.drop 0).take (l.length * esz)) else none) = _
  rw [row_own hf h, Option.bind_some, if_pos ⟨rfl, Nat.le_refl _, by omega⟩, List.drop_zero, List.take_of_length_le (by simp [flat_len hf])]
end
section
variable {P : Program} {orc : Orc} {n : Nat} {al : AL} {σ σ1 : Heap} {d d1 d2 : D} {α : Type} {f : α → List C} {esz : Nat} {ac : ACode} {Q : AExit → AL → Heap → Prop}
theorem Sem.own (t esz : Nat) (hk : lk t al = some (.c (.lit (.slice none 0 0)))) (hd : D.sl σ.length 0 0 esz 0 = d) (hs : σ ++ [.cells []] = σ1) (h : Sem P ac n ((t, d) :: al) σ1 Q) : Sem P ac n al σ Q := by
  subst hd hs
  intro c hc M Fz w a K R A hK
  have hmono : ∀ {d v}, V σ M Fz w d v → V (σ ++ [.cells []]) M Fz w d v := fun h => h.sub (fun b ob hb => ⟨ob, by rw [List.getElem?_append_left (List.getElem?_eq_some_iff.1 hb).1]; exact hb, rfl⟩) (fun _ _ h => h) (fun c h => ⟨h, rfl⟩) (fun c arr T fr h => ⟨arr, h, rfl⟩)
  have R1 : Rel (σ ++ [.cells []]) M Fz w := by
    refine ⟨fun b c h => ?_, R.inj, R.fz, R.gl⟩
    obtain ⟨h1, ob, o, h2, h3, h4⟩ := R.blk b c h
    refine ⟨h1, ob, o, by rw [List.getElem?_append_left (List.getElem?_eq_some_iff.1 h2).1]; exact h2, h3, ?_⟩
    cases ob with
    | cells cs => obtain ⟨arr, T, ho, hl, hv⟩ := h4; exact ⟨arr, T, ho, hl, fun i d v x y => ⟨hmono (hv i d v x y).1, (hv i d v x y).2⟩⟩
    | map es clock => obtain ⟨arr, ho, hl, hv⟩ := h4; exact ⟨arr, ho, hl, fun i k d n e x y => let ⟨p, q, r⟩ := hv i k d n e x y; ⟨p, q, hmono r⟩⟩
    | gone n => exact h4.elim
  have E1 : Evo σ M Fz w (σ ++ [.cells []]) M Fz w := {
    size := Nat.le_refl _
    frame := fun _ _ _ => rfl
    ran := fun b c h => .inl ⟨b, h⟩
    fz := fun c h => ⟨h, rfl⟩
    fz' := fun c h => .inl h
    shp := fun c arr T fr h => ⟨arr, h, rfl⟩
    keep := fun b ob h => ⟨ob, by rw [List.getElem?_append_left (List.getElem?_eq_some_iff.1 h).1]; exact h, Nat.le_refl _, fun _ => rfl⟩
    out := ⟨rfl, rfl, rfl⟩ }
  have A1 : AEnv n (σ ++ [.cells []]) M Fz w ((t, .sl σ.length 0 0 esz 0) :: al) a.tmps := by
    refine ⟨A.1, fun s d hs => ?_⟩
    simp only [lk] at hs
    split at hs
    · rename_i hb
      have := Nat.eq_of_beq_eq_true hb
      simp only [Option.some.injEq] at hs
      subst this hs
      obtain ⟨v, h1, h2⟩ := A.2 t _ hk
      refine ⟨v, h1, ?_⟩
      rw [h2.lit_inv]
      exact .sl none 0 0 (by simp) (.cells []) (by simp) (by simp [Ob.sz]) (fun _ => .inl ⟨rfl, rfl, rfl, rfl, rfl, rfl⟩)
    · obtain ⟨v, h1, h2⟩ := A.2 s d hs
      exact ⟨v, h1, hmono h2⟩
  exact h c hc M Fz w a K R1 A1 fun x al' σ' a' w' M' Fz' hQ hd R' A' E' hl => hK x al' σ' a' w' M' Fz' hQ hd R' A' (E1.trans E' (by simp)) (by simp at hl; omega)
theorem op_len_own {x : Opd} {b k : Nat} {l : List α} (hf : ∀ a, (f a).length = esz) (h : lx al x = some (OS esz b k)) (hb : σ[b]? = some (OB f l)) (hn : l.length = k) : OpR P orc n al σ (.len x) (I k) σ [] := fun e he => by
  subst hn
  simp [zbY, zcu he h, zey, row_own hf hb]
def app? {α : Type} (l m : List α) : Option (List α) := if l.length + m.length ≤ 1000000 then some (l ++ m) else none
theorem app_some {l m r : List α} (h : app? l m = some r) : l.length + m.length ≤ 1000000 ∧ r = l ++ m := by
  unfold app? at h
  split at h
  · rename_i hl; simp only [Option.some.injEq] at h; exact ⟨hl, h.symm⟩
  · simp at h
theorem zcU {bytes : Nat} {s x : Opd} {b k : Nat} {l m r : List α} (hf : ∀ a, (f a).length = esz) (h : lx al s = some (OS esz b k)) (hb : σ[b]? = some (OB f l)) (hk : l.length = k) (hx : lx al x = some d) (hm : Src σ f esz d m) (ha : app? l m = some r)
    (hby : Nat.ble bytes 1000 = true) (hd : OS esz b r.length = d1) (hs : σ.set b (OB f r) = σ1) : OpR P orc n al σ (.append esz bytes s x) d1 σ1 [b] := by
  obtain ⟨hlen, rfl⟩ := app_some ha
  subst hd hs hk
  have hby' : bytes ≤ 1000 := Nat.le_of_ble_eq_true hby
  have hroom : roomOk (l.length + m.length) bytes = true := by
    have : (l.length + m.length) * bytes ≤ 1000000 * 1000 := Nat.mul_le_mul hlen hby'
    simp only [roomOk, Bool.and_eq_true, decide_eq_true_eq]
    omega
  have key : ∀ e, Env n al e → zbY P orc (.append esz bytes s x) e σ = (if m.length = 0 then some (OS esz b l.length, σ, [b]) else some (.sl b 0 (l.length + m.length) esz (l.length * esz + m.length * esz), σ.set b (.cells ((l.flatMap f).map .c ++ (m.flatMap f).map .c)), [b])) := by
    intro e he
    have : zbY P orc (.append esz bytes s x) e σ = (zey σ d).bind fun k => (ze6 σ esz k d).bind fun new => (zeO σ b (l.length * esz)).bind fun cs => if esz = esz ∧ 0 = 0 ∧ l.length * esz = l.length * esz ∧ roomOk (l.length + k) bytes then
          if k = 0 then some (.sl b 0 l.length esz (l.length * esz), σ, [b])
          else some (.sl b 0 (l.length + k) esz (l.length * esz + k * esz), σ.set b (.cells (cs ++ new)), [b])
        else none := by
      simp only [zbY, zcu he h, zcu he hx]
      rfl
    rw [this, hm.1, Option.bind_some, hm.2, Option.bind_some, row_own hf hb, Option.bind_some, if_pos ⟨rfl, rfl, rfl, hroom⟩]
  intro e he
  by_cases hz : m.length = 0
  · rw [key e he, if_pos hz]
    have : m = [] := List.eq_nil_of_length_eq_zero hz
    subst this
    have hset : σ.set b (OB f (l ++ [])) = σ := by
      rw [List.append_nil]
      apply List.ext_getElem?
      intro i
      rw [List.getElem?_set]
      split
      · rename_i hi; subst hi
        split
        · exact hb.symm
        · rename_i hlt; rw [List.getElem?_eq_none (by omega)]
      · rfl
    rw [hset, List.append_nil]
  · rw [key e he, if_neg hz]
    simp [OS, OB, Nat.add_mul]
theorem ze5 {x i : Opd} {b m : Nat} {k : Int} {l : List α} {a : α} (hf : ∀ a, (f a).length = esz) (h : lx al x = some (OS esz b m)) (hb : σ[b]? = some (OB f l)) (hn : l.length = m) (hi : lx al i = some (I k)) (ha : at? l k = some a) :
    OpR P orc n al σ (.idx esz none x i) (.ptr b (k.toNat * esz) (m * esz)) σ [] := fun e he => by
  subst hn
  obtain ⟨h1, h2, h3⟩ := at_some ha
  have h4 : inR k l.length = some k.toNat := by unfold inR; rw [if_pos ⟨h1, h2⟩]
  simp [zbY, zcu he h, zcu he hi, ze3, h4, row_own hf hb]
theorem at_get {l : List α} {k : Int} {a : α} (ha : at? l k = some a) : l[k.toNat]? = some a := (at_some ha).2.2
theorem getCells_elem (hf : ∀ a, (f a).length = esz) {l : List α} {i o : Nat} {a : α} {m : Option Nat} (ha : l[i]? = some a) (hg : zcs m ((f a).map .c) o = some d) : zcs m ((l.flatMap f).map .c) (i * esz + o) = some d := by
  have hfa := flat_at hf l i a ha
  have hlen : (i + 1) * esz ≤ (l.flatMap f).length := by
    rw [flat_len hf]
    exact Nat.mul_le_mul_right _ (List.getElem?_eq_some_iff.1 ha).1
  rw [Nat.add_mul, Nat.one_mul] at hlen
  cases m with
  | none =>
    simp only [zcs, List.getElem?_map, Option.map_eq_some_iff] at hg ⊢
    obtain ⟨x, hx, rfl⟩ := hg
    refine ⟨x, ?_, rfl⟩
    have ho : o < esz := by rw [← hf a]; exact (List.getElem?_eq_some_iff.1 hx).1
    rw [← hfa, List.getElem?_take_of_lt ho, List.getElem?_drop] at hx
    exact hx
  | some m =>
    simp only [zcs] at hg ⊢
    split at hg
    · rename_i hc
      simp only [List.length_map, hf] at hc
      rw [if_pos (by rw [List.length_map]; omega)]
      simp only [Option.some.injEq] at hg ⊢
      rw [← hg, ← hfa]
      congr 1
      rw [← List.map_drop, ← List.map_take, ← List.map_drop, ← List.map_take]
      congr 1
      rw [List.drop_take, List.take_take, List.drop_drop]
      congr 1
      omega
    · simp at hg
theorem op_loade {m : Option Nat} {x : Opd} {b p q o i : Nat} {l : List α} {a : α} (hf : ∀ a, (f a).length = esz) (h : lx al x = some (.ptr b p (q * esz))) (hp : p = i * esz + o) (hb : σ[b]? = some (OB f l)) (hn : l.length = q) (ha : l[i]? = some a)
    (hg : zcs m ((f a).map .c) o = some d) : OpR P orc n al σ (.load m x) d σ [] := by
  subst hn hp
  exact op_load h (row_own hf hb) (getCells_elem hf ha hg)
theorem flat_put (hf : ∀ a, (f a).length = esz) {xs : List C} : ∀ (l : List α) (i o : Nat) (a a' : α), l[i]? = some a → o + xs.length ≤ esz → f a' = (f a).take o ++ xs ++ (f a).drop (o + xs.length) →
    (l.flatMap f).take (i * esz + o) ++ xs ++ (l.flatMap f).drop (i * esz + o + xs.length) = (l.set i a').flatMap f := by
  intro l
  induction l with
  | nil => intro i o a a' h; simp at h
  | cons x l ih =>
    intro i o a a' h ho he
    cases i with
    | zero =>
      simp only [List.getElem?_cons_zero, Option.some.injEq] at h
      subst h
      simp only [Nat.zero_mul, Nat.zero_add, List.flatMap_cons, List.set_cons_zero]
      have hx := hf x
      rw [List.take_append_of_le_length (by omega), List.drop_append_of_le_length (by omega), he]
      simp
    | succ i =>
      simp only [List.getElem?_cons_succ] at h
      have hx := hf x
      have e1 : (i + 1) * esz + o = (f x).length + (i * esz + o) := by rw [Nat.add_mul]; omega
      simp only [List.flatMap_cons, List.set_cons_succ]
      rw [← ih i o a a' h ho he, e1, List.take_append, List.take_of_length_le (by omega)]
      have e2 : (f x).length + (i * esz + o) + xs.length = (f x).length + (i * esz + o + xs.length) := by omega
      rw [e2, List.drop_append, List.drop_eq_nil_of_le (by omega), List.nil_append, Nat.add_sub_cancel_left, Nat.add_sub_cancel_left]
      simp
theorem op_storee {m : Nat} {x y : Opd} {b p q o i : Nat} {l : List α} {a a' : α} {xs : List C} (hf : ∀ a, (f a).length = esz) (h : lx al x = some (.ptr b p (q * esz))) (hp : p = i * esz + o) (hb : σ[b]? = some (OB f l)) (hn : l.length = q) (ha : l[i]? = some a)
    (hy : lx al y = some d) (hc : d.cells? = some (xs.map .c)) (hm : xs.length = m) (ho : Nat.ble (o + m) esz = true) (he : f a' = (f a).take o ++ xs ++ (f a).drop (o + xs.length)) {l2 : List α} (hl2 : l.set i a' = l2) (hs : σ.set b (OB f l2) = σ1) :
    OpR P orc n al σ (.store m x y) (.tup []) σ1 [b] := by
  subst hn hp hl2 hs hm
  have ho' : o + xs.length ≤ esz := Nat.le_of_ble_eq_true ho
  have hi := (List.getElem?_eq_some_iff.1 ha).1
  have hle : (i + 1) * esz ≤ l.length * esz := Nat.mul_le_mul_right _ hi
  rw [Nat.add_mul, Nat.one_mul] at hle
  refine op_store h (row_own hf hb) hy hc ⟨by simp, by omega⟩ ?_
  congr 2
  rw [← flat_put hf l i o a a' ha ho' he]
  simp [put]
theorem zaL {len : Nat} {z cs : List D} {ps : List (Nat × Nat × Opd)} {l : List α} (h : fillA al (zeros len z) ps = some cs) (hl : cs = (l.flatMap f).map .c) (hn : l.length = len) (hf : ∀ a, (f a).length = esz) (hp : OS σ.length esz len = OS σ.length esz len) (hd : OS esz σ.length len = d1) (hs : σ ++ [OB f l] = σ1) :
    OpR P orc n al σ (.bslice esz len z ps) d1 σ1 [] := by
  subst hl hd hs hn
  refine op_bslice h ?_ rfl
  simp [OS, flat_len hf]
theorem zeros_map {z : α} : ∀ (k : Nat), zeros k ((f z).map .c) = ((List.replicate k z).flatMap f).map .c := by
  intro k
  induction k with
  | zero => rfl
  | succ k ih =>
    simp only [zeros, List.replicate_succ, List.flatten_cons, List.flatMap_cons, List.map_append] at ih ⊢
    rw [ih]
def mk? {α : Type} (z : α) (l c : Int) : Option (List α) := if 0 ≤ l ∧ l ≤ c ∧ c ≤ 1000000 then some (List.replicate l.toNat z) else none
theorem op_mk {bytes : Nat} {zs : List D} {x y : Opd} {k c : Int} {z : α} {l : List α} (hx : lx al x = some (I k)) (hy : lx al y = some (I c)) (hz : zs = (f z).map .c) (hm : mk? z k c = some l) (hby : Nat.ble bytes 1000 = true)
    (hd : OS esz σ.length l.length = d1) (hs : σ ++ [OB f l] = σ1) : OpR P orc n al σ (.mk esz bytes zs x y) d1 σ1 [] := fun e he => by
  subst hd hs hz
  unfold mk? at hm
  split at hm
  · rename_i hc
    simp only [Option.some.injEq] at hm
    subst hm
    have hby' : bytes ≤ 1000 := Nat.le_of_ble_eq_true hby
    have hroom : roomOk c.toNat bytes = true := by
      have h1 : c.toNat ≤ 1000000 := by omega
      have : c.toNat * bytes ≤ 1000000 * 1000 := Nat.mul_le_mul h1 hby'
      simp only [roomOk, Bool.and_eq_true, decide_eq_true_eq]
      omega
    simp only [zbY, zcu he hx, zcu he hy, ze3, Option.bind_eq_bind, Option.bind_some]
    rw [if_pos ⟨hc.1, hc.2.1, hroom⟩, zeros_map]
    simp [OS]
  · simp at hm
def slice? {α : Type} (l : List α) (lo hi : Int) : Option (List α) := if 0 ≤ lo ∧ lo ≤ hi ∧ hi ≤ l.length then some ((l.take hi.toNat).drop lo.toNat) else none
theorem op_slc {x : Opd} {lo hi : Option Opd} {nn : Bool} {l r : List α} {i j : Int} (hf : ∀ a, (f a).length = esz) (h : lx al x = some (.c (.frz nn (l.map f)))) (hlo : (match lo with | none => some (I 0) | some o => lx al o) = some (I i))
    (hhi : (match hi with | none => some (I l.length) | some o => lx al o) = some (I j)) (hr : slice? l i j = some r) : OpR P orc n al σ (.slc esz x lo hi) (.c (.frz nn (r.map f))) σ [] := fun e he => by
  unfold slice? at hr
  split at hr
  · rename_i hc
    simp only [Option.some.injEq] at hr
    subst hr
    have hh : zcJ e (l.map f).length (l.map f).length hi = some j.toNat := by
      cases hi with
      | none => simp only [Option.some.injEq, I, D.c.injEq, C.lit.injEq, Value.int.injEq, true_and] at hhi; subst hhi; simp [zcJ]
      | some o =>
        simp only at hhi
        simp only [zcJ, zcu he hhi, ze3, Option.bind_some, inB]
        rw [if_pos (by simp; omega)]
    have hl : zcJ e 0 j.toNat lo = some i.toNat := by
      cases lo with
      | none => simp only [Option.some.injEq, I, D.c.injEq, C.lit.injEq, Value.int.injEq, true_and] at hlo; subst hlo; simp [zcJ]
      | some o =>
        simp only at hlo
        simp only [zcJ, zcu he hlo, ze3, Option.bind_some, inB]
        rw [if_pos (by omega)]
    simp only [zbY, zcu he h, hh, hl, Option.bind_eq_bind, Option.bind_some]
    rw [if_pos (by simp [hf])]
    simp [List.map_take, List.map_drop]
  · simp at hr
end
end Go.Abs
namespace Go.Abs
variable [Gl]
theorem set_set' {α : Type} {l : List α} {i : Nat} {a b : α} : (l.set i a).set i b = l.set i b := List.set_set ..
theorem get_set {α : Type} {l : List α} {i : Nat} {a a' : α} (h : l[i]? = some a) : (l.set i a')[i]? = some a' := by
  rw [List.getElem?_set_self (List.getElem?_eq_some_iff.1 h).1]
end Go.Abs
namespace Go.Abs
variable [Gl]
theorem lows_c {m : Nat} : ∀ (l : List C), D.low.lows m (l.map D.c) = true := by
  intro l
  induction l with
  | nil => rfl
  | cons x l ih => simp only [List.map_cons, D.low.lows, D.low, ih, Bool.and_self]
theorem zeP {α : Type} {f : α → List C} {l : List α} {m : Nat} : (OB f l).low m = true := lows_c _
theorem zeN {m : Nat} {ob : Ob} {σ : Heap} (h1 : ob.low m = true) (h2 : σ.all (Ob.low m) = true) : (ob :: σ).all (Ob.low m) = true := by
  rw [List.all_cons, h1, h2]; rfl
end Go.Abs
