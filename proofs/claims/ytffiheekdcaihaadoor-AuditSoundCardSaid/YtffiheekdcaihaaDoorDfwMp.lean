/- Maps, closures, rows that are written out, freezing on the way. -/
import Derived.Test.YtffiheekdcaihaaDoorDfwTq
set_option linter.all false
namespace Go.Abs
variable [Gl]
def mget {α : Type} : List (Int × α) → Int → Option α
  | [], _ => none
  | (k', a) :: l, k => if k' = k then some a else mget l k
def mset {α : Type} : List (Int × α) → Int → α → List (Int × α)
  | [], k, a => [(k, a)]
  | (k', a') :: l, k, a => if k' = k then (k', a) :: l else (k', a') :: mset l k a
def mix0 {α : Type} : List (Int × α) → Int → Nat
  | [], _ => 0
  | (k', _) :: l, k => if k' = k then 0 else mix0 l k + 1
def mbE {α : Type} (g : α → D) : Nat → List (Int × α) → List (Value × D × Nat)
  | _, [] => []
  | i, (k, a) :: l => (.int .i64 k, g a, i) :: mbE g (i + 1) l
abbrev MB {α : Type} (g : α → D) (l : List (Int × α)) : Ob := .map (mbE g 0 l) l.length
def encM {α : Type} (g : α → C) (l : List (Int × α)) : List (Value × C) := l.map fun p => (.int .i64 p.1, g p.2)
abbrev FM {α : Type} (g : α → C) (l : List (Int × α)) : D := .c (.fmp (encM g l))
def oel {α β : Type} (o : Option α) (n : β) (s : α → β) : β := match o with | none => n | some a => s a
section
variable {α : Type}
theorem encM_inj {g : α → C} (hg : ∀ {a b : α}, g a = g b → a = b) {l m : List (Int × α)} (h : encM g l = encM g m) : l = m := by
  induction l generalizing m with
  | nil => cases m with
    | nil => rfl
    | cons b m => simp [encM] at h
  | cons a l ih => cases m with
    | nil => simp [encM] at h
    | cons b m =>
      obtain ⟨a1, a2⟩ := a
      obtain ⟨b1, b2⟩ := b
      simp only [encM, List.map_cons, List.cons.injEq, Prod.mk.injEq, Value.int.injEq, true_and] at h
      obtain ⟨⟨rfl, h2⟩, h3⟩ := h
      rw [hg h2, ih h3]
theorem findK_mb {ik : IntKind} {g : α → D} {k : Int} : ∀ (l : List (Int × α)) (i j : Nat), findK (.int ik) (.int .i64 k) (mbE g i l) j = some ((mget l k).map fun a => (j + mix0 l k, g a)) := by
  intro l
  induction l with
  | nil => intro i j; rfl
  | cons x l ih =>
    intro i j
    obtain ⟨k', a⟩ := x
    simp only [mbE, findK, Instr.sameNow, if_true]
    by_cases h : k' = k
    · subst h; simp [mget, mix0]
    · have hb : (k == k') = false := by simp [Ne.symm h]
      simp only [hb, ih, mget, mix0, if_neg h]
      congr 2
      funext a
      rw [Nat.add_assoc, Nat.add_comm 1]
theorem findK_fm {ik : IntKind} {g : α → C} {k : Int} : ∀ (l : List (Int × α)) (j : Nat), findK (.int ik) (.int .i64 k) ((encM g l).map fun p => (p.1, D.c p.2, 0)) j = some ((mget l k).map fun a => (j + mix0 l k, D.c (g a))) := by
  intro l
  induction l with
  | nil => intro j; rfl
  | cons x l ih =>
    intro j
    obtain ⟨k', a⟩ := x
    have e : ((encM g ((k', a) :: l)).map fun p => (p.1, D.c p.2, 0)) = (Value.int .i64 k', D.c (g a), 0) :: ((encM g l).map fun p => (p.1, D.c p.2, 0)) := rfl
    rw [e]
    simp only [findK, Instr.sameNow, if_true]
    by_cases h : k' = k
    · subst h; simp [mget, mix0]
    · have hb : (k == k') = false := by simp [Ne.symm h]
      simp only [hb, ih, mget, mix0, if_neg h]
      congr 2
      funext a
      rw [Nat.add_assoc, Nat.add_comm 1]
theorem mset_some {g : α → D} {k : Int} {a : α} : ∀ (l : List (Int × α)) (i : Nat) (a' : α), mget l k = some a' → (mbE g i l).modify (mix0 l k) (fun p => (p.1, g a, p.2.2)) = mbE g i (mset l k a) ∧ (mset l k a).length = l.length := by
  intro l
  induction l with
  | nil => intro i a' h; simp [mget] at h
  | cons x l ih =>
    intro i a' h
    obtain ⟨k', a0⟩ := x
    by_cases hk : k' = k
    · simp [mix0, mset, hk, mbE]
    · simp only [mget, if_neg hk] at h
      obtain ⟨h1, h2⟩ := ih (i + 1) a' h
      simp [mix0, mset, hk, mbE, h1, h2]
theorem mset_none {g : α → D} {k : Int} {a : α} : ∀ (l : List (Int × α)) (i : Nat), mget l k = none → mbE g i l ++ [(.int .i64 k, g a, i + l.length)] = mbE g i (mset l k a) ∧ (mset l k a).length = l.length + 1 := by
  intro l
  induction l with
  | nil => intro i h; simp [mset, mbE]
  | cons x l ih =>
    intro i h
    obtain ⟨k', a0⟩ := x
    by_cases hk : k' = k
    · simp [mget, hk] at h
    · simp only [mget, if_neg hk] at h
      obtain ⟨h1, h2⟩ := ih (i + 1) h
      refine ⟨?_, by simp [mset, hk, h2]⟩
      simp only [mset, if_neg hk, mbE, List.cons_append, List.length_cons]
      rw [← h1, show i + (l.length + 1) = i + 1 + l.length from by omega]
end
section
variable {P : Program} {orc : Orc} {n : Nat} {al : AL} {σ σ1 : Heap} {d d1 d2 : D} {α : Type}
theorem op_mkmap {g : α → D} (hd : D.mp σ.length = d) (hs : σ ++ [MB g ([] : List (Int × α))] = σ1) : OpR P orc n al σ .mkmap d σ1 [] := fun e he => by
  subst hd hs; rfl
theorem op_look {ik : IntKind} {zero : D} {m k : Opd} {b : Nat} {g : α → D} {l : List (Int × α)} {x : Int} {ok : Bool} {a : α} (hm : lx al m = some (.mp b)) (hb : σ[b]? = some (MB g l)) (hk : lx al k = some (I x)) (hq : mget l x = some a) (hd : (if ok then .tup [g a, B true] else g a) = d) :
    OpR P orc n al σ (.lookup (.int ik) zero m k ok) d σ [] := fun e he => by
  subst hd
  simp only [zbY, zcu he hm, zcu he hk, litOf, mapEs, hb, Option.bind_eq_bind, Option.bind_some, findK_mb, hq, Option.map_some, hit]
theorem op_lookN {ik : IntKind} {zero : D} {m k : Opd} {b : Nat} {g : α → D} {l : List (Int × α)} {x : Int} {ok : Bool} (hm : lx al m = some (.mp b)) (hb : σ[b]? = some (MB g l)) (hk : lx al k = some (I x)) (hq : mget l x = none) (hd : (if ok then .tup [zero, B false] else zero) = d) :
    OpR P orc n al σ (.lookup (.int ik) zero m k ok) d σ [] := fun e he => by
  subst hd
  simp only [zbY, zcu he hm, zcu he hk, litOf, mapEs, hb, Option.bind_eq_bind, Option.bind_some, findK_mb, hq, Option.map_none, hit]
theorem op_lookF {ik : IntKind} {zero : D} {m k : Opd} {g : α → C} {l : List (Int × α)} {x : Int} {ok : Bool} {a : α} (hm : lx al m = some (FM g l)) (hk : lx al k = some (I x)) (hq : mget l x = some a) (hd : (if ok then .tup [.c (g a), B true] else .c (g a)) = d) :
    OpR P orc n al σ (.lookup (.int ik) zero m k ok) d σ [] := fun e he => by
  subst hd
  simp only [zbY, zcu he hm, zcu he hk, litOf, mapEs, Option.bind_eq_bind, Option.bind_some, findK_fm, hq, Option.map_some, hit]
theorem op_lookFN {ik : IntKind} {zero : D} {m k : Opd} {g : α → C} {l : List (Int × α)} {x : Int} {ok : Bool} (hm : lx al m = some (FM g l)) (hk : lx al k = some (I x)) (hq : mget l x = none) (hd : (if ok then .tup [zero, B false] else zero) = d) :
    OpR P orc n al σ (.lookup (.int ik) zero m k ok) d σ [] := fun e he => by
  subst hd
  simp only [zbY, zcu he hm, zcu he hk, litOf, mapEs, Option.bind_eq_bind, Option.bind_some, findK_fm, hq, Option.map_none, hit]
theorem op_upd {ik : IntKind} {m k x : Opd} {b : Nat} {g : α → D} {l : List (Int × α)} {i : Int} {a : α} (hm : lx al m = some (.mp b)) (hb : σ[b]? = some (MB g l)) (hk : lx al k = some (I i)) (hx : lx al x = some (g a)) (hs : σ.set b (MB g (mset l i a)) = σ1) :
    OpR P orc n al σ (.upd (.int ik) m k x) (.tup []) σ1 [b] := fun e he => by
  subst hs
  simp only [zbY, zcu he hm, zcu he hk, litOf, hb, Option.bind_eq_bind, Option.bind_some, findK_mb, zcu he hx]
  cases hq : mget l i with
  | some a' =>
    obtain ⟨h1, h2⟩ := mset_some (g := g) (a := a) l 0 a' hq
    simp only [Option.map_some, Nat.zero_add, MB, h2]
    rw [← h1]
  | none =>
    obtain ⟨h1, h2⟩ := mset_none (g := g) (a := a) l 0 hq
    simp only [Option.map_none, MB, h2]
    rw [← h1, Nat.zero_add]
theorem op_updP {ik : IntKind} {m k x : Opd} {b : Nat} {g : α → D} {l : List (Int × α)} {i : Int} (hm : lx al m = some (.mp b)) (hb : σ[b]? = some (MB g l)) (hk : lx al k = some (I i)) (hx : lx al x = some d) (hq : mget l i = none) (hs : σ.set b (.map (mbE g 0 l ++ [(.int .i64 i, d, l.length)]) (l.length + 1)) = σ1) :
    OpR P orc n al σ (.upd (.int ik) m k x) (.tup []) σ1 [b] := fun e he => by
  subst hs
  simp only [zbY, zcu he hm, zcu he hk, litOf, hb, Option.bind_eq_bind, Option.bind_some, findK_mb, zcu he hx, hq, Option.map_none]
theorem zdz {f : Fn} {first cap : List Opd} {a b : List D} (h1 : lxs al first = some a) (h2 : lxs al cap = some b) : OpR P orc n al σ (.mkfn f first cap) (.fn f a b) σ [] := fun e he => by
  simp [zbY, ev_lxs he h1, ev_lxs he h2]
theorem op_callf {g : FuncId} {f : Opd} {args : List Opd} {ds a b : List D} {w : List Nat} (hf : lx al f = some (.fn (.func g) a b)) (ha : lxs al args = some ds) (ho : orc g (a ++ ds ++ b) σ = some (d, σ1, w)) : OpR P orc n al σ (.call f args) d σ1 w := fun e he => by
  simp only [zbY, zcu he hf, ev_lxs he ha, ho]
theorem zez {g : FuncId} {f : Opd} {args : List Opd} {ds : List D} {a b : List C} {w : List Nat} (hf : lx al f = some (.c (.fn (.func g) a b))) (ha : lxs al args = some ds) (ho : orc g (a.map .c ++ ds ++ b.map .c) σ = some (d, σ1, w)) : OpR P orc n al σ (.call f args) d σ1 w := fun e he => by
  simp only [zbY, zcu he hf, ev_lxs he ha, ho]
theorem zfr {esz j : Nat} {x i : Opd} {nn : Bool} {es : List (List C)} {c : List C} {k : Int} (h : lx al x = some (.c (.frz nn es))) (hi : lx al i = some (I k)) (hk : inR k es.length = some j) (he : es[j]? = some c) (hl : c.length = esz) :
    OpR P orc n al σ (.idx esz none x i) (.c (.fptr c 0)) σ [] := fun e he' => by
  simp only [zbY, zcu he' h, zcu he' hi, ze3, Option.bind_eq_bind, Option.bind_some, hk, he, hl, if_true]
theorem op_idxS {esz j b off len sz : Nat} {x i : Opd} {k : Int} {cs : List D} (h : lx al x = some (.sl b off len esz sz)) (hi : lx al i = some (I k)) (hr : zeO σ b sz = some cs) (hk : inR k len = some j) (hd : D.ptr b (off + j * esz) sz = d) :
    OpR P orc n al σ (.idx esz none x i) d σ [] := fun e he' => by
  subst hd
  simp only [zbY, zcu he' h, zcu he' hi, ze3, Option.bind_eq_bind, Option.bind_some, hr, hk, if_true]
theorem op_lenS {b off len esz sz : Nat} {x : Opd} {cs : List D} (h : lx al x = some (.sl b off len esz sz)) (hr : zeO σ b sz = some cs) (hd : I len = d) : OpR P orc n al σ (.len x) d σ [] := fun e he => by
  subst hd
  simp [zbY, zcu he h, zey, hr]
theorem op_lenL {x : Opd} {nn : Bool} {es : List (List C)} (h : lx al x = some (.c (.frz nn es))) (hd : I es.length = d) : OpR P orc n al σ (.len x) d σ [] := fun e he => by
  subst hd
  simp [zbY, zcu he h, zey]
theorem zbo {x : Opd} {cs : List C} {off : Nat} (h : lx al x = some (.c (.fptr cs off))) : OpR P orc n al σ (.nilck x) (.c (.fptr cs off)) σ [] := fun e he => by simp [zbY, zcu he h]
theorem op_nilckc {x : Opd} {f : FuncId} {a b : List C} (h : lx al x = some (.c (.fn (.func f) a b))) : OpR P orc n al σ (.nilck x) (.c (.fn (.func f) a b)) σ [] := fun e he => by simp [zbY, zcu he h]
theorem op_nilckn {x : Opd} {f : FuncId} {a b : List D} (h : lx al x = some (.fn (.func f) a b)) : OpR P orc n al σ (.nilck x) (.fn (.func f) a b) σ [] := fun e he => by simp [zbY, zcu he h]
end
section
variable {P : Program} {orc : Orc} {n : Nat} {al : AL} {σ σ1 : Heap} {d d1 d2 : D} {α : Type} {f : α → List C} {esz : Nat}
theorem op_appendN {bytes : Nat} {s x : Opd} {m : List α} (h : lx al s = some (.c (.lit (.slice none 0 0)))) (hx : lx al x = some d) (hm : Src σ f esz d m) (hz : Nat.blt 0 m.length = true) (hl : Nat.ble m.length 1000000 = true)
    (hby : Nat.ble bytes 1000 = true) (hd : OS esz σ.length m.length = d1) (hs : σ ++ [OB f m] = σ1) : OpR P orc n al σ (.append esz bytes s x) d1 σ1 [] := by
  subst hd hs
  have hby' : bytes ≤ 1000 := Nat.le_of_ble_eq_true hby
  have hlen : m.length ≤ 1000000 := Nat.le_of_ble_eq_true hl
  have hz' : m.length ≠ 0 := by have := Nat.blt_eq.mp hz; omega
  have hroom : roomOk m.length bytes = true := by
    have : m.length * bytes ≤ 1000000 * 1000 := Nat.mul_le_mul hlen hby'
    simp only [roomOk, Bool.and_eq_true, decide_eq_true_eq]
    omega
  intro e he
  have : zbY P orc (.append esz bytes s x) e σ = (zey σ d).bind fun k => (ze6 σ esz k d).bind fun new => if roomOk k bytes then (if k = 0 then some (.c (.lit (.slice none 0 0)), σ, []) else some (.sl σ.length 0 k esz (k * esz), σ ++ [.cells new], [])) else none := by
    simp only [zbY, zcu he h, zcu he hx]
    rfl
  rw [this, hm.1, Option.bind_some, hm.2, Option.bind_some, if_pos hroom, if_neg hz']
theorem frzC_mp {g : α → C} {b k : Nat} {l : List (Int × α)} (hb : σ[b]? = some (MB (fun a => .c (g a)) l)) : frzC σ 0 (k + 2) (.mp b) = some (.fmp (encM g l)) := by
  have : frzC σ 0 (k + 2) (.mp b) = (if 0 ≤ b then
      match σ[b]? with
      | some (.map es _) => (es.mapM fun e => (frzC σ 0 (k + 1) e.2.1).map fun x => (e.1, x)).map .fmp
      | _ => none
    else none) := rfl
  rw [this, if_pos (Nat.zero_le _), hb]
  have key : ∀ (l : List (Int × α)) (i : Nat), ((mbE (fun a => D.c (g a)) i l).mapM fun e => (frzC σ 0 (k + 1) e.2.1).map fun x => (e.1, x)) = some (encM g l) := by
    intro l
    induction l with
    | nil => intro i; rfl
    | cons x l ih =>
      intro i
      obtain ⟨y, a⟩ := x
      simp only [mbE, List.mapM_cons, ih]
      rfl
  dsimp only [MB]
  rw [key]
  rfl
theorem frzC_ptr {b off sz k : Nat} {cs : List D} {l : List C} (hr : zeO σ b sz = some cs) (hm : cs.mapM (frzC σ 0 k) = some l) : frzC σ 0 (k + 1) (.ptr b off sz) = some (.fptr l off) := by
  have : frzC σ 0 (k + 1) (.ptr b off sz) = (if 0 ≤ b then
      match zeO σ b sz with
      | some cs => (cs.mapM (frzC σ 0 k)).map fun l => .fptr l off
      | none => none
    else none) := rfl
  rw [this, if_pos (Nat.zero_le _), hr]
  dsimp only
  rw [hm]
  rfl
theorem frz1xptr {b off sz : Nat} {cs : List D} {l : List C} (hr : zeO σ b sz = some cs) (hm : cs.mapM (frzC σ 0 99) = some l) : frzD1 σ 0 100 (.ptr b off sz) = some (.c (.fptr l off)) := by
  show (frzC σ 0 100 (.ptr b off sz)).map D.c = _
  rw [frzC_ptr (k := 99) hr hm]
  rfl
theorem frz_ptr {b off sz : Nat} {cs : List D} {l : List C} (hr : zeO σ b sz = some cs) (hm : cs.mapM (frzC σ 0 99) = some l) : frzD σ 0 100 (.ptr b off sz) = some (.c (.fptr l off)) := frz1xptr hr hm
end
abbrev OP {α : Type} (f : α → List C) : Option α → D
  | none => .c (.lit (.pointer none))
  | some a => .c (.fptr (f a) 0)
def encP {α : Type} (f : α → List C) (a : α) : List C := [.fptr (f a) 0]
theorem encP_inj {α : Type} {f : α → List C} (hf : ∀ {a b : α}, f a = f b → a = b) {a b : α} (h : encP f a = encP f b) : a = b := by
  simp only [encP, List.cons.injEq, C.fptr.injEq, and_true] at h
  exact hf h
theorem zfi {α : Type} {f : α → List C} (hf : ∀ {a b : α}, f a = f b → a = b) {a b : α} (h : D.c (.fptr (f a) 0) = D.c (.fptr (f b) 0)) : a = b := by
  simp only [D.c.injEq, C.fptr.injEq, and_true] at h
  exact hf h
theorem FM_inj {α : Type} {g : α → C} (hg : ∀ {a b : α}, g a = g b → a = b) {l m : List (Int × α)} (h : FM g l = FM g m) : l = m := by
  simp only [FM, D.c.injEq, C.fmp.injEq] at h
  exact encM_inj hg h
theorem cI_inj {a b : Int} (h : C.lit (.int .i64 a) = C.lit (.int .i64 b)) : a = b := by simpa using h
theorem cL_inj {α : Type} {f : α → List C} (hf : ∀ {a b : α}, f a = f b → a = b) {l m : List α} (h : C.frz false (l.map f) = C.frz false (m.map f)) : l = m := by
  simp only [C.frz.injEq, true_and] at h
  exact zcF hf h
theorem lowMB {α : Type} {g : α → C} {l : List (Int × α)} {m : Nat} : (MB (fun a => .c (g a)) l).low m = true := by
  have key : ∀ (l : List (Int × α)) (i : Nat), ((mbE (fun a => D.c (g a)) i l).all fun e => e.2.1.low m) = true := by
    intro l
    induction l with
    | nil => intro i; rfl
    | cons x l ih => intro i; obtain ⟨y, a⟩ := x; simp only [mbE, List.all_cons, ih, D.low, Bool.and_self]
  exact key l 0
theorem wrE {α : Type} {f : α → List C} {esz b k : Nat} {σ σ1 : Heap} {l l' : List α} {al : AL} {ao : AOp} (hf : ∀ a, (f a).length = esz) (hb : σ[b]? = some (OB f l)) (hb' : σ1[b]? = some (OB f l')) (hl : l'.length = l.length) (hok : okA al ao = true) : (okA al ao && (k == 0 || wrOk σ σ1 [b])) = true := by
  simp [wrOk, hb, hb', Ob.sz, flat_len hf, hl, hok]
def nrmX : Nat → C → C
  | n + 1, .frz _ es => .frz false (es.map fun e => e.map (nrmX n))
  | _ + 1, .lit (.slice none 0 0) => .frz false []
  | _, x => x
theorem nrmX_ok {Fz : Nat → Prop} {w : World} : ∀ (n : Nat) {x : C} {v : Value}, VC Fz w x v → VC Fz w (nrmX n x) v := by
  intro n
  induction n with
  | zero => intro x v h; exact h
  | succ n ih =>
    intro x v h
    by_cases hx : x = .lit (.slice none 0 0)
    · subst hx
      cases h
      exact .frz (es := []) 0 none 0 (by simp) (fun _ => rfl) (fun _ _ => undef) (by simp) (by simp) (by simp) (by simp)
    cases h with
    | @frz nn es esz a cap hnn hz c hsz hcap hc hv =>
      have h := VC.frz (Fz := Fz) (w := w) (nn := false) (es := es.map fun e => e.map (nrmX n)) esz a cap (by simp) hz c (fun e he => ?_) (by simpa using hcap) (fun i j e d h1 h2 => ?_) (fun i j e d h1 h2 => ?_)
      · rw [List.length_map] at h; exact h
      · rw [List.mem_map] at he; obtain ⟨e0, h0, rfl⟩ := he; rw [List.length_map]; exact hsz e0 h0
      · simp only [List.getElem?_map, Option.map_eq_some_iff] at h1
        obtain ⟨e0, h0, rfl⟩ := h1
        simp only [List.getElem?_map, Option.map_eq_some_iff] at h2
        obtain ⟨d0, h3, rfl⟩ := h2
        exact hc i j e0 d0 h0 h3
      · simp only [List.getElem?_map, Option.map_eq_some_iff] at h1
        obtain ⟨e0, h0, rfl⟩ := h1
        simp only [List.getElem?_map, Option.map_eq_some_iff] at h2
        obtain ⟨d0, h3, rfl⟩ := h2
        exact ih (hv i j e0 d0 h0 h3)
    | lit v =>
      have : nrmX (n + 1) (.lit v) = .lit v := by
        unfold nrmX
        split
        · rename_i heq; simp at heq
        · rename_i heq; exact absurd heq hx
        · rfl
      rw [this]
      exact .lit v
    | fptr blk o c hF hc hv => exact .fptr blk o c hF hc hv
    | fn vs ws h1 h2 hv hw => exact .fn vs ws h1 h2 hv hw
    | fmp blk clock arr hF hh hs hk hv => exact .fmp blk clock arr hF hh hs hk hv
def nrmY : D → D
  | .c x => .c (nrmX 5 x)
  | .agg ds => .agg (ds.map fun d => match d with | .c x => .c (nrmX 5 x) | d => d)
  | d => d
theorem DLe.of_nrmY {d d' : D} (h : nrmY d = d') : DLe d d' := by
  subst h
  intro σ M Fz w v h
  unfold nrmY
  split
  · cases h with | c h => exact .c (nrmX_ok 5 h)
  · cases h with
    | agg vs h1 hv =>
      refine .agg vs (by simpa using h1) (fun i d v a b => ?_)
      simp only [List.getElem?_map, Option.map_eq_some_iff] at a
      obtain ⟨d0, h0, rfl⟩ := a
      have := hv i d0 v h0 b
      split
      · cases this with | c h => exact .c (nrmX_ok 5 h)
      · exact this
  · exact h
def ObFz (S F : D) : Ob → Ob → Prop
  | .map es c, .map es' c' => c = c' ∧ es'.length = es.length ∧ ∀ (i : Nat) k d' n, es'[i]? = some (k, d', n) → ∃ d, es[i]? = some (k, d, n) ∧ (d' = d ∨ d = S ∧ d' = F)
  | .cells cs, .cells cs' => cs'.length = cs.length ∧ ∀ (i : Nat) d', cs'[i]? = some d' → ∃ d, cs[i]? = some d ∧ (d' = d ∨ d = S ∧ d' = F)
  | _, _ => False
theorem ObFz.sz {S F : D} {ob ob' : Ob} (h : ObFz S F ob ob') : ob'.sz = ob.sz := by
  cases ob <;> cases ob' <;> simp only [ObFz] at h
  · exact h.1
  · rfl
def FzL (S F : D) : List D → List D → Prop
  | [], [] => True
  | d :: cs, d' :: cs' => (d' = d ∨ d = S ∧ d' = F) ∧ FzL S F cs cs'
  | _, _ => False
theorem obFz_cells {S F : D} : ∀ {cs cs' : List D}, FzL S F cs cs' → ObFz S F (.cells cs) (.cells cs') := by
  intro cs
  induction cs with
  | nil => intro cs' h; cases cs' with
    | nil => exact ⟨rfl, fun i d' h => by simp at h⟩
    | cons d' cs' => exact h.elim
  | cons d cs ih => intro cs' h; cases cs' with
    | nil => exact h.elim
    | cons d' cs' =>
      obtain ⟨h1, h2⟩ := h
      obtain ⟨k1, k2⟩ := ih h2
      refine ⟨by simp [k1], fun i x hi => ?_⟩
      cases i with
      | zero => simp only [List.getElem?_cons_zero, Option.some.injEq] at hi; subst hi; exact ⟨d, rfl, h1⟩
      | succ i => simpa using k2 i x (by simpa using hi)
theorem obFz_push {α : Type} {g : α → D} {S F : D} {l : List (Int × α)} {k : Int} {a : α} (hq : mget l k = none) (ha : F = g a) : ObFz S F (.map (mbE g 0 l ++ [(.int .i64 k, S, l.length)]) (l.length + 1)) (MB g (mset l k a)) := by
  obtain ⟨h1, h2⟩ := mset_none (g := g) (a := a) l 0 hq
  rw [Nat.zero_add] at h1
  refine ⟨h2.symm, by rw [← h1]; simp, fun i k' d' n hi => ?_⟩
  rw [← h1] at hi
  by_cases hl : i < (mbE g 0 l).length
  · rw [List.getElem?_append_left hl] at hi
    exact ⟨d', by rw [List.getElem?_append_left hl]; exact hi, .inl rfl⟩
  · rw [List.getElem?_append_right (by omega)] at hi
    cases hm : i - (mbE g 0 l).length with
    | zero =>
      rw [hm] at hi
      simp only [List.getElem?_cons_zero, Option.some.injEq, Prod.mk.injEq] at hi
      obtain ⟨rfl, rfl, rfl⟩ := hi
      exact ⟨S, by rw [List.getElem?_append_right (by omega), hm]; rfl, .inr ⟨rfl, ha.symm⟩⟩
    | succ m => rw [hm] at hi; simp at hi
section
variable {P : Program} {σ σ0 σ1 : Heap} {n : Nat} {al : AL} {ac : ACode} {Q : AExit → AL → Heap → Prop} {α : Type} {f : α → List C} {esz : Nat}
theorem Sem.freeze {l : List α} {F : D} (hf : ∀ a, (f a).length = esz) (he : 0 < esz) (j : Nat) (ob ob' : Ob) (σ0 : Heap) (hσ : σ = σ0 ++ [OB f l]) (hj : σ0[j]? = some ob) (hF : DLe (.c (.frz (Nat.blt 0 l.length) (l.map f))) F) (ho : ObFz (OS esz σ0.length l.length) F ob ob')
    (hs : σ0.set j ob' ++ [.gone (l.length * esz + 1)] = σ1) (h : Sem P ac n al σ1 Q) : Sem P ac n al σ Q := by
  subst hσ hs
  intro c hc M Fz w a K R A hK
  have hlast : (σ0 ++ [OB f l])[σ0.length]? = some (OB f l) := by simp
  have hjl : j < σ0.length := (List.getElem?_eq_some_iff.1 hj).1
  have hsz : (OB f l).sz = l.length * esz := by simp [Ob.sz, flat_len hf]
  have hM : ∀ b c, M b = some c → b < σ0.length + 1 := fun b c hb => by
    obtain ⟨_, ob, o, h2, _⟩ := R.blk b c hb
    have := (List.getElem?_eq_some_iff.1 h2).1
    simpa using this
  have Fmono : ∀ c : Nat, Fz c → frzF M Fz σ0.length c ∧ w.heap[c]? = w.heap[c]? := fun c hc => ⟨.inl hc, rfl⟩
  have new : ∀ b, b < σ0.length → ∀ ob0, (σ0 ++ [OB f l])[b]? = some ob0 → ∃ ob1, (σ0.set j ob' ++ [.gone (l.length * esz + 1)])[b]? = some ob1 ∧ ob1.sz = ob0.sz ∧ (ob1 = ob0 ∨ ob0 = ob ∧ ob1 = ob') := by
    intro b hb ob0 h0
    rw [List.getElem?_append_left hb] at h0
    rw [List.getElem?_append_left (by simpa using hb), List.getElem?_set]
    by_cases hjb : j = b
    · subst hjb
      rw [h0] at hj
      simp only [Option.some.injEq] at hj
      subst hj
      exact ⟨ob', by simp [hb], ho.sz, .inr ⟨rfl, rfl⟩⟩
    · exact ⟨ob0, by simp [hjb, h0], rfl, .inl rfl⟩
  have gone : (σ0.set j ob' ++ [Ob.gone (l.length * esz + 1)])[σ0.length]? = some (.gone (l.length * esz + 1)) := by
    rw [List.getElem?_append_right (by simp)]; simp
  have conv : ∀ {d : D} {v : Value}, V (σ0 ++ [OB f l]) M Fz w d v → V (σ0.set j ob' ++ [.gone (l.length * esz + 1)]) (cutM M σ0.length) (frzF M Fz σ0.length) w d v := by
    intro d v hv
    induction hv with
    | c h => exact .c (h.mono Fmono)
    | any v => exact .any v
    | @ptr b off sz a ob0 h0 hle hv =>
      have hbl : b < σ0.length + 1 := by have := (List.getElem?_eq_some_iff.1 h0).1; simpa using this
      by_cases hb : b < σ0.length
      · obtain ⟨ob1, h1, h2, _⟩ := new b hb ob0 h0
        exact .ptr a ob1 h1 (by omega) (fun he => by simpa [cutM, hb] using hv (by omega))
      · have : b = σ0.length := by omega
        subst this
        rw [hlast] at h0
        simp only [Option.some.injEq] at h0
        subst h0
        exact .ptr a _ gone (by simp only [Ob.sz] at hle ⊢; simp only [List.length_map, flat_len hf] at hle; omega) (fun he => by exfalso; rw [hsz] at hle; simp only [Ob.sz] at he; omega)
    | @sl b off len es sz a m cap hnn ob0 h0 hle hv =>
      have hbl : b < σ0.length + 1 := by have := (List.getElem?_eq_some_iff.1 h0).1; simpa using this
      by_cases hb : b < σ0.length
      · obtain ⟨ob1, h1, h2, _⟩ := new b hb ob0 h0
        exact .sl a m cap hnn ob1 h1 (by omega) (fun he => by simpa [cutM, hb] using hv (by omega))
      · have : b = σ0.length := by omega
        subst this
        rw [hlast] at h0
        simp only [Option.some.injEq] at h0
        subst h0
        exact .sl a m cap hnn _ gone (by rw [hsz] at hle; simp only [Ob.sz]; omega) (fun he => by exfalso; rw [hsz] at hle; simp only [Ob.sz] at he; omega)
    | @mp b c0 ob0 h0 hv =>
      have hbl : b < σ0.length + 1 := by have := (List.getElem?_eq_some_iff.1 h0).1; simpa using this
      by_cases hb : b < σ0.length
      · obtain ⟨ob1, h1, h2, _⟩ := new b hb ob0 h0
        exact .mp c0 ob1 h1 (fun he => by simpa [cutM, hb] using hv (by omega))
      · have : b = σ0.length := by omega
        subst this
        exact .mp c0 _ gone (fun he => by simp [Ob.sz] at he)
    | fn vs ws h1 h2 hv hw ih1 ih2 => exact .fn vs ws h1 h2 ih1 ih2
    | agg vs h1 hv ih => exact .agg vs h1 ih
    | tup vs h1 hv ih => exact .tup vs h1 ih
  have convF : ∀ {v : Value}, V (σ0 ++ [OB f l]) M Fz w (OS esz σ0.length l.length) v → V (σ0.set j ob' ++ [.gone (l.length * esz + 1)]) (cutM M σ0.length) (frzF M Fz σ0.length) w F v := by
    intro v hv
    refine hF _ _ _ _ _ (.c (frzC_ok R 100 _ _ v ?_ hv))
    have : frzC (σ0 ++ [OB f l]) σ0.length 100 (OS esz σ0.length l.length) = (if σ0.length ≤ σ0.length ∧ 0 < esz ∧ 0 + l.length * esz ≤ l.length * esz then
        match zeO (σ0 ++ [OB f l]) σ0.length (l.length * esz) with
        | some cs => (((cs.drop 0).take (l.length * esz)).mapM (frzC (σ0 ++ [OB f l]) σ0.length 99)).map fun r => C.frz (Nat.blt 0 l.length) (chunks esz l.length r)
        | none => none
      else none) := rfl
    rw [this, if_pos ⟨Nat.le_refl _, he, by omega⟩, row_own hf hlast]
    simp only [List.drop_zero]
    rw [List.take_of_length_le (by simp [flat_len hf]), mapM_frzC]
    simp [chunks_map hf]
  have R1 : Rel (σ0.set j ob' ++ [.gone (l.length * esz + 1)]) (cutM M σ0.length) (frzF M Fz σ0.length) w := by
    refine ⟨fun b c hb => ?_, fun b b' c hb hb' => ?_, fun c hc => ?_, Gl.mono (fun c h => ⟨.inl h, rfl⟩) R.gl⟩
    · unfold cutM at hb
      split at hb
      · rename_i hlt
        obtain ⟨h1, ob0, o, h2, h3, h4⟩ := R.blk b c hb
        obtain ⟨ob1, h5, h6, h7⟩ := new b hlt ob0 h2
        refine ⟨fun hF => ?_, ob1, o, h5, h3, ?_⟩
        · rcases hF with hF | ⟨b', hb', hM'⟩
          · exact h1 hF
          · have := R.inj b b' c hb hM'; omega
        · rcases h7 with rfl | ⟨rfl, rfl⟩
          · cases ob1 with
            | cells cs => obtain ⟨arr, T, ho', hl', hv⟩ := h4; exact ⟨arr, T, ho', hl', fun i d v x y => ⟨conv (hv i d v x y).1, (hv i d v x y).2⟩⟩
            | map es clock => obtain ⟨arr, ho', hl', hv⟩ := h4; exact ⟨arr, ho', hl', fun i k d n e x y => let ⟨p, q, r⟩ := hv i k d n e x y; ⟨p, q, conv r⟩⟩
            | gone n => exact h4.elim
          · cases ob0 with
            | cells cs =>
              cases ob1 with
              | cells cs' =>
                obtain ⟨arr, T, ho', hl', hv⟩ := h4
                obtain ⟨k1, k2⟩ := ho
                refine ⟨arr, T, ho', by omega, fun i d' v x y => ?_⟩
                obtain ⟨d, hd, hor⟩ := k2 i d' x
                obtain ⟨p, q⟩ := hv i d v hd y
                rcases hor with rfl | ⟨rfl, rfl⟩
                · exact ⟨conv p, q⟩
                · exact ⟨convF p, q⟩
              | _ => simp only [ObFz] at ho
            | map es clock =>
              cases ob1 with
              | map es' clock' =>
                obtain ⟨arr, ho', hl', hv⟩ := h4
                obtain ⟨rfl, k1, k2⟩ := ho
                refine ⟨arr, ho', by omega, fun i k d' n e x y => ?_⟩
                obtain ⟨d, hd, hor⟩ := k2 i k d' n x
                obtain ⟨p, q, r⟩ := hv i k d n e hd y
                rcases hor with rfl | ⟨rfl, rfl⟩
                · exact ⟨p, q, conv r⟩
                · exact ⟨p, q, convF r⟩
              | _ => simp only [ObFz] at ho
            | gone n => exact h4.elim
      · simp at hb
    · unfold cutM at hb hb'
      split at hb
      · split at hb'
        · exact R.inj b b' c hb hb'
        · simp at hb'
      · simp at hb
    · rcases hc with hc | ⟨b, _, hc⟩
      · exact R.fz c hc
      · exact (R.lt hc).2
  have E1 : Evo (σ0 ++ [OB f l]) M Fz w (σ0.set j ob' ++ [.gone (l.length * esz + 1)]) (cutM M σ0.length) (frzF M Fz σ0.length) w := {
    size := Nat.le_refl _
    frame := fun _ _ _ => rfl
    ran := fun b c hb => by
      unfold cutM at hb
      split at hb
      · exact .inl ⟨b, hb⟩
      · simp at hb
    fz := fun c h => ⟨.inl h, rfl⟩
    fz' := fun c h => by
      rcases h with h | ⟨b, _, h⟩
      · exact .inl h
      · exact .inr (.inl ⟨b, h⟩)
    shp := fun c arr T fr h => ⟨arr, h, rfl⟩
    keep := fun b ob0 h0 => by
      have hbl : b < σ0.length + 1 := by have := (List.getElem?_eq_some_iff.1 h0).1; simpa using this
      by_cases hb : b < σ0.length
      · obtain ⟨ob1, h1, h2, _⟩ := new b hb ob0 h0
        exact ⟨ob1, h1, by omega, fun _ => by simp [cutM, hb]⟩
      · have : b = σ0.length := by omega
        subst this
        rw [hlast] at h0
        simp only [Option.some.injEq] at h0
        subst h0
        exact ⟨_, gone, by rw [hsz]; simp only [Ob.sz]; omega, fun he => by rw [hsz] at he; simp only [Ob.sz] at he; omega⟩
    out := ⟨rfl, rfl, rfl⟩ }
  have A1 : AEnv n (σ0.set j ob' ++ [.gone (l.length * esz + 1)]) (cutM M σ0.length) (frzF M Fz σ0.length) w al a.tmps := ⟨A.1, fun t d ht => by obtain ⟨v, h1, h2⟩ := A.2 t d ht; exact ⟨v, h1, conv h2⟩⟩
  exact h c hc _ _ w a K R1 A1 fun x al' σ' a' w' M' Fz' hQ hd R' A' E' hl => hK x al' σ' a' w' M' Fz' hQ hd R' A' (E1.trans E' (by simp)) (by simp at hl ⊢; omega)
end
end Go.Abs
