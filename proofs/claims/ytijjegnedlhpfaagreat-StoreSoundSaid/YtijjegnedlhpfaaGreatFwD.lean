/- DfwMp, DfwFl, DfwPa, DfwPb, DfwPc, DfwCx, DfwPd -/
import Derived.Test.YtijjegnedlhpfaaGreatFwC
import GoSem.Core.Float
import GoSem.Op.Complex
import GoSem.Conv.FloatToInt
set_option linter.all false
section
namespace Go.Abs
variable [Gl]
def mget {α : Type} : List (Int × α) → Int → Option α
  | [], _ => none
  | (k', a) :: l, k => if k' = k then some a else mget l k
def mset {α : Type} : List (Int × α) → Int → α → List (Int × α)
  | [], k, a => [(k, a)]
  | (k', a') :: l, k, a => if k' = k then (k', a) :: l else (k', a') :: mset l k a
def mix0 {α : Type} : List (Int × α) → Int → Nat
  | [], _ => 0
  | (k', _) :: l, k => if k' = k then 0 else mix0 l k + 1
def mbE {α : Type} (g : α → D) : Nat → List (Int × α) → List (Value × D × Nat)
  | _, [] => []
  | i, (k, a) :: l => (.int .i64 k, g a, i) :: mbE g (i + 1) l
abbrev MB {α : Type} (g : α → D) (l : List (Int × α)) : Ob := .map (mbE g 0 l) l.length
def encM {α : Type} (g : α → C) (l : List (Int × α)) : List (Value × C) := l.map fun p => (.int .i64 p.1, g p.2)
abbrev FM {α : Type} (g : α → C) (l : List (Int × α)) : D := .c (.fmp (encM g l))
def oel {α β : Type} (o : Option α) (n : β) (s : α → β) : β := match o with | none => n | some a => s a
section
variable {α : Type}
theorem encM_inj {g : α → C} (hg : ∀ {a b : α}, g a = g b → a = b) {l m : List (Int × α)} (h : encM g l = encM g m) : l = m := by
  induction l generalizing m with
  | nil => cases m with
    | nil => rfl
    | cons b m => simp [encM] at h
  | cons a l ih => cases m with
    | nil => simp [encM] at h
    | cons b m =>
      obtain ⟨a1, a2⟩ := a
      obtain ⟨b1, b2⟩ := b
      simp only [encM, List.map_cons, List.cons.injEq, Prod.mk.injEq, Value.int.injEq, true_and] at h
      obtain ⟨⟨rfl, h2⟩, h3⟩ := h
      rw [hg h2, ih h3]
theorem findK_mb {ik : IntKind} {g : α → D} {k : Int} : ∀ (l : List (Int × α)) (i j : Nat), findK (.int ik) (.int .i64 k) (mbE g i l) j = some ((mget l k).map fun a => (j + mix0 l k, g a)) := by
  intro l
  induction l with
  | nil => intro i j; rfl
  | cons x l ih =>
    intro i j
    obtain ⟨k', a⟩ := x
    simp only [mbE, findK, Instr.sameNow, if_true]
    by_cases h : k' = k
    · subst h; simp [mget, mix0]
    · have hb : (k == k') = false := by simp [Ne.symm h]
      simp only [hb, ih, mget, mix0, if_neg h]
      congr 2
      funext a
      rw [Nat.add_assoc, Nat.add_comm 1]
theorem findK_fm {ik : IntKind} {g : α → C} {k : Int} : ∀ (l : List (Int × α)) (j : Nat), findK (.int ik) (.int .i64 k) ((encM g l).map fun p => (p.1, D.c p.2, 0)) j = some ((mget l k).map fun a => (j + mix0 l k, D.c (g a))) := by
  intro l
  induction l with
  | nil => intro j; rfl
  | cons x l ih =>
    intro j
    obtain ⟨k', a⟩ := x
    have e : ((encM g ((k', a) :: l)).map fun p => (p.1, D.c p.2, 0)) = (Value.int .i64 k', D.c (g a), 0) :: ((encM g l).map fun p => (p.1, D.c p.2, 0)) := rfl
    rw [e]
    simp only [findK, Instr.sameNow, if_true]
    by_cases h : k' = k
    · subst h; simp [mget, mix0]
    · have hb : (k == k') = false := by simp [Ne.symm h]
      simp only [hb, ih, mget, mix0, if_neg h]
      congr 2
      funext a
      rw [Nat.add_assoc, Nat.add_comm 1]
theorem mset_some {g : α → D} {k : Int} {a : α} : ∀ (l : List (Int × α)) (i : Nat) (a' : α), mget l k = some a' → (mbE g i l).modify (mix0 l k) (fun p => (p.1, g a, p.2.2)) = mbE g i (mset l k a) ∧ (mset l k a).length = l.length := by
  intro l
  induction l with
  | nil => intro i a' h; simp [mget] at h
  | cons x l ih =>
    intro i a' h
    obtain ⟨k', a0⟩ := x
    by_cases hk : k' = k
    · simp [mix0, mset, hk, mbE]
    · simp only [mget, if_neg hk] at h
      obtain ⟨h1, h2⟩ := ih (i + 1) a' h
      simp [mix0, mset, hk, mbE, h1, h2]
theorem mset_none {g : α → D} {k : Int} {a : α} : ∀ (l : List (Int × α)) (i : Nat), mget l k = none → mbE g i l ++ [(.int .i64 k, g a, i + l.length)] = mbE g i (mset l k a) ∧ (mset l k a).length = l.length + 1 := by
  intro l
  induction l with
  | nil => intro i h; simp [mset, mbE]
  | cons x l ih =>
    intro i h
    obtain ⟨k', a0⟩ := x
    by_cases hk : k' = k
    · simp [mget, hk] at h
    · simp only [mget, if_neg hk] at h
      obtain ⟨h1, h2⟩ := ih (i + 1) h
      refine ⟨?_, by simp [mset, hk, h2]⟩
      simp only [mset, if_neg hk, mbE, List.cons_append, List.length_cons]
      rw [← h1, show i + (l.length + 1) = i + 1 + l.length from by omega]
end
section
variable {P : Program} {orc : Orc} {n : Nat} {al : AL} {σ σ1 : Heap} {d d1 d2 : D} {α : Type}
theorem op_mkmap {g : α → D} (hd : D.mp σ.length = d) (hs : σ ++ [MB g ([] : List (Int × α))] = σ1) : OpR P orc n al σ .mkmap d σ1 [] := fun e he => by
  subst hd hs; rfl
theorem op_look {ik : IntKind} {zero : D} {m k : Opd} {b : Nat} {g : α → D} {l : List (Int × α)} {x : Int} {ok : Bool} {a : α} (hm : lx al m = some (.mp b)) (hb : σ[b]? = some (MB g l)) (hk : lx al k = some (I x)) (hq : mget l x = some a) (hd : (if ok then .tup [g a, B true] else g a) = d) :
    OpR P orc n al σ (.lookup (.int ik) zero m k ok) d σ [] := fun e he => by
  subst hd
  simp only [zax, zaA he hm, zaA he hk, litOf, mapEs, hb, Option.bind_eq_bind, Option.bind_some, findK_mb, hq, Option.map_some, hit]
theorem op_lookN {ik : IntKind} {zero : D} {m k : Opd} {b : Nat} {g : α → D} {l : List (Int × α)} {x : Int} {ok : Bool} (hm : lx al m = some (.mp b)) (hb : σ[b]? = some (MB g l)) (hk : lx al k = some (I x)) (hq : mget l x = none) (hd : (if ok then .tup [zero, B false] else zero) = d) :
    OpR P orc n al σ (.lookup (.int ik) zero m k ok) d σ [] := fun e he => by
  subst hd
  simp only [zax, zaA he hm, zaA he hk, litOf, mapEs, hb, Option.bind_eq_bind, Option.bind_some, findK_mb, hq, Option.map_none, hit]
theorem op_lookF {ik : IntKind} {zero : D} {m k : Opd} {g : α → C} {l : List (Int × α)} {x : Int} {ok : Bool} {a : α} (hm : lx al m = some (FM g l)) (hk : lx al k = some (I x)) (hq : mget l x = some a) (hd : (if ok then .tup [.c (g a), B true] else .c (g a)) = d) :
    OpR P orc n al σ (.lookup (.int ik) zero m k ok) d σ [] := fun e he => by
  subst hd
  simp only [zax, zaA he hm, zaA he hk, litOf, mapEs, Option.bind_eq_bind, Option.bind_some, findK_fm, hq, Option.map_some, hit]
theorem op_lookFN {ik : IntKind} {zero : D} {m k : Opd} {g : α → C} {l : List (Int × α)} {x : Int} {ok : Bool} (hm : lx al m = some (FM g l)) (hk : lx al k = some (I x)) (hq : mget l x = none) (hd : (if ok then .tup [zero, B false] else zero) = d) :
    OpR P orc n al σ (.lookup (.int ik) zero m k ok) d σ [] := fun e he => by
  subst hd
  simp only [zax, zaA he hm, zaA he hk, litOf, mapEs, Option.bind_eq_bind, Option.bind_some, findK_fm, hq, Option.map_none, hit]
theorem op_upd {ik : IntKind} {m k x : Opd} {b : Nat} {g : α → D} {l : List (Int × α)} {i : Int} {a : α} (hm : lx al m = some (.mp b)) (hb : σ[b]? = some (MB g l)) (hk : lx al k = some (I i)) (hx : lx al x = some (g a)) (hs : σ.set b (MB g (mset l i a)) = σ1) :
    OpR P orc n al σ (.upd (.int ik) m k x) (.tup []) σ1 [b] := fun e he => by
  subst hs
  simp only [zax, zaA he hm, zaA he hk, litOf, hb, Option.bind_eq_bind, Option.bind_some, findK_mb, zaA he hx]
  cases hq : mget l i with
  | some a' =>
    obtain ⟨h1, h2⟩ := mset_some (g := g) (a := a) l 0 a' hq
    simp only [Option.map_some, Nat.zero_add, MB, h2]
    rw [← h1]
  | none =>
    obtain ⟨h1, h2⟩ := mset_none (g := g) (a := a) l 0 hq
    simp only [Option.map_none, MB, h2]
    rw [← h1, Nat.zero_add]
theorem op_updP {ik : IntKind} {m k x : Opd} {b : Nat} {g : α → D} {l : List (Int × α)} {i : Int} (hm : lx al m = some (.mp b)) (hb : σ[b]? = some (MB g l)) (hk : lx al k = some (I i)) (hx : lx al x = some d) (hq : mget l i = none) (hs : σ.set b (.map (mbE g 0 l ++ [(.int .i64 i, d, l.length)]) (l.length + 1)) = σ1) :
    OpR P orc n al σ (.upd (.int ik) m k x) (.tup []) σ1 [b] := fun e he => by
  subst hs
  simp only [zax, zaA he hm, zaA he hk, litOf, hb, Option.bind_eq_bind, Option.bind_some, findK_mb, zaA he hx, hq, Option.map_none]
theorem op_mkfn {f : Fn} {first cap : List Opd} {a b : List D} (h1 : lxs al first = some a) (h2 : lxs al cap = some b) : OpR P orc n al σ (.mkfn f first cap) (.fn f a b) σ [] := fun e he => by
  simp [zax, ev_lxs he h1, ev_lxs he h2]
theorem op_callf {g : FuncId} {f : Opd} {args : List Opd} {ds a b : List D} {w : List Nat} (hf : lx al f = some (.fn (.func g) a b)) (ha : lxs al args = some ds) (ho : orc g (a ++ ds ++ b) σ = some (d, σ1, w)) : OpR P orc n al σ (.call f args) d σ1 w := fun e he => by
  simp only [zax, zaA he hf, ev_lxs he ha, ho]
theorem op_callc {g : FuncId} {f : Opd} {args : List Opd} {ds : List D} {a b : List C} {w : List Nat} (hf : lx al f = some (.c (.fn (.func g) a b))) (ha : lxs al args = some ds) (ho : orc g (a.map .c ++ ds ++ b.map .c) σ = some (d, σ1, w)) : OpR P orc n al σ (.call f args) d σ1 w := fun e he => by
  simp only [zax, zaA he hf, ev_lxs he ha, ho]
theorem op_idxL {esz j : Nat} {x i : Opd} {nn : Bool} {es : List (List C)} {c : List C} {k : Int} (h : lx al x = some (.c (.frz nn es))) (hi : lx al i = some (I k)) (hk : inR k es.length = some j) (he : es[j]? = some c) (hl : c.length = esz) :
    OpR P orc n al σ (.idx esz none x i) (.c (.fptr c 0)) σ [] := fun e he' => by
  simp only [zax, zaA he' h, zaA he' hi, zbo, Option.bind_eq_bind, Option.bind_some, hk, he, hl, if_true]
theorem op_idxS {esz j b off len sz : Nat} {x i : Opd} {k : Int} {cs : List D} (h : lx al x = some (.sl b off len esz sz)) (hi : lx al i = some (I k)) (hr : zbr σ b sz = some cs) (hk : inR k len = some j) (hd : D.ptr b (off + j * esz) sz = d) :
    OpR P orc n al σ (.idx esz none x i) d σ [] := fun e he' => by
  subst hd
  simp only [zax, zaA he' h, zaA he' hi, zbo, Option.bind_eq_bind, Option.bind_some, hr, hk, if_true]
theorem op_lenS {b off len esz sz : Nat} {x : Opd} {cs : List D} (h : lx al x = some (.sl b off len esz sz)) (hr : zbr σ b sz = some cs) (hd : I len = d) : OpR P orc n al σ (.len x) d σ [] := fun e he => by
  subst hd
  simp [zax, zaA he h, zbj, hr]
theorem op_lenL {x : Opd} {nn : Bool} {es : List (List C)} (h : lx al x = some (.c (.frz nn es))) (hd : I es.length = d) : OpR P orc n al σ (.len x) d σ [] := fun e he => by
  subst hd
  simp [zax, zaA he h, zbj]
theorem op_nilckf {x : Opd} {cs : List C} {off : Nat} (h : lx al x = some (.c (.fptr cs off))) : OpR P orc n al σ (.nilck x) (.c (.fptr cs off)) σ [] := fun e he => by simp [zax, zaA he h]
theorem op_nilckc {x : Opd} {f : FuncId} {a b : List C} (h : lx al x = some (.c (.fn (.func f) a b))) : OpR P orc n al σ (.nilck x) (.c (.fn (.func f) a b)) σ [] := fun e he => by simp [zax, zaA he h]
theorem op_nilckn {x : Opd} {f : FuncId} {a b : List D} (h : lx al x = some (.fn (.func f) a b)) : OpR P orc n al σ (.nilck x) (.fn (.func f) a b) σ [] := fun e he => by simp [zax, zaA he h]
end
section
variable {P : Program} {orc : Orc} {n : Nat} {al : AL} {σ σ1 : Heap} {d d1 d2 : D} {α : Type} {f : α → List C} {esz : Nat}
theorem op_appendN {bytes : Nat} {s x : Opd} {m : List α} (h : lx al s = some (.c (.lit (.slice none 0 0)))) (hx : lx al x = some d) (hm : Src σ f esz d m) (hz : Nat.blt 0 m.length = true) (hl : Nat.ble m.length 1000000 = true)
    (hby : Nat.ble bytes 1000 = true) (hd : OS esz σ.length m.length = d1) (hs : σ ++ [OB f m] = σ1) : OpR P orc n al σ (.append esz bytes s x) d1 σ1 [] := by
  subst hd hs
  have hby' : bytes ≤ 1000 := Nat.le_of_ble_eq_true hby
  have hlen : m.length ≤ 1000000 := Nat.le_of_ble_eq_true hl
  have hz' : m.length ≠ 0 := by have := Nat.blt_eq.mp hz; omega
  have hroom : roomOk m.length bytes = true := by
    have : m.length * bytes ≤ 1000000 * 1000 := Nat.mul_le_mul hlen hby'
    simp only [roomOk, Bool.and_eq_true, decide_eq_true_eq]
    omega
  intro e he
  have : zax P orc (.append esz bytes s x) e σ = (zbj σ d).bind fun k => (zbQ σ esz k d).bind fun new => if roomOk k bytes then (if k = 0 then some (.c (.lit (.slice none 0 0)), σ, []) else some (.sl σ.length 0 k esz (k * esz), σ ++ [.cells new], [])) else none := by
    simp only [zax, zaA he h, zaA he hx]
    rfl
  rw [this, hm.1, Option.bind_some, hm.2, Option.bind_some, if_pos hroom, if_neg hz']
theorem frzC_mp {g : α → C} {b k : Nat} {l : List (Int × α)} (hb : σ[b]? = some (MB (fun a => .c (g a)) l)) : frzC σ 0 (k + 2) (.mp b) = some (.fmp (encM g l)) := by
  have : frzC σ 0 (k + 2) (.mp b) = (if 0 ≤ b then
      match σ[b]? with
      | some (.map es _) => (es.mapM fun e => (frzC σ 0 (k + 1) e.2.1).map fun x => (e.1, x)).map .fmp
      | _ => none
    else none) := rfl
  rw [this, if_pos (Nat.zero_le _), hb]
  have key : ∀ (l : List (Int × α)) (i : Nat), ((mbE (fun a => D.c (g a)) i l).mapM fun e => (frzC σ 0 (k + 1) e.2.1).map fun x => (e.1, x)) = some (encM g l) := by
    intro l
    induction l with
    | nil => intro i; rfl
    | cons x l ih =>
      intro i
      obtain ⟨y, a⟩ := x
      simp only [mbE, List.mapM_cons, ih]
      rfl
  dsimp only [MB]
  rw [key]
  rfl
theorem frzC_ptr {b off sz k : Nat} {cs : List D} {l : List C} (hr : zbr σ b sz = some cs) (hm : cs.mapM (frzC σ 0 k) = some l) : frzC σ 0 (k + 1) (.ptr b off sz) = some (.fptr l off) := by
  have : frzC σ 0 (k + 1) (.ptr b off sz) = (if 0 ≤ b then
      match zbr σ b sz with
      | some cs => (cs.mapM (frzC σ 0 k)).map fun l => .fptr l off
      | none => none
    else none) := rfl
  rw [this, if_pos (Nat.zero_le _), hr]
  dsimp only
  rw [hm]
  rfl
theorem frz1xptr {b off sz : Nat} {cs : List D} {l : List C} (hr : zbr σ b sz = some cs) (hm : cs.mapM (frzC σ 0 99) = some l) : frzD1 σ 0 100 (.ptr b off sz) = some (.c (.fptr l off)) := by
  show (frzC σ 0 100 (.ptr b off sz)).map D.c = _
  rw [frzC_ptr (k := 99) hr hm]
  rfl
theorem frz_ptr {b off sz : Nat} {cs : List D} {l : List C} (hr : zbr σ b sz = some cs) (hm : cs.mapM (frzC σ 0 99) = some l) : frzD σ 0 100 (.ptr b off sz) = some (.c (.fptr l off)) := frz1xptr hr hm
end
abbrev OP {α : Type} (f : α → List C) : Option α → D
  | none => .c (.lit (.pointer none))
  | some a => .c (.fptr (f a) 0)
def encP {α : Type} (f : α → List C) (a : α) : List C := [.fptr (f a) 0]
theorem encP_inj {α : Type} {f : α → List C} (hf : ∀ {a b : α}, f a = f b → a = b) {a b : α} (h : encP f a = encP f b) : a = b := by
  simp only [encP, List.cons.injEq, C.fptr.injEq, and_true] at h
  exact hf h
theorem PT_inj {α : Type} {f : α → List C} (hf : ∀ {a b : α}, f a = f b → a = b) {a b : α} (h : D.c (.fptr (f a) 0) = D.c (.fptr (f b) 0)) : a = b := by
  simp only [D.c.injEq, C.fptr.injEq, and_true] at h
  exact hf h
theorem FM_inj {α : Type} {g : α → C} (hg : ∀ {a b : α}, g a = g b → a = b) {l m : List (Int × α)} (h : FM g l = FM g m) : l = m := by
  simp only [FM, D.c.injEq, C.fmp.injEq] at h
  exact encM_inj hg h
theorem cI_inj {a b : Int} (h : C.lit (.int .i64 a) = C.lit (.int .i64 b)) : a = b := by simpa using h
theorem cL_inj {α : Type} {f : α → List C} (hf : ∀ {a b : α}, f a = f b → a = b) {l m : List α} (h : C.frz false (l.map f) = C.frz false (m.map f)) : l = m := by
  simp only [C.frz.injEq, true_and] at h
  exact map_inj hf h
theorem lowMB {α : Type} {g : α → C} {l : List (Int × α)} {m : Nat} : (MB (fun a => .c (g a)) l).low m = true := by
  have key : ∀ (l : List (Int × α)) (i : Nat), ((mbE (fun a => D.c (g a)) i l).all fun e => e.2.1.low m) = true := by
    intro l
    induction l with
    | nil => intro i; rfl
    | cons x l ih => intro i; obtain ⟨y, a⟩ := x; simp only [mbE, List.all_cons, ih, D.low, Bool.and_self]
  exact key l 0
theorem wrE {α : Type} {f : α → List C} {esz b k : Nat} {σ σ1 : Heap} {l l' : List α} {al : AL} {ao : AOp} (hf : ∀ a, (f a).length = esz) (hb : σ[b]? = some (OB f l)) (hb' : σ1[b]? = some (OB f l')) (hl : l'.length = l.length) (hok : okA al ao = true) : (okA al ao && (k == 0 || wrOk σ σ1 [b])) = true := by
  simp [wrOk, hb, hb', Ob.sz, flat_len hf, hl, hok]
def nrmX : Nat → C → C
  | n + 1, .frz _ es => .frz false (es.map fun e => e.map (nrmX n))
  | _ + 1, .lit (.slice none 0 0) => .frz false []
  | _, x => x
theorem nrmX_ok {Fz : Nat → Prop} {w : World} : ∀ (n : Nat) {x : C} {v : Value}, VC Fz w x v → VC Fz w (nrmX n x) v := by
  intro n
  induction n with
  | zero => intro x v h; exact h
  | succ n ih =>
    intro x v h
    by_cases hx : x = .lit (.slice none 0 0)
    · subst hx
      cases h
      exact .frz (es := []) 0 none 0 (by simp) (fun _ => rfl) (fun _ _ => undef) (by simp) (by simp) (by simp) (by simp)
    cases h with
    | @frz nn es esz a cap hnn hz c hsz hcap hc hv =>
      have h := VC.frz (Fz := Fz) (w := w) (nn := false) (es := es.map fun e => e.map (nrmX n)) esz a cap (by simp) hz c (fun e he => ?_) (by simpa using hcap) (fun i j e d h1 h2 => ?_) (fun i j e d h1 h2 => ?_)
      · rw [List.length_map] at h; exact h
      · rw [List.mem_map] at he; obtain ⟨e0, h0, rfl⟩ := he; rw [List.length_map]; exact hsz e0 h0
      · simp only [List.getElem?_map, Option.map_eq_some_iff] at h1
        obtain ⟨e0, h0, rfl⟩ := h1
        simp only [List.getElem?_map, Option.map_eq_some_iff] at h2
        obtain ⟨d0, h3, rfl⟩ := h2
        exact hc i j e0 d0 h0 h3
      · simp only [List.getElem?_map, Option.map_eq_some_iff] at h1
        obtain ⟨e0, h0, rfl⟩ := h1
        simp only [List.getElem?_map, Option.map_eq_some_iff] at h2
        obtain ⟨d0, h3, rfl⟩ := h2
        exact ih (hv i j e0 d0 h0 h3)
    | lit v =>
      have : nrmX (n + 1) (.lit v) = .lit v := by
        unfold nrmX
        split
        · rename_i heq; simp at heq
        · rename_i heq; exact absurd heq hx
        · rfl
      rw [this]
      exact .lit v
    | fptr blk o c hF hc hv => exact .fptr blk o c hF hc hv
    | fn vs ws h1 h2 hv hw => exact .fn vs ws h1 h2 hv hw
    | fmp blk clock arr hF hh hs hk hv => exact .fmp blk clock arr hF hh hs hk hv
def nrmY : D → D
  | .c x => .c (nrmX 5 x)
  | .agg ds => .agg (ds.map fun d => match d with | .c x => .c (nrmX 5 x) | d => d)
  | d => d
theorem DLe.of_nrmY {d d' : D} (h : nrmY d = d') : DLe d d' := by
  subst h
  intro σ M Fz w v h
  unfold nrmY
  split
  · cases h with | c h => exact .c (nrmX_ok 5 h)
  · cases h with
    | agg vs h1 hv =>
      refine .agg vs (by simpa using h1) (fun i d v a b => ?_)
      simp only [List.getElem?_map, Option.map_eq_some_iff] at a
      obtain ⟨d0, h0, rfl⟩ := a
      have := hv i d0 v h0 b
      split
      · cases this with | c h => exact .c (nrmX_ok 5 h)
      · exact this
  · exact h
def ObFz (S F : D) : Ob → Ob → Prop
  | .map es c, .map es' c' => c = c' ∧ es'.length = es.length ∧ ∀ (i : Nat) k d' n, es'[i]? = some (k, d', n) → ∃ d, es[i]? = some (k, d, n) ∧ (d' = d ∨ d = S ∧ d' = F)
  | .cells cs, .cells cs' => cs'.length = cs.length ∧ ∀ (i : Nat) d', cs'[i]? = some d' → ∃ d, cs[i]? = some d ∧ (d' = d ∨ d = S ∧ d' = F)
  | _, _ => False
theorem ObFz.sz {S F : D} {ob ob' : Ob} (h : ObFz S F ob ob') : ob'.sz = ob.sz := by
  cases ob <;> cases ob' <;> simp only [ObFz] at h
  · exact h.1
  · rfl
def FzL (S F : D) : List D → List D → Prop
  | [], [] => True
  | d :: cs, d' :: cs' => (d' = d ∨ d = S ∧ d' = F) ∧ FzL S F cs cs'
  | _, _ => False
theorem obFz_cells {S F : D} : ∀ {cs cs' : List D}, FzL S F cs cs' → ObFz S F (.cells cs) (.cells cs') := by
  intro cs
  induction cs with
  | nil => intro cs' h; cases cs' with
    | nil => exact ⟨rfl, fun i d' h => by simp at h⟩
    | cons d' cs' => exact h.elim
  | cons d cs ih => intro cs' h; cases cs' with
    | nil => exact h.elim
    | cons d' cs' =>
      obtain ⟨h1, h2⟩ := h
      obtain ⟨k1, k2⟩ := ih h2
      refine ⟨by simp [k1], fun i x hi => ?_⟩
      cases i with
      | zero => simp only [List.getElem?_cons_zero, Option.some.injEq] at hi; subst hi; exact ⟨d, rfl, h1⟩
      | succ i => simpa using k2 i x (by simpa using hi)
theorem obFz_push {α : Type} {g : α → D} {S F : D} {l : List (Int × α)} {k : Int} {a : α} (hq : mget l k = none) (ha : F = g a) : ObFz S F (.map (mbE g 0 l ++ [(.int .i64 k, S, l.length)]) (l.length + 1)) (MB g (mset l k a)) := by
  obtain ⟨h1, h2⟩ := mset_none (g := g) (a := a) l 0 hq
  rw [Nat.zero_add] at h1
  refine ⟨h2.symm, by rw [← h1]; simp, fun i k' d' n hi => ?_⟩
  rw [← h1] at hi
  by_cases hl : i < (mbE g 0 l).length
  · rw [List.getElem?_append_left hl] at hi
    exact ⟨d', by rw [List.getElem?_append_left hl]; exact hi, .inl rfl⟩
  · rw [List.getElem?_append_right (by omega)] at hi
    cases hm : i - (mbE g 0 l).length with
    | zero =>
      rw [hm] at hi
      simp only [List.getElem?_cons_zero, Option.some.injEq, Prod.mk.injEq] at hi
      obtain ⟨rfl, rfl, rfl⟩ := hi
      exact ⟨S, by rw [List.getElem?_append_right (by omega), hm]; rfl, .inr ⟨rfl, ha.symm⟩⟩
    | succ m => rw [hm] at hi; simp at hi
section
variable {P : Program} {σ σ0 σ1 : Heap} {n : Nat} {al : AL} {ac : ACode} {Q : AExit → AL → Heap → Prop} {α : Type} {f : α → List C} {esz : Nat}
theorem Sem.freeze {l : List α} {F : D} (hf : ∀ a, (f a).length = esz) (he : 0 < esz) (j : Nat) (ob ob' : Ob) (σ0 : Heap) (hσ : σ = σ0 ++ [OB f l]) (hj : σ0[j]? = some ob) (hF : DLe (.c (.frz (Nat.blt 0 l.length) (l.map f))) F) (ho : ObFz (OS esz σ0.length l.length) F ob ob')
    (hs : σ0.set j ob' ++ [.gone (l.length * esz + 1)] = σ1) (h : Sem P ac n al σ1 Q) : Sem P ac n al σ Q := by
  subst hσ hs
  intro c hc M Fz w a K R A hK
  have hlast : (σ0 ++ [OB f l])[σ0.length]? = some (OB f l) := by simp
  have hjl : j < σ0.length := (List.getElem?_eq_some_iff.1 hj).1
  have hsz : (OB f l).sz = l.length * esz := by simp [Ob.sz, flat_len hf]
  have hM : ∀ b c, M b = some c → b < σ0.length + 1 := fun b c hb => by
    obtain ⟨_, ob, o, h2, _⟩ := R.blk b c hb
    have := (List.getElem?_eq_some_iff.1 h2).1
    simpa using this
  have Fmono : ∀ c : Nat, Fz c → frzF M Fz σ0.length c ∧ w.heap[c]? = w.heap[c]? := fun c hc => ⟨.inl hc, rfl⟩
  have new : ∀ b, b < σ0.length → ∀ ob0, (σ0 ++ [OB f l])[b]? = some ob0 → ∃ ob1, (σ0.set j ob' ++ [.gone (l.length * esz + 1)])[b]? = some ob1 ∧ ob1.sz = ob0.sz ∧ (ob1 = ob0 ∨ ob0 = ob ∧ ob1 = ob') := by
    intro b hb ob0 h0
    rw [List.getElem?_append_left hb] at h0
    rw [List.getElem?_append_left (by simpa using hb), List.getElem?_set]
    by_cases hjb : j = b
    · subst hjb
      rw [h0] at hj
      simp only [Option.some.injEq] at hj
      subst hj
      exact ⟨ob', by simp [hb], ho.sz, .inr ⟨rfl, rfl⟩⟩
    · exact ⟨ob0, by simp [hjb, h0], rfl, .inl rfl⟩
  have gone : (σ0.set j ob' ++ [Ob.gone (l.length * esz + 1)])[σ0.length]? = some (.gone (l.length * esz + 1)) := by
    rw [List.getElem?_append_right (by simp)]; simp
  have conv : ∀ {d : D} {v : Value}, V (σ0 ++ [OB f l]) M Fz w d v → V (σ0.set j ob' ++ [.gone (l.length * esz + 1)]) (cutM M σ0.length) (frzF M Fz σ0.length) w d v := by
    intro d v hv
    induction hv with
    | c h => exact .c (h.mono Fmono)
    | any v => exact .any v
    | @ptr b off sz a ob0 h0 hle hv =>
      have hbl : b < σ0.length + 1 := by have := (List.getElem?_eq_some_iff.1 h0).1; simpa using this
      by_cases hb : b < σ0.length
      · obtain ⟨ob1, h1, h2, _⟩ := new b hb ob0 h0
        exact .ptr a ob1 h1 (by omega) (fun he => by simpa [cutM, hb] using hv (by omega))
      · have : b = σ0.length := by omega
        subst this
        rw [hlast] at h0
        simp only [Option.some.injEq] at h0
        subst h0
        exact .ptr a _ gone (by simp only [Ob.sz] at hle ⊢; simp only [List.length_map, flat_len hf] at hle; omega) (fun he => by exfalso; rw [hsz] at hle; simp only [Ob.sz] at he; omega)
    | @sl b off len es sz a m cap hnn ob0 h0 hle hv =>
      have hbl : b < σ0.length + 1 := by have := (List.getElem?_eq_some_iff.1 h0).1; simpa using this
      by_cases hb : b < σ0.length
      · obtain ⟨ob1, h1, h2, _⟩ := new b hb ob0 h0
        exact .sl a m cap hnn ob1 h1 (by omega) (fun he => by simpa [cutM, hb] using hv (by omega))
      · have : b = σ0.length := by omega
        subst this
        rw [hlast] at h0
        simp only [Option.some.injEq] at h0
        subst h0
        exact .sl a m cap hnn _ gone (by rw [hsz] at hle; simp only [Ob.sz]; omega) (fun he => by exfalso; rw [hsz] at hle; simp only [Ob.sz] at he; omega)
    | @mp b c0 ob0 h0 hv =>
      have hbl : b < σ0.length + 1 := by have := (List.getElem?_eq_some_iff.1 h0).1; simpa using this
      by_cases hb : b < σ0.length
      · obtain ⟨ob1, h1, h2, _⟩ := new b hb ob0 h0
        exact .mp c0 ob1 h1 (fun he => by simpa [cutM, hb] using hv (by omega))
      · have : b = σ0.length := by omega
        subst this
        exact .mp c0 _ gone (fun he => by simp [Ob.sz] at he)
    | fn vs ws h1 h2 hv hw ih1 ih2 => exact .fn vs ws h1 h2 ih1 ih2
    | agg vs h1 hv ih => exact .agg vs h1 ih
    | tup vs h1 hv ih => exact .tup vs h1 ih
  have convF : ∀ {v : Value}, V (σ0 ++ [OB f l]) M Fz w (OS esz σ0.length l.length) v → V (σ0.set j ob' ++ [.gone (l.length * esz + 1)]) (cutM M σ0.length) (frzF M Fz σ0.length) w F v := by
    intro v hv
    refine hF _ _ _ _ _ (.c (frzC_ok R 100 _ _ v ?_ hv))
    have : frzC (σ0 ++ [OB f l]) σ0.length 100 (OS esz σ0.length l.length) = (if σ0.length ≤ σ0.length ∧ 0 < esz ∧ 0 + l.length * esz ≤ l.length * esz then
        match zbr (σ0 ++ [OB f l]) σ0.length (l.length * esz) with
        | some cs => (((cs.drop 0).take (l.length * esz)).mapM (frzC (σ0 ++ [OB f l]) σ0.length 99)).map fun r => C.frz (Nat.blt 0 l.length) (chunks esz l.length r)
        | none => none
      else none) := rfl
    rw [this, if_pos ⟨Nat.le_refl _, he, by omega⟩, row_own hf hlast]
    simp only [List.drop_zero]
    rw [List.take_of_length_le (by simp [flat_len hf]), mapM_frzC]
    simp [chunks_map hf]
  have R1 : Rel (σ0.set j ob' ++ [.gone (l.length * esz + 1)]) (cutM M σ0.length) (frzF M Fz σ0.length) w := by
    refine ⟨fun b c hb => ?_, fun b b' c hb hb' => ?_, fun c hc => ?_, Gl.mono (fun c h => ⟨.inl h, rfl⟩) R.gl⟩
    · unfold cutM at hb
      split at hb
      · rename_i hlt
        obtain ⟨h1, ob0, o, h2, h3, h4⟩ := R.blk b c hb
        obtain ⟨ob1, h5, h6, h7⟩ := new b hlt ob0 h2
        refine ⟨fun hF => ?_, ob1, o, h5, h3, ?_⟩
        · rcases hF with hF | ⟨b', hb', hM'⟩
          · exact h1 hF
          · have := R.inj b b' c hb hM'; omega
        · rcases h7 with rfl | ⟨rfl, rfl⟩
          · cases ob1 with
            | cells cs => obtain ⟨arr, T, ho', hl', hv⟩ := h4; exact ⟨arr, T, ho', hl', fun i d v x y => ⟨conv (hv i d v x y).1, (hv i d v x y).2⟩⟩
            | map es clock => obtain ⟨arr, ho', hl', hv⟩ := h4; exact ⟨arr, ho', hl', fun i k d n e x y => let ⟨p, q, r⟩ := hv i k d n e x y; ⟨p, q, conv r⟩⟩
            | gone n => exact h4.elim
          · cases ob0 with
            | cells cs =>
              cases ob1 with
              | cells cs' =>
                obtain ⟨arr, T, ho', hl', hv⟩ := h4
                obtain ⟨k1, k2⟩ := ho
                refine ⟨arr, T, ho', by omega, fun i d' v x y => ?_⟩
                obtain ⟨d, hd, hor⟩ := k2 i d' x
                obtain ⟨p, q⟩ := hv i d v hd y
                rcases hor with rfl | ⟨rfl, rfl⟩
                · exact ⟨conv p, q⟩
                · exact ⟨convF p, q⟩
              | _ => simp only [ObFz] at ho
            | map es clock =>
              cases ob1 with
              | map es' clock' =>
                obtain ⟨arr, ho', hl', hv⟩ := h4
                obtain ⟨rfl, k1, k2⟩ := ho
                refine ⟨arr, ho', by omega, fun i k d' n e x y => ?_⟩
                obtain ⟨d, hd, hor⟩ := k2 i k d' n x
                obtain ⟨p, q, r⟩ := hv i k d n e hd y
                rcases hor with rfl | ⟨rfl, rfl⟩
                · exact ⟨p, q, conv r⟩
                · exact ⟨p, q, convF r⟩
              | _ => simp only [ObFz] at ho
            | gone n => exact h4.elim
      · simp at hb
    · unfold cutM at hb hb'
      split at hb
      · split at hb'
        · exact R.inj b b' c hb hb'
        · simp at hb'
      · simp at hb
    · rcases hc with hc | ⟨b, _, hc⟩
      · exact R.fz c hc
      · exact (R.lt hc).2
  have E1 : Evo (σ0 ++ [OB f l]) M Fz w (σ0.set j ob' ++ [.gone (l.length * esz + 1)]) (cutM M σ0.length) (frzF M Fz σ0.length) w := {
    size := Nat.le_refl _
    frame := fun _ _ _ => rfl
    ran := fun b c hb => by
      unfold cutM at hb
      split at hb
      · exact .inl ⟨b, hb⟩
      · simp at hb
    fz := fun c h => ⟨.inl h, rfl⟩
    fz' := fun c h => by
      rcases h with h | ⟨b, _, h⟩
      · exact .inl h
      · exact .inr (.inl ⟨b, h⟩)
    shp := fun c arr T fr h => ⟨arr, h, rfl⟩
    keep := fun b ob0 h0 => by
      have hbl : b < σ0.length + 1 := by have := (List.getElem?_eq_some_iff.1 h0).1; simpa using this
      by_cases hb : b < σ0.length
      · obtain ⟨ob1, h1, h2, _⟩ := new b hb ob0 h0
        exact ⟨ob1, h1, by omega, fun _ => by simp [cutM, hb]⟩
      · have : b = σ0.length := by omega
        subst this
        rw [hlast] at h0
        simp only [Option.some.injEq] at h0
        subst h0
        exact ⟨_, gone, by rw [hsz]; simp only [Ob.sz]; omega, fun he => by rw [hsz] at he; simp only [Ob.sz] at he; omega⟩
    out := ⟨rfl, rfl, rfl⟩ }
  have A1 : AEnv n (σ0.set j ob' ++ [.gone (l.length * esz + 1)]) (cutM M σ0.length) (frzF M Fz σ0.length) w al a.tmps := ⟨A.1, fun t d ht => by obtain ⟨v, h1, h2⟩ := A.2 t d ht; exact ⟨v, h1, conv h2⟩⟩
  exact h c hc _ _ w a K R1 A1 fun x al' σ' a' w' M' Fz' hQ hd R' A' E' hl => hK x al' σ' a' w' M' Fz' hQ hd R' A' (E1.trans E' (by simp)) (by simp at hl ⊢; omega)
end
end Go.Abs
end
section
namespace Go.Fl
open Ieee
theorem log2_lt {n k : Nat} (h0 : n ≠ 0) (h : n < 2 ^ k) : n.log2 < k := (Nat.log2_lt h0).2 h
theorem log2xle {n : Nat} (h0 : n ≠ 0) : 2 ^ n.log2 ≤ n := Nat.log2_self_le h0
theorem lt_log2 (n : Nat) : n < 2 ^ (n.log2 + 1) := Nat.lt_log2_self
theorem lp : double.leastPlace = -1074 := by decide
theorem bin : double.binade = 2 ^ 52 := rfl
def can (s : Bool) (n : Nat) : Datum := if n = 0 then .number s 0 (-1074) else .number s (n * 2 ^ (52 - n.log2)) ((n.log2 : Int) - 52)
theorem cut_zero (way : Toward) (s : Bool) (n : Nat) : way.cut s n 0 = n := by
  unfold Toward.cut
  have h : 1 <<< min 0 (n.log2 + 2) = 1 := by rw [Nat.zero_min]; rfl
  have hm : n % 1 = 0 := Nat.mod_one n
  simp only [h, Nat.div_one, hm]
  cases way <;> simp
theorem cut_exact {s : Bool} {n d m : Nat} (hd : d ≤ n.log2 + 2) (h : n = m * 2 ^ d) : Toward.even.cut s n d = m := by
  unfold Toward.cut
  have hg : 1 <<< min d (n.log2 + 2) = 2 ^ d := by rw [Nat.min_eq_left hd, Nat.one_shiftLeft]
  have hp : 0 < 2 ^ d := Nat.pow_pos (by decide)
  rw [hg]
  have h1 : n / 2 ^ d = m := by rw [h]; exact Nat.mul_div_cancel _ hp
  have h2 : n % 2 ^ d = 0 := by rw [h]; exact Nat.mul_mod_left _ _
  simp only [h1, h2]
  have : ¬(2 ^ d < 2 * 0) := by omega
  have h3 : ¬(2 ^ d = 2 * 0) := by omega
  simp [h3]
theorem log2xmul_pow {m d : Nat} (h : m ≠ 0) : (m * 2 ^ d).log2 = m.log2 + d := by
  have h1 := log2xle h
  have h2 := lt_log2 m
  have h0 : m * 2 ^ d ≠ 0 := by
    have : 0 < 2 ^ d := Nat.pow_pos (by decide)
    exact Nat.mul_ne_zero h (by omega)
  apply Nat.le_antisymm
  · have : m * 2 ^ d < 2 ^ (m.log2 + d + 1) := by
      rw [show m.log2 + d + 1 = (m.log2 + 1) + d by omega, Nat.pow_add]
      exact Nat.mul_lt_mul_of_pos_right h2 (Nat.pow_pos (by decide))
    have := log2_lt h0 this
    omega
  · have : 2 ^ (m.log2 + d) ≤ m * 2 ^ d := by
      rw [Nat.pow_add]
      exact Nat.mul_le_mul_right _ h1
    exact (Nat.le_log2 h0).2 this
theorem near_down {s : Bool} {n k : Nat} (h0 : n ≠ 0) (h : n < 2 ^ 53) : double.nearest s (n * 2 ^ k) (-(k : Int)) = double.nearest s n 0 := by
  have hl := log2_lt h0 h
  have e : (n * 2 ^ k).log2 = n.log2 + k := log2xmul_pow h0
  have h0' : n * 2 ^ k ≠ 0 := Nat.mul_ne_zero h0 (by have : 0 < 2 ^ k := Nat.pow_pos (by decide); omega)
  have fb : double.fractionBits = 52 := rfl
  have last1 : max (-(k : Int) + ((n * 2 ^ k).log2 : Nat) - ((52 : Nat) : Int)) (-1074) = (n.log2 : Int) - 52 := by rw [e]; omega
  have last2 : max ((0 : Int) + (n.log2 : Nat) - ((52 : Nat) : Int)) (-1074) = (n.log2 : Int) - 52 := by omega
  have k1 : Toward.even.cut s ((n * 2 ^ k) <<< (-(k : Int) - ((n.log2 : Int) - 52)).toNat) (((n.log2 : Int) - 52) - -(k : Int)).toNat = n * 2 ^ (52 - n.log2) := by
    by_cases hk : k + n.log2 ≤ 52
    · have a1 : (-(k : Int) - ((n.log2 : Int) - 52)).toNat = 52 - n.log2 - k := by omega
      have a2 : (((n.log2 : Int) - 52) - -(k : Int)).toNat = 0 := by omega
      rw [a1, a2, cut_zero, Nat.shiftLeft_eq, Nat.mul_assoc, ← Nat.pow_add]
      congr 2
      omega
    · have a1 : (-(k : Int) - ((n.log2 : Int) - 52)).toNat = 0 := by omega
      have a2 : (((n.log2 : Int) - 52) - -(k : Int)).toNat = k + n.log2 - 52 := by omega
      rw [a1, a2, Nat.shiftLeft_zero]
      refine cut_exact (by rw [e]; omega) ?_
      rw [Nat.mul_assoc, ← Nat.pow_add]
      congr 2
      omega
  have k2 : Toward.even.cut s (n <<< ((0 : Int) - ((n.log2 : Int) - 52)).toNat) (((n.log2 : Int) - 52) - 0).toNat = n * 2 ^ (52 - n.log2) := by
    have a1 : ((0 : Int) - ((n.log2 : Int) - 52)).toNat = 52 - n.log2 := by omega
    have a2 : (((n.log2 : Int) - 52) - 0).toNat = 0 := by omega
    rw [a1, a2, cut_zero, Nat.shiftLeft_eq]
  unfold Format.nearest
  rw [if_neg h0', if_neg h0]
  simp only [fb, lp, last1, last2, k1, k2]
theorem near_read {s : Bool} {n : Nat} (h : n < 2 ^ 53) : double.read (double.nearest s n 0) = can s n := by
  by_cases h0 : n = 0
  · subst h0
    cases s <;> rfl
  have hl := log2_lt h0 h
  have l1 := log2xle h0
  have l2 := lt_log2 n
  have fb : double.fractionBits = 52 := rfl
  have last2 : max ((0 : Int) + (n.log2 : Nat) - ((52 : Nat) : Int)) (-1074) = (n.log2 : Int) - 52 := by omega
  have k2 : Toward.even.cut s (n <<< ((0 : Int) - ((n.log2 : Int) - 52)).toNat) (((n.log2 : Int) - 52) - 0).toNat = n * 2 ^ (52 - n.log2) := by
    have a1 : ((0 : Int) - ((n.log2 : Int) - 52)).toNat = 52 - n.log2 := by omega
    have a2 : (((n.log2 : Int) - 52) - 0).toNat = 0 := by omega
    rw [a1, a2, cut_zero, Nat.shiftLeft_eq]
  have b1 : 4503599627370496 ≤ n * 2 ^ (52 - n.log2) := by
    have : 2 ^ n.log2 * 2 ^ (52 - n.log2) ≤ n * 2 ^ (52 - n.log2) := Nat.mul_le_mul_right _ l1
    rw [← Nat.pow_add, show n.log2 + (52 - n.log2) = 52 by omega] at this
    exact this
  have b2 : n * 2 ^ (52 - n.log2) < 9007199254740992 := by
    have : n * 2 ^ (52 - n.log2) < 2 ^ (n.log2 + 1) * 2 ^ (52 - n.log2) := Nat.mul_lt_mul_of_pos_right l2 (Nat.pow_pos (by decide))
    rw [← Nat.pow_add, show n.log2 + 1 + (52 - n.log2) = 53 by omega] at this
    exact this
  have ir : double.infRung = 9218868437227405312 := by decide
  have sw : double.signWeight = 9223372036854775808 := by decide
  have bi : double.binade = 4503599627370496 := by decide
  unfold can
  rw [if_neg h0]
  generalize n * 2 ^ (52 - n.log2) = K at k2 b1 b2 ⊢
  generalize hL : n.log2 = L at k2 last2 hl ⊢
  have hr : double.nearest s n 0 = double.word s ((L + 1022) * 4503599627370496 + K) := by
    unfold Format.nearest
    rw [if_neg h0]
    simp only [fb, lp, hL, last2, k2, ir, bi]
    have e1 : (((L : Int) - 52) - -1074).toNat = L + 1022 := by omega
    rw [e1, Nat.min_eq_left (by omega)]
  rw [hr]
  generalize hR : (L + 1022) * 4503599627370496 + K = R
  have hw : R < 9223372036854775808 := by omega
  have hs1 : (double.word s R / double.signWeight % 2 == 1) = s := by
    unfold Format.word
    rw [sw]
    cases s
    · rw [if_neg (by decide), Nat.div_eq_of_lt hw]
      rfl
    · rw [if_pos rfl, Nat.add_div_left _ (by decide), Nat.div_eq_of_lt hw]
      rfl
  have hs2 : double.word s R % double.signWeight = R := by
    unfold Format.word
    rw [sw]
    cases s
    · rw [if_neg (by decide), Nat.mod_eq_of_lt hw]
    · rw [if_pos rfl, Nat.add_mod_left, Nat.mod_eq_of_lt hw]
  unfold Format.read
  simp only [hs1, hs2, bi, ir, lp]
  have e1 : R % 4503599627370496 = K - 4503599627370496 := by omega
  have e2 : R / 4503599627370496 = L + 1023 := by omega
  have c1 : ¬(R < 4503599627370496) := by omega
  have c2 : R < 9218868437227405312 := by omega
  rw [if_neg c1, if_pos c2, e1, e2]
  have e3 : 4503599627370496 + (K - 4503599627370496) = K := Nat.add_sub_of_le b1
  have e4 : (-1074 : Int) + ((L + 1023 - 1 : Nat) : Int) = (L : Int) - 52 := by omega
  rw [e3, e4]
theorem can_zero (s : Bool) (k : Nat) : Datum.number s (0 * 2 ^ k) (-(k : Int)) = Datum.number s 0 (-(k : Int)) := by rw [Nat.zero_mul]
theorem can_form (s : Bool) {n : Nat} (h : n < 2 ^ 53) : ∃ k : Nat, can s n = .number s (n * 2 ^ k) (-(k : Int)) := by
  unfold can
  split
  · rename_i e
    subst e
    exact ⟨1074, (can_zero s 1074).symm⟩
  · rename_i h0
    have := log2_lt h0 h
    exact ⟨52 - n.log2, by congr 1; omega⟩
theorem near_k (s : Bool) {n : Nat} (k : Nat) (h : n < 2 ^ 53) : double.nearest s (n * 2 ^ k) (-(k : Int)) = double.nearest s n 0 := by
  by_cases h0 : n = 0
  · subst h0
    rw [Nat.zero_mul]
    unfold Format.nearest
    rw [if_pos rfl, if_pos rfl]
  · exact near_down h0 h
def fl (n : Int) : Nat := FloatKind.f64.nearest n
theorem fl_eq (n : Int) : fl n = double.nearest (decide (n < 0)) n.natAbs 0 := rfl
theorem fl_read {n : Int} (h : n.natAbs < 2 ^ 53) : double.read (fl n) = can (decide (n < 0)) n.natAbs := near_read h
def sg (s : Bool) (n : Nat) : Int := if s then -(n : Int) else n
theorem signed_eq (s : Bool) (n i m : Nat) (h : i ≤ m) : signed s (n * 2 ^ i) (m - i) = sg s n * (2 ^ m : Nat) := by
  have e : (n * 2 ^ i) <<< (m - i) = n * 2 ^ m := by rw [Nat.shiftLeft_eq, Nat.mul_assoc, ← Nat.pow_add]; congr 2; omega
  unfold signed sg
  rw [e]
  cases s
  · simp
  · simp only [if_true]
    rw [Int.natCast_mul, Int.neg_mul]
theorem sum_eq (s t : Bool) (a b i j : Nat) : Datum.sum (.number s (a * 2 ^ i) (-(i : Int))) (.number t (b * 2 ^ j) (-(j : Int))) =
    some (.number (if sg s a + sg t b = 0 then s && t else decide (sg s a + sg t b < 0)) ((sg s a + sg t b).natAbs * 2 ^ (max i j)) (-((max i j : Nat) : Int))) := by
  unfold Datum.sum
  have hb : min (-(i : Int)) (-(j : Int)) = -((max i j : Nat) : Int) := by omega
  have h1 : (-(i : Int) - -((max i j : Nat) : Int)).toNat = max i j - i := by omega
  have h2 : (-(j : Int) - -((max i j : Nat) : Int)).toNat = max i j - j := by omega
  simp only [hb, h1, h2, signed_eq s a i (max i j) (by omega), signed_eq t b j (max i j) (by omega), ← Int.add_mul]
  have hp : (0 : Int) < ((2 ^ max i j : Nat) : Int) := by
    have : 0 < 2 ^ max i j := Nat.pow_pos (by decide)
    omega
  have z : ((sg s a + sg t b) * ((2 ^ max i j : Nat) : Int) = 0) ↔ sg s a + sg t b = 0 := by
    rw [Int.mul_eq_zero]
    constructor
    · rintro (h | h)
      · exact h
      · omega
    · exact .inl
  have l : ((sg s a + sg t b) * ((2 ^ max i j : Nat) : Int) < 0) ↔ sg s a + sg t b < 0 := by
    constructor
    · intro h
      rcases Int.lt_or_le (sg s a + sg t b) 0 with h' | h'
      · exact h'
      · have := Int.mul_nonneg h' (Int.le_of_lt hp); omega
    · intro h
      exact Int.mul_neg_of_neg_of_pos h hp
  simp only [z, l, Int.natAbs_mul, Int.natAbs_natCast]
theorem sg_abs (n : Int) : sg (decide (n < 0)) n.natAbs = n := by
  unfold sg
  by_cases h : n < 0
  · simp [h]; omega
  · simp [h]; omega
theorem fl_add {a b : Int} (ha : a.natAbs < 2 ^ 52) (hb : b.natAbs < 2 ^ 52) : double.add (fl a) (fl b) = some (fl (a + b)) := by
  have ha' : a.natAbs < 2 ^ 53 := by omega
  have hb' : b.natAbs < 2 ^ 53 := by omega
  obtain ⟨i, hi⟩ := can_form (decide (a < 0)) ha'
  obtain ⟨j, hj⟩ := can_form (decide (b < 0)) hb'
  unfold Format.add
  rw [fl_read ha', fl_read hb', hi, hj, sum_eq, sg_abs, sg_abs]
  simp only [Option.map_some, Format.write]
  rw [near_k _ _ (by omega), fl_eq]
  congr 2
  by_cases h0 : a + b = 0
  · rw [if_pos h0]
    have : ¬(a + b < 0) := by omega
    by_cases h1 : a < 0
    · have : ¬(b < 0) := by omega
      simp [*]
    · simp [*]
  · rw [if_neg h0]
theorem fl_sub {a b : Int} (ha : a.natAbs < 2 ^ 52) (hb : b.natAbs < 2 ^ 52) : double.sub (fl a) (fl b) = some (fl (a - b)) := by
  have ha' : a.natAbs < 2 ^ 53 := by omega
  have hb' : b.natAbs < 2 ^ 53 := by omega
  obtain ⟨i, hi⟩ := can_form (decide (a < 0)) ha'
  obtain ⟨j, hj⟩ := can_form (decide (b < 0)) hb'
  have hs : sg (!decide (b < 0)) b.natAbs = -b := by
    unfold sg
    by_cases h : b < 0
    · simp [h]; omega
    · simp [h]; omega
  unfold Format.sub
  rw [fl_read ha', fl_read hb', hi, hj]
  simp only [Datum.opposite]
  rw [sum_eq, sg_abs, hs]
  simp only [Option.map_some, Format.write]
  rw [near_k _ _ (by omega), fl_eq, ← Int.sub_eq_add_neg]
  congr 2
  by_cases h0 : a - b = 0
  · rw [if_pos h0]
    have : ¬(a - b < 0) := by omega
    by_cases h1 : a < 0
    · have : b < 0 := by omega
      simp [*]
    · simp [*]
  · rw [if_neg h0]
theorem fl_mul {a b : Int} (h0 : 0 ≤ a) (h1 : 0 ≤ b) (ha : a.natAbs < 2 ^ 53) (hb : b.natAbs < 2 ^ 53) (h : (a * b).natAbs < 2 ^ 53) : double.mul (fl a) (fl b) = some (fl (a * b)) := by
  obtain ⟨i, hi⟩ := can_form (decide (a < 0)) ha
  obtain ⟨j, hj⟩ := can_form (decide (b < 0)) hb
  have e1 : decide (a < 0) = false := by simp; omega
  have e2 : decide (b < 0) = false := by simp; omega
  have e3 : decide (a * b < 0) = false := by have := Int.mul_nonneg h0 h1; simp; omega
  unfold Format.mul
  rw [fl_read ha, fl_read hb, hi, hj]
  simp only [Datum.product, e1, e2, Option.map_some, Format.write]
  have m : a.natAbs * 2 ^ i * (b.natAbs * 2 ^ j) = (a * b).natAbs * 2 ^ (i + j) := by
    rw [Int.natAbs_mul, Nat.pow_add]
    simp only [Nat.mul_assoc, Nat.mul_left_comm]
  have p : -(i : Int) + -(j : Int) = -((i + j : Nat) : Int) := by omega
  rw [m, p, near_k _ _ h, fl_eq, e3]
  rfl
theorem fl_int {n : Int} (h : n.natAbs < 2 ^ 53) : (double.read (fl n)).toInt .zero = some n := by
  obtain ⟨k, hk⟩ := can_form (decide (n < 0)) h
  rw [fl_read h, hk]
  unfold Datum.toInt Datum.integral
  have e1 : (-(k : Int)).toNat = 0 := by omega
  have e2 : (- -(k : Int)).toNat = k := by omega
  have c : Toward.zero.cut (decide (n < 0)) (n.natAbs * 2 ^ k) k = n.natAbs := by
    by_cases h0 : n.natAbs = 0
    · rw [h0, Nat.zero_mul]
      unfold Toward.cut
      simp
    · unfold Toward.cut
      have hg : 1 <<< min k ((n.natAbs * 2 ^ k).log2 + 2) = 2 ^ k := by rw [log2xmul_pow h0, Nat.min_eq_left (by omega), Nat.one_shiftLeft]
      simp only [hg]
      rw [Nat.mul_div_cancel _ (Nat.pow_pos (by decide))]
      rfl
  simp only [e1, e2, Nat.shiftLeft_zero, c]
  have := sg_abs n
  unfold sg at this
  unfold signed
  rw [Nat.shiftLeft_zero, this]
end Go.Fl
end
section
namespace Go.Abs
variable [Gl]
inductive CC where
  | int (k : IntKind)
  | bool
  | str
  | sl (i : Nat)
  deriving DecidableEq, Inhabited
@[reducible] def CC.den (T : Nat → Type) : CC → Type
  | .int _ => Int
  | .bool => Bool
  | .str => ByteArray
  | .sl i => List (T i)
@[reducible] def tupT (T : Nat → Type) : List CC → Type
  | [] => Unit
  | c :: cs => c.den T × tupT T cs
class Ty where
  T : Nat → Type
  fl : Nat → List CC
  prj : ∀ i, T i → tupT T (fl i)
  mkt : ∀ i, tupT T (fl i) → T i
  mp : ∀ i a, mkt i (prj i a) = a
  pm : ∀ i x, prj i (mkt i x) = x
  dn : ∀ i j, CC.sl j ∈ fl i → j < i
  ps : ∀ i, 0 < (fl i).length
section
variable [Y : Ty]
abbrev TT (i : Nat) : Type := Y.T i
abbrev CC.dn (c : CC) : Type := c.den Y.T
abbrev tup (cs : List CC) : Type := tupT Y.T cs
abbrev esz (i : Nat) : Nat := (Y.fl i).length
def encC (rec : (j : Nat) → TT j → List C) : (c : CC) → c.dn → C
  | .int k, n => .lit (.int k n)
  | .bool, b => .lit (.bool b)
  | .str, s => .lit (.string s)
  | .sl j, l => .frz false (l.map (rec j))
def encT (rec : (j : Nat) → TT j → List C) : (cs : List CC) → tup cs → List C
  | [], _ => []
  | c :: cs, x => encC rec c x.1 :: encT rec cs x.2
def encN : Nat → (i : Nat) → TT i → List C
  | 0, _, _ => []
  | k + 1, i, a => encT (encN k) (Y.fl i) (Y.prj i a)
def enc (i : Nat) (a : TT i) : List C := encN (i + 1) i a
theorem encT_congr {r1 r2 : (j : Nat) → TT j → List C} : ∀ (cs : List CC) (x : tup cs), (∀ j, CC.sl j ∈ cs → r1 j = r2 j) → encT r1 cs x = encT r2 cs x := by
  intro cs
  induction cs with
  | nil => intro x _; rfl
  | cons c cs ih =>
    intro x h
    simp only [encT]
    rw [ih x.2 fun j hj => h j (List.mem_cons_of_mem _ hj)]
    congr 1
    cases c with
    | sl j => simp only [encC]; rw [h j (List.mem_cons_self ..)]
    | _ => rfl
theorem encN_enc : ∀ (k i : Nat), i < k → encN (Y := Y) k i = enc i := by
  intro k
  induction k using Nat.strongRecOn with
  | _ k ih =>
    intro i hi
    funext a
    cases k with
    | zero => omega
    | succ k =>
      simp only [enc, encN]
      refine encT_congr _ _ fun j hj => ?_
      have hji := Y.dn i j hj
      rw [ih k (by omega) j (by omega)]
      by_cases hk : i = k
      · subst hk; rw [ih i (by omega) j hji]
      · rw [ih i (by omega) j hji]
theorem enc_eq (i : Nat) (a : TT i) : enc i a = encT enc (Y.fl i) (Y.prj i a) := by
  show encT (encN i) (Y.fl i) (Y.prj i a) = _
  exact encT_congr _ _ fun j hj => encN_enc i j (Y.dn i j hj)
theorem encT_len {r : (j : Nat) → TT j → List C} : ∀ (cs : List CC) (x : tup cs), (encT r cs x).length = cs.length := by
  intro cs
  induction cs with
  | nil => intro x; rfl
  | cons c cs ih => intro x; simp only [encT, List.length_cons, ih]
theorem zbb (i : Nat) (a : TT i) : (enc i a).length = esz i := by rw [enc_eq, encT_len]
theorem encC_inj {r : (j : Nat) → TT j → List C} {c : CC} (hr : ∀ j, c = .sl j → ∀ a b, r j a = r j b → a = b) {a b : c.dn} (h : encC r c a = encC r c b) : a = b := by
  cases c with
  | int k => simpa [encC] using h
  | bool => simpa [encC] using h
  | str => simpa [encC] using h
  | sl j =>
    simp only [encC, C.frz.injEq, true_and] at h
    exact map_inj (fun {a b} => hr j rfl a b) h
theorem encT_inj {r : (j : Nat) → TT j → List C} : ∀ {cs : List CC}, (∀ j, CC.sl j ∈ cs → ∀ a b, r j a = r j b → a = b) → ∀ {x y : tup cs}, encT r cs x = encT r cs y → x = y := by
  intro cs
  induction cs with
  | nil => intro _ x y _; rfl
  | cons c cs ih =>
    intro hr x y h
    simp only [encT, List.cons.injEq] at h
    have h1 := encC_inj (fun j hj => hr j (by rw [← hj]; exact List.mem_cons_self ..)) h.1
    have h2 := ih (fun j hj => hr j (List.mem_cons_of_mem _ hj)) h.2
    obtain ⟨x1, x2⟩ := x
    obtain ⟨y1, y2⟩ := y
    dsimp only at h1 h2
    rw [h1, h2]
theorem enc_inj : ∀ (i : Nat) (a b : TT i), enc i a = enc i b → a = b := by
  intro i
  induction i using Nat.strongRecOn with
  | _ i ih =>
    intro a b h
    rw [enc_eq, enc_eq] at h
    have := encT_inj (fun j hj => ih j (Y.dn i j hj)) h
    rw [← Y.mp i a, ← Y.mp i b, this]
inductive TC where
  | any
  | d (x : D)
  | b (e : Bool)
  | sl (i : Nat) (l : List (TT i))
  | own (i b v n : Nat)
  | fp (i : Nat) (a : TT i) (off : Nat)
  | op (i b v n : Nat) (k : Int) (a : TT i) (off : Nat)
  | ap (b off len sz : Nat) (k : Int)
  | fl (n : Int)
  | cx (x y : Int)
def TC.er : TC → D
  | .any => .any
  | .d x => x
  | .b e => B e
  | .sl i l => .c (.frz false (l.map (enc i)))
  | .own i c _ n => OS (esz i) c n
  | .fp i a off => .c (.fptr (enc i a) off)
  | .op i c _ n k _ off => .ptr c (k.toNat * esz i + off) (n * esz i)
  | .ap c off _ sz k => .ptr c (off + k.toNat * 1) sz
  | .fl n => .c (.lit (.float .f64 (Fl.fl n)))
  | .cx x y => .c (.lit (.complex .f64 (Fl.fl x) (Fl.fl y)))
def RC (x : TC) (d : D) : Prop := x = .any ∨ d = x.er
inductive TV where
  | c (x : TC)
  | agg (xs : List TC)
  | tup (xs : List (Bool × List TC))
inductive All2 {α β : Type} (R : α → β → Prop) : List α → List β → Prop where
  | nil : All2 R [] []
  | cons {a : α} {b : β} {l : List α} {m : List β} (h : R a b) (r : All2 R l m) : All2 R (a :: l) (b :: m)
def RE (p : Bool × List TC) (d : D) : Prop :=
  match p with
  | (true, xs) => ∃ ds, d = .agg ds ∧ All2 RC xs ds
  | (false, xs) => ∃ x, xs = [x] ∧ RC x d
def RT : TV → D → Prop
  | .c x, d => RC x d
  | .agg xs, d => ∃ ds, d = .agg ds ∧ All2 RC xs ds
  | .tup xs, d => ∃ ds, d = .tup ds ∧ All2 RE xs ds
inductive RV where
  | v (x : TV)
  | g (c want : Bool) (p : Nat) (x : TV)
def RR : RV → D → Prop
  | .v x, d => RT x d
  | .g c want _ x, d => if c = want then RT x d else d = .tup []
inductive TB where
  | cells (w : Nat) (cs : List (Nat × TC))
  | row (i : Nat) (l : List (TT i)) (lv cv : Nat)
  | mp (j : Nat) (st : Bool) (l : List (Int × TT j)) (v : Nat)
def mpE (j : Nat) (st : Bool) (a : TT j) : D := if st then .agg ((enc j a).map .c) else .c ((enc j a).headD (.lit undef))
def TB.er : TB → Ob
  | .cells _ cs => .cells (cs.map fun p => p.2.er)
  | .row i l _ _ => OB (enc i) l
  | .mp j st l _ => MB (mpE j st) l
def RB (blk : TB) (ob : Ob) : Prop := ob = blk.er
abbrev TH := List TB
abbrev TA := List (Nat × RV)
def lkT (t : Nat) : TA → Option RV
  | [] => none
  | (s, x) :: al => match Nat.beq s t with | true => some x | false => lkT t al
def lkP (t : Nat) : TA → Option (RV × Nat)
  | [] => none
  | (s, x) :: al => match Nat.beq s t with | true => some (x, al.length) | false => lkP t al
def expC : (c : CC) → c.dn → TC
  | .int k, n => .d (.c (.lit (.int k n)))
  | .bool, b => .b b
  | .str, s => .d (.c (.lit (.string s)))
  | .sl j, l => .sl j l
def expT : (cs : List CC) → tup cs → List TC
  | [], _ => []
  | c :: cs, x => expC c x.1 :: expT cs x.2
def exp (i : Nat) (a : TT i) : List TC := expT (Y.fl i) (Y.prj i a)
theorem expC_er (c : CC) (a : c.dn) : (expC c a).er = .c (encC enc c a) := by cases c <;> rfl
theorem expT_er : ∀ (cs : List CC) (x : tup cs), (expT cs x).map TC.er = (encT enc cs x).map .c := by
  intro cs
  induction cs with
  | nil => intro x; rfl
  | cons c cs ih => intro x; simp only [expT, encT, List.map_cons, expC_er, ih]
theorem exp_er (i : Nat) (a : TT i) : (exp i a).map TC.er = (enc i a).map .c := by rw [exp, expT_er, enc_eq]
theorem expC_ne (c : CC) (a : c.dn) : expC c a ≠ .any := by cases c <;> simp [expC]
theorem expT_ne : ∀ (cs : List CC) (x : tup cs), ∀ y ∈ expT cs x, y ≠ .any := by
  intro cs
  induction cs with
  | nil => intro x y h; simp [expT] at h
  | cons c cs ih =>
    intro x y h
    simp only [expT, List.mem_cons] at h
    rcases h with rfl | h
    · exact expC_ne c x.1
    · exact ih x.2 y h
theorem All2.er : ∀ (xs : List TC), All2 RC xs (xs.map TC.er) := by
  intro xs
  induction xs with
  | nil => exact .nil
  | cons x xs ih => exact .cons (.inr rfl) ih
theorem All2.eq : ∀ {xs : List TC} {ds : List D}, All2 RC xs ds → (∀ y ∈ xs, y ≠ .any) → ds = xs.map TC.er := by
  intro xs ds h
  induction h with
  | nil => intro _; rfl
  | cons h r ih =>
    intro hn
    rcases h with h | h
    · exact absurd h (hn _ (List.mem_cons_self ..))
    · rw [h, ih fun y hy => hn y (List.mem_cons_of_mem _ hy)]; rfl
theorem All2.len {α β : Type} {R : α → β → Prop} {l : List α} {m : List β} (h : All2 R l m) : l.length = m.length := by
  induction h with
  | nil => rfl
  | cons _ _ ih => simp [ih]
theorem All2.get {α β : Type} {R : α → β → Prop} {l : List α} {m : List β} (h : All2 R l m) : ∀ (i : Nat) a, l[i]? = some a → ∃ b, m[i]? = some b ∧ R a b := by
  induction h with
  | nil => intro i a h; simp at h
  | cons h _ ih =>
    intro i a hi
    cases i with
    | zero => simp only [List.getElem?_cons_zero, Option.some.injEq] at hi; subst hi; exact ⟨_, rfl, h⟩
    | succ i => simp only [List.getElem?_cons_succ] at hi ⊢; exact ih i a hi
theorem All2.get' {α β : Type} {R : α → β → Prop} {l : List α} {m : List β} (h : All2 R l m) : ∀ (i : Nat) b, m[i]? = some b → ∃ a, l[i]? = some a ∧ R a b := by
  induction h with
  | nil => intro i a h; simp at h
  | cons h _ ih =>
    intro i a hi
    cases i with
    | zero => simp only [List.getElem?_cons_zero, Option.some.injEq] at hi; subst hi; exact ⟨_, rfl, h⟩
    | succ i => simp only [List.getElem?_cons_succ] at hi ⊢; exact ih i a hi
theorem All2.app {α β : Type} {R : α → β → Prop} {l l' : List α} {m m' : List β} (h : All2 R l m) (h' : All2 R l' m') : All2 R (l ++ l') (m ++ m') := by
  induction h with
  | nil => exact h'
  | cons h _ ih => exact .cons h ih
theorem All2.take {α β : Type} {R : α → β → Prop} {l : List α} {m : List β} (h : All2 R l m) : ∀ n : Nat, All2 R (l.take n) (m.take n) := by
  induction h with
  | nil => intro n; simp; exact .nil
  | cons h _ ih =>
    intro n
    cases n with
    | zero => exact .nil
    | succ n => exact .cons h (ih n)
theorem All2.drop {α β : Type} {R : α → β → Prop} {l : List α} {m : List β} (h : All2 R l m) : ∀ n : Nat, All2 R (l.drop n) (m.drop n) := by
  induction h with
  | nil => intro n; simp; exact .nil
  | cons h r ih =>
    intro n
    cases n with
    | zero => exact .cons h r
    | succ n => exact ih n
def castL {i j : Nat} (l : List (TT j)) : Option (List (TT i)) := match decEq j i with | .isTrue h => some (h ▸ l) | .isFalse _ => none
theorem zch {i j : Nat} {l : List (TT j)} {m : List (TT i)} (h : castL l = some m) : ∃ e : j = i, m = e ▸ l := by
  unfold castL at h
  split at h
  · rename_i e _; simp only [Option.some.injEq] at h; exact ⟨e, h.symm⟩
  · simp at h
def rdC : (c : CC) → TC → Option c.dn
  | .int k, .d (.c (.lit (.int k' n))) => match decEq k' k with | .isTrue _ => some n | .isFalse _ => none
  | .bool, .b e => some e
  | .bool, .d (.c (.lit (.bool e))) => some e
  | .str, .d (.c (.lit (.string s))) => some s
  | .sl _, .sl _ l => castL l
  | .sl _, .d (.c (.lit (.slice none 0 0))) => some []
  | _, _ => none
def rdT : (cs : List CC) → List TC → Option (tup cs)
  | [], [] => some ()
  | c :: cs, x :: xs => match rdC c x, rdT cs xs with
    | some a, some b => some (a, b)
    | _, _ => none
  | _, _ => none
theorem rdC_ok {c : CC} {x : TC} {a : c.dn} (h : rdC c x = some a) : x ≠ .any ∧ nrm1 x.er = .c (encC enc c a) := by
  unfold rdC at h
  split at h
  · split at h
    · rename_i e _; subst e; simp only [Option.some.injEq] at h; subst h; exact ⟨by simp, rfl⟩
    · simp at h
  · simp only [Option.some.injEq] at h; subst h; exact ⟨by simp, rfl⟩
  · simp only [Option.some.injEq] at h; subst h; exact ⟨by simp, rfl⟩
  · simp only [Option.some.injEq] at h; subst h; exact ⟨by simp, rfl⟩
  · obtain ⟨rfl, rfl⟩ := zch h; exact ⟨by simp, rfl⟩
  · simp only [Option.some.injEq] at h; subst h; exact ⟨by simp, rfl⟩
  · simp at h
theorem rdC_ex {c : CC} {x : TC} {a : c.dn} (h : rdC c x = some a) : x = .d (.c (.lit (.slice none 0 0))) ∨ x.er = .c (encC enc c a) := by
  unfold rdC at h
  split at h
  · split at h
    · rename_i e _; subst e; simp only [Option.some.injEq] at h; subst h; exact .inr rfl
    · simp at h
  · simp only [Option.some.injEq] at h; subst h; exact .inr rfl
  · simp only [Option.some.injEq] at h; subst h; exact .inr rfl
  · simp only [Option.some.injEq] at h; subst h; exact .inr rfl
  · obtain ⟨rfl, rfl⟩ := zch h; exact .inr rfl
  · exact .inl rfl
  · simp at h
theorem rdT_ok : ∀ {cs : List CC} {xs : List TC} {a : tup cs}, rdT cs xs = some a → (∀ y ∈ xs, y ≠ .any) ∧ (xs.map TC.er).map nrm1 = (encT enc cs a).map .c := by
  intro cs
  induction cs with
  | nil =>
    intro xs a h
    cases xs with
    | nil => exact ⟨by simp, rfl⟩
    | cons x xs => simp [rdT] at h
  | cons c cs ih =>
    intro xs a h
    cases xs with
    | nil => simp [rdT] at h
    | cons x xs =>
      simp only [rdT] at h
      split at h
      · rename_i a1 a2 h1 h2
        simp only [Option.some.injEq] at h
        subst h
        obtain ⟨h3, h4⟩ := rdC_ok h1
        obtain ⟨h5, h6⟩ := ih h2
        refine ⟨fun y hy => ?_, ?_⟩
        · rcases List.mem_cons.1 hy with rfl | hy
          · exact h3
          · exact h5 y hy
        · simp only [List.map_cons, encT, h4, h6]
      · simp at h
inductive VCd where
  | c (x : CC)
  | st (i : Nat)
  | fp (i : Nat)
  | k (g : Nat)
@[reducible] def VCd.dn : VCd → Type
  | .c x => x.dn
  | .st i => TT i
  | .fp i => TT i
  | .k _ => Unit
def VCd.enc : (c : VCd) → c.dn → D
  | .c x, a => .c (encC Go.Abs.enc x a)
  | .st i, a => ST (Go.Abs.enc i a)
  | .fp i, a => .c (.fptr (Go.Abs.enc i a) 0)
  | .k x, _ => .c (.fn (.func x) [] [])
def VCd.tv : (c : VCd) → c.dn → TV
  | .c x, a => .c (expC x a)
  | .st i, a => .agg (exp i a)
  | .fp i, a => .c (.fp i a 0)
  | .k x, _ => .c (.d (.c (.fn (.func x) [] [])))
theorem VCd.tv_ok (c : VCd) (a : c.dn) : RT (c.tv a) (c.enc a) := by
  cases c with
  | c x => exact .inr (expC_er x a).symm
  | st i => exact ⟨_, rfl, by rw [← exp_er]; exact All2.er _⟩
  | fp i => exact .inr rfl
  | k x => exact .inr rfl
@[reducible] def tupV : List VCd → Type
  | [] => Unit
  | c :: cs => c.dn × tupV cs
def encV : (cs : List VCd) → tupV cs → List D
  | [], _ => []
  | c :: cs, x => c.enc x.1 :: encV cs x.2
def tvV : (cs : List VCd) → tupV cs → List TV
  | [], _ => []
  | c :: cs, x => c.tv x.1 :: tvV cs x.2
@[reducible] def outV : List VCd → Type
  | [] => Unit
  | [c] => c.dn
  | c :: d :: cs => c.dn × outV (d :: cs)
def rdFp (i : Nat) : TV → Option (TT i)
  | .c (.fp j a 0) => match decEq j i with | .isTrue h => some (h ▸ a) | .isFalse _ => none
  | _ => none
def rdFn (g : Nat) : TV → Option Unit
  | .c (.d (.c (.fn (.func g') [] []))) => match Nat.beq g' g with | true => some () | false => none
  | _ => none
def rdCV (x : CC) : TV → Option x.dn
  | .c y => rdC x y
  | _ => none
def rdSt (i : Nat) : TV → Option (TT i)
  | .agg xs => match rdT (Y.fl i) xs with | some x => some (Y.mkt i x) | none => none
  | _ => none
def rdV : (c : VCd) → TV → Option c.dn
  | .c x, v => rdCV x v
  | .st i, v => rdSt i v
  | .fp i, v => rdFp i v
  | .k g, v => rdFn g v
end
end Go.Abs
end
section
namespace Go.Abs
noncomputable section
variable [Gl] [Y : Ty]
structure TSp where
  ins : List VCd
  out : List VCd
  f : tupV ins → Option (outV out)
abbrev TSs := List (Nat × TSp)
def tsk (g : Nat) : TSs → Option TSp
  | [] => none
  | (s, f) :: l => match Nat.beq s g with | true => some f | false => tsk g l
def rdVs : (cs : List VCd) → List TV → Option (tupV cs)
  | [], [] => some ()
  | c :: cs, x :: xs => match rdV c x, rdVs cs xs with
    | some a, some b => some (a, b)
    | _, _ => none
  | _, _ => none
def VCd.te : (c : VCd) → c.dn → Bool × List TC
  | .c x, a => (false, [expC x a])
  | .st i, a => (true, exp i a)
  | .fp i, a => (false, [.fp i a 0])
  | .k x, _ => (false, [.d (.c (.fn (.func x) [] []))])
def outL : (cs : List VCd) → outV cs → List (Bool × List TC)
  | [], _ => []
  | [c], x => [c.te x]
  | c :: d :: cs, x => c.te x.1 :: outL (d :: cs) x.2
def outT : (cs : List VCd) → outV cs → TV
  | [c], x => c.tv x
  | cs, x => .tup (outL cs x)
def ofD : D → TV
  | .agg ds => .agg (ds.map .d)
  | d => .c (.d d)
abbrev Kn := List (Nat × Bool)
def knk (p : Nat) : Kn → Option Bool
  | [] => none
  | (q, b) :: l => match Nat.beq q p with | true => some b | false => knk p l
def opn (kn : Kn) (cur : Option (Nat × Bool)) (p : Nat) (w : Bool) : Bool :=
  match knk p kn with
  | some b => b == w
  | none => match cur with
    | some (q, w') => Nat.beq q p && w' == w
    | none => false
def rdO (al : TA) (kn : Kn) (cur : Option (Nat × Bool)) : Opd → Option TV
  | .k d => match d.low 0 with | true => some (ofD d) | false => none
  | .t n => match lkP n al with
    | some (.v x, _) => some x
    | some (.g _ w p x, _) => match opn kn cur p w with | true => some x | false => none
    | none => none
def rdOs (rd : Opd → Option TV) : List Opd → Option (List TV)
  | [] => some []
  | x :: xs => match rd x, rdOs rd xs with
    | some a, some b => some (a :: b)
    | _, _ => none
def TC.scalar : TC → Bool
  | .any => false
  | .d x => x.scalar
  | _ => true
def cellsT : TV → Option (List TC)
  | .c x => match x.scalar with | true => some [x] | false => none
  | .agg xs => match xs.all TC.scalar with | true => some xs | false => none
  | .tup _ => none
def putT {α : Type} (cs : List α) (off : Nat) (xs : List α) : List α := cs.take off ++ xs ++ cs.drop (off + xs.length)
def fillT (rd : Opd → Option TV) : List TC → List (Nat × Nat × Opd) → Option (List TC)
  | cs, [] => some cs
  | cs, (o, n, x) :: rest =>
    match rd x with
    | some v => match cellsT v with
      | some xs => match Nat.beq xs.length n && Nat.ble (o + n) cs.length with
        | true => fillT rd (putT cs o xs) rest
        | false => none
      | none => none
    | none => none
def getT (n : Option Nat) (cs : List TC) (off : Nat) : Option TV :=
  match n with
  | none => match cs[off]? with | some x => some (.c x) | none => none
  | some n => match Nat.ble (off + n) cs.length with | true => some (.agg ((cs.drop off).take n)) | false => none
def noNil : List TC → Bool
  | [] => true
  | .d (.c (.lit (.slice none 0 0))) :: _ => false
  | _ :: xs => noNil xs
def isAny : TC → Bool
  | .any => true
  | _ => false
def noAny : List TC → Bool
  | [] => true
  | x :: xs => !(isAny x) && noAny xs
def mkT (i : Nat) (cs : List TC) : Option (TT i) := match noNil cs, rdT (Y.fl i) cs with | true, some x => some (Y.mkt i x) | _, _ => none
def mkRow (i : Nat) : Nat → List TC → Option (List (TT i))
  | 0, [] => some []
  | 0, _ :: _ => none
  | k + 1, cs => match mkT i (cs.take (esz i)), mkRow i k (cs.drop (esz i)) with
    | some a, some l => some (a :: l)
    | _, _ => none
def valT : TV → Option Value
  | .c (.d (.c (.lit v))) => some v
  | .c (.b e) => some (.bool e)
  | _ => none
def ofVT : Value → TV
  | .bool e => .c (.b e)
  | v => .c (.d (.c (.lit v)))
inductive BX where
  | t
  | f
  | e (x : Bool)
def bxOf : TV → Option BX
  | .c (.b e) => some (.e e)
  | .c (.d (.c (.lit (.bool true)))) => some .t
  | .c (.d (.c (.lit (.bool false)))) => some .f
  | _ => none
def BX.val : BX → Bool
  | .t => true
  | .f => false
  | .e x => x
def pk (c : Bool) : BX → BX → Bool
  | .t, .e y => c || y
  | .e x, .f => c && x
  | x, y => bif c then x.val else y.val
def ints (k : IntKind) : List TC → Option (List Int)
  | [] => some []
  | x :: xs => match rdC (.int k) x, ints k xs with
    | some a, some l => some (a :: l)
    | _, _ => none
def valC : TC → Option Value
  | .d (.c (.lit v)) => some v
  | .b e => some (.bool e)
  | _ => none
def valCs : List TC → Option (List Value)
  | [] => some []
  | x :: xs => match valC x, valCs xs with
    | some v, some vs => some (v :: vs)
    | _, _ => none
def eqFs (P : Program) (xs ys : Array Value) : List Field → Option Bool
  | [] => some true
  | f :: fs => match f.name != "_", zar P (part f.type xs f.offset), zar P (part f.type ys f.offset), P.underlying f.type, eqFs P xs ys fs with
    | true, some (.int k a), some (.int k' b), some (.int _), some q => match decEq k k' with | .isTrue _ => some (a == b && q) | .isFalse _ => none
    | true, some (.bool a), some (.bool b), some .bool, some q => some (a == b && q)
    | _, _, _, _, _ => none
def eqT (P : Program) (t : TypeId) (xs ys : List TC) : Option Bool :=
  match valCs xs, valCs ys, P.underlying t, P.eqGuardType P.depth t, P.stoodInHeld t with
  | some vs, some ws, some (.struct fs), false, false => eqFs P vs.toArray ws.toArray fs.toList
  | _, _, _, _, _ => none
def fsum? (a b : Int) : Option Int := if a.natAbs < 2 ^ 52 ∧ b.natAbs < 2 ^ 52 then some (a + b) else none
def fdif? (a b : Int) : Option Int := if a.natAbs < 2 ^ 52 ∧ b.natAbs < 2 ^ 52 then some (a - b) else none
def fmul? (a n : Int) : Option Int := if 0 ≤ a ∧ a ≤ 1048576 ∧ 0 ≤ n ∧ n ≤ 1048576 then some (a * n) else none
def fint? (a : Int) : Option Int := if a.natAbs < 2 ^ 53 then some a else none
variable {R : Type}
abbrev KO (R : Type) := TV → TH → Bool → List Nat → Option R
def valO (val : Operand → Option TV) (x : Operand) : Option Value := match val x with | some v => valT v | none => none
def genV (P : Program) (op : Op) (ty : TypeId) (val : Operand → Option TV) : Option Value :=
  if op.operands.toList.all (fun x => (valO val x).isSome) then
    match zar P (execOp (fun x => (valO val x).getD undef) { dst := none, op := op, type := ty, pos := "", after := #[], guard := none }) with
    | some (.value v) => some v
    | _ => none
  else none
def isFlat : Value → Bool
  | .agg _ | .tuple _ => false
  | _ => true
abbrev valR (rd : Opd → Option TV) (x : Operand) : Option TV := match opd x with | some o => rd o | none => none
def genT (P : Program) (op : Op) (ty : TypeId) (rd : Opd → Option TV) (σ : TH) (k : KO R) : Option R :=
  match op with
  | .binOp o t x y _ =>
    match valR rd x, valR rd y with
    | some (.c (.d (.c (.lit (.int ka a))))), some (.c (.d (.c (.lit (.int kb b))))) =>
      match o with
      | .quo => match decEq ka kb with
        | .isTrue _ => (quo? ka a b).bind fun v => k (.c (.d (.c (.lit (.int ka v))))) σ false []
        | .isFalse _ => none
      | .rem => match decEq ka kb with
        | .isTrue _ => (rem? a b).bind fun v => k (.c (.d (.c (.lit (.int ka v))))) σ false []
        | .isFalse _ => none
      | _ => match binV P o t x y (.int ka a) (.int kb b) with
        | some v => match isFlat v with | true => k (ofVT v) σ false [] | false => none
        | none => none
    | some (.agg xs), some (.agg ys) =>
      match eqT P t xs ys with
      | some r => match o with
        | .eql => k (.c (.b r)) σ false []
        | .neq => k (.c (.b (!r))) σ false []
        | _ => none
      | none => none
    | some (.c (.cx a b)), some (.c (.cx c d)) =>
      match o with
      | .add => (fsum? a c).bind fun u => (fsum? b d).bind fun v => k (.c (.cx u v)) σ false []
      | .sub => (fdif? a c).bind fun u => (fdif? b d).bind fun v => k (.c (.cx u v)) σ false []
      | .mul => match d with
        | .ofNat 0 => (fmul? a c).bind fun u => (fmul? b c).bind fun v => k (.c (.cx u v)) σ false []
        | _ => none
      | _ => none
    | some u, some v =>
      match valT u, valT v with
      | some (.bool a), some (.bool b) =>
        match o, P.underlying t with
        | .eql, some .bool => k (.c (.b (a == b))) σ false []
        | .neq, some .bool => k (.c (.b (!(a == b)))) σ false []
        | _, _ => none
      | some a, some b => match binV P o t x y a b with
        | some v => match isFlat v with | true => k (ofVT v) σ false [] | false => none
        | none => none
      | _, _ => none
    | _, _ => none
  | .unOp o _ x =>
    match valR rd x with
    | some u => match o, valT u with
      | .not, some (.bool e) => k (.c (.b (!e))) σ false []
      | o, some a => match zar P (Op.unary o a) with
        | some v => match isFlat v with | true => k (ofVT v) σ false [] | false => none
        | none => none
      | _, _ => none
    | none => none
  | .convert t t' x =>
    match valR rd x with
    | some (.c (.d (.c (.lit (.int ka a))))) =>
      match P.underlying t' with
      | some (.float .f64) => match (P.underlying t).isSome with | true => k (.c (.fl a)) σ false [] | false => none
      | _ => match zar P (convert t t' (.int ka a)) with
        | some v => match isFlat v with | true => k (ofVT v) σ false [] | false => none
        | none => none
    | some (.c (.fl a)) => match P.underlying t', (P.underlying t).isSome with
      | some (.int .i64), true => (fint? a).bind fun a => k (.c (.d (.c (.lit (.int .i64 a))))) σ false []
      | _, _ => none
    | some u => match valT u with
      | some a => match zar P (convert t t' a) with
        | some v => match isFlat v with | true => k (ofVT v) σ false [] | false => none
        | none => none
      | none => none
    | none => none
  | .call c =>
    match c.callee, c.args.toList with
    | .builtin .min, _ => match genV P (.call c) ty (valR rd) with
      | some v => match isFlat v with | true => k (ofVT v) σ false [] | false => none
      | none => none
    | .builtin .max, _ => match genV P (.call c) ty (valR rd) with
      | some v => match isFlat v with | true => k (ofVT v) σ false [] | false => none
      | none => none
    | .builtin .complex, [x, y] => match valR rd x, valR rd y with
      | some (.c (.fl a)), some (.c (.fl b)) => k (.c (.cx a b)) σ false []
      | some (.c (.fl a)), some (.c (.d (.c (.lit (.float .f64 b))))) => match Nat.beq b (Fl.fl 0) with
        | true => k (.c (.cx a 0)) σ false []
        | false => none
      | _, _ => none
    | .builtin .real, [x] => match valR rd x with
      | some (.c (.cx a _)) => k (.c (.fl a)) σ false []
      | _ => none
    | .builtin .imag, [x] => match valR rd x with
      | some (.c (.cx _ b)) => k (.c (.fl b)) σ false []
      | _ => none
    | _, _ => none
  | _ => none
def frT (σ : TH) : TC → TC
  | .own i b v n => match σ[b]? with
    | some (.row j l lv _) => match Nat.beq lv v with | true => .sl j l | false => .own i b v n
    | _ => .own i b v n
  | x => x
def frTV (σ : TH) : TV → TV
  | .c x => .c (frT σ x)
  | .agg xs => .agg (xs.map (frT σ))
  | x => x
def isOwn : TC → Bool
  | .own .. => true
  | _ => false
def hasOwn : TV → Bool
  | .c x => isOwn x
  | .agg xs => xs.any isOwn
  | _ => false
def CC.gr : CC → Bool
  | .sl _ => false
  | _ => true
def VCd.gr : VCd → Bool
  | .c x => x.gr
  | .st i => (Y.fl i).all CC.gr
  | _ => false
def srcT (i : Nat) (σ : TH) : TV → Option (List (TT i))
  | .c (.sl _ l) => castL l
  | .c (.d (.c (.lit (.slice none 0 0)))) => some []
  | .c (.own _ b v _) => match σ[b]? with
    | some (.row _ l lv _) => match Nat.beq lv v with | true => castL l | false => none
    | _ => none
  | _ => none
def intT : TV → Option Int
  | .c (.d (.c (.lit (.int .i64 n)))) => some n
  | _ => none
def teT : TV → Bool × List TC
  | .c x => (false, [x])
  | .agg xs => (true, xs)
  | .tup _ => (false, [])
def mpV (j : Nat) (st : Bool) (a : TT j) : TV := match st with | true => .agg (exp j a) | false => .c ((exp j a).headD (.d (.c (.lit undef))))
def mkM (j : Nat) (st : Bool) (v : TV) : Option (TT j) := match st, v with
  | true, .agg xs => mkT j xs
  | false, .c x => mkT j [x]
  | _, _ => none
def lkRes (ok : Bool) (v : TV) (e : Bool) : TV := match ok with
  | true => .tup [teT v, (false, [.d (.c (.lit (.bool e)))])]
  | false => v
def tOp (P : Program) (S : TSs) (hint : Nat) (o : AOp) (rd : Opd → Option TV) (σ : TH) (k : KO R) : Option R :=
  match o with
  | .mov x => match rd x with | some v => k v σ false [] | none => none
  | .gen op ty => genT P op ty rd σ k
  | .box x => match rd x with
    | some v => match cellsT v with
      | some cs => k (.c (.d (.ptr σ.length 0 cs.length))) (σ ++ [.cells 0 (cs.map fun c => (0, c))]) false []
      | none => none
    | none => none
  | .alloc z => match D.low.lows 0 z with
    | true => k (.c (.d (.ptr σ.length 0 z.length))) (σ ++ [.cells 0 (z.map fun c => (0, .d c))]) false []
    | false => none
  | .build z ps => match D.low.lows 0 z, fillT rd (z.map .d) ps with
    | true, some cs => k (.agg cs) σ false []
    | _, _ => none
  | .bslice es len z ps => match Nat.beq hint 1000001 with
    | true => match D.low.lows 0 z, fillT rd ((zeros len z).map .d) ps with
      | true, some cs => match noAny cs with
        | true => k (.c (.d (.sl σ.length 0 len es cs.length))) (σ ++ [.cells 0 (cs.map fun c => (0, c))]) false []
        | false => none
      | _, _ => none
    | false => match Nat.beq es (esz hint) && D.low.lows 0 z, fillT rd ((zeros len z).map .d) ps with
    | true, some cs => match mkRow hint len cs with
      | some l => k (.c (.own hint σ.length 0 len)) (σ ++ [.row hint l 0 0]) false []
      | none => none
    | _, _ => none
  | .load n a => match rd a with
    | some (.c (.d (.ptr b off sz))) => match σ[b]? with
      | some (.cells _ cs) => match Nat.beq cs.length sz, getT n (cs.map Prod.snd) off with
        | true, some v => k v σ false []
        | _, _ => none
      | _ => none
    | some (.c (.fp i x off)) => match getT n (exp i x) off with
      | some v => k v σ false []
      | none => none
    | some (.c (.op i b v _ _ x off)) => match σ[b]? with
      | some (.row _ _ _ cv) => match Nat.beq cv v, getT n (exp i x) off with
        | true, some v => k v σ false []
        | _, _ => none
      | _ => none
    | some (.c (.ap b off len sz i)) => match n, σ[b]? with
      | none, some (.cells _ cs) => match Nat.beq cs.length sz && Nat.ble (off + len) sz, ints .i64 (((cs.map Prod.snd).drop off).take len) with
        | true, some l => (at? l i).bind fun a => k (.c (.d (.c (.lit (.int .i64 a))))) σ false []
        | _, _ => none
      | _, _ => none
    | _ => none
  | .store n a x => match rd a, rd x with
    | some (.c (.d (.ptr b off sz))), some v => match σ[b]?, cellsT v with
      | some (.cells w cs), some xs => match Nat.beq cs.length sz && (Nat.beq xs.length n && Nat.ble (off + n) sz) with
        | true => k (.tup []) (σ.set b (.cells (w + 1) (putT cs off (xs.map fun x => (w + 1, x))))) false [b]
        | false => none
      | _, _ => none
    | some (.c (.op i b v _ q a off)), some x => match σ[b]?, cellsT x with
      | some (.row j l lv cv), some xs => match Nat.beq cv v && (Nat.beq xs.length n && Nat.ble (off + n) (esz i)), mkT i (putT (exp i a) off xs), castL (i := i) l with
        | true, some a', some l => k (.tup []) (σ.set b (.row i (l.set q.toNat a') lv (cv + 1))) false [b]
        | _, _, _ => none
      | _, _ => none
    | _, _ => none
  | .nilck x => match rd x with
    | some (.c (.d (.ptr b off sz))) => k (.c (.d (.ptr b off sz))) σ false []
    | some (.c (.d (.c (.fn (.func f) u v)))) => k (.c (.d (.c (.fn (.func f) u v)))) σ false []
    | some (.c (.d (.fn (.func f) u v))) => k (.c (.d (.fn (.func f) u v))) σ false []
    | some (.c (.fp i a off)) => k (.c (.fp i a off)) σ false []
    | some (.c (.op i b v n q a off)) => k (.c (.op i b v n q a off)) σ false []
    | _ => none
  | .isnil kd neg x => match rd x with
    | some (.c (.d x)) => match isNil kd x with
      | some true => k (.c (.d (.c (.lit (.bool (!neg)))))) σ false []
      | some false => k (.c (.d (.c (.lit (.bool neg))))) σ false []
      | none => none
    | some (.c (.fp ..)) | some (.c (.op ..)) => match kd with
      | 0 => k (.c (.d (.c (.lit (.bool neg))))) σ false []
      | _ => none
    | _ => none
  | .fld off x => match rd x with
    | some (.c (.d (.ptr b o sz))) => k (.c (.d (.ptr b (o + off) sz))) σ false []
    | some (.c (.fp i a o)) => k (.c (.fp i a (o + off))) σ false []
    | some (.c (.op i b v n q a o)) => k (.c (.op i b v n q a (o + off))) σ false []
    | _ => none
  | .idx es none x i => match rd x, rd i with
    | some (.c (.sl j l)), some iv => match intT iv, Nat.beq es (esz j) with
      | some q, true => (at? l q).bind fun a => k (.c (.fp j a 0)) σ false []
      | _, _ => none
    | some (.c (.own j b v n)), some iv => match intT iv, Nat.beq es (esz j), σ[b]? with
      | some q, true, some (.row _ l lv cv) => match Nat.beq lv v, castL (i := j) l with
        | true, some l => (at? l q).bind fun a => k (.c (.op j b cv n q a 0)) σ false []
        | _, _ => none
      | _, _, _ => none
    | some (.c (.d (.sl b off len es' sz))), some iv => match intT iv, σ[b]? with
      | some q, some (.cells _ cs) => match Nat.beq cs.length sz && Nat.beq es es', inR q len with
        | true, some j => k (.c (.d (.ptr b (off + j * es) sz))) σ false []
        | _, _ => none
      | _, _ => none
    | _, _ => none
  | .idx es (some len) x (.k i) => match rd x, intT (ofD i) with
    | some (.c (.d (.ptr b off sz))), some q => match inR q len with
      | some j => k (.c (.d (.ptr b (off + j * es) sz))) σ false []
      | none => none
    | _, _ => none
  | .idx es (some len) x (.t i) => match rd x, rd (.t i) with
    | some (.c (.d (.ptr b off sz))), some iv => match intT iv, Nat.beq es 1, σ[b]? with
      | some q, true, some (.cells _ cs) => match Nat.beq cs.length sz && Nat.ble (off + len) sz, ints .i64 (((cs.map Prod.snd).drop off).take len) with
        | true, some l => (at? l q).bind fun _ => k (.c (.ap b off len sz q)) σ false []
        | _, _ => none
      | _, _, _ => none
    | _, _ => none
  | .slc es x lo hi => match rd x with
    | some (.c (.sl j l)) =>
      match Nat.beq es (esz j), (match lo with | none => some (.c (.d (I 0))) | some o => rd o), (match hi with | none => some (.c (.d (I l.length))) | some o => rd o) with
      | true, some u, some v => match intT u, intT v with
        | some u, some v => (slice? l u v).bind fun r => k (.c (.sl j r)) σ false []
        | _, _ => none
      | _, _, _ => none
    | some (.c (.own j b v n)) => match Nat.beq es (esz j), σ[b]? with
      | true, some (.row _ l lv _) => match Nat.beq lv v, (match lo with | none => some (.c (.d (I 0))) | some o => rd o), (match hi with | none => some (.c (.d (I l.length))) | some o => rd o) with
        | true, some u, some v => match intT u, intT v with
          | some u, some v => (slice? l u v).bind fun _ => k (.c .any) σ false []
          | _, _ => none
        | _, _, _ => none
      | _, _ => none
    | _ => none
  | .mkmap => k (.c (.d (.mp σ.length))) (σ ++ [.mp (hint / 2) (Nat.beq (hint % 2) 1) [] 0]) false []
  | .lookup kind zero m kx ok => match kind, rd m, rd kx, zero.low 0 with
    | .int _, some (.c (.d (.mp b))), some kv, true => match σ[b]?, intT kv with
      | some (.mp j st l _), some x => oel (mget l x) (k (lkRes ok (ofD zero) false) σ false []) (fun a => k (lkRes ok (mpV j st a) true) σ false [])
      | _, _ => none
    | _, _, _, _ => none
  | .upd kind m kx x => match kind, rd m, rd kx, rd x with
    | .int _, some (.c (.d (.mp b))), some kv, some v => match σ[b]?, intT kv with
      | some (.mp j st l ver), some i => match mkM j st v with
        | some a => k (.tup []) (σ.set b (.mp j st (mset l i a) (ver + 1))) false [b]
        | none => none
      | _, _ => none
    | _, _, _, _ => none
  | .len x => match rd x with
    | some (.c (.sl _ l)) => k (.c (.d (I l.length))) σ false []
    | some (.c (.d (.c (.lit (.slice none 0 0))))) => k (.c (.d (I 0))) σ false []
    | some (.c (.own _ b v _)) => match σ[b]? with
      | some (.row _ l lv _) => match Nat.beq lv v with | true => k (.c (.d (I l.length))) σ false [] | false => none
      | _ => none
    | some (.c (.d (.sl b _ len _ sz))) => match σ[b]? with
      | some (.cells _ cs) => match Nat.beq cs.length sz with | true => k (.c (.d (I len))) σ false [] | false => none
      | _ => none
    | _ => none
  | .mk es bytes z l c => match Nat.beq es (esz hint) && (Nat.ble bytes 1000 && D.low.lows 0 z), mkT hint (z.map .d), rd l, rd c with
    | true, some z0, some u, some v => match intT u, intT v with
      | some u, some v => (mk? z0 u v).bind fun r => k (.c (.own hint σ.length 0 r.length)) (σ ++ [.row hint r 0 0]) false []
      | _, _ => none
    | _, _, _, _ => none
  | .append es bytes s x => match rd s, rd x with
    | some (.c (.own i b v _)), some y => match σ[b]? with
      | some (.row _ l lv cv) => match Nat.beq lv v && (Nat.beq es (esz i) && Nat.ble bytes 1000), castL (i := i) l, srcT i σ y with
        | true, some l, some m => (app? l m).bind fun r => k (.c (.own i b (lv + 1) r.length)) (σ.set b (.row i r (lv + 1) (cv + 1))) true [b]
        | _, _, _ => none
      | _ => none
    | some (.c (.d (.c (.lit (.slice none 0 0))))), some (.c (.own i b v q)) => match Nat.beq es (esz i) && Nat.ble bytes 1000, srcT i σ (.c (.own i b v q)) with
      | true, some (a :: l) => match Nat.ble (a :: l).length 1000000 with
        | true => k (.c (.own i σ.length 0 (a :: l).length)) (σ ++ [.row i (a :: l) 0 0]) false []
        | false => none
      | _, _ => none
    | _, _ => none
  | .extract x i => match rd x with
    | some (.tup xs) => match xs[i]? with
      | some (true, cs) => k (.agg cs) σ false []
      | some (false, [c]) => k (.c c) σ false []
      | _ => none
    | _ => none
  | .mkfn f first cap => match rdOs rd first, rdOs rd cap with
    | some a, some b => match a.mapM fun v => (match v with | .c (.d x) => some x | _ => none), b.mapM fun v => (match v with | .c (.d x) => some x | _ => none) with
      | some a, some b => k (.c (.d (.fn f a b))) σ false []
      | _, _ => none
    | _, _ => none
  | .part off n x => match rd x with
    | some (.agg cs) => match getT n cs off with
      | some v => k v σ false []
      | none => none
    | _ => none
  | .aidx es len n x i => match rd x, rd i with
    | some (.agg cs), some iv => match i, intT iv with
      | .k _, some q => match inR q len with
        | some j => match getT n cs (j * es) with
          | some v => k v σ false []
          | none => none
        | none => none
      | .t _, some q => match n, Nat.beq es 1 && Nat.beq cs.length len, ints .i64 cs with
        | none, true, some l => (at? l q).bind fun a => k (.c (.d (.c (.lit (.int .i64 a))))) σ false []
        | _, _, _ => none
      | _, _ => none
    | _, _ => none
  | .call f args => match rd f, rdOs rd args with
    | some (.c (.d (.c (.fn (.func g) [] [])))), some vs => match tsk g S with
      | some s => match rdVs s.ins vs with
        | some a => (s.f a).bind fun r => k (outT s.out r) σ false []
        | none => match s.out.all VCd.gr && vs.any hasOwn, rdVs s.ins (vs.map (frTV σ)) with
          | true, some a => (s.f a).bind fun r => k (outT s.out r) σ false []
          | _, _ => none
      | none => none
    | _, _ => none
  | _ => none
def totOp : AOp → Bool
  | .mov _ | .build .. | .nilck _ | .isnil .. | .fld .. | .len _ | .extract .. | .part .. => true
  | .load _ _ => true
  | .gen (.binOp o ..) _ => match o with | .quo | .rem => false | _ => true
  | .gen (.unOp ..) _ => true
  | .gen (.convert ..) _ => true
  | .gen (.call _) _ => true
  | _ => false
inductive GR where
  | opn
  | shut
  | sym (e : Bool) (p : Nat) (w : Bool)
  | spl (e : Bool) (p : Nat)
  | res (t : Nat) (x : TV)
  | bad
def gdB (kn : Kn) (want : Bool) (p : Nat) : TV → GR
  | .c (.d (.c (.lit (.bool true)))) => if want then .opn else .shut
  | .c (.d (.c (.lit (.bool false)))) => if want then .shut else .opn
  | .c (.d (.tup [])) => .shut
  | .c (.b e) => match knk p kn with
    | some b => if b == want then .opn else .shut
    | none => .sym e p want
  | _ => .bad
def gdC (kn : Kn) (p : Nat) : TV → GR
  | .c (.d (.c (.lit (.bool true)))) => .opn
  | .c (.d (.c (.lit (.bool false)))) => .shut
  | .c (.b e) => match knk p kn with
    | some true => .opn
    | some false => .shut
    | none => .sym e p true
  | _ => .bad
def tGd (al : TA) (kn : Kn) : Option (Nat × Bool) → GR
  | none => .opn
  | some (t, want) => match lkP t al with
    | some (.v x, p) => gdB kn want p x
    | some (.g c w p x, _) => match knk p kn with
      | some b => if b == w then .res t x else .shut
      | none => .spl c p
    | none => .bad
def blkT (rd : Opd → Option TV) : AOp → Option Nat
  | .load _ x => match rd x with
    | some (.c (.d (.ptr b _ _))) => some b
    | some (.c (.op _ b ..)) => some b
    | some (.c (.ap b ..)) => some b
    | _ => none
  | _ => none
def hintOf (H : List (Nat × Nat)) : Option Nat → Nat
  | none => 0
  | some t => hk t H
where hk (t : Nat) : List (Nat × Nat) → Nat
  | [] => 0
  | (s, i) :: l => match Nat.beq s t with | true => i | false => hk t l
abbrev KS (R : Type) := TA → TH → List Info → Option R
def setR (dst : Option Nat) (x : RV) (al : TA) : TA := match dst with | some t => (t, x) :: al | none => al
inductive Pl where
  | r (t : Nat) (c : VCd)
  | w (b i : Nat)
  | h (b j : Nat) (c : CC)
  | m (b j : Nat) (st : Bool)
@[reducible] def Pl.dn : Pl → Type
  | .r _ c => c.dn
  | .w _ i => List (TT i)
  | .h _ _ c => c.dn
  | .m _ j _ => List (Int × TT j)
@[reducible] def tupP : List Pl → Type
  | [] => Unit
  | [p] => p.dn
  | p :: q :: ps => p.dn × tupP (q :: ps)
structure JH where
  pl : List Pl
  hs : List (Nat × Nat) := []
  os : List (Nat × Nat) := []
  zs : List (Nat × Nat × Nat) := []
def ownz : List (Nat × Nat) → TA → TH → Option (TA × TH)
  | [], al, σ => some (al, σ)
  | (t, i) :: os, al, σ => match Nat.ble 1048576 t with
   | true => match σ[(t - 1048576) / 1024]? with
    | some (.cells w cs) => match cs[(t - 1048576) % 1024]? with
      | some (_, .d (.c (.lit (.slice none 0 0)))) => ownz os al (σ.set ((t - 1048576) / 1024) (.cells (w + 1) (cs.set ((t - 1048576) % 1024) (w + 1, .own i σ.length 0 0))) ++ [.row i [] 0 0])
      | some (_, .own ..) => ownz os al σ
      | _ => none
    | _ => none
   | false => match lkT t al with
    | some (.v (.c (.d (.c (.lit (.slice none 0 0)))))) => ownz os ((t, .v (.c (.own i σ.length 0 0))) :: al) (σ ++ [.row i [] 0 0])
    | some (.v (.c (.own ..))) => ownz os al σ
    | _ => none
def castM {i j : Nat} (l : List (Int × TT j)) : Option (List (Int × TT i)) := match decEq j i with | .isTrue h => some (h ▸ l) | .isFalse _ => none
def inPl (f : Pl → Bool) (ps : List Pl) : Bool := ps.any f
def cellsSame (ps : List Pl) (b : Nat) : Nat → List (Nat × TC) → List (Nat × TC) → Bool
  | _, [], [] => true
  | j, (v, _) :: xs, (w, _) :: ys => (Nat.beq v w || ps.any fun p => match p with | .h b' j' _ => Nat.beq b' b && Nat.beq j' j | _ => false) && cellsSame ps b (j + 1) xs ys
  | _, _, _ => false
def blkSame (ps : List Pl) (b : Nat) : TB → TB → Bool
  | .cells _ xs, .cells _ ys => cellsSame ps b 0 xs ys
  | .row _ _ _ v, .row _ _ _ w => Nat.beq v w || ps.any fun p => match p with | .w b' _ => Nat.beq b' b | _ => false
  | .mp _ _ _ v, .mp _ _ _ w => Nat.beq v w || ps.any fun p => match p with | .m b' _ _ => Nat.beq b' b | _ => false
  | _, _ => false
def heapSame (ps : List Pl) : Nat → TH → TH → Bool
  | _, [], _ => true
  | b, x :: xs, y :: ys => blkSame ps b x y && heapSame ps (b + 1) xs ys
  | _, _ :: _, [] => false
def putZs : List (Nat × Nat × Nat) → TH → TH
  | [], σ => σ
  | (b, j, r) :: zs, σ => match σ[b]?, σ[r]? with
    | some (.cells w cs), some (.row i l lv _) => putZs zs (σ.set b (.cells (w + 1) (cs.set j (w + 1, .own i r lv l.length))))
    | _, _ => putZs zs σ
def zsOk (n : Nat) (σ : TH) (zs : List (Nat × Nat × Nat)) : Bool :=
  zs.all fun z => Nat.blt z.1 n && (Nat.blt z.2.2 n && match σ[z.1]?, σ[z.2.2]? with
    | some (.cells _ cs), some (.row i _ lv _) => match cs[z.2.1]? with
      | some (_, .own i' r' v _) => Nat.beq r' z.2.2 && (Nat.beq v lv && Nat.beq i' i)
      | _ => false
    | _, _ => false)
def zpl (zs : List (Nat × Nat × Nat)) : List Pl := zs.map fun z => .h z.1 z.2.1 .bool
inductive It where
  | cc (c : CC)
  | st (i : Nat)
  | fp (i : Nat)
  | ls (i : Nat)
  | ml (j : Nat)
  | cx
  deriving DecidableEq
@[reducible] def It.dn : It → Type
  | .cc c => c.dn
  | .st i => TT i
  | .fp i => TT i
  | .ls i => List (TT i)
  | .ml j => List (Int × TT j)
  | .cx => Int × Int
structure Dat where
  it : It
  v : it.dn
@[reducible] def tupI : List It → Type
  | [] => Unit
  | [c] => c.dn
  | c :: d :: cs => c.dn × tupI (d :: cs)
def castI (c : It) (d : Dat) : Option c.dn := match decEq d.it c with | .isTrue h => some (h ▸ d.v) | .isFalse _ => none
def toTup : (cs : List It) → List Dat → Option (tupI cs)
  | [], [] => some ()
  | [c], [d] => castI c d
  | c :: c2 :: cs, d :: ds => match castI c d, toTup (c2 :: cs) ds with
    | some a, some b => some (a, b)
    | _, _ => none
  | _, _ => none
def ofTup : (cs : List It) → tupI cs → List Dat
  | [], _ => []
  | [c], x => [⟨c, x⟩]
  | c :: c2 :: cs, x => ⟨c, x.1⟩ :: ofTup (c2 :: cs) x.2
inductive CP where
  | c (c : CC)
  | cx
  | hd (b : Nat)
  | pt (b off sz : Nat)
  | mr (b : Nat)
  | k (d : D)
inductive RO where
  | v (c : VCd)
  | p (p : CP)
  | ag (ps : List CP)
inductive NB where
  | cells (ps : List CP)
  | row (i : Nat)
  | mp (j : Nat) (st : Bool)
inductive PC where
  | h (b j : Nat) (p : CP)
  | w (b i : Nat)
  | m (b j : Nat) (st : Bool)
inductive CT where
  | mk (out : List RO) (pl : List PC) (nb : List NB) (H : List (Nat × Nat)) (J : List (Nat × JH)) (C : List (Nat × List CT))
def CT.out : CT → List RO | .mk o _ _ _ _ _ => o
def CT.pl : CT → List PC | .mk _ p _ _ _ _ => p
def CT.nb : CT → List NB | .mk _ _ n _ _ _ => n
def CT.H : CT → List (Nat × Nat) | .mk _ _ _ h _ _ => h
def CT.J : CT → List (Nat × JH) | .mk _ _ _ _ j _ => j
def CT.C : CT → List (Nat × List CT) | .mk _ _ _ _ _ c => c
def ctk (k : Nat) : List (Nat × List CT) → Option (List CT)
  | [] => none
  | (q, c) :: l => match Nat.beq q k with | true => some c | false => ctk k l
def CP.its : CP → List It
  | .c y => [.cc y]
  | .cx => [.cx]
  | _ => []
def VCd.it : VCd → List It
  | .c x => [.cc x]
  | .st i => [.st i]
  | .fp i => [.fp i]
  | .k _ => []
def RO.its : RO → List It
  | .v y => y.it
  | .p y => y.its
  | .ag ps => ps.flatMap CP.its
def NB.rts : NB → List It
  | .cells _ => []
  | .row i => [.ls i]
  | .mp j _ => [.ml j]
def NB.its : NB → List It
  | .cells ps => ps.flatMap CP.its
  | _ => []
def PC.rts : PC → List It
  | .h .. => []
  | .w _ i => [.ls i]
  | .m _ j _ => [.ml j]
def PC.its : PC → List It
  | .h _ _ y => y.its
  | _ => []
def CT.items (ct : CT) : List It := ct.pl.flatMap PC.rts ++ (ct.nb.flatMap NB.rts ++ (ct.out.flatMap RO.its ++ (ct.pl.flatMap PC.its ++ ct.nb.flatMap NB.its)))
@[reducible] def altT : List CT → Type
  | [] => Empty
  | [c] => tupI c.items
  | c :: d :: cs => tupI c.items ⊕ altT (d :: cs)
def altK {R : Type} : (cs : List CT) → altT cs → ((c : CT) → tupI c.items → Option R) → Option R
  | [], _, _ => none
  | [c], x, f => f c x
  | c :: d :: cs, x, f => match x with
    | .inl a => f c a
    | .inr b => altK (d :: cs) b f
structure MS where
  ρ : List (Nat × Nat)
  fz : List Nat
  rw : List Dat
  cl : List Dat
def rhoK (b : Nat) : List (Nat × Nat) → Option Nat
  | [] => none
  | (q, o) :: l => match Nat.beq q b with | true => some o | false => rhoK b l
def bindR (m b b' : Nat) (s : MS) : Option MS :=
  match Nat.blt b m with
  | true => match Nat.beq b b' with | true => some s | false => none
  | false => match rhoK b s.ρ with
    | some o => match Nat.beq o b' with | true => some s | false => none
    | none => match Nat.ble m b' with | true => some { s with ρ := (b, b') :: s.ρ } | false => none
def eqK : D → D → Bool
  | .c (.lit (.pointer none)), .c (.lit (.pointer none)) => true
  | .c (.lit (.map none)), .c (.lit (.map none)) => true
  | .c (.lit .nilFunc), .c (.lit .nilFunc) => true
  | .c (.lit (.slice none 0 0)), .c (.lit (.slice none 0 0)) => true
  | .c (.fn (.func f) [] []), .c (.fn (.func g) [] []) => Nat.beq f g
  | .c (.lit (.int k a)), .c (.lit (.int k' b)) => decide (k = k') && decide (a = b)
  | _, _ => false
def mCP (m : Nat) (σ1 : TH) (p : CP) (x : TC) (s : MS) : Option MS :=
  match p, x with
  | .c c, .own i b v n => match rdC c (frT σ1 (.own i b v n)) with
    | some a => some { s with fz := b :: s.fz, cl := s.cl ++ [⟨.cc c, a⟩] }
    | none => none
  | .c c, x => match rdC c x with
    | some a => some { s with cl := s.cl ++ [⟨.cc c, a⟩] }
    | none => none
  | .cx, .cx u v => some { s with cl := s.cl ++ [⟨.cx, (u, v)⟩] }
  | .hd b, .own _ b' v _ => match σ1[b']? with
    | some (.row _ _ lv _) => match Nat.beq lv v with | true => bindR m b b' s | false => none
    | _ => none
  | .pt b off sz, .d (.ptr b' off' sz') => match Nat.beq off off' && Nat.beq sz sz' with | true => bindR m b b' s | false => none
  | .mr b, .d (.mp b') => bindR m b b' s
  | .k d, .d d' => match eqK d d' with | true => some s | false => none
  | _, _ => none
def mCPs (m : Nat) (σ1 : TH) : List CP → List TC → MS → Option MS
  | [], [], s => some s
  | p :: ps, x :: xs, s => match mCP m σ1 p x s with
    | some s1 => mCPs m σ1 ps xs s1
    | none => none
  | _, _, _ => none
def ownsT : List TC → List Nat
  | [] => []
  | .own _ b _ _ :: xs => b :: ownsT xs
  | _ :: xs => ownsT xs
def ownsV : TV → List Nat
  | .c x => ownsT [x]
  | .agg xs => ownsT xs
  | _ => []
def mRO (m : Nat) (σ1 : TH) (p : RO) (v : TV) (s : MS) : Option MS :=
  match p, v with
  | .v (.c c), v => match rdV (.c c) (frTV σ1 v) with | some a => some { s with fz := ownsV v ++ s.fz, cl := s.cl ++ [⟨.cc c, a⟩] } | none => none
  | .v (.st i), v => match rdV (.st i) (frTV σ1 v) with | some a => some { s with fz := ownsV v ++ s.fz, cl := s.cl ++ [⟨.st i, a⟩] } | none => none
  | .v (.fp i), v => match rdV (.fp i) (frTV σ1 v) with | some a => some { s with cl := s.cl ++ [⟨.fp i, a⟩] } | none => none
  | .p p, .c x => mCP m σ1 p x s
  | .ag ps, .agg xs => mCPs m σ1 ps xs s
  | _, _ => none
def mROs (m : Nat) (σ1 : TH) : List RO → List TV → MS → Option MS
  | [], [], s => some s
  | p :: ps, x :: xs, s => match mRO m σ1 p x s with
    | some s1 => mROs m σ1 ps xs s1
    | none => none
  | _, _, _ => none
def mPCs (m : Nat) (σ σ1 : TH) : List PC → MS → Option MS
  | [], s => some s
  | .h b j p :: ps, s => match σ1[b]?, Nat.blt b m with
    | some (.cells _ cs), true => match cs[j]? with
      | some x => match mCP m σ1 p x.2 s with
        | some s1 => mPCs m σ σ1 ps s1
        | none => none
      | none => none
    | _, _ => none
  | .w b i :: ps, s => match σ1[b]?, Nat.blt b m with
    | some (.row _ l _ _), true => match castL (i := i) l with
      | some a => mPCs m σ σ1 ps { s with rw := s.rw ++ [⟨.ls i, a⟩] }
      | none => none
    | _, _ => none
  | .m b j st :: ps, s => match σ1[b]?, Nat.blt b m with
    | some (.mp _ st' l _), true => match st == st', castM (i := j) l with
      | true, some a => mPCs m σ σ1 ps { s with rw := s.rw ++ [⟨.ml j, a⟩] }
      | _, _ => none
    | _, _ => none
def mNBs (m : Nat) (σ1 : TH) : Nat → List NB → MS → Option MS
  | _, [], s => some s
  | b, .cells ps :: nbs, s => match rhoK b s.ρ with
    | some b' => match σ1[b']? with
      | some (.cells _ cs) => match mCPs m σ1 ps (cs.map Prod.snd) s with
        | some s1 => mNBs m σ1 (b + 1) nbs s1
        | none => none
      | _ => none
    | none => none
  | b, .row i :: nbs, s => match rhoK b s.ρ with
    | some b' => match σ1[b']? with
      | some (.row _ l _ _) => match castL (i := i) l with
        | some a => mNBs m σ1 (b + 1) nbs { s with rw := s.rw ++ [⟨.ls i, a⟩] }
        | none => none
      | _ => none
    | none => none
  | b, .mp j st :: nbs, s => match rhoK b s.ρ with
    | some b' => match σ1[b']? with
      | some (.mp _ st' l _) => match st == st', castM (i := j) l with
        | true, some a => mNBs m σ1 (b + 1) nbs { s with rw := s.rw ++ [⟨.ml j, a⟩] }
        | _, _ => none
      | _ => none
    | none => none
def PC.pl : PC → Pl
  | .h b j _ => .h b j .bool
  | .w b i => .w b i
  | .m b j st => .m b j st
def nodupN : List Nat → Bool
  | [] => true
  | x :: xs => !(xs.any (Nat.beq x)) && nodupN xs
def absI (ct : CT) (σ σ1 : TH) (rs : List TV) : Option (tupI ct.items) :=
  match heapSame (ct.pl.map PC.pl) 0 σ σ1 with
  | false => none
  | true => match mROs σ.length σ1 ct.out rs ⟨[], [], [], []⟩ with
    | none => none
    | some s1 => match mPCs σ.length σ σ1 ct.pl s1 with
      | none => none
      | some s2 => match mNBs σ.length σ1 σ.length ct.nb s2 with
        | none => none
        | some s => match nodupN (s.ρ.map Prod.snd) && (s.fz.all (fun b => Nat.ble σ.length b && !((s.ρ.map Prod.snd).any (Nat.beq b))) && s.ρ.all fun p => Nat.blt p.1 (σ.length + ct.nb.length)) with
          | true => toTup ct.items (s.rw ++ s.cl)
          | false => none
def absA (σ σ1 : TH) (rs : List TV) : (cs : List CT) → Option (altT cs)
  | [] => none
  | [c] => absI c σ σ1 rs
  | c :: d :: cs => match absI c σ σ1 rs with
    | some a => some (.inl a)
    | none => match absA σ σ1 rs (d :: cs) with
      | some b => some (.inr b)
      | none => none
def pRows (σ : TH) : List PC → List Dat → Option (TH × List Dat)
  | [], ds => some (σ, ds)
  | .h .. :: ps, ds => pRows σ ps ds
  | .w b i :: ps, d :: ds => match castI (.ls i) d, σ[b]? with
    | some l, some (.row j _ lv cv) => match Nat.beq j i with
      | true => pRows (σ.set b (.row i l (lv + 1) (cv + 1))) ps ds
      | false => none
    | _, _ => none
  | .m b j st :: ps, d :: ds => match castI (.ml j) d, σ[b]? with
    | some l, some (.mp _ _ _ v) => pRows (σ.set b (.mp j st l (v + 1))) ps ds
    | _, _ => none
  | _, [] => none
def pNew : List NB → List Dat → Option (TH × List Dat)
  | [], ds => some ([], ds)
  | .cells _ :: nbs, ds => match pNew nbs ds with | some (l, r) => some (.cells 0 [] :: l, r) | none => none
  | .row i :: nbs, d :: ds => match castI (.ls i) d, pNew nbs ds with | some a, some (l, r) => some (.row i a 0 0 :: l, r) | _, _ => none
  | .mp j st :: nbs, d :: ds => match castI (.ml j) d, pNew nbs ds with | some a, some (l, r) => some (.mp j st a 0 :: l, r) | _, _ => none
  | _, [] => none
def pCP (σs : TH) (p : CP) (ds : List Dat) : Option (TC × List Dat) :=
  match p, ds with
  | .c c, d :: ds => match castI (.cc c) d with | some a => some (expC c a, ds) | none => none
  | .cx, d :: ds => match castI .cx d with | some a => some (.cx a.1 a.2, ds) | none => none
  | .hd b, ds => match σs[b]? with | some (.row i l lv _) => some (.own i b lv l.length, ds) | _ => none
  | .pt b off sz, ds => match Nat.blt b σs.length with | true => some (.d (.ptr b off sz), ds) | false => none
  | .mr b, ds => match Nat.blt b σs.length with | true => some (.d (.mp b), ds) | false => none
  | .k d, ds => match d.low 0 with | true => some (.d d, ds) | false => none
  | _, _ => none
def pCPs (σs : TH) : List CP → List Dat → Option (List TC × List Dat)
  | [], ds => some ([], ds)
  | p :: ps, ds => match pCP σs p ds with
    | some (x, ds1) => match pCPs σs ps ds1 with
      | some (xs, r) => some (x :: xs, r)
      | none => none
    | none => none
def pRO (σs : TH) (p : RO) (ds : List Dat) : Option (TV × List Dat) :=
  match p, ds with
  | .v (.c c), d :: ds => match castI (.cc c) d with | some a => some (.c (expC c a), ds) | none => none
  | .v (.st i), d :: ds => match castI (.st i) d with | some a => some (.agg (exp i a), ds) | none => none
  | .v (.fp i), d :: ds => match castI (.fp i) d with | some a => some (.c (.fp i a 0), ds) | none => none
  | .p p, ds => match pCP σs p ds with | some (x, r) => some (.c x, r) | none => none
  | .ag ps, ds => match pCPs σs ps ds with | some (xs, r) => some (.agg xs, r) | none => none
  | _, _ => none
def pROs (σs : TH) : List RO → List Dat → Option (List TV × List Dat)
  | [], ds => some ([], ds)
  | p :: ps, ds => match pRO σs p ds with
    | some (x, ds1) => match pROs σs ps ds1 with
      | some (xs, r) => some (x :: xs, r)
      | none => none
    | none => none
def pPCs (σs : TH) : List PC → TH → List Dat → Option (TH × List Dat)
  | [], σ, ds => some (σ, ds)
  | .h b j p :: ps, σ, ds => match pCP σs p ds, σ[b]? with
    | some (x, r), some (.cells w cs) => pPCs σs ps (σ.set b (.cells (w + 1) (cs.set j (w + 1, x)))) r
    | _, _ => none
  | _ :: ps, σ, ds => pPCs σs ps σ ds
def pNBs (σs : TH) : List NB → TH → List Dat → Option TH
  | [], _, _ => some []
  | .cells ps :: nbs, _ :: bs, ds => match pCPs σs ps ds with
    | some (xs, r) => match pNBs σs nbs bs r with
      | some l => some (.cells 0 (xs.map fun x => (0, x)) :: l)
      | none => none
    | none => none
  | _ :: nbs, b :: bs, ds => match pNBs σs nbs bs ds with
    | some l => some (b :: l)
    | none => none
  | _, _, _ => none
def putI (ct : CT) (σ : TH) (x : tupI ct.items) : Option (List TV × TH) :=
  match pRows σ ct.pl (ofTup ct.items x) with
  | none => none
  | some (σr, d1) => match pNew ct.nb d1 with
    | none => none
    | some (nb, d2) => match pROs (σr ++ nb) ct.out d2 with
      | none => none
      | some (vs, d3) => match pPCs (σr ++ nb) ct.pl σr d3 with
        | none => none
        | some (σ2, d4) => match pNBs (σr ++ nb) ct.nb nb d4 with
          | some l => some (vs, σ2 ++ l)
          | none => none
def oneT : List TV → TV
  | [v] => v
  | vs => .tup (vs.map teT)
def fnT : TV → Option (FuncId × List TV × List TV)
  | .c (.d (.c (.fn (.func g) a b))) => some (g, a.map (fun x => ofD (.c x)), b.map fun x => ofD (.c x))
  | .c (.d (.fn (.func g) a b)) => some (g, a.map ofD, b.map ofD)
  | _ => none
def PC.blk : PC → Nat
  | .h b _ _ => b
  | .w b _ => b
  | .m b _ _ => b
def PC.rs : PC → Bool
  | .w .. => true
  | _ => false
def okT (al : TA) : AOp → Bool
  | .load _ (.t a) => (lkP a al).isSome
  | _ => true
structure Cfg where
  P : Program
  S : TSs
  H : List (Nat × Nat)
  J : List (Nat × JH)
  C : List (Nat × List CT)
  n : Nat
  N : Nat
  inl : (cs : List CT) → FuncId → List TV → TH → Option (altT cs)
  exa : CT → FuncId → List TV → TH → Option (List TV × TH)
def exOf : List CT → Option CT
  | [ct] => match ct.H with
    | (k, _) :: _ => match Nat.beq k 1000002 with | true => some ct | false => none
    | _ => none
  | _ => none
def inlOf (g : Cfg) (q : Nat) (o : AOper) : Option (List CT) :=
  match g.C with
  | [] => none
  | C => match o.op, o.dst with
    | .call _ _, some t => ctk (q * 65536 + t) C
    | _, _ => none
def altOf (g : Cfg) (q : Nat) (o : AOper) (n : Nat) (cs : List CT) : List CT :=
  match o.dst with
  | some t => match ctk (q * 65536 + t + 1099511627776 * (n + 1)) g.C with
    | some cs' => cs'
    | none => cs
  | none => cs
def sameD (o o' : AOper) : Bool := match o.dst, o'.dst with | some a, some b => Nat.beq a b | _, _ => false
def inlU (g : Cfg) (q : Nat) : List AOper → Bool
  | [] => true
  | o :: os => (match inlOf g q o with
    | some _ => !(os.any (sameD o))
    | none => !(os.any fun o' => sameD o o' && (inlOf g q o').isSome)) && inlU g q os
def inlR (g : Cfg) (q : Nat) (os : List AOper) : Bool := match g.C with | [] => true | _ => inlU g q os
def tOps (g : Cfg) (q : Nat) : Nat → Nat → List AOper → Kn → TA → TH → KS R → Option R
  | 0, _, _, _, _, _, _ => none
  | _ + 1, _, [], _, al, σ, K => K al σ []
  | fu + 1, k, o :: os, kn, al, σ, K =>
    match (match o.dst with | some t => Nat.blt t g.n | none => true) with
    | false => none
    | true =>
    match tGd al kn o.g with
    | .bad => none
    | .res t x => tOps g q fu k (o :: os) kn ((t, .v x) :: al) σ K
    | .spl e p => if e = true then tOps g q fu k (o :: os) ((p, true) :: kn) al σ K else tOps g q fu k (o :: os) ((p, false) :: kn) al σ K
    | .shut => match o.dst with
      | none => none
      | some t => match okT al o.op with
        | false => none
        | true => tOps g q fu (k - 1) os kn ((t, .v (.c (.d (.tup [])))) :: al) σ fun al' σ' is => K al' σ' (mkI o 0 none [] σ.length σ.length :: is)
    | .sym e p w =>
      match totOp o.op, o.dst with
      | true, some t =>
        match tOp (R := TV) g.P g.S 0 o.op (rdO al kn (some (p, w))) σ fun v _ _ _ => some v with
        | some v => tOps g q fu (k - 1) os kn ((t, .g e w p v) :: al) σ fun al' σ' is => K al' σ' (mkI o (cat o.op) (blkT (rdO al kn (some (p, w))) o.op) [] σ.length σ.length :: is)
        | none => none
      | _, _ => if e = true then tOps g q fu k (o :: os) ((p, true) :: kn) al σ K else tOps g q fu k (o :: os) ((p, false) :: kn) al σ K
    | .opn =>
      match inlOf g q o with
      | some cs =>
        match o.op with
        | .call f args => match rdO al kn none f, rdOs (rdO al kn none) args with
          | some fv, some vs => match fnT fv with
            | some (gi, a, b) => match altOf g q o σ.length cs with
             | cs => match exOf cs with
              | some ct => (g.exa ct gi (a ++ vs ++ b) σ).bind fun p => tOps g q fu (k - 1) os kn (setR o.dst (.v (oneT p.1)) al) p.2 fun al' σ' is => K al' σ' (mkI o (cat o.op) none [] σ.length p.2.length :: is)
              | none => (g.inl cs gi (a ++ vs ++ b) σ).bind fun x => altK cs x fun ct x => match putI ct σ x with
              | some (rv, σ1) => match Nat.beq k 0 || !(ct.pl.any PC.rs) with
                | true => tOps g q fu (k - 1) os kn (setR o.dst (.v (oneT rv)) al) σ1 fun al' σ' is => K al' σ' (mkI o (cat o.op) none (ct.pl.map PC.blk) σ.length σ1.length :: is)
                | false => none
              | none => none
            | none => none
          | _, _ => none
        | _ => none
      | none =>
      match o.op, o.dst with
      | .pick (.t c) x y, some t =>
        match lkP c al with
        | some (.v cv, p) =>
          match gdC kn p cv with
          | .opn => match rdO al ((p, true) :: kn) none x with
            | some v => tOps g q fu (k - 1) os kn ((t, .v v) :: al) σ fun al' σ' is => K al' σ' (mkI o (cat o.op) none [] σ.length σ.length :: is)
            | none => none
          | .shut => match rdO al ((p, false) :: kn) none y with
            | some v => tOps g q fu (k - 1) os kn ((t, .v v) :: al) σ fun al' σ' is => K al' σ' (mkI o (cat o.op) none [] σ.length σ.length :: is)
            | none => none
          | .sym e p _ => match rdO al kn (some (p, true)) x, rdO al kn (some (p, false)) y with
            | some u, some v => match bxOf u, bxOf v with
              | some u, some v => tOps g q fu (k - 1) os kn ((t, .v (.c (.b (pk e u v)))) :: al) σ fun al' σ' is => K al' σ' (mkI o (cat o.op) none [] σ.length σ.length :: is)
              | _, _ => none
            | _, _ => none
          | _ => none
        | _ => none
      | op, dst => tOp g.P g.S (hintOf g.H dst) op (rdO al kn none) σ fun v σ1 rs wr =>
          match Nat.beq k 0 || !rs with
          | true => tOps g q fu (k - 1) os kn (setR dst (.v v) al) σ1 fun al' σ' is => K al' σ' (mkI o (cat op) (blkT (rdO al kn none) op) wr σ.length σ1.length :: is)
          | false => none
def rdP (al : TA) (σ : TH) : (p : Pl) → Option p.dn
  | .r t c => match lkT t al with
    | some (.v x) => rdV c x
    | _ => none
  | .w b _ => match σ[b]? with
    | some (.row _ l _ _) => castL l
    | _ => none
  | .h b j c => match σ[b]? with
    | some (.cells _ cs) => match cs[j]? with
      | some x => rdC c x.2
      | none => none
    | _ => none
  | .m b _ st => match σ[b]? with
    | some (.mp _ st' l _) => match st == st' with | true => castM l | false => none
    | _ => none
def rdPs (al : TA) (σ : TH) : (ps : List Pl) → Option (tupP ps)
  | [] => some ()
  | [p] => rdP al σ p
  | p :: q :: ps => match rdP al σ p, rdPs al σ (q :: ps) with
    | some a, some b => some (a, b)
    | _, _ => none
def putP (p : Pl) (x : p.dn) (al : TA) : TA :=
  match p, x with
  | .r t c, x => (t, .v (c.tv x)) :: al
  | _, _ => al
def putPs : (ps : List Pl) → tupP ps → TA → TA
  | [], _, al => al
  | [p], x, al => putP p x al
  | p :: q :: ps, x, al => putP p x.1 (putPs (q :: ps) x.2 al)
def putQ (p : Pl) (x : p.dn) (σ : TH) : TH :=
  match p, x with
  | .w b i, x => match σ[b]? with
    | some (.row _ _ lv cv) => σ.set b (.row i x (lv + 1) (cv + 1))
    | _ => σ
  | .h b j c, x => match σ[b]? with
    | some (.cells w cs) => σ.set b (.cells (w + 1) (cs.set j (w + 1, expC c x)))
    | _ => σ
  | .m b j st, x => match σ[b]? with
    | some (.mp _ _ _ v) => σ.set b (.mp j st x (v + 1))
    | _ => σ
  | _, _ => σ
def putQs : (ps : List Pl) → tupP ps → TH → TH
  | [], _, σ => σ
  | [p], x, σ => putQ p x σ
  | p :: q :: ps, x, σ => putQ p x.1 (putQs (q :: ps) x.2 σ)
def putH (σ : TH) : List (Nat × Nat) → TA → TA
  | [], al => al
  | (t, b) :: hs, al => match σ[b]? with
    | some (.row i l lv _) => (t, .v (.c (.own i b lv l.length))) :: putH σ hs al
    | _ => putH σ hs al
def shade (md : List Nat) (al : TA) : TA := (md.filter fun t => (lkT t al).isSome).map (fun t => (t, .v (.c .any))) ++ al
def asgd : ACode → List Nat
  | .reg os => os.filterMap (·.dst)
  | .drw os _ _ _ => os.filterMap (·.dst)
  | .seq a b => asgd a ++ asgd b
  | .cond _ a b => asgd a ++ asgd b
  | .block _ b => asgd b
  | .loop b => asgd b
  | _ => []
def hsOk (al : TA) (σ : TH) (hs : List (Nat × Nat)) : Bool :=
  hs.all fun (t, b) => match lkT t al, σ[b]? with
    | some (.v (.c (.own i b' v _))), some (.row j _ lv _) => Nat.beq b' b && (Nat.beq v lv && Nat.beq i j)
    | _, _ => false
def regsOk (md : List Nat) (al al1 : TA) : Bool := (al1.take (al1.length - al.length)).all fun p => md.any (Nat.beq p.1)
def absJ (h : JH) (md : List Nat) (al : TA) (σ : TH) (al1 : TA) (σ1 : TH) : Option (tupP h.pl) :=
  match regsOk md al al1 && (heapSame (h.pl ++ zpl h.zs) 0 σ σ1 && (hsOk al1 σ1 h.hs && zsOk σ.length σ1 h.zs)) with
  | true => rdPs al1 σ1 h.pl
  | false => none
def putZ (h : JH) (md : List Nat) (al : TA) (σ : TH) (x : tupP h.pl) : TH := putZs h.zs (putQs h.pl x σ)
def putX (h : JH) (md : List Nat) (al : TA) (σ : TH) (x : tupP h.pl) : TA := putPs h.pl x (putH (putQs h.pl x σ) h.hs (shade md al))
def jn {X : Type} (r : X → Option R) (b : (X → Option R) → Option R) : Option R := b r
def lpX {X : Type} (b : (X → Option R) → X → Option R) : Nat → X → Option R
  | 0, _ => none
  | n + 1, x => b (lpX b n) x
def jhk (p : Nat) : List (Nat × JH) → Option JH
  | [] => none
  | (q, h) :: l => match Nat.beq q p with | true => some h | false => jhk p l
def jhl (p n : Nat) (J : List (Nat × JH)) : Option JH := match jhk (p + 1099511627776 * (n + 1)) J with
  | some h => some h
  | none => jhk p J
abbrev KC (R : Type) := AExit → TA → TH → Option R
def isApp (os : List AOper) : Bool := (os.any fun o => match o.op with | .append .. => true | _ => false) && os.any fun o => match o.op with | .upd .. => true | _ => false
def rsCall (g : Cfg) (q : Nat) (os : List AOper) : Bool := match g.C with
  | [] => false
  | _ => os.any fun o => match inlOf g q o with
    | some cs => cs.any fun ct => ct.pl.any PC.rs
    | none => false
def lpU {X : Type} (b : (TA → TH → Option X) → TA → TH → Option X) : Nat → TA → TH → Option X
  | 0, _, _ => none
  | n + 1, al, σ => b (lpU b n) al σ
def unrOf (h : JH) : Option Nat := match h.os with
  | [(k, n)] => match Nat.beq k 1000003 with | true => some n | false => none
  | _ => none
def tC (g : Cfg) : ACode → Nat → TA → TH → KC R → Option R
  | .skip, _, al, σ, K => K .normal al σ
  | .reg os, q, al, σ, K => match inlR g q os with
    | true => tOps g q 1000 0 os [] al σ fun al' σ' _ => K .normal al' σ'
    | false => none
  | .drw os bef k p, q, al, σ, K =>
    match inlR g q os with
    | false => none
    | true =>
    match isApp os with
    | true => tOps g q 1000 os.length os [] al σ fun al' σ' is => match pairsOk bef is && tailOk bef p os.length os.length && Nat.ble p os.length with | true => K .normal al' σ' | false => none
    | false => match rsCall g q os with
      | true => tOps g q 1000 (lastCall os) os [] al σ fun al' σ' is => match pairsOk bef is && tailOk bef p (lastCall os) os.length && Nat.ble p (lastCall os) with | true => K .normal al' σ' | false => none
      | false => tOps g q 1000 k os [] al σ fun al' σ' is => match pairsOk bef is && tailOk bef p k os.length && Nat.ble p k with | true => K .normal al' σ' | false => none
  | .seq a b, q, al, σ, K =>
    match jhl q σ.length g.J with
    | none => tC g a (2 * q) al σ fun x al1 σ1 => match x with
      | .normal => tC g b (2 * q + 1) al1 σ1 K
      | x => K x al1 σ1
    | some h => match ownz h.os al σ with
      | none => none
      | some (al, σ) => jn (fun x => tC g b (2 * q + 1) (putX h (asgd a) al σ x) (putZ h (asgd a) al σ x) K) fun j =>
        tC g a (2 * q) al σ fun x al1 σ1 => match x with
          | .normal => match absJ h (asgd a) al σ al1 σ1 with | some x => j x | none => none
          | x => K x al1 σ1
  | .cond c a b, q, al, σ, K =>
    match rdO al [] none c with
    | some (.c (.d (.c (.lit (.bool true))))) => tC g a (2 * q) al σ K
    | some (.c (.d (.c (.lit (.bool false))))) => tC g b (2 * q + 1) al σ K
    | some (.c (.b e)) => if e = true then tC g a (2 * q) al σ K else tC g b (2 * q + 1) al σ K
    | _ => none
  | .block id b, q, al, σ, K => tC g b (2 * q) al σ fun x al1 σ1 => match x with
    | .exit i => match Nat.beq i id with | true => K .normal al1 σ1 | false => K (.exit i) al1 σ1
    | x => K x al1 σ1
  | .loop b, q, al, σ, K =>
    match jhl q σ.length g.J with
    | none => none
    | some h => match unrOf h with
      | some n => lpU (fun rec al σ => tC g b (2 * q) al σ fun ex al1 σ1 => match ex with
        | .normal => rec al1 σ1
        | ex => K ex al1 σ1) n al σ
      | none => match ownz h.os al σ with
      | none => none
      | some (al, σ) => match absJ h (asgd b) al σ al σ with
      | none => none
      | some x0 => lpX (fun rec x =>
        tC g b (2 * q) (putX h (asgd b) al σ x) (putZ h (asgd b) al σ x) fun ex al1 σ1 => match ex with
          | .normal => match absJ h (asgd b) (putX h (asgd b) al σ x) (putZ h (asgd b) al σ x) al1 σ1 with | some x' => rec x' | none => none
          | ex => K ex al1 σ1) g.N x0
  | .exit id, _, al, σ, K => K (.exit id) al σ
  | .ret, _, al, σ, K => K .ret al σ
  | .stuck, _, _, _, _ => none
def zipT : Nat → List TV → TA
  | _, [] => []
  | i, d :: ds => (i, .v d) :: zipT (i + 1) ds
def resT (al : TA) (σ : TH) : Nat × Option (Option Nat) → Option TV
  | (t, none) => match lkT t al with | some (.v x) => some x | _ => none
  | (t, some n) => match lkT t al with
    | some (.v (.c (.d (.ptr b off sz)))) => match σ[b]? with
      | some (.cells _ cs) => match Nat.beq cs.length sz with | true => getT n (cs.map Prod.snd) off | false => none
      | _ => none
    | _ => none
def rdOut (σ : TH) : (cs : List VCd) → List TV → Option (outV cs)
  | [], [] => some ()
  | [c], [x] => rdV c (frTV σ x)
  | c :: d :: cs, x :: xs => match rdV c (frTV σ x), rdOut σ (d :: cs) xs with
    | some a, some b => some (a, b)
    | _, _ => none
  | _, _ => none
def mapO {α β : Type} (f : α → Option β) : List α → Option (List β)
  | [] => some []
  | x :: xs => match f x, mapO f xs with
    | some a, some b => some (a :: b)
    | _, _ => none
structure OSp where
  inp : CT
  cts : List CT
  f : tupI inp.items → Option (altT cts)
abbrev OSs := List (Nat × OSp)
def absS (inp : CT) (σ : TH) (vs : List TV) : Option (List (Nat × Nat) × tupI inp.items) :=
  match mROs 0 σ inp.out vs ⟨[], [], [], []⟩ with
  | none => none
  | some s1 => match mNBs 0 σ 0 inp.nb s1 with
    | none => none
    | some s => match nodupN (s.ρ.map Prod.snd) && (s.fz.isEmpty && (inp.pl.isEmpty && s.ρ.all fun p => Nat.blt p.1 (0 + inp.nb.length))) with
      | true => match toTup inp.items (s.rw ++ s.cl) with
        | some x => some (s.ρ, x)
        | none => none
      | false => none
def isNilT : TC → Bool
  | .d (.c (.lit (.slice none 0 0))) => true
  | _ => false
def exN (σ : TH) (ρ : List (Nat × Nat)) : Nat → TH → Bool
  | _, [] => true
  | i, .cells _ ys :: bs => (match σ[(rhoK i ρ).getD 0]? with
    | some (.cells _ xs) => exC xs ys
    | _ => false) && exN σ ρ (i + 1) bs
  | i, _ :: bs => exN σ ρ (i + 1) bs
where exC : List (Nat × TC) → List (Nat × TC) → Bool
  | (_, x) :: xs, (_, y) :: ys => (!(isNilT x) || isNilT y) && exC xs ys
  | _, _ => true
def rhoA (n m : Nat) (ρ : List (Nat × Nat)) (i : Nat) : Nat := match Nat.blt i n with | true => (rhoK i ρ).getD 0 | false => m + (i - n)
def eqVC : VCd → VCd → Bool
  | .c x, .c y => decide (x = y)
  | .st i, .st j => Nat.beq i j
  | .fp i, .fp j => Nat.beq i j
  | .k g, .k h => Nat.beq g h
  | _, _ => false
def rCP (ρ : Nat → Nat) (n : Nat) : CP → CP → Bool
  | .c a, .c b => decide (a = b)
  | .cx, .cx => true
  | .hd b, .hd b' => Nat.beq (ρ b) b' && Nat.blt b n
  | .pt b o s, .pt b' o' s' => Nat.beq (ρ b) b' && (Nat.blt b n && (Nat.beq o o' && Nat.beq s s'))
  | .mr b, .mr b' => Nat.beq (ρ b) b' && Nat.blt b n
  | .k d, .k d' => eqK d d'
  | _, _ => false
def rCPs (ρ : Nat → Nat) (n : Nat) : List CP → List CP → Bool
  | [], [] => true
  | p :: ps, q :: qs => rCP ρ n p q && rCPs ρ n ps qs
  | _, _ => false
def rRO (ρ : Nat → Nat) (n : Nat) : RO → RO → Bool
  | .v a, .v b => eqVC a b
  | .p a, .p b => rCP ρ n a b
  | .ag a, .ag b => rCPs ρ n a b
  | _, _ => false
def rROs (ρ : Nat → Nat) (n : Nat) : List RO → List RO → Bool
  | [], [] => true
  | p :: ps, q :: qs => rRO ρ n p q && rROs ρ n ps qs
  | _, _ => false
def rPC (ρ : Nat → Nat) (m0 n : Nat) : PC → PC → Bool
  | .h b j p, .h b' j' p' => Nat.beq (ρ b) b' && (Nat.blt b m0 && (Nat.beq j j' && rCP ρ n p p'))
  | .w b i, .w b' i' => Nat.beq (ρ b) b' && (Nat.blt b m0 && Nat.beq i i')
  | .m b j st, .m b' j' st' => Nat.beq (ρ b) b' && (Nat.blt b m0 && (Nat.beq j j' && st == st'))
  | _, _ => false
def rPCs (ρ : Nat → Nat) (m0 n : Nat) : List PC → List PC → Bool
  | [], [] => true
  | p :: ps, q :: qs => rPC ρ m0 n p q && rPCs ρ m0 n ps qs
  | _, _ => false
def rNB (ρ : Nat → Nat) (n : Nat) : NB → NB → Bool
  | .cells a, .cells b => rCPs ρ n a b
  | .row i, .row j => Nat.beq i j
  | .mp j st, .mp j' st' => Nat.beq j j' && st == st'
  | _, _ => false
def rNBs (ρ : Nat → Nat) (n : Nat) : List NB → List NB → Bool
  | [], [] => true
  | p :: ps, q :: qs => rNB ρ n p q && rNBs ρ n ps qs
  | _, _ => false
def rCT (ρ : Nat → Nat) (m0 : Nat) (a b : CT) : Bool :=
  rROs ρ (m0 + a.nb.length) a.out b.out && (rPCs ρ m0 (m0 + a.nb.length) a.pl b.pl && rNBs ρ (m0 + a.nb.length) a.nb b.nb)
def rCTs (ρ : Nat → Nat) (m0 : Nat) : List CT → List CT → Bool
  | [], [] => true
  | a :: as, b :: bs => rCT ρ m0 a b && rCTs ρ m0 as bs
  | _, _ => false
theorem altT_eq : ∀ {a b : List CT}, a.map CT.items = b.map CT.items → altT a = altT b := by
  intro a
  induction a with
  | nil => intro b h; cases b with | nil => rfl | cons _ _ => simp at h
  | cons x a ih =>
    intro b h
    cases b with
    | nil => simp at h
    | cons y b =>
      simp only [List.map_cons, List.cons.injEq] at h
      cases a with
      | nil => cases b with
        | nil => simp only [altT, h.1]
        | cons _ _ => simp at h
      | cons x2 a => cases b with
        | nil => simp at h
        | cons y2 b => simp only [altT, h.1, ih h.2]
def inlS (O : OSs) (cs : List CT) (gi : FuncId) (vs : List TV) (σ : TH) : Option (altT cs) :=
  match cs with
  | [] => none
  | ct :: cs => match ct.H with
    | [(_, k)] => match O[k]? with
      | some (g, s) => match Nat.beq g gi, absS s.inp σ vs with
        | true, some (ρ, x) => match putI s.inp [] x with
          | some (_, σ0) => match exN σ ρ 0 σ0 && rCTs (rhoA s.inp.nb.length σ.length ρ) s.inp.nb.length s.cts (ct :: cs) with
            | true => match decEq (s.cts.map CT.items) ((ct :: cs).map CT.items) with
              | .isTrue h => cast (congrArg Option (altT_eq h)) (s.f x)
              | .isFalse _ => none
            | false => none
          | none => none
        | _, _ => none
      | none => none
    | _ => none
abbrev InlB := (cs : List CT) → FuncId → List TV → TH → Option (altT cs)
def isOS (ct : CT) : Bool := match ct.H with
  | [(k, _)] => Nat.beq k 1000000
  | _ => false
abbrev ExB := CT → FuncId → List TV → TH → Option (List TV × TH)
def sTC (n : Nat) : TC → Bool
  | .d x => x.low n
  | .b _ => true
  | .sl _ _ => true
  | .fp _ _ _ => true
  | .fl _ => true
  | .cx _ _ => true
  | _ => false
def exV (n : Nat) : TV → Bool
  | .c x => sTC n x
  | .agg xs => xs.all (sTC n)
  | .tup _ => false
def sBlk (n : Nat) : TB → Bool
  | .cells w cs => cs.all fun p => sTC n p.2 && Nat.ble p.1 w
  | _ => false
def inl1 (P : Program) (S : TSs) (N : Nat) (B I : InlB) (X : ExB) : InlB := fun cs g vs σ =>
  match cs with
  | [] => none
  | ct :: cs =>
    match isOS ct with
    | true => B (ct :: cs) g vs σ
    | false =>
    match P.funcs[g]? with
    | some f => match compF P f true with
      | some af => match enterable P g && Nat.ble vs.length af.ntmps with
        | true => tC ⟨P, S, ct.H, ct.J, ct.C, af.ntmps, N, I, X⟩ af.body 1 (zipT 0 vs) σ fun x al1 σ1 => match x with
          | .exit _ => none
          | _ => match mapO (resT al1 σ1) af.results with
            | some rs => absA σ σ1 rs (ct :: cs)
            | none => none
        | false => none
      | none => none
    | none => none
def ex1 (P : Program) (S : TSs) (N : Nat) (I : InlB) (X : ExB) : ExB := fun ct g vs σ =>
  match P.funcs[g]? with
  | some f => match compF P f true with
    | some af => match enterable P g && Nat.ble vs.length af.ntmps with
      | true => (tC (R := List TV × TH) ⟨P, S, ct.H, ct.J, ct.C, af.ntmps, N, I, X⟩ af.body 1 (zipT 0 vs) σ fun x al1 σ1 => match x with
        | .exit _ => none
        | _ => match mapO (resT al1 σ1) af.results with
          | some rs => some (rs, σ1)
          | none => none).bind fun p => match p.1.all (exV p.2.length) && (heapSame [] 0 σ p.2 && (p.2.drop σ.length).all (sBlk p.2.length)) with
            | true => some (p.1, σ ++ p.2.drop σ.length)
            | false => none
      | false => none
    | none => none
  | none => none
def evD (P : Program) (S : TSs) (N : Nat) (B : InlB) : Nat → InlB × ExB
  | 0 => (fun _ _ _ _ => none, fun _ _ _ _ => none)
  | d + 1 => (inl1 P S N B (evD P S N B d).1 (evD P S N B d).2, ex1 P S N (evD P S N B d).1 (evD P S N B d).2)
def tF (P : Program) (S : TSs) (B : InlB) (H : List (Nat × Nat)) (J : List (Nat × JH)) (C : List (Nat × List CT)) (dp : Nat) (f : AFunc) (ins out : List VCd) (N : Nat) (a : tupV ins) : Option (outV out) :=
  tC ⟨P, S, H, J, C, f.ntmps, N, (evD P S N B dp).1, (evD P S N B dp).2⟩ f.body 1 (zipT 0 (tvV ins a)) [] fun x al σ =>
    match x with
    | .exit _ => none
    | _ => match mapO (resT al σ) f.results with
      | some rs => rdOut σ out rs
      | none => none
end
end Go.Abs
end
section
namespace Go.Abs
section
variable [Gl] [Y : Ty]
def GC (σ : TH) : TC → Prop
  | .own i c v n => ∃ blk, σ[c]? = some blk ∧ ∀ j l lv cv, blk = .row j l lv cv → v ≤ lv ∧ (v = lv → j = i ∧ n = l.length)
  | .op i c v n k a _ => ∃ blk, σ[c]? = some blk ∧ ∀ j l lv cv, blk = .row j l lv cv → v ≤ cv ∧ (v = cv → ∃ m : List (TT i), castL l = some m ∧ n = m.length ∧ at? m k = some a)
  | .ap c _ _ _ _ => c < σ.length
  | .d x => x.low σ.length = true
  | _ => True
def GV (σ : TH) : TV → Prop
  | .c x => GC σ x
  | .agg xs => ∀ x ∈ xs, GC σ x
  | .tup xs => ∀ p ∈ xs, ∀ x ∈ p.2, GC σ x
structure RH (σ : TH) (σD : Heap) : Prop where
  len : σD.length = σ.length
  hp : ∀ (b : Nat) blk, σ[b]? = some blk → ∃ ob, σD[b]? = some ob ∧ RB blk ob
  hg : ∀ (b : Nat) w cs, σ[b]? = some (.cells w cs) → ∀ p ∈ cs, GC σ p.2 ∧ p.1 ≤ w
def BE : TB → TB → Prop
  | .cells w cs, blk1 => ∃ w1 cs1, blk1 = .cells w1 cs1 ∧ w ≤ w1 ∧ cs1.length = cs.length ∧ ∀ (j : Nat) v x v1 x1, cs[j]? = some (v, x) → cs1[j]? = some (v1, x1) → (v1 = v ∧ x1 = x) ∨ w < v1
  | .row i l lv cv, blk1 => ∃ l1 lv1 cv1, blk1 = .row i l1 lv1 cv1 ∧ lv ≤ lv1 ∧ cv ≤ cv1 ∧ (lv = lv1 → l1.length = l.length) ∧ (cv = cv1 → l1 = l ∧ lv1 = lv)
  | .mp j st l v, blk1 => ∃ j1 st1 l1 v1, blk1 = .mp j1 st1 l1 v1 ∧ v ≤ v1 ∧ (v = v1 → blk1 = .mp j st l v)
def Ext (σ σ1 : TH) : Prop := ∀ (b : Nat) blk, σ[b]? = some blk → ∃ blk1, σ1[b]? = some blk1 ∧ BE blk blk1
theorem BE.refl (blk : TB) : BE blk blk := by
  cases blk with
  | cells w cs => exact ⟨w, cs, rfl, Nat.le_refl _, rfl, fun j v x v1 x1 h h1 => .inl (by rw [h] at h1; simp only [Option.some.injEq, Prod.mk.injEq] at h1; exact ⟨h1.1.symm, h1.2.symm⟩)⟩
  | row i l lv cv => exact ⟨l, lv, cv, rfl, Nat.le_refl _, Nat.le_refl _, fun _ => rfl, fun _ => ⟨rfl, rfl⟩⟩
  | mp j st l v => exact ⟨j, st, l, v, rfl, Nat.le_refl _, fun _ => rfl⟩
theorem Ext.refl (σ : TH) : Ext σ σ := fun _ blk h => ⟨blk, h, BE.refl blk⟩
theorem BE.trans {a b c : TB} (h1 : BE a b) (h2 : BE b c) (ha : ∀ w cs, a = .cells w cs → ∀ p ∈ cs, p.1 ≤ w) : BE a c := by
  cases a with
  | cells w cs =>
    obtain ⟨w1, cs1, rfl, hw, hl, hc⟩ := h1
    obtain ⟨w2, cs2, rfl, hw2, hl2, hc2⟩ := h2
    refine ⟨w2, cs2, rfl, by omega, by rw [hl2, hl], fun j v x v2 x2 h h2 => ?_⟩
    have hj : j < cs1.length := by rw [hl]; exact (List.getElem?_eq_some_iff.1 h).1
    obtain ⟨⟨v1, x1⟩, hq'⟩ : ∃ p, cs1[j]? = some p := ⟨cs1[j], List.getElem?_eq_getElem hj⟩
    rcases hc j v x v1 x1 h hq' with ⟨rfl, rfl⟩ | hlt
    · rcases hc2 j _ _ v2 x2 hq' h2 with h | h
      · exact .inl h
      · exact .inr (by omega)
    · rcases hc2 j _ _ v2 x2 hq' h2 with ⟨rfl, rfl⟩ | h
      · exact .inr hlt
      · exact .inr (by omega)
  | row i l lv cv =>
    obtain ⟨l1, lv1, cv1, rfl, h3, h4, h5, h6⟩ := h1
    obtain ⟨l2, lv2, cv2, rfl, h7, h8, h9, h10⟩ := h2
    refine ⟨l2, lv2, cv2, rfl, by omega, by omega, fun e => ?_, fun e => ?_⟩
    · rw [h9 (by omega), h5 (by omega)]
    · obtain ⟨rfl, rfl⟩ := h10 (by omega)
      exact h6 (by omega)
  | mp j st l v =>
    obtain ⟨j1, st1, l1, v1, rfl, h3, h4⟩ := h1
    obtain ⟨j2, st2, l2, v2, rfl, h5, h6⟩ := h2
    refine ⟨j2, st2, l2, v2, rfl, by omega, fun e => ?_⟩
    have e1 := h4 (by omega)
    have e2 := h6 (by omega)
    rw [e2, e1]
theorem RH.ver {σ : TH} {σD : Heap} (H : RH σ σD) {b : Nat} {blk : TB} (h : σ[b]? = some blk) : ∀ w cs, blk = .cells w cs → ∀ p ∈ cs, p.1 ≤ w := fun w cs e p hp => by
  subst e; exact (H.hg b w cs h p hp).2
theorem Ext.trans {σ σ1 σ2 : TH} {σD : Heap} (H : RH σ σD) (h1 : Ext σ σ1) (h2 : Ext σ1 σ2) : Ext σ σ2 := fun b blk h => by
  obtain ⟨blk1, h3, h4⟩ := h1 b blk h
  obtain ⟨blk2, h5, h6⟩ := h2 b blk1 h3
  exact ⟨blk2, h5, h4.trans h6 (H.ver h)⟩
theorem Ext.len {σ σ1 : TH} (h : Ext σ σ1) : σ.length ≤ σ1.length := by
  rcases Nat.lt_or_ge σ1.length σ.length with hlt | hge
  · obtain ⟨blk, h1, _⟩ := h σ1.length _ (List.getElem?_eq_getElem hlt)
    rw [List.getElem?_eq_none (Nat.le_refl _)] at h1
    simp at h1
  · exact hge
theorem D.low_mono {m m' : Nat} (hm : m ≤ m') {d : D} (h : d.low m = true) : d.low m' = true := by
  have key : ∀ (k : Nat) (d : D), SizeOf.sizeOf d < k → d.low m = true → d.low m' = true := by
    intro k
    induction k with
    | zero => intro d h; omega
    | succ k ih =>
      have lows : ∀ (ds : List D), SizeOf.sizeOf ds < k + 1 → D.low.lows m ds = true → D.low.lows m' ds = true := by
        intro ds
        induction ds with
        | nil => intro _ _; rfl
        | cons x ds ih2 =>
          intro hs h
          simp only [D.low.lows, Bool.and_eq_true, List.cons.sizeOf_spec] at h hs ⊢
          exact ⟨ih x (by omega) h.1, ih2 (by omega) h.2⟩
      intro d hs h
      cases d with
      | c x => rfl
      | any => rfl
      | ptr b o s => simp only [D.low, decide_eq_true_eq] at h ⊢; omega
      | sl b o l e s => simp only [D.low, decide_eq_true_eq] at h ⊢; omega
      | mp b => simp only [D.low, decide_eq_true_eq] at h ⊢; omega
      | fn f a b =>
        simp only [D.low, Bool.and_eq_true, D.fn.sizeOf_spec] at h hs ⊢
        exact ⟨lows a (by omega) h.1, lows b (by omega) h.2⟩
      | agg ds => simp only [D.low, D.agg.sizeOf_spec] at h hs ⊢; exact lows ds (by omega) h
      | tup ds => simp only [D.low, D.tup.sizeOf_spec] at h hs ⊢; exact lows ds (by omega) h
  exact key (SizeOf.sizeOf d + 1) d (Nat.lt_succ_self _) h
theorem GC.mono {σ σ1 : TH} (h : Ext σ σ1) {x : TC} (hx : GC σ x) : GC σ1 x := by
  cases x with
  | own i c v n =>
    obtain ⟨blk, h1, h2⟩ := hx
    obtain ⟨blk1, h3, h4⟩ := h c blk h1
    refine ⟨blk1, h3, fun j l lv cv e => ?_⟩
    subst e
    cases blk with
    | cells w cs => obtain ⟨w1, cs1, e, _⟩ := h4; simp at e
    | mp j st l v => obtain ⟨j1, st1, l1, v1, e, _⟩ := h4; simp at e
    | row j0 l0 lv0 cv0 =>
      obtain ⟨l1, lv1, cv1, e, h5, h6, h7, h8⟩ := h4
      simp only [TB.row.injEq] at e
      obtain ⟨rfl, hl, rfl, rfl⟩ := e
      cases hl
      obtain ⟨h9, h10⟩ := h2 _ _ _ _ rfl
      refine ⟨by omega, fun e => ?_⟩
      obtain ⟨h11, h12⟩ := h10 (by omega)
      exact ⟨h11, by rw [h12, h7 (by omega)]⟩
  | op i c v n k a off =>
    obtain ⟨blk, h1, h2⟩ := hx
    obtain ⟨blk1, h3, h4⟩ := h c blk h1
    refine ⟨blk1, h3, fun j l lv cv e => ?_⟩
    subst e
    cases blk with
    | cells w cs => obtain ⟨w1, cs1, e, _⟩ := h4; simp at e
    | mp j st l v => obtain ⟨j1, st1, l1, v1, e, _⟩ := h4; simp at e
    | row j0 l0 lv0 cv0 =>
      obtain ⟨l1, lv1, cv1, e, h5, h6, h7, h8⟩ := h4
      simp only [TB.row.injEq] at e
      obtain ⟨rfl, hl, rfl, rfl⟩ := e
      cases hl
      obtain ⟨h9, h10⟩ := h2 _ _ _ _ rfl
      refine ⟨by omega, fun e => ?_⟩
      obtain ⟨rfl, _⟩ := h8 (by omega)
      exact h10 (by omega)
  | ap c off len sz k => exact Nat.lt_of_lt_of_le hx h.len
  | d x => exact D.low_mono h.len hx
  | _ => trivial
theorem GV.mono {σ σ1 : TH} (h : Ext σ σ1) {x : TV} (hx : GV σ x) : GV σ1 x := by
  cases x with
  | c x => exact GC.mono h hx
  | agg xs => exact fun x hm => GC.mono h (hx x hm)
  | tup xs => exact fun p hp x hm => GC.mono h (hx p hp x hm)
theorem Ext.push (σ : TH) (blk : TB) : Ext σ (σ ++ [blk]) := fun b blk' h => ⟨blk', by rw [List.getElem?_append_left (List.getElem?_eq_some_iff.1 h).1]; exact h, BE.refl _⟩
theorem RH.push {σ : TH} {σD : Heap} (H : RH σ σD) {blk : TB} {ob : Ob} (h : RB blk ob) (hg : ∀ w cs, blk = .cells w cs → ∀ p ∈ cs, GC σ p.2 ∧ p.1 ≤ w) : RH (σ ++ [blk]) (σD ++ [ob]) := {
  len := by simp [H.len]
  hp := fun b blk' hb => by
    rcases Nat.lt_or_ge b σ.length with hlt | hge
    · rw [List.getElem?_append_left hlt] at hb
      rw [List.getElem?_append_left (by rw [H.len]; exact hlt)]
      exact H.hp b blk' hb
    · rw [List.getElem?_append_right hge] at hb
      rw [List.getElem?_append_right (by rw [H.len]; exact hge), H.len]
      have : b - σ.length = 0 := by have := (List.getElem?_eq_some_iff.1 hb).1; simp at this; omega
      rw [this] at hb ⊢
      simp only [List.getElem?_cons_zero, Option.some.injEq] at hb
      subst hb
      exact ⟨ob, rfl, h⟩
  hg := fun b w cs hb p hp => by
    rcases Nat.lt_or_ge b σ.length with hlt | hge
    · rw [List.getElem?_append_left hlt] at hb
      obtain ⟨h1, h2⟩ := H.hg b w cs hb p hp
      exact ⟨h1.mono (Ext.push σ blk), h2⟩
    · rw [List.getElem?_append_right hge] at hb
      have : b - σ.length = 0 := by have := (List.getElem?_eq_some_iff.1 hb).1; simp at this; omega
      rw [this] at hb
      simp only [List.getElem?_cons_zero, Option.some.injEq] at hb
      obtain ⟨h1, h2⟩ := hg w cs hb p hp
      exact ⟨h1.mono (Ext.push σ blk), h2⟩ }
theorem set_at {α : Type} {l : List α} {b b' : Nat} {x y z : α} (h : l[b]? = some x) (h' : (l.set b y)[b']? = some z) : (b' = b ∧ z = y) ∨ (b' ≠ b ∧ l[b']? = some z) := by
  rw [List.getElem?_set] at h'
  by_cases e : b = b'
  · subst e
    rw [if_pos rfl, if_pos (List.getElem?_eq_some_iff.1 h).1] at h'
    simp only [Option.some.injEq] at h'
    exact .inl ⟨rfl, h'.symm⟩
  · rw [if_neg e] at h'
    exact .inr ⟨fun e' => e e'.symm, h'⟩
theorem zaH {α : Type} {l : List α} {b : Nat} {x y : α} (h : l[b]? = some x) : (l.set b y)[b]? = some y := by
  rw [List.getElem?_set_self (List.getElem?_eq_some_iff.1 h).1]
theorem zaC {α : Type} {l : List α} {b b' : Nat} {y : α} (h : b' ≠ b) : (l.set b y)[b']? = l[b']? := by
  rw [List.getElem?_set_ne (fun e => h e.symm)]
theorem Ext.set {σ : TH} {b : Nat} {blk blk1 : TB} (h : σ[b]? = some blk) (he : BE blk blk1) : Ext σ (σ.set b blk1) := fun b' blk' h' => by
  by_cases e : b' = b
  · subst e
    rw [h] at h'
    simp only [Option.some.injEq] at h'
    subst h'
    exact ⟨blk1, zaH h, he⟩
  · exact ⟨blk', by rw [zaC e]; exact h', BE.refl _⟩
theorem RH.set {σ : TH} {σD : Heap} (H : RH σ σD) {b : Nat} {blk blk1 : TB} {ob : Ob} (hb : σ[b]? = some blk) (he : BE blk blk1) (h : RB blk1 ob) (hg : ∀ w cs, blk1 = .cells w cs → ∀ p ∈ cs, GC σ p.2 ∧ p.1 ≤ w) : RH (σ.set b blk1) (σD.set b ob) := {
  len := by simp [H.len]
  hp := fun b' blk' hb' => by
    obtain ⟨ob0, h0, _⟩ := H.hp b blk hb
    rcases set_at hb hb' with ⟨rfl, rfl⟩ | ⟨hne, h'⟩
    · exact ⟨ob, zaH h0, h⟩
    · rw [zaC hne]; exact H.hp b' blk' h'
  hg := fun b' w cs hb' p hp => by
    rcases set_at hb hb' with ⟨rfl, e⟩ | ⟨hne, h'⟩
    · obtain ⟨h1, h2⟩ := hg w cs e.symm p hp
      exact ⟨h1.mono (Ext.set hb he), h2⟩
    · obtain ⟨h1, h2⟩ := H.hg b' w cs h' p hp
      exact ⟨h1.mono (Ext.set hb he), h2⟩ }
def RdOk (σ : TH) (alD : AL) (rd : Opd → Option TV) : Prop := ∀ x v, rd x = some v → ∃ d, lx alD x = some d ∧ RT v d ∧ GV σ v
def OpK (P : Program) (orc : Orc) (n : Nat) (alD : AL) (σ : TH) (σD : Heap) (o : AOp) (Q : TV → TH → Bool → List Nat → Prop) : Prop :=
  ∃ v σ1 rs wr d σD1, OpR P orc n alD σD o d σD1 wr ∧ RT v d ∧ GV σ1 v ∧ RH σ1 σD1 ∧ Ext σ σ1 ∧ (rs = false → wrOk σD σD1 wr = true) ∧ (totOp o = true → σ1 = σ ∧ σD1 = σD ∧ wr = []) ∧ Q v σ1 rs wr
variable {P : Program} {orc : Orc} {n : Nat} {alD : AL} {σ σ1 : TH} {σD σD1 : Heap} {o : AOp} {Q : TV → TH → Bool → List Nat → Prop}
theorem OpK.pure {v : TV} {d : D} (h : OpR P orc n alD σD o d σD []) (hv : RT v d) (hg : GV σ v) (H : RH σ σD) (q : Q v σ false []) : OpK P orc n alD σ σD o Q :=
  ⟨v, σ, false, [], d, σD, h, hv, hg, H, Ext.refl σ, fun _ => rfl, fun _ => ⟨rfl, rfl, rfl⟩, q⟩
theorem OpK.new {v : TV} {d : D} {blk : TB} {ob : Ob} (h : OpR P orc n alD σD o d (σD ++ [ob]) []) (hv : RT v d) (hg : GV (σ ++ [blk]) v) (H : RH σ σD) (hb : RB blk ob) (hc : ∀ w cs, blk = .cells w cs → ∀ p ∈ cs, GC σ p.2 ∧ p.1 ≤ w)
    (q : Q v (σ ++ [blk]) false []) (ht : totOp o = false := by rfl) : OpK P orc n alD σ σD o Q :=
  ⟨v, σ ++ [blk], false, [], d, σD ++ [ob], h, hv, hg, H.push hb hc, Ext.push σ blk, fun _ => rfl, fun h => by rw [ht] at h; simp at h, q⟩
theorem RH.cells (H : RH σ σD) {b w : Nat} {cs : List (Nat × TC)} (h : σ[b]? = some (.cells w cs)) : ∃ ds, σD[b]? = some (.cells ds) ∧ All2 RC (cs.map Prod.snd) ds ∧ ds.length = cs.length ∧ ds = cs.map fun p => p.2.er := by
  obtain ⟨ob, h1, rfl⟩ := H.hp b _ h
  refine ⟨_, h1, ?_, by simp, rfl⟩
  have := All2.er (cs.map Prod.snd)
  rw [List.map_map] at this
  exact this
theorem RH.row (H : RH σ σD) {b i lv cv : Nat} {l : List (TT i)} (h : σ[b]? = some (.row i l lv cv)) : σD[b]? = some (OB (enc i) l) := by
  obtain ⟨ob, h1, h2⟩ := H.hp b _ h
  rw [h1]; exact congrArg some h2
theorem zb6 {b sz : Nat} {ds : List D} (h : σD[b]? = some (.cells ds)) (hs : ds.length = sz) : zbr σD b sz = some ds := by simp [zbr, h, hs]
theorem getT_ok {m : Option Nat} {cs : List TC} {ds : List D} {off : Nat} {v : TV} (h : getT m cs off = some v) (hc : All2 RC cs ds) : ∃ d, zaz m ds off = some d ∧ RT v d := by
  cases m with
  | none =>
    simp only [getT] at h
    split at h
    · rename_i x hx
      simp only [Option.some.injEq] at h
      subst h
      obtain ⟨d, h1, h2⟩ := hc.get _ _ hx
      exact ⟨d, h1, h2⟩
    · simp at h
  | some m =>
    simp only [getT] at h
    split at h
    · rename_i hb
      simp only [Option.some.injEq] at h
      subst h
      have hb' := Nat.le_of_ble_eq_true hb
      refine ⟨.agg ((ds.drop off).take m), ?_, _, rfl, (hc.drop off).take m⟩
      simp only [zaz]
      rw [if_pos (by rw [← hc.len]; exact hb')]
    · simp at h
theorem getT_good {m : Option Nat} {cs : List TC} {off : Nat} {v : TV} (h : getT m cs off = some v) (hc : ∀ x ∈ cs, GC σ x) : GV σ v := by
  cases m with
  | none =>
    simp only [getT] at h
    split at h
    · rename_i x hx
      simp only [Option.some.injEq] at h
      subst h
      exact hc x (List.mem_of_getElem? hx)
    · simp at h
  | some m =>
    simp only [getT] at h
    split at h
    · simp only [Option.some.injEq] at h
      subst h
      exact fun x hx => hc x (List.mem_of_mem_drop (List.mem_of_mem_take hx))
    · simp at h
theorem expC_good (c : CC) (a : c.dn) : GC σ (expC c a) := by cases c <;> first | exact True.intro | rfl
theorem expT_good : ∀ (cs : List CC) (x : tup cs), ∀ y ∈ expT cs x, GC σ y := by
  intro cs
  induction cs with
  | nil => intro x y h; simp [expT] at h
  | cons c cs ih =>
    intro x y h
    simp only [expT, List.mem_cons] at h
    rcases h with rfl | h
    · exact expC_good c x.1
    · exact ih x.2 y h
theorem exp_good (i : Nat) (a : TT i) : ∀ y ∈ exp i a, GC σ y := expT_good _ _
theorem exp_all (i : Nat) (a : TT i) : All2 RC (exp i a) ((enc i a).map .c) := by rw [← exp_er]; exact All2.er _
theorem scalar_ok {x : TC} {d : D} (h : x.scalar = true) (r : RC x d) : d.scalar = true ∧ d = x.er := by
  rcases r with rfl | rfl
  · simp [TC.scalar] at h
  · refine ⟨?_, rfl⟩
    cases x with
    | any => simp [TC.scalar] at h
    | d x => exact h
    | _ => rfl
theorem cellsT_ok {v : TV} {d : D} {xs : List TC} (h : cellsT v = some xs) (r : RT v d) : d.cells? = some (xs.map TC.er) ∧ All2 RC xs (xs.map TC.er) ∧ ∀ x ∈ xs, x ≠ .any := by
  refine ⟨?_, All2.er _, ?_⟩
  · cases v with
    | c x =>
      simp only [cellsT] at h
      split at h
      · rename_i hs
        simp only [Option.some.injEq] at h
        subst h
        obtain ⟨h1, rfl⟩ := scalar_ok hs r
        cases hx : x.er with
        | agg cs => rw [hx] at h1; simp [D.scalar] at h1
        | _ => rw [hx] at h1; simp [D.cells?, h1, hx]
      · simp at h
    | agg ys =>
      simp only [cellsT] at h
      split at h
      · rename_i hs
        simp only [Option.some.injEq] at h
        subst h
        obtain ⟨ds, rfl, ha⟩ := r
        rw [List.all_eq_true] at hs
        have hne : ∀ y ∈ ys, y ≠ .any := fun y hy e => by have := hs y hy; subst e; simp [TC.scalar] at this
        rw [ha.eq hne]
        simp only [D.cells?]
        rw [if_pos]
        rw [List.all_eq_true]
        intro d hd
        rw [List.mem_map] at hd
        obtain ⟨y, hy, rfl⟩ := hd
        exact (scalar_ok (hs y hy) (.inr rfl)).1
      · simp at h
    | tup ys => simp [cellsT] at h
  · intro x hx e
    subst e
    cases v with
    | c y =>
      simp only [cellsT] at h
      split at h
      · simp only [Option.some.injEq] at h; subst h; simp only [List.mem_singleton] at hx; subst hx; rename_i hs; simp [TC.scalar] at hs
      · simp at h
    | agg ys =>
      simp only [cellsT] at h
      split at h
      · rename_i hs
        simp only [Option.some.injEq] at h; subst h
        rw [List.all_eq_true] at hs
        have := hs _ hx; simp [TC.scalar] at this
      · simp at h
    | tup ys => simp [cellsT] at h
theorem cellsT_good {v : TV} {xs : List TC} (h : cellsT v = some xs) (g : GV σ v) : ∀ x ∈ xs, GC σ x := by
  cases v with
  | c x =>
    simp only [cellsT] at h
    split at h
    · simp only [Option.some.injEq] at h; subst h; intro y hy; simp only [List.mem_singleton] at hy; subst hy; exact g
    · simp at h
  | agg ys =>
    simp only [cellsT] at h
    split at h
    · simp only [Option.some.injEq] at h; subst h; exact g
    · simp at h
  | tup ys => simp [cellsT] at h
theorem All2.put {α β : Type} {R : α → β → Prop} {cs xs : List α} {ds ys : List β} (h : All2 R cs ds) (h' : All2 R xs ys) (off : Nat) : All2 R (putT cs off xs) (ds.take off ++ ys ++ ds.drop (off + ys.length)) := by
  unfold putT
  rw [h'.len]
  exact ((h.take off).app h').app (h.drop _)
theorem putT_mem {α : Type} {cs xs : List α} {off : Nat} {x : α} (h : x ∈ putT cs off xs) : x ∈ cs ∨ x ∈ xs := by
  unfold putT at h
  simp only [List.mem_append] at h
  rcases h with (h | h) | h
  · exact .inl (List.mem_of_mem_take h)
  · exact .inr h
  · exact .inl (List.mem_of_mem_drop h)
theorem fillT_ok {rd : Opd → Option TV} (hr : RdOk σ alD rd) : ∀ {ps : List (Nat × Nat × Opd)} {cs cs' : List TC} {ds : List D}, fillT rd cs ps = some cs' → All2 RC cs ds → (∀ x ∈ cs, GC σ x) → ∃ ds', fillA alD ds ps = some ds' ∧ All2 RC cs' ds' ∧ ∀ x ∈ cs', GC σ x := by
  intro ps
  induction ps with
  | nil => intro cs cs' ds h hc hg; simp only [fillT, Option.some.injEq] at h; subst h; exact ⟨ds, rfl, hc, hg⟩
  | cons p ps ih =>
    intro cs cs' ds h hc hg
    obtain ⟨o, m, x⟩ := p
    simp only [fillT] at h
    split at h
    · rename_i v hv
      split at h
      · rename_i xs hxs
        split at h
        · rename_i hb
          obtain ⟨d, h1, h2, h3⟩ := hr x v hv
          obtain ⟨h4, h5, h6⟩ := cellsT_ok hxs h2
          simp only [Bool.and_eq_true] at hb
          have e1 := Nat.eq_of_beq_eq_true hb.1
          have e2 := Nat.le_of_ble_eq_true hb.2
          obtain ⟨ds', h7, h8⟩ := ih h (hc.put h5 o) fun y hy => by
            rcases putT_mem hy with hy | hy
            · exact hg y hy
            · exact cellsT_good hxs h3 y hy
          refine ⟨ds', ?_, h8⟩
          simp only [fillA, h1, Option.bind_some, h4]
          rw [if_neg (by rw [List.length_map, e1, ← hc.len]; omega)]
          exact h7
        · simp at h
      · simp at h
    · simp at h
end
end Go.Abs
end
section
namespace Go.Abs
open Go.Fl
theorem arith_add {a b : Int} (ha : a.natAbs < 2 ^ 52) (hb : b.natAbs < 2 ^ 52) : Op.Complex.arith .add .f64 (fl a) (fl b) = pure (fl (a + b)) := by
  have h : FloatKind.f64.format.add (fl a) (fl b) = some (fl (a + b)) := fl_add ha hb
  have e : Op.floatArith .add .f64 (fl a) (fl b) = pure (.float .f64 (fl (a + b))) := by
    show (match FloatKind.f64.format.add (fl a) (fl b) with | some r => (pure (.float .f64 r) : Go.Sem Value) | none => _) = _
    rw [h]
  unfold Op.Complex.arith
  rw [e]
  rfl
theorem arith_sub {a b : Int} (ha : a.natAbs < 2 ^ 52) (hb : b.natAbs < 2 ^ 52) : Op.Complex.arith .sub .f64 (fl a) (fl b) = pure (fl (a - b)) := by
  have h : FloatKind.f64.format.sub (fl a) (fl b) = some (fl (a - b)) := fl_sub ha hb
  have e : Op.floatArith .sub .f64 (fl a) (fl b) = pure (.float .f64 (fl (a - b))) := by
    show (match FloatKind.f64.format.sub (fl a) (fl b) with | some r => (pure (.float .f64 r) : Go.Sem Value) | none => _) = _
    rw [h]
  unfold Op.Complex.arith
  rw [e]
  rfl
theorem arith_mul {a b : Int} (h0 : 0 ≤ a) (h1 : 0 ≤ b) (ha : a.natAbs < 2 ^ 53) (hb : b.natAbs < 2 ^ 53) (hm : (a * b).natAbs < 2 ^ 53) : Op.Complex.arith .mul .f64 (fl a) (fl b) = pure (fl (a * b)) := by
  have h : FloatKind.f64.format.mul (fl a) (fl b) = some (fl (a * b)) := fl_mul h0 h1 ha hb hm
  have e : Op.floatArith .mul .f64 (fl a) (fl b) = pure (.float .f64 (fl (a * b))) := by
    show (match FloatKind.f64.format.mul (fl a) (fl b) with | some r => (pure (.float .f64 r) : Go.Sem Value) | none => _) = _
    rw [h]
  unfold Op.Complex.arith
  rw [e]
  rfl
theorem complex_add {a b c d : Int} (ha : a.natAbs < 2 ^ 52) (hb : b.natAbs < 2 ^ 52) (hc : c.natAbs < 2 ^ 52) (hd : d.natAbs < 2 ^ 52) :
    Op.complexOp .add .f64 (fl a) (fl b) (fl c) (fl d) = pure (.complex .f64 (fl (a + c)) (fl (b + d))) := by
  unfold Op.complexOp
  simp only [arith_add ha hc, arith_add hb hd]
  rfl
theorem complex_sub {a b c d : Int} (ha : a.natAbs < 2 ^ 52) (hb : b.natAbs < 2 ^ 52) (hc : c.natAbs < 2 ^ 52) (hd : d.natAbs < 2 ^ 52) :
    Op.complexOp .sub .f64 (fl a) (fl b) (fl c) (fl d) = pure (.complex .f64 (fl (a - c)) (fl (b - d))) := by
  unfold Op.complexOp
  simp only [arith_sub ha hc, arith_sub hb hd]
  rfl
theorem prod_of {x1 x2 x3 x4 A B z : Nat} (p1 : Op.Complex.arith .mul .f64 x1 x3 = pure A) (p2 : Op.Complex.arith .mul .f64 x2 x4 = pure z) (p3 : Op.Complex.arith .mul .f64 x1 x4 = pure z) (p4 : Op.Complex.arith .mul .f64 x2 x3 = pure B)
    (p5 : Op.Complex.arith .sub .f64 A z = pure A) (p6 : Op.Complex.arith .add .f64 z B = pure B) : Op.Complex.product x1 x2 x3 x4 = pure (A, B) := by
  unfold Op.Complex.product Op.Complex.mul Op.Complex.sub Op.Complex.add
  rw [p1, p2, p3, p4]
  show (do pure (← Op.Complex.arith .sub .f64 A z, ← Op.Complex.arith .add .f64 z B) : Go.Sem (Nat × Nat)) = _
  rw [p5, p6]
  rfl
theorem cop_of {x1 x2 x3 x4 A B : Nat} (h : Op.Complex.product x1 x2 x3 x4 = pure (A, B)) : Op.complexOp .mul .f64 x1 x2 x3 x4 = pure (.complex .f64 A B) := by
  unfold Op.complexOp
  show (do let (e, f) ← Op.Complex.product x1 x2 x3 x4; pure (.complex .f64 (← Op.Complex.conv .f64 e .f64) (← Op.Complex.conv .f64 f .f64)) : Go.Sem Value) = _
  rw [h]
  rfl
theorem complex_mul {a b n : Int} (h0 : 0 ≤ a) (h1 : 0 ≤ b) (h2 : 0 ≤ n) (ha : a ≤ 1048576) (hb : b ≤ 1048576) (hn : n ≤ 1048576) :
    Op.complexOp .mul .f64 (fl a) (fl b) (fl n) (fl 0) = pure (.complex .f64 (fl (a * n)) (fl (b * n))) := by
  have m1 : 0 ≤ a * n ∧ a * n ≤ 1048576 * 1048576 := ⟨Int.mul_nonneg h0 h2, Int.mul_le_mul ha hn h2 (by omega)⟩
  have m2 : 0 ≤ b * n ∧ b * n ≤ 1048576 * 1048576 := ⟨Int.mul_nonneg h1 h2, Int.mul_le_mul hb hn h2 (by omega)⟩
  have z : (0 : Int).natAbs < 2 ^ 53 := by omega
  have z2 : (0 : Int).natAbs < 2 ^ 52 := by omega
  refine cop_of (prod_of (z := fl 0) ?_ ?_ ?_ ?_ ?_ ?_)
  · exact arith_mul h0 h2 (by omega) (by omega) (by omega)
  · have h := arith_mul (a := b) (b := 0) h1 (Int.le_refl _) (by omega) z (by rw [Int.mul_zero]; exact z)
    rw [Int.mul_zero] at h; exact h
  · have h := arith_mul (a := a) (b := 0) h0 (Int.le_refl _) (by omega) z (by rw [Int.mul_zero]; exact z)
    rw [Int.mul_zero] at h; exact h
  · exact arith_mul h1 h2 (by omega) (by omega) (by omega)
  · have h := arith_sub (a := a * n) (b := 0) (by omega) z2
    rw [Int.sub_zero] at h; exact h
  · have h := arith_add (a := 0) (b := b * n) z2 (by omega)
    rw [Int.zero_add] at h; exact h
theorem float_int {n : Int} (h : n.natAbs < 2 ^ 53) : Conv.floatToInt .f64 (fl n) .i64 = pure (.int .i64 n) := by
  unfold Conv.floatToInt
  have e : (FloatKind.f64.decode (fl n)).toInt .zero = some n := fl_int h
  simp only [e]
  have h1 : IntKind.i64.min = -9223372036854775808 := rfl
  have h2 : IntKind.i64.max = 9223372036854775807 := rfl
  rw [if_pos (by rw [h1, h2]; omega)]
end Go.Abs
end
section
namespace Go.Abs
section
variable [Gl] [Y : Ty]
variable {P : Program} {orc : Orc} {n : Nat} {alD : AL} {σ σ1 : TH} {σD σD1 : Heap} {o : AOp} {Q : TV → TH → Bool → List Nat → Prop} {rd : Opd → Option TV}
theorem zbH (hr : RdOk σ alD rd) {x : Operand} {v : TV} (h : valR rd x = some v) : ∃ d, oev alD x = some d ∧ RT v d ∧ GV σ v := by
  unfold valR at h
  split at h
  · rename_i o ho
    obtain ⟨d, h1, h2⟩ := hr o v h
    exact ⟨d, by simp only [oev, ho]; exact h1, h2⟩
  · simp at h
theorem valT_ok {v : TV} {d : D} {a : Value} (h : valT v = some a) (r : RT v d) : d.val? = some a ∧ d = .c (.lit a) := by
  unfold valT at h
  split at h
  · simp only [Option.some.injEq] at h; subst h
    rcases r with r | rfl
    · simp at r
    · exact ⟨rfl, rfl⟩
  · simp only [Option.some.injEq] at h; subst h
    rcases r with r | rfl
    · simp at r
    · exact ⟨rfl, rfl⟩
  · simp at h
def flat : Value → Bool
  | .agg _ | .tuple _ => false
  | _ => true
theorem ofVT_ok {v : Value} (h : flat v = true) : RT (ofVT v) (ofVal v) ∧ GV σ (ofVT v) := by
  unfold ofVT
  split
  · exact ⟨.inr rfl, True.intro⟩
  · refine ⟨.inr ?_, rfl⟩
    cases v <;> first | rfl | simp [flat] at h
theorem valC_ok {x : TC} {d : D} {a : Value} (h : valC x = some a) (r : RC x d) : litOf d = some a := by
  unfold valC at h
  split at h
  · simp only [Option.some.injEq] at h; subst h
    rcases r with r | rfl
    · simp at r
    · rfl
  · simp only [Option.some.injEq] at h; subst h
    rcases r with r | rfl
    · simp at r
    · rfl
  · simp at h
theorem valCs_ok : ∀ {xs : List TC} {ds : List D} {vs : List Value}, valCs xs = some vs → All2 RC xs ds → ds.mapM litOf = some vs := by
  intro xs ds vs h r
  induction r generalizing vs with
  | nil => simp only [valCs, Option.some.injEq] at h; subst h; rfl
  | cons h1 _ ih =>
    simp only [valCs] at h
    split at h
    · rename_i a b h2 h3
      simp only [Option.some.injEq] at h
      subst h
      rw [List.mapM_cons, valC_ok h2 h1, ih h3]
      rfl
    · simp at h
theorem eqFs_ok {xs ys : Array Value} {d : Nat} : ∀ {fs : List Field} {r : Bool}, eqFs P xs ys fs = some r → zar P (Op.eqFields (d + 1) xs ys fs) = some r := by
  intro fs
  induction fs with
  | nil => intro r h; simp only [eqFs, Option.some.injEq] at h; subst h; rfl
  | cons f fs ih =>
    intro r h
    simp only [eqFs] at h
    split at h
    · rename_i k a k' b k2 q h1 h2 h3 h4 h5
      split at h
      · rename_i e _
        subst e
        simp only [Option.some.injEq] at h
        subst h
        exact eqF_cons h1 h2 h3 (eq_int h4) (ih h5)
      · simp at h
    · rename_i a b q h1 h2 h3 h4 h5
      simp only [Option.some.injEq] at h
      subst h
      exact eqF_cons h1 h2 h3 (eq_bool h4) (ih h5)
    · simp at h
theorem eqT_ok {t : TypeId} {xs ys : List TC} {ds es : List D} {r : Bool} (h : eqT P t xs ys = some r) (h1 : All2 RC xs ds) (h2 : All2 RC ys es) :
    ∃ vs ws, (D.agg ds).val? = some (.agg vs) ∧ (D.agg es).val? = some (.agg ws) ∧ P.eqGuardType P.depth t = false ∧ zar P (Op.equalIn 10000 t (.agg vs) (.agg ws)) = some r := by
  unfold eqT at h
  split at h
  · rename_i vs ws fs h3 h4 h5 h6 h7
    refine ⟨vs.toArray, ws.toArray, ?_, ?_, h6, ?_⟩
    · simp only [D.val?, valCs_ok h3 h1, Option.map_some]
    · simp only [D.val?, valCs_ok h4 h2, Option.map_some]
    · have hf : P.fieldsOf t = fs := by simp only [Program.fieldsOf, h5]
      refine eq_agg (d := 9999) (by rw [hf]; exact h5) h7 ?_
      rw [hf]
      exact eqFs_ok (d := 9998) h
  · simp at h
theorem zbh {α β : Type} {o : Option α} {f : α → Option β} {b : β} (h : o.bind f = some b) : ∃ a, o = some a ∧ f a = some b := Option.bind_eq_some_iff.1 h
theorem pureIn_pure {α : Type} (a : α) : zar P (Go.Sem.pure a) = some a := rfl
theorem binV_cx {o : BinOp} {t : TypeId} {x y : Operand} {a b c d : Nat} {v : Value} (ho : o ≠ .eql) (ho2 : o ≠ .neq) (ho3 : o ≠ .shl) (ho4 : o ≠ .shr) (h : Op.complexOp o .f64 a b c d = pure v) : binV P o t x y (.complex .f64 a b) (.complex .f64 c d) = some v := by
  unfold binV
  rw [zam]
  have hg : zar P (eqGuard o t x y (.complex .f64 a b) (.complex .f64 c d)) = some () := by
    cases o <;> first | rfl | exact absurd rfl ho | exact absurd rfl ho2
  rw [hg, Option.bind_some]
  have : binOp o t (.complex .f64 a b) (.complex .f64 c d) = Op.complexOp o .f64 a b c d := by
    cases o <;> first | rfl | exact absurd rfl ho | exact absurd rfl ho2 | exact absurd rfl ho3 | exact absurd rfl ho4
  rw [this, h]
  rfl
theorem fsum_ok {a b c : Int} (h : fsum? a b = some c) : a.natAbs < 2 ^ 52 ∧ b.natAbs < 2 ^ 52 ∧ c = a + b := by
  unfold fsum? at h
  split at h
  · rename_i hh; simp only [Option.some.injEq] at h; exact ⟨hh.1, hh.2, h.symm⟩
  · simp at h
theorem fdif_ok {a b c : Int} (h : fdif? a b = some c) : a.natAbs < 2 ^ 52 ∧ b.natAbs < 2 ^ 52 ∧ c = a - b := by
  unfold fdif? at h
  split at h
  · rename_i hh; simp only [Option.some.injEq] at h; exact ⟨hh.1, hh.2, h.symm⟩
  · simp at h
theorem fmul_ok {a b c : Int} (h : fmul? a b = some c) : 0 ≤ a ∧ a ≤ 1048576 ∧ 0 ≤ b ∧ b ≤ 1048576 ∧ c = a * b := by
  unfold fmul? at h
  split at h
  · rename_i hh; simp only [Option.some.injEq] at h; exact ⟨hh.1, hh.2.1, hh.2.2.1, hh.2.2.2, h.symm⟩
  · simp at h
theorem valO_ok (hr : RdOk σ alD rd) {x : Operand} {a : Value} (h : valO (valR rd) x = some a) : (oev alD x).bind D.val? = some a := by
  unfold valO at h
  split at h
  · rename_i v hv
    obtain ⟨d, h1, h2, _⟩ := zbH hr hv
    rw [h1, Option.bind_some]
    exact (valT_ok h h2).1
  · simp at h
theorem genV_ok (hr : RdOk σ alD rd) {op : Op} {ty : TypeId} {v : Value} (hsel : ∀ cs b, op ≠ .select cs b) (h : genV P op ty (valR rd) = some v) : genA P op ty alD = some (ofVal v) := by
  unfold genV at h
  split at h
  · rename_i hall
    rw [List.all_eq_true] at hall
    have key : ∀ x ∈ op.operands.toList, (oev alD x).bind D.val? = valO (valR rd) x := fun x hx => by
      have := hall x hx
      rw [Option.isSome_iff_exists] at this
      obtain ⟨a, ha⟩ := this
      rw [ha]; exact valO_ok hr ha
    unfold genA
    rw [if_pos (by rw [List.all_eq_true]; intro x hx; rw [key x hx]; exact hall x hx)]
    rw [execOp_congr (ρ := fun x => (((oev alD x).bind D.val?).getD undef)) (ρ' := fun x => (valO (valR rd) x).getD undef) { dst := none, op := op, type := ty, pos := "", after := #[], guard := none } hsel (fun x hx => by rw [key x (by simpa using hx)])]
    split at h
    · rename_i v' hv
      simp only [Option.some.injEq] at h
      subst h
      rw [hv]
    · simp at h
  · simp at h
theorem conv_fl {t t' : TypeId} {ka : IntKind} {a : Int} (ht : P.underlying t' = some (.float .f64)) (hs : (P.underlying t).isSome = true) : zar P (convert t t' (.int ka a)) = some (.float .f64 (Fl.fl a)) := by
  obtain ⟨u, hu⟩ := Option.isSome_iff_exists.1 hs
  unfold convert
  rw [zam, zaX hu, Option.bind_some, zam, zaX ht, Option.bind_some]
  cases u <;> rfl
theorem conv_int {t t' : TypeId} {a b : Int} (ht : P.underlying t' = some (.int .i64)) (hs : (P.underlying t).isSome = true) (h : fint? a = some b) : zar P (convert t t' (.float .f64 (Fl.fl a))) = some (.int .i64 b) := by
  unfold fint? at h
  split at h
  · rename_i hh
    simp only [Option.some.injEq] at h
    subst h
    obtain ⟨u, hu⟩ := Option.isSome_iff_exists.1 hs
    unfold convert
    rw [zam, zaX hu, Option.bind_some, zam, zaX ht, Option.bind_some]
    have e : zar P (Conv.floatToInt .f64 (Fl.fl a) .i64) = some (.int .i64 a) := by rw [float_int hh]; rfl
    cases u <;> exact e
  · simp at h
theorem gen_of {c : Call} {ty : TypeId} {b : Builtin} {v : Value} (hc : c.callee = .builtin b) (hall : ∀ x ∈ c.args.toList, ((oev alD x).bind D.val?).isSome = true)
    (h : zar P (builtin b c.argTypes ty (c.args.map fun | .const _ => true | _ => false) (c.args.map fun x => ((oev alD x).bind D.val?).getD undef)) = some (.value v)) : genA P (.call c) ty alD = some (ofVal v) := by
  obtain ⟨callee, args, ts⟩ := c
  dsimp only at hc hall h
  subst hc
  have hop : (Op.operands (.call ⟨.builtin b, args, ts⟩)).toList = args.toList := by simp [Op.operands, Call.operands]
  unfold genA
  rw [if_pos (by rw [hop, List.all_eq_true]; exact hall)]
  have : zar P (execOp (fun x => ((oev alD x).bind D.val?).getD undef) { dst := none, op := .call ⟨.builtin b, args, ts⟩, type := ty, pos := "", after := #[], guard := none }) = some (.value v) := h
  rw [this]
theorem gen_complex {c : Call} {ty : TypeId} {x y : Operand} {a b : Nat} (hc : c.callee = .builtin .complex) (ha : c.args.toList = [x, y]) (e1 : oev alD x = some (.c (.lit (.float .f64 a)))) (e2 : oev alD y = some (.c (.lit (.float .f64 b)))) :
    genA P (.call c) ty alD = some (.c (.lit (.complex .f64 a b))) := by
  have ha' : c.args = #[x, y] := by rw [← Array.toArray_toList (xs := c.args), ha]
  refine gen_of (v := .complex .f64 a b) hc (by rw [ha]; simp [e1, e2, D.val?]) ?_
  rw [ha']
  have e3 : (#[x, y].map fun x => ((oev alD x).bind D.val?).getD undef) = #[.float .f64 a, .float .f64 b] := by simp [e1, e2, D.val?]
  rw [e3]
  rfl
theorem gen_real {c : Call} {ty : TypeId} {x : Operand} {a b : Nat} (hc : c.callee = .builtin .real) (ha : c.args.toList = [x]) (e1 : oev alD x = some (.c (.lit (.complex .f64 a b)))) :
    genA P (.call c) ty alD = some (.c (.lit (.float .f64 a))) := by
  have ha' : c.args = #[x] := by rw [← Array.toArray_toList (xs := c.args), ha]
  refine gen_of (v := .float .f64 a) hc (by rw [ha]; simp [e1, D.val?]) ?_
  rw [ha']
  have e3 : (#[x].map fun x => ((oev alD x).bind D.val?).getD undef) = #[.complex .f64 a b] := by simp [e1, D.val?]
  rw [e3]
  rfl
theorem gen_imag {c : Call} {ty : TypeId} {x : Operand} {a b : Nat} (hc : c.callee = .builtin .imag) (ha : c.args.toList = [x]) (e1 : oev alD x = some (.c (.lit (.complex .f64 a b)))) :
    genA P (.call c) ty alD = some (.c (.lit (.float .f64 b))) := by
  have ha' : c.args = #[x] := by rw [← Array.toArray_toList (xs := c.args), ha]
  refine gen_of (v := .float .f64 b) hc (by rw [ha]; simp [e1, D.val?]) ?_
  rw [ha']
  have e3 : (#[x].map fun x => ((oev alD x).bind D.val?).getD undef) = #[.complex .f64 a b] := by simp [e1, D.val?]
  rw [e3]
  rfl
theorem flat_of {v : Value} (h : isFlat v = true) : flat v = true := by cases v <;> first | rfl | simp [isFlat] at h
theorem call_toList {c : Call} {l : List Operand} (h : c.args.toList = l) : c.args = l.toArray := by rw [← h]
variable {R : Type} {k : KO R} {r : R}
theorem OpK.one {x : TC} {d : D} (q : Q (.c x) σ false []) (h : OpR P orc n alD σD o d σD []) (hd : d = x.er) (hg : GC σ x) (H : RH σ σD) : OpK P orc n alD σ σD o Q :=
  OpK.pure h (v := .c x) (Or.inr hd) hg H q
theorem OpK.vt {v : Value} (q : Q (ofVT v) σ false []) (h : OpR P orc n alD σD o (ofVal v) σD []) (hf : isFlat v = true) (H : RH σ σD) : OpK P orc n alD σ σD o Q :=
  OpK.pure h (ofVT_ok (σ := σ) (flat_of hf)).1 (ofVT_ok (flat_of hf)).2 H q
theorem genT_ok {op : Op} {ty : TypeId} (hr : RdOk σ alD rd) (H : RH σ σD) (h : genT P op ty rd σ k = some r) : OpK P orc n alD σ σD (.gen op ty) (fun v σ1 rs wr => k v σ1 rs wr = some r) := by
  unfold genT at h
  split at h
  · -- binOp
    rename_i o t x y t'
    split at h
    · -- ints
      rename_i ka a kb b hx hy
      obtain ⟨d1, e1, r1, _⟩ := zbH hr hx
      obtain ⟨d2, e2, r2, _⟩ := zbH hr hy
      rcases r1 with r1 | rfl
      · simp at r1
      rcases r2 with r2 | rfl
      · simp at r2
      split at h
      · split at h
        · rename_i e _
          subst e
          obtain ⟨v, h1, h2⟩ := zbh h
          exact OpK.one h2 (op_bin e1 e2 rfl rfl (bin_quo h1) rfl) rfl rfl H
        · simp at h
      · split at h
        · rename_i e _
          subst e
          obtain ⟨v, h1, h2⟩ := zbh h
          exact OpK.one h2 (op_bin e1 e2 rfl rfl (bin_rem h1) rfl) rfl rfl H
        · simp at h
      · split at h
        · rename_i v hv
          split at h
          · rename_i hf
            exact OpK.vt h (op_bin e1 e2 rfl rfl hv rfl) hf H
          · simp at h
        · simp at h
    · -- structs
      rename_i xs ys hx hy
      obtain ⟨d1, e1, ⟨ds, rfl, a1⟩, _⟩ := zbH hr hx
      obtain ⟨d2, e2, ⟨es, rfl, a2⟩, _⟩ := zbH hr hy
      split at h
      · rename_i q hq
        obtain ⟨vs, ws, h1, h2, h3, h4⟩ := eqT_ok hq a1 a2
        split at h
        · exact OpK.one h (op_bin e1 e2 h1 h2 (bin_eql h3 h4) rfl) rfl True.intro H
        · exact OpK.one h (op_bin e1 e2 h1 h2 (bin_neq h3 h4) rfl) rfl True.intro H
        · simp at h
      · simp at h
    · -- complex numbers
      rename_i a b c d hx hy
      obtain ⟨d1, e1, r1, _⟩ := zbH hr hx
      obtain ⟨d2, e2, r2, _⟩ := zbH hr hy
      rcases r1 with r1 | rfl
      · simp at r1
      rcases r2 with r2 | rfl
      · simp at r2
      split at h
      · obtain ⟨u, h1, h⟩ := zbh h
        obtain ⟨v, h2, h⟩ := zbh h
        obtain ⟨p1, p2, rfl⟩ := fsum_ok h1
        obtain ⟨p3, p4, rfl⟩ := fsum_ok h2
        exact OpK.one h (op_bin e1 e2 rfl rfl (binV_cx (by simp) (by simp) (by simp) (by simp) (complex_add p1 p3 p2 p4)) rfl) rfl True.intro H
      · obtain ⟨u, h1, h⟩ := zbh h
        obtain ⟨v, h2, h⟩ := zbh h
        obtain ⟨p1, p2, rfl⟩ := fdif_ok h1
        obtain ⟨p3, p4, rfl⟩ := fdif_ok h2
        exact OpK.one h (op_bin e1 e2 rfl rfl (binV_cx (by simp) (by simp) (by simp) (by simp) (complex_sub p1 p3 p2 p4)) rfl) rfl True.intro H
      · split at h
        · obtain ⟨u, h1, h⟩ := zbh h
          obtain ⟨v, h2, h⟩ := zbh h
          obtain ⟨p1, p2, p3, p4, rfl⟩ := fmul_ok h1
          obtain ⟨p5, p6, _, _, rfl⟩ := fmul_ok h2
          exact OpK.one h (op_bin e1 e2 rfl rfl (binV_cx (by simp) (by simp) (by simp) (by simp) (complex_mul p1 p5 p3 p2 p6 p4)) rfl) rfl True.intro H
        · simp at h
      · simp at h
    · -- others
      rename_i u v _ _ _ hx hy
      obtain ⟨d1, e1, r1, _⟩ := zbH hr hx
      obtain ⟨d2, e2, r2, _⟩ := zbH hr hy
      split at h
      · rename_i a b ha hb
        obtain ⟨h1, rfl⟩ := valT_ok ha r1
        obtain ⟨h2, rfl⟩ := valT_ok hb r2
        split at h
        · rename_i hu
          exact OpK.one h (op_bin e1 e2 rfl rfl (bin_eqlB hu) rfl) rfl True.intro H
        · rename_i hu
          exact OpK.one h (op_bin e1 e2 rfl rfl (bin_neqB hu) rfl) rfl True.intro H
        · simp at h
      · rename_i a b _ ha hb
        obtain ⟨h1, rfl⟩ := valT_ok ha r1
        obtain ⟨h2, rfl⟩ := valT_ok hb r2
        split at h
        · rename_i w hw
          split at h
          · rename_i hf
            exact OpK.vt h (op_bin e1 e2 rfl rfl hw rfl) hf H
          · simp at h
        · simp at h
      · simp at h
    · simp at h
  · -- unOp
    rename_i o t x
    split at h
    · rename_i u hu
      obtain ⟨d1, e1, r1, _⟩ := zbH hr hu
      split at h
      · rename_i e he
        obtain ⟨h1, rfl⟩ := valT_ok he r1
        exact OpK.one h (op_un e1 rfl rfl rfl) rfl True.intro H
      · rename_i a _ ha
        obtain ⟨h1, rfl⟩ := valT_ok ha r1
        split at h
        · rename_i w hw
          split at h
          · rename_i hf
            exact OpK.vt h (op_un e1 rfl hw rfl) hf H
          · simp at h
        · simp at h
      · simp at h
    · simp at h
  · -- convert
    rename_i t t' x
    split at h
    · rename_i ka a ha
      obtain ⟨d1, e1, r1, _⟩ := zbH hr ha
      rcases r1 with r1 | rfl
      · simp at r1
      split at h
      · rename_i ht
        split at h
        · rename_i hs
          exact OpK.one h (op_conv e1 rfl (v := .float .f64 (Fl.fl a)) (conv_fl ht hs) rfl) rfl True.intro H
        · simp at h
      · split at h
        · rename_i w hw
          split at h
          · rename_i hf
            exact OpK.vt h (op_conv e1 rfl hw rfl) hf H
          · simp at h
        · simp at h
    · rename_i a ha
      obtain ⟨d1, e1, r1, _⟩ := zbH hr ha
      rcases r1 with r1 | rfl
      · simp at r1
      split at h
      · rename_i ht hs
        obtain ⟨b, h1, h2⟩ := zbh h
        exact OpK.one h2 (op_conv e1 rfl (v := .int .i64 b) (conv_int ht hs h1) rfl) rfl rfl H
      · simp at h
    · rename_i u _ _ hu
      obtain ⟨d1, e1, r1, _⟩ := zbH hr hu
      split at h
      · rename_i a ha
        obtain ⟨h1, rfl⟩ := valT_ok ha r1
        split at h
        · rename_i w hw
          split at h
          · rename_i hf
            exact OpK.vt h (op_conv e1 rfl hw rfl) hf H
          · simp at h
        · simp at h
      · simp at h
    · simp at h
  · -- builtins
    rename_i c
    split at h
    · split at h
      · rename_i v hv
        split at h
        · rename_i hf
          refine OpK.vt h (op_call_gen (genV_ok hr (fun cs b => by simp) hv)) hf H
        · simp at h
      · simp at h
    · split at h
      · rename_i v hv
        split at h
        · rename_i hf
          refine OpK.vt h (op_call_gen (genV_ok hr (fun cs b => by simp) hv)) hf H
        · simp at h
      · simp at h
    · rename_i x y hc ha
      split at h
      · rename_i a b hx hy
        obtain ⟨d1, e1, r1, _⟩ := zbH hr hx
        obtain ⟨d2, e2, r2, _⟩ := zbH hr hy
        rcases r1 with r1 | rfl
        · simp at r1
        rcases r2 with r2 | rfl
        · simp at r2
        exact OpK.one h (op_call_gen (gen_complex hc ha e1 e2)) rfl True.intro H
      · rename_i a b hx hy
        obtain ⟨d1, e1, r1, _⟩ := zbH hr hx
        obtain ⟨d2, e2, r2, _⟩ := zbH hr hy
        rcases r1 with r1 | rfl
        · simp at r1
        rcases r2 with r2 | rfl
        · simp at r2
        split at h
        · rename_i hb
          have := Nat.eq_of_beq_eq_true hb
          subst this
          exact OpK.one h (op_call_gen (gen_complex hc ha e1 e2)) rfl True.intro H
        · simp at h
      · simp at h
    · rename_i x hc ha
      split at h
      · rename_i a b hx
        obtain ⟨d1, e1, r1, _⟩ := zbH hr hx
        rcases r1 with r1 | rfl
        · simp at r1
        exact OpK.one h (op_call_gen (gen_real hc ha e1)) rfl True.intro H
      · simp at h
    · rename_i x hc ha
      split at h
      · rename_i a b hx
        obtain ⟨d1, e1, r1, _⟩ := zbH hr hx
        rcases r1 with r1 | rfl
        · simp at r1
        exact OpK.one h (op_call_gen (gen_imag hc ha e1)) rfl True.intro H
      · simp at h
    · simp at h
  · simp at h
end
end Go.Abs
end
