/- The rules for operations. -/
import Derived.Test.YtffiheekdcaihaaDoorDfwZ
set_option linter.all false
namespace Go.Abs
variable [Gl]
abbrev I (n : Int) : D := .c (.lit (.int .i64 n))
abbrev B (b : Bool) : D := .c (.lit (.bool b))
def lx (al : AL) : Opd → Option D
  | .t k => lk k al
  | .k d => some d
def oev (al : AL) (x : Operand) : Option D :=
  match opd x with
  | some o => lx al o
  | none => none
def lxs (al : AL) : List Opd → Option (List D)
  | [] => some []
  | x :: xs => match lx al x, lxs al xs with
    | some d, some ds => some (d :: ds)
    | _, _ => none
def OpR (P : Program) (orc : Orc) (n : Nat) (al : AL) (σ : Heap) (op : AOp) (d : D) (σ1 : Heap) (w : List Nat) : Prop := ∀ e, Env n al e → zbY P orc op e σ = some (d, σ1, w)
def at? {α : Type} (l : List α) (i : Int) : Option α := if 0 ≤ i ∧ i < l.length then l[i.toNat]? else none
section
variable {P : Program} {orc : Orc} {n : Nat} {al : AL} {σ σ1 : Heap} {w : List Nat} {d d1 d2 : D} {e : List D}
theorem zcu (he : Env n al e) {x : Opd} (h : lx al x = some d) : x.ev e = d := by
  cases x with
  | t k => simp only [lx] at h; simp [Opd.ev, he.2 k d h]
  | k d' => simp only [lx, Option.some.injEq] at h; subst h; rfl
theorem ev_lxs (he : Env n al e) : ∀ {xs : List Opd} {ds : List D}, lxs al xs = some ds → xs.map (Opd.ev e) = ds := by
  intro xs
  induction xs with
  | nil => intro ds h; simp only [lxs, Option.some.injEq] at h; subst h; rfl
  | cons x xs ih =>
    intro ds h
    simp only [lxs] at h
    split at h
    · rename_i d1 ds1 h1 h2
      simp only [Option.some.injEq] at h
      subst h
      simp [zcu he h1, ih h2]
    · simp at h
theorem op_mov {x : Opd} (h : lx al x = some d) : OpR P orc n al σ (.mov x) d σ [] := fun e he => by simp [zbY, zcu he h]
theorem zeT {c x y : Opd} {b : Bool} (hc : lx al c = some (B b)) (hb : b = true) (h : lx al x = some d) : OpR P orc n al σ (.pick c x y) d σ [] := fun e he => by
  simp [zbY, zcu he hc, litBool, hb, zcu he h]
theorem ze7 {c x y : Opd} {b : Bool} (hc : lx al c = some (B b)) (hb : b = false) (h : lx al y = some d) : OpR P orc n al σ (.pick c x y) d σ [] := fun e he => by
  simp [zbY, zcu he hc, litBool, hb, zcu he h]
def binV (P : Program) (o : BinOp) (t : TypeId) (x y : Operand) (a b : Value) : Option Value := zbR P (do eqGuard o t x y a b; binOp o t a b)
theorem zbh {α β : Type} {s : Go.Sem α} {f : α → Go.Sem β} : zbR P (s >>= f) = (zbR P s).bind fun a => zbR P (f a) := by
  induction s with
  | pure a => rfl
  | program k ih => exact ih P
  | _ => rfl
theorem op_bin {o : BinOp} {t ty t' : TypeId} {x y : Operand} {a b v : Value} (h1 : oev al x = some d1) (h2 : oev al y = some d2) (v1 : d1.val? = some a) (v2 : d2.val? = some b)
    (h : binV P o t x y a b = some v) (hd : ofVal v = d) : OpR P orc n al σ (.gen (.binOp o t x y t') ty) d σ [] := fun e he => by
  subst hd
  have hx : ∀ {x : Operand} {d : D}, oev al x = some d → ((opd x).map (Opd.ev e)) = some d := by
    intro x d h
    simp only [oev] at h
    split at h
    · rename_i o ho; rw [ho]; simp [zcu he h]
    · simp at h
  have e1 : ((opd x).map (Opd.ev e)).bind D.val? = some a := by rw [hx h1]; exact v1
  have e2 : ((opd y).map (Opd.ev e)).bind D.val? = some b := by rw [hx h2]; exact v2
  have : genEv P (.binOp o t x y t') ty e = some (ofVal v) := by
    unfold genEv
    have hall : (Op.binOp o t x y t').operands.toList.all (fun x => (((opd x).map (Opd.ev e)).bind D.val?).isSome) = true := by simp [Op.operands, e1, e2]
    rw [if_pos hall]
    have hp : zbR P (execOp (fun x => ((((opd x).map (Opd.ev e)).bind D.val?).getD undef)) { dst := none, op := .binOp o t x y t', type := ty, pos := "", after := #[], guard := none }) = some (.value v) := by
      have key : ∀ a' b' : Value, a' = a → b' = b → zbR P (do let r ← (do eqGuard o t x y a' b'; binOp o t a' b'); Go.Sem.pure (Next.value r)) = some (.value v) := by
        intro a' b' ha hb
        subst ha hb
        rw [zbh]
        unfold binV at h
        rw [h]
        rfl
      exact key _ _ (by dsimp only; rw [e1]; rfl) (by dsimp only; rw [e2]; rfl)
    rw [hp]
  simp [zbY, this]
theorem zbA {o : UnOp} {t ty : TypeId} {x : Operand} {a v : Value} (h1 : oev al x = some d1) (v1 : d1.val? = some a)
    (h : zbR P (Op.unary o a) = some v) (hd : ofVal v = d) : OpR P orc n al σ (.gen (.unOp o t x) ty) d σ [] := fun e he => by
  subst hd
  have hx : ((opd x).map (Opd.ev e)) = some d1 := by
    simp only [oev] at h1
    split at h1
    · rename_i o ho; rw [ho]; simp [zcu he h1]
    · simp at h1
  have e1 : ((opd x).map (Opd.ev e)).bind D.val? = some a := by rw [hx]; exact v1
  have : genEv P (.unOp o t x) ty e = some (ofVal v) := by
    unfold genEv
    have hall : (Op.unOp o t x).operands.toList.all (fun x => (((opd x).map (Opd.ev e)).bind D.val?).isSome) = true := by simp [Op.operands, e1]
    rw [if_pos hall]
    have hp : zbR P (execOp (fun x => ((((opd x).map (Opd.ev e)).bind D.val?).getD undef)) { dst := none, op := .unOp o t x, type := ty, pos := "", after := #[], guard := none }) = some (.value v) := by
      have key : ∀ a' : Value, a' = a → zbR P (do let r ← Op.unary o a'; Go.Sem.pure (Next.value r)) = some (.value v) := by
        intro a' ha
        subst ha
        rw [zbh, h]
        rfl
      exact key _ (by dsimp only; rw [e1]; rfl)
    rw [hp]
  simp [zbY, this]
theorem op_conv {t t' ty : TypeId} {x : Operand} {a v : Value} (h1 : oev al x = some d1) (v1 : d1.val? = some a)
    (h : zbR P (convert t t' a) = some v) (hd : ofVal v = d) : OpR P orc n al σ (.gen (.convert t t' x) ty) d σ [] := fun e he => by
  subst hd
  have hx : ((opd x).map (Opd.ev e)) = some d1 := by
    simp only [oev] at h1
    split at h1
    · rename_i o ho; rw [ho]; simp [zcu he h1]
    · simp at h1
  have e1 : ((opd x).map (Opd.ev e)).bind D.val? = some a := by rw [hx]; exact v1
  have : genEv P (.convert t t' x) ty e = some (ofVal v) := by
    unfold genEv
    have hall : (Op.convert t t' x).operands.toList.all (fun x => (((opd x).map (Opd.ev e)).bind D.val?).isSome) = true := by simp [Op.operands, e1]
    rw [if_pos hall]
    have hp : zbR P (execOp (fun x => ((((opd x).map (Opd.ev e)).bind D.val?).getD undef)) { dst := none, op := .convert t t' x, type := ty, pos := "", after := #[], guard := none }) = some (.value v) := by
      have key : ∀ a' : Value, a' = a → zbR P (do let r ← convert t t' a'; Go.Sem.pure (Next.value r)) = some (.value v) := by
        intro a' ha
        subst ha
        rw [zbh, h]
        rfl
      exact key _ (by dsimp only; rw [e1]; rfl)
    rw [hp]
  simp [zbY, this]
theorem zba {x : Opd} {cs : List D} (h : lx al x = some d) (hc : d.cells? = some cs) (hp : D.ptr σ.length 0 cs.length = d1) (hs : σ ++ [.cells cs] = σ1) : OpR P orc n al σ (.box x) d1 σ1 [] := fun e he => by subst hp hs; simp [zbY, zcu he h, hc]
theorem zaG {z : List D} (hp : D.ptr σ.length 0 z.length = d1) (hs : σ ++ [.cells z] = σ1) : OpR P orc n al σ (.alloc z) d1 σ1 [] := fun e he => by subst hp hs; simp [zbY]
def fillA (al : AL) : List D → List (Nat × Nat × Opd) → Option (List D)
  | cs, [] => some cs
  | cs, (o, n, x) :: rest =>
    match (lx al x).bind D.cells? with
    | some xs => if xs.length ≠ n ∨ o + n > cs.length then none else fillA al (put cs o xs) rest
    | none => none
theorem fillA_ok (he : Env n al e) : ∀ {ps : List (Nat × Nat × Opd)} {cs cs' : List D}, fillA al cs ps = some cs' → fillD e cs ps = some cs' := by
  intro ps
  induction ps with
  | nil => intro cs cs' h; exact h
  | cons p ps ih =>
    intro cs cs' h
    obtain ⟨o, m, x⟩ := p
    simp only [fillA] at h
    split at h
    · rename_i xs hxs
      rw [Option.bind_eq_some_iff] at hxs
      obtain ⟨d, h1, h2⟩ := hxs
      simp only [fillD, zcu he h1, h2, Option.bind_eq_bind, Option.bind_some]
      split at h
      · simp at h
      · rename_i hn; rw [if_neg hn]; exact ih h
    · simp at h
theorem zbB {z cs : List D} {ps : List (Nat × Nat × Opd)} (h : fillA al z ps = some cs) : OpR P orc n al σ (.build z ps) (.agg cs) σ [] := fun e he => by simp [zbY, fillA_ok he h]
theorem op_bslice {z cs : List D} {esz len : Nat} {ps : List (Nat × Nat × Opd)} (h : fillA al (zeros len z) ps = some cs) (hp : D.sl σ.length 0 len esz cs.length = d1) (hs : σ ++ [.cells cs] = σ1) : OpR P orc n al σ (.bslice esz len z ps) d1 σ1 [] := fun e he => by
  subst hp hs
  simp [zbY, fillA_ok he h]
theorem op_load {m : Option Nat} {a : Opd} {b off sz : Nat} {cs : List D} (h : lx al a = some (.ptr b off sz)) (hr : zeO σ b sz = some cs) (hg : zcs m cs off = some d) : OpR P orc n al σ (.load m a) d σ [] := fun e he => by
  simp [zbY, zcu he h, hr, hg]
theorem zal {m : Option Nat} {a : Opd} {off : Nat} {cs : List C} (h : lx al a = some (.c (.fptr cs off))) (hg : zcs m (cs.map .c) off = some d) : OpR P orc n al σ (.load m a) d σ [] := fun e he => by
  simp [zbY, zcu he h, hg]
theorem op_store {m : Nat} {a x : Opd} {b off sz : Nat} {cs xs : List D} (h : lx al a = some (.ptr b off sz)) (hr : zeO σ b sz = some cs) (hx : lx al x = some d) (hc : d.cells? = some xs) (hm : xs.length = m ∧ off + m ≤ sz) (hs : σ.set b (.cells (put cs off xs)) = σ1) :
    OpR P orc n al σ (.store m a x) (.tup []) σ1 [b] := fun e he => by
  subst hs
  simp [zbY, zcu he h, hr, zcu he hx, hc, hm.1, hm.2]
theorem zfl {x : Opd} {b off sz : Nat} (h : lx al x = some (.ptr b off sz)) : OpR P orc n al σ (.nilck x) (.ptr b off sz) σ [] := fun e he => by simp [zbY, zcu he h]
theorem op_isnil {k : Nat} {neg : Bool} {x : Opd} {b : Bool} (h : lx al x = some d) (hb : isNil k d = some b) : OpR P orc n al σ (.isnil k neg x) (B (if neg then !b else b)) σ [] := fun e he => by simp [zbY, zcu he h, hb]
theorem zaf {o : Nat} {x : Opd} {b off sz : Nat} (h : lx al x = some (.ptr b off sz)) : OpR P orc n al σ (.fld o x) (.ptr b (off + o) sz) σ [] := fun e he => by simp [zbY, zcu he h]
theorem zau {o : Nat} {x : Opd} {cs : List C} {off : Nat} (h : lx al x = some (.c (.fptr cs off))) : OpR P orc n al σ (.fld o x) (.c (.fptr cs (off + o))) σ [] := fun e he => by simp [zbY, zcu he h]
theorem at_some {α : Type} {l : List α} {i : Int} {a : α} (h : at? l i = some a) : 0 ≤ i ∧ i < l.length ∧ l[i.toNat]? = some a := by
  unfold at? at h
  split at h
  · rename_i hi; exact ⟨hi.1, hi.2, h⟩
  · simp at h
theorem zaF {α : Type} {esz : Nat} {x i : Opd} {nn : Bool} {l : List α} {f : α → List C} {k : Int} {a : α} (h : lx al x = some (.c (.frz nn (l.map f)))) (hi : lx al i = some (I k)) (ha : at? l k = some a) (hl : (f a).length = esz) :
    OpR P orc n al σ (.idx esz none x i) (.c (.fptr (f a) 0)) σ [] := fun e he => by
  obtain ⟨h1, h2, h3⟩ := at_some ha
  have h4 : inR k (l.map f).length = some k.toNat := by unfold inR; rw [if_pos ⟨h1, by simpa using h2⟩]
  simp only [zbY, zcu he h, zcu he hi, ze3, Option.bind_eq_bind, Option.bind_some, h4, List.getElem?_map, h3, Option.map_some, hl, if_true]
theorem zaA {α : Type} {x : Opd} {nn : Bool} {l : List α} {f : α → List C} (h : lx al x = some (.c (.frz nn (l.map f)))) : OpR P orc n al σ (.len x) (I l.length) σ [] := fun e he => by
  simp [zbY, zcu he h, zey]
theorem op_len0 {x : Opd} (h : lx al x = some (.c (.lit (.slice none 0 0)))) : OpR P orc n al σ (.len x) (I 0) σ [] := fun e he => by
  simp [zbY, zcu he h, zey]
theorem zbw {x : Opd} {i : Nat} {ds : List D} (h : lx al x = some (.tup ds)) (hd : ds[i]? = some d) : OpR P orc n al σ (.extract x i) d σ [] := fun e he => by
  simp [zbY, zcu he h, hd]
theorem op_part {m : Option Nat} {off : Nat} {x : Opd} {cs : List D} (h : lx al x = some (.agg cs)) (hg : zcs m cs off = some d) : OpR P orc n al σ (.part off m x) d σ [] := fun e he => by
  simp [zbY, zcu he h, hg]
theorem op_call {g : FuncId} {f : Opd} {args : List Opd} {ds : List D} (hf : lx al f = some (.c (.fn (.func g) [] []))) (ha : lxs al args = some ds) (ho : orc g ds σ = some (d, σ1, w)) : OpR P orc n al σ (.call f args) d σ1 w := fun e he => by
  simp [zbY, zcu he hf, ev_lxs he ha, ho]
def mkI (o : AOper) (c : Nat) (blk : Option Nat) (w : List Nat) (lo hi : Nat) : Info := { cat := c, blk := blk, wr := w, dst := o.dst, rds := tmpsOf o, lo := lo, hi := hi }
def Gd (al : AL) (g : Option (Nat × Bool)) (b : Bool) : Prop := ∀ n e, Env n al e → wantE e g = some b
theorem gd_none : Gd al none true := fun _ _ _ => rfl
theorem gd_open {t : Nat} {want b : Bool} (h : lk t al = some (B b)) (hb : b = want) : Gd al (some (t, want)) true := fun n e he => by simp [wantE, he.2 t _ h, hb]
theorem gd_shut {t : Nat} {want b : Bool} (h : lk t al = some (B b)) (hb : b = !want) : Gd al (some (t, want)) false := fun n e he => by simp [wantE, he.2 t _ h, hb]
theorem gd_gone {t : Nat} {want : Bool} (h : lk t al = some (.tup [])) : Gd al (some (t, want)) false := fun n e he => by simp [wantE, he.2 t _ h]
def blkA (al : AL) : AOp → Option Nat
  | .load _ x => match lx al x with | some (.ptr b _ _) => some b | _ => none
  | _ => none
def okA (al : AL) : AOp → Bool
  | .load _ x => (lx al x).isSome
  | _ => true
theorem blk_ok (he : Env n al e) {o : AOper} (h : okA al o.op = true) (lo hi : Nat) : (infoOf o e lo hi w).blk = blkA al o.op := by
  obtain ⟨t, op, g⟩ := o
  cases op with
  | load m x =>
    simp only [okA, Option.isSome_iff_exists] at h
    obtain ⟨d, hd⟩ := h
    simp only [infoOf, ox1, blkA, hd, zcu he hd]
    cases d <;> rfl
  | _ => rfl
theorem info_ok (he : Env n al e) {o : AOper} {b : Bool} (hg : ∀ n e, Env n al e → wantE e o.g = some b) (h : okA al o.op = true) (lo hi : Nat) : infoOf o e lo hi w = mkI o (if b then cat o.op else 0) (blkA al o.op) w lo hi := by
  have h1 := blk_ok (w := w) he h lo hi
  have h2 : (infoOf o e lo hi w).cat = if b then cat o.op else 0 := by
    simp only [infoOf, hg n e he]
    cases b <;> rfl
  unfold mkI
  rw [← h1, ← h2]
  rfl
theorem env_set (he : Env n al e) {t : Nat} (ht : t < n) (d : D) : Env n ((t, d) :: al) (e.set t d) := by
  refine ⟨by simp [he.1], fun s d' h => ?_⟩
  simp only [lk] at h
  split at h
  · rename_i hb
    have := Nat.eq_of_beq_eq_true hb
    simp only [Option.some.injEq] at h
    subst this h
    rw [List.getElem?_set_self (by rw [he.1]; exact ht)]
  · rename_i hb
    have hne : t ≠ s := fun heq => by subst heq; simp at hb
    rw [List.getElem?_set_ne hne]
    exact he.2 s d' h
variable {k : Nat} {os : List AOper} {al' : AL} {σ' : Heap} {is : List Info} {t : Nat} {ao : AOp} {g : Option (Nat × Bool)}
theorem Trc.nil : Trc P orc k [] n al σ al σ [] := fun e he => ⟨e, rfl, he⟩
theorem Trc.op (h : OpR P orc n al σ ao d σ1 w) (hg : Gd al g true) (hs : (Nat.blt t n && okA al ao && (k == 0 || wrOk σ σ1 w)) = true) (r : Trc P orc (k - 1) os n ((t, d) :: al) σ1 al' σ' is) :
    Trc P orc k (⟨some t, ao, g⟩ :: os) n al σ al' σ' (mkI ⟨some t, ao, g⟩ (cat ao) (blkA al ao) w σ.length σ1.length :: is) := fun e he => by
  simp only [Bool.and_eq_true] at hs
  obtain ⟨⟨h1, h2⟩, h3⟩ := hs
  obtain ⟨e', h4, h5⟩ := r _ (env_set he (Nat.blt_eq.mp h1) d)
  refine ⟨e', ?_, h5⟩
  have h6 := info_ok (w := w) he (o := ⟨some t, ao, g⟩) hg h2 σ.length σ1.length
  simp only [if_true, Bool.false_eq_true, if_false] at h6
  simp only [evTr, evOper, hg n e he, h e he, Option.map_some, putE, h3, if_true, h4, h6]
theorem Trc.eff (h : OpR P orc n al σ ao d σ1 w) (hg : Gd al g true) (hs : (okA al ao && (k == 0 || wrOk σ σ1 w)) = true) (r : Trc P orc (k - 1) os n al σ1 al' σ' is) :
    Trc P orc k (⟨none, ao, g⟩ :: os) n al σ al' σ' (mkI ⟨none, ao, g⟩ (cat ao) (blkA al ao) w σ.length σ1.length :: is) := fun e he => by
  simp only [Bool.and_eq_true] at hs
  obtain ⟨h2, h3⟩ := hs
  obtain ⟨e', h4, h5⟩ := r _ he
  refine ⟨e', ?_, h5⟩
  have h6 := info_ok (w := w) he (o := ⟨none, ao, g⟩) hg h2 σ.length σ1.length
  simp only [if_true, Bool.false_eq_true, if_false] at h6
  simp only [evTr, evOper, hg n e he, h e he, Option.map_some, putE, h3, if_true, h4, h6]
theorem Trc.no (hg : Gd al g false) (hs : (Nat.blt t n && okA al ao) = true) (r : Trc P orc (k - 1) os n ((t, .tup []) :: al) σ al' σ' is) :
    Trc P orc k (⟨some t, ao, g⟩ :: os) n al σ al' σ' (mkI ⟨some t, ao, g⟩ 0 (blkA al ao) [] σ.length σ.length :: is) := fun e he => by
  simp only [Bool.and_eq_true] at hs
  obtain ⟨h1, h2⟩ := hs
  obtain ⟨e', h4, h5⟩ := r _ (env_set he (Nat.blt_eq.mp h1) (.tup []))
  refine ⟨e', ?_, h5⟩
  have h6 := info_ok (w := []) he (o := ⟨some t, ao, g⟩) hg h2 σ.length σ.length
  simp only [if_true, Bool.false_eq_true, if_false] at h6
  simp only [evTr, evOper, hg n e he, putE, wrOk, List.all_nil, Bool.or_true, if_true, h4, h6]
end
end Go.Abs
