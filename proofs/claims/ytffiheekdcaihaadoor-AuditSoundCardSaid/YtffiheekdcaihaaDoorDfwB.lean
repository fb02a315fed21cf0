/- The small instruction set, the compiler from the model's operations to it, and the evaluator of one operation. -/
import Derived.Test.YtffiheekdcaihaaDoorDfwA
import GoSem.Dispatch
set_option linter.all false
namespace Go.Abs
variable [Gl]
def zbR {α : Type} (P : Program) : Sem α → Option α
  | .pure a => some a
  | .program k => zbR P (k P)
  | _ => none
theorem pureIn_run {α : Type} {P : Program} {s : Sem α} {a : α} (w : World) (h : zbR P s = some a) : s.run P w = .ok a w := by
  induction s with
  | pure b => simp only [zbR, Option.some.injEq] at h; subst h; rfl
  | program k ih => simp only [zbR] at h; exact ih P h
  | _ => simp [zbR] at h
inductive Opd where
  | t (n : Nat)
  | k (d : D)
  deriving Inhabited
def ofVal : Value → D
  | .agg vs => .agg (vs.toList.map fun v => .c (.lit v))
  | .tuple vs => .tup (vs.toList.map fun v => .c (.lit v))
  | v => .c (.lit v)
def Opd.ev (env : List D) : Opd → D
  | .t n => (env[n]?).getD (.tup [])
  | .k d => d
def opd : Operand → Option Opd
  | .tmp t => some (.t t)
  | .const v => some (.k (ofVal v))
  | .func f => some (.k (.c (.fn (.func f) [] [])))
  | .global _ => none
def litOf : D → Option Value
  | .c (.lit v) => some v
  | _ => none
def D.val? : D → Option Value
  | .c (.lit v) => some v
  | .agg ds => (ds.mapM litOf).map fun l => .agg l.toArray
  | _ => none
def D.scalar : D → Bool
  | .c (.lit v) => v.oneCell'
  | .c _ | .ptr .. | .sl .. | .mp _ | .fn .. => true
  | _ => false
def D.cells? : D → Option (List D)
  | .agg cs => if cs.all D.scalar then some cs else none
  | d => if d.scalar then some [d] else none
inductive AOp where
  | mov (x : Opd)
  | pick (c a b : Opd)
  | gen (op : Op) (ty : TypeId)
  | box (x : Opd)
  | alloc (z : List D)
  | build (z : List D) (parts : List (Nat × Nat × Opd))
  | bslice (esz len : Nat) (z : List D) (parts : List (Nat × Nat × Opd))
  | load (n : Option Nat) (a : Opd)
  | store (n : Nat) (a x : Opd)
  | nilck (x : Opd)
  | isnil (k : Nat) (neg : Bool) (x : Opd)
  | fld (off : Nat) (x : Opd)
  | idx (esz : Nat) (arr : Option Nat) (x i : Opd)
  | slc (esz : Nat) (x : Opd) (lo hi : Option Opd)
  | len (x : Opd)
  | lenm (x : Opd)
  | mk (esz bytes : Nat) (z : List D) (l c : Opd)
  | mkmap
  | lookup (kind : TypeDesc) (zero : D) (m k : Opd) (ok : Bool)
  | upd (kind : TypeDesc) (m k x : Opd)
  | extract (x : Opd) (i : Nat)
  | mkfn (f : Fn) (first cap : List Opd)
  | part (off : Nat) (n : Option Nat) (x : Opd)
  | aidx (esz len : Nat) (n : Option Nat) (x i : Opd)
  | append (esz bytes : Nat) (s x : Opd)
  | copy (esz : Nat) (d s : Opd)
  | call (f : Opd) (args : List Opd)
  deriving Inhabited
def opds (xs : Array Operand) : Option (List Opd) := xs.toList.mapM opd
def opdO : Option Operand → Option (Option Opd)
  | none => some none
  | some x => (opd x).map some
def aggN (P : Program) (t : TypeId) : Option (Option Nat) :=
  match P.info? t, P.underlying t with
  | some i, some (.struct _) => some (some i.size)
  | some i, some (.array _ _) => some (some i.size)
  | some _, some _ => some none
  | _, _ => none
def zeroOf (P : Program) (t : TypeId) : Option D :=
  match P.info? t with
  | some i => i.zero.map ofVal
  | none => none
def zd5 (P : Program) (t : TypeId) : Option (List D) := (zeroOf P t).bind D.cells?
def sizeOf? (P : Program) (t : TypeId) : Option Nat := (P.info? t).map (·.size)
def places (P : Program) (fs : Array Field) : Option (List (Nat × Nat)) := fs.toList.mapM fun f => (sizeOf? P f.type).map fun n => (f.offset, n)
def nilKind : TypeDesc → Option Nat
  | .pointer _ => some 0
  | .map _ _ => some 1
  | .func .. => some 2
  | .slice _ => some 3
  | _ => none
def isNilConst (k : Nat) : Operand → Bool
  | .const (.pointer none) => k == 0
  | .const (.map none) => k == 1
  | .const .nilFunc => k == 2
  | .const (.slice none 0 0) => k == 3
  | _ => false
def compNil (k : Nat) (neg : Bool) (x y : Operand) : Option AOp :=
  if isNilConst k y then (opd x).map (.isnil k neg) else if isNilConst k x then (opd y).map (.isnil k neg) else none
def isNil : Nat → D → Option Bool
  | 0, .ptr .. => some false
  | 0, .c (.fptr ..) => some false
  | 0, .c (.lit (.pointer none)) => some true
  | 1, .mp _ => some false
  | 1, .c (.fmp _) => some false
  | 1, .c (.lit (.map none)) => some true
  | 2, .fn .. => some false
  | 2, .c (.fn ..) => some false
  | 2, .c (.lit .nilFunc) => some true
  | 3, .sl _ _ (_ + 1) _ _ => some false
  | 3, .c (.frz true _) => some false
  | 3, .c (.lit (.slice none 0 0)) => some true
  | _, _ => none
def simpleKey : TypeDesc → Bool
  | .int _ => true
  | _ => false
def zeE (P : Program) (op : Op) (ty : TypeId) : Option AOp :=
  match op with
  | .move x | .assign x => (opd x).map .mov
  | .pick c a b => do some (.pick (← opd c) (← opd a) (← opd b))
  | .alloc t => (zd5 P t).map .alloc
  | .box _ x => (opd x).map .box
  | .build t parts => do
    let z ← zd5 P t
    match ← P.underlying t with
    | .struct fs => do
      let ps ← places P fs
      some (.build z (← parts.toList.mapM fun (i, x) => do let (o, n) ← ps[i]?; some (o, n, ← opd x)))
    | .array _ e => do
      let n ← sizeOf? P e
      some (.build z (← parts.toList.mapM fun (i, x) => do some (i * n, n, ← opd x)))
    | _ => none
  | .buildSlice t len parts => do
    match ← P.underlying t with
    | .slice e => do
      let n ← sizeOf? P e
      let z ← zd5 P e
      if n = 0 ∨ z.length ≠ n ∨ len * n > 2 ^ 20 then none else
      some (.bslice n len z (← parts.toList.mapM fun (i, x) => do some (i * n, n, ← opd x)))
    | _ => none
  | .load t a => do some (.load (← aggN P t) (← opd a))
  | .store t a x => do some (.store (← sizeOf? P t) (← opd a) (← opd x))
  | .nilCheck x => (opd x).map .nilck
  | .binOp o t x y _ =>
    match (P.underlying t).bind nilKind with
    | some k =>
      match o with
      | .eql => compNil k false x y
      | .neq => compNil k true x y
      | _ => none
    | none => some (.gen op ty)
  | .unOp .. => some (.gen op ty)
  | .convert .. => some (.gen op ty)
  | .makeFunc f first cap => do some (.mkfn f (← opds first) (← opds cap))
  | .makeMap _ none => some .mkmap
  | .makeSlice t l c => do
    match ← P.underlying t with
    | .slice e => do
      let n ← sizeOf? P e
      let z ← zd5 P e
      let i ← P.info? e
      if n = 0 ∨ z.length ≠ n then none else some (.mk n i.bytes z (← opd l) (← opd c))
    | _ => none
  | .slice t x lo hi none => do
    match ← P.underlying t with
    | .slice e => do some (.slc (← sizeOf? P e) (← opd x) (← opdO lo) (← opdO hi))
    | .string => some (.gen op ty)
    | _ => none
  | .fieldAddr s x f => do
    match ← P.underlying s with
    | .struct fs => do
      let fd ← fs[f]?
      let n ← sizeOf? P fd.type
      if n = 0 then none else some (.fld fd.offset (← opd x))
    | _ => none
  | .field t x f => do
    match ← P.underlying t with
    | .struct fs => do
      let fd ← fs[f]?
      some (.part fd.offset (← aggN P fd.type) (← opd x))
    | _ => none
  | .indexAddr t x i => do
    match ← P.underlying t with
    | .slice e => do
      let n ← sizeOf? P e
      if n = 0 then none else some (.idx n none (← opd x) (← opd i))
    | .array len e => do
      let n ← sizeOf? P e
      if n = 0 then none else some (.idx n (some len) (← opd x) (← opd i))
    | _ => none
  | .index t x i => do
    match ← P.underlying t with
    | .array len e => do some (.aidx (← sizeOf? P e) len (← aggN P e) (← opd x) (← opd i))
    | .string => some (.gen op ty)
    | _ => none
  | .lookup t m k ok => do
    match ← P.underlying t with
    | .map kt e => do
      let kd ← P.underlying kt
      if simpleKey kd then some (.lookup kd (← zeroOf P e) (← opd m) (← opd k) ok) else none
    | _ => none
  | .mapUpdate t m k x => do
    match ← P.underlying t with
    | .map kt _ => do
      let kd ← P.underlying kt
      if simpleKey kd then some (.upd kd (← opd m) (← opd k) (← opd x)) else none
    | _ => none
  | .extract x i => do some (.extract (← opd x) i)
  | .call { callee := .value f, args, .. } => do some (.call (← opd f) (← opds args))
  | .call { callee := .builtin .len, args, argTypes } => do
    let t ← argTypes[0]?
    let x ← args[0]?
    if args.size ≠ 1 then none else
    match ← P.underlying t with
    | .slice _ => (opd x).map .len
    | .map _ _ => (opd x).map .lenm
    | .array n _ => some (.mov (.k (.c (.lit (.int .i64 n)))))
    | .string => some (.gen op ty)
    | _ => none
  | .call { callee := .builtin .append, args, argTypes } => do
    let t ← argTypes[0]?
    let t1 ← argTypes[1]?
    let s ← args[0]?
    let x ← args[1]?
    match ← P.underlying t, ← P.underlying t1 with
    | .slice e, .slice _ => do
      let n ← sizeOf? P e
      let i ← P.info? e
      let z ← zd5 P e
      if n = 0 ∨ z.length ≠ n then none else some (.append n i.bytes (← opd s) (← opd x))
    | _, _ => none
  | .call { callee := .builtin .copy, args, argTypes } => do
    let t ← argTypes[0]?
    let s ← args[0]?
    let x ← args[1]?
    match ← P.underlying t with
    | .slice e => do
      let n ← sizeOf? P e
      if n = 0 then none else some (.copy n (← opd s) (← opd x))
    | _ => none
  | .call { callee := .builtin .min, .. } | .call { callee := .builtin .max, .. } | .call { callee := .builtin .complex, .. }
  | .call { callee := .builtin .real, .. } | .call { callee := .builtin .imag, .. } => some (.gen op ty)
  | _ => none
def isCall : AOp → Bool
  | .call .. => true
  | _ => false
def isSel : AOp → Bool
  | .gen (.select ..) _ => true
  | _ => false
def cat : AOp → Nat
  | .mov .. | .pick .. | .gen .. | .build .. | .nilck .. | .isnil .. | .fld .. | .idx .. | .slc .. | .len .. | .extract .. | .mkfn .. | .part .. | .aidx .. => 0
  | .load .. => 1
  | .alloc .. | .box .. | .bslice .. | .mk .. | .mkmap => 2
  | _ => 3
def comp (P : Program) (op : Op) (ty : TypeId) : Option AOp :=
  match op with
  | .call { callee := .value f, args, .. } =>
    match opd f, opds args with
    | some of, some os => some (.call of os)
    | _, _ => none
  | _ =>
    match zeE P op ty with
    | some ao => if isCall ao || isSel ao then none else some ao
    | none => none
abbrev Orc := FuncId → List D → Heap → Option (D × Heap × List Nat)
def ze3 : D → Option Int
  | .c (.lit (.int _ n)) => some n
  | _ => none
def litBool : D → Option Bool
  | .c (.lit (.bool b)) => some b
  | _ => none
def genEv (P : Program) (op : Op) (ty : TypeId) (env : List D) : Option D :=
  if op.operands.toList.all (fun x => (((opd x).map (Opd.ev env)).bind D.val?).isSome) then
    match zbR P (execOp (fun x => ((((opd x).map (Opd.ev env)).bind D.val?).getD undef)) { dst := none, op := op, type := ty, pos := "", after := #[], guard := none }) with
    | some (.value v) => some (ofVal v)
    | _ => none
  else none
def put (cs : List D) (off : Nat) (xs : List D) : List D := cs.take off ++ xs ++ cs.drop (off + xs.length)
def fillD (env : List D) : List D → List (Nat × Nat × Opd) → Option (List D)
  | cs, [] => some cs
  | cs, (o, n, x) :: rest => do
    let xs ← (x.ev env).cells?
    if xs.length ≠ n ∨ o + n > cs.length then none else fillD env (put cs o xs) rest
def zeO (σ : Heap) (b sz : Nat) : Option (List D) :=
  match σ[b]? with
  | some (.cells cs) => if cs.length = sz then some cs else none
  | _ => none
def zcs (n : Option Nat) (cs : List D) (off : Nat) : Option D :=
  match n with
  | none => cs[off]?
  | some n => if off + n ≤ cs.length then some (.agg ((cs.drop off).take n)) else none
def zeros (n : Nat) (z : List D) : List D := (List.replicate n z).flatten
def zey (σ : Heap) : D → Option Nat
  | .c (.lit (.slice none 0 0)) => some 0
  | .c (.frz _ es) => some es.length
  | .sl b _ len _ sz => if (zeO σ b sz).isSome then some len else none
  | _ => none
def ze6 (σ : Heap) (esz : Nat) (n : Nat) : D → Option (List D)
  | .c (.lit (.slice none 0 0)) => if n = 0 then some [] else none
  | .c (.frz _ es) => if n ≤ es.length ∧ es.all (fun e => e.length = esz) then some ((es.take n).flatten.map .c) else none
  | .sl b off len es sz => do
    let cs ← zeO σ b sz
    if es = esz ∧ n ≤ len ∧ off + len * esz ≤ sz then some ((cs.drop off).take (n * esz)) else none
  | _ => none
def findK (kind : TypeDesc) (k : Value) : List (Value × D × Nat) → Nat → Option (Option (Nat × D))
  | [], _ => some none
  | (k', d, _) :: es, i =>
    match Instr.sameNow kind k k' with
    | some true => some (some (i, d))
    | some false => findK kind k es (i + 1)
    | none => none
def mapEs (σ : Heap) : D → Option (List (Value × D × Nat))
  | .c (.lit (.map none)) => some []
  | .c (.fmp es) => some (es.map fun p => (p.1, .c p.2, 0))
  | .mp b => match σ[b]? with
    | some (.map es _) => some es
    | _ => none
  | _ => none
def hit (zero : D) : Option (Nat × D) → D × Bool
  | some (_, d) => (d, true)
  | none => (zero, false)
def inR (i : Int) (n : Nat) : Option Nat := if 0 ≤ i ∧ i < n then some i.toNat else none
def inB (i : Int) (n : Nat) : Option Nat := if 0 ≤ i ∧ i ≤ n then some i.toNat else none
def zcJ (env : List D) (dflt most : Nat) : Option Opd → Option Nat
  | none => some dflt
  | some x => (ze3 (x.ev env)).bind fun i => inB i most
def roomOk (n bytes : Nat) : Bool := (n * bytes ≤ 2 ^ 40 && n ≤ 2 ^ 40) && bytes ≤ 2 ^ 20
def zbY (P : Program) (orc : Orc) (o : AOp) (env : List D) (σ : Heap) : Option (D × Heap × List Nat) :=
  match o with
  | .mov x => some (x.ev env, σ, [])
  | .pick c a b => (litBool (c.ev env)).map fun t => (if t then a.ev env else b.ev env, σ, [])
  | .gen op ty => (genEv P op ty env).map fun d => (d, σ, [])
  | .box x => ((x.ev env).cells?).map fun cs => (.ptr σ.length 0 cs.length, σ ++ [.cells cs], [])
  | .alloc z => some (.ptr σ.length 0 z.length, σ ++ [.cells z], [])
  | .build z ps => (fillD env z ps).map fun cs => (.agg cs, σ, [])
  | .bslice esz len z ps => (fillD env (zeros len z) ps).map fun cs => (.sl σ.length 0 len esz cs.length, σ ++ [.cells cs], [])
  | .load n a =>
    match a.ev env with
    | .ptr b off sz => do some (← zcs n (← zeO σ b sz) off, σ, [])
    | .c (.fptr cs off) => do some (← zcs n (cs.map .c) off, σ, [])
    | _ => none
  | .store n a x =>
    match a.ev env with
    | .ptr b off sz => do
      let cs ← zeO σ b sz
      let xs ← (x.ev env).cells?
      if xs.length = n ∧ off + n ≤ sz then some (.tup [], σ.set b (.cells (put cs off xs)), [b]) else none
    | _ => none
  | .nilck x =>
    match x.ev env with
    | .ptr b off sz => some (.ptr b off sz, σ, [])
    | .c (.fptr cs off) => some (.c (.fptr cs off), σ, [])
    | .c (.fn (.func f) first cap) => some (.c (.fn (.func f) first cap), σ, [])
    | .fn (.func f) first cap => some (.fn (.func f) first cap, σ, [])
    | _ => none
  | .isnil k neg x => (isNil k (x.ev env)).map fun b => (.c (.lit (.bool (if neg then !b else b))), σ, [])
  | .fld off x =>
    match x.ev env with
    | .ptr b o sz => some (.ptr b (o + off) sz, σ, [])
    | .c (.fptr cs o) => some (.c (.fptr cs (o + off)), σ, [])
    | _ => none
  | .idx esz none x i => do
    let i ← ze3 (i.ev env)
    match x.ev env with
    | .sl b off len es sz => do
      let _ ← zeO σ b sz
      let k ← inR i len
      if es = esz then some (.ptr b (off + k * esz) sz, σ, []) else none
    | .c (.frz _ es) => do
      let k ← inR i es.length
      let e ← es[k]?
      if e.length = esz then some (.c (.fptr e 0), σ, []) else none
    | _ => none
  | .idx esz (some len) x i => do
    let i ← ze3 (i.ev env)
    let k ← inR i len
    match x.ev env with
    | .ptr b off sz => some (.ptr b (off + k * esz) sz, σ, [])
    | .c (.fptr cs off) => some (.c (.fptr cs (off + k * esz)), σ, [])
    | _ => none
  | .slc esz x lo hi =>
    match x.ev env with
    | .c (.lit (.slice none 0 0)) => do
      let h ← zcJ env 0 0 hi
      let _ ← zcJ env 0 h lo
      some (.c (.lit (.slice none 0 0)), σ, [])
    | .c (.frz nn es) => do
      let h ← zcJ env es.length es.length hi
      let l ← zcJ env 0 h lo
      if es.all (fun e => e.length = esz) then some (.c (.frz nn ((es.take h).drop l)), σ, []) else none
    | .sl b off len es sz => do
      let _ ← zeO σ b sz
      let h ← zcJ env len len hi
      let l ← zcJ env 0 h lo
      if es = esz then some (.sl b (off + l * esz) (h - l) esz sz, σ, []) else none
    | _ => none
  | .len x => (zey σ (x.ev env)).map fun (n : Nat) => (.c (.lit (.int .i64 (Int.ofNat n))), σ, [])
  | .lenm x => (mapEs σ (x.ev env)).map fun es => (.c (.lit (.int .i64 (Int.ofNat es.length))), σ, [])
  | .mk esz bytes z l c => do
    let l ← ze3 (l.ev env)
    let c ← ze3 (c.ev env)
    if 0 ≤ l ∧ l ≤ c ∧ roomOk c.toNat bytes then some (.sl σ.length 0 l.toNat esz (l.toNat * esz), σ ++ [.cells (zeros l.toNat z)], []) else none
  | .mkmap => some (.mp σ.length, σ ++ [.map [] 0], [])
  | .lookup kind zero m k ok => do
    let kv ← litOf (k.ev env)
    let es ← mapEs σ (m.ev env)
    let r ← findK kind kv es 0
    some (if ok then .tup [(hit zero r).1, .c (.lit (.bool (hit zero r).2))] else (hit zero r).1, σ, [])
  | .upd kind m k x => do
    let kv ← litOf (k.ev env)
    match m.ev env with
    | .mp b => match σ[b]? with
      | some (.map es clock) => do
        match ← findK kind kv es 0 with
        | some (i, _) => some (.tup [], σ.set b (.map (es.modify i fun (k, _, n) => (k, x.ev env, n)) clock), [b])
        | none => some (.tup [], σ.set b (.map (es ++ [(kv, x.ev env, clock)]) (clock + 1)), [b])
      | _ => none
    | _ => none
  | .extract x i =>
    match x.ev env with
    | .tup ds => (ds[i]?).map fun d => (d, σ, [])
    | _ => none
  | .mkfn f first cap => some (.fn f (first.map (Opd.ev env)) (cap.map (Opd.ev env)), σ, [])
  | .part off n x =>
    match x.ev env with
    | .agg cs => (zcs n cs off).map fun d => (d, σ, [])
    | _ => none
  | .aidx esz len n x i => do
    let i ← ze3 (i.ev env)
    let k ← inR i len
    match x.ev env with
    | .agg cs => (zcs n cs (k * esz)).map fun d => (d, σ, [])
    | _ => none
  | .append esz bytes s x => do
    let xd := x.ev env
    let n ← zey σ xd
    let new ← ze6 σ esz n xd
    match s.ev env with
    | .c (.lit (.slice none 0 0)) =>
      if roomOk n bytes then
        if n = 0 then some (.c (.lit (.slice none 0 0)), σ, []) else some (.sl σ.length 0 n esz (n * esz), σ ++ [.cells new], [])
      else none
    | .sl b off len es sz => do
      let cs ← zeO σ b sz
      if es = esz ∧ off = 0 ∧ len * esz = sz ∧ roomOk (len + n) bytes then
        if n = 0 then some (.sl b 0 len esz sz, σ, [b])
        else some (.sl b 0 (len + n) esz (sz + n * esz), σ.set b (.cells (cs ++ new)), [b])
      else none
    | _ => none
  | .copy esz d s => do
    let sd := s.ev env
    match d.ev env with
    | .sl b off len es sz => do
      let cs ← zeO σ b sz
      let n ← (zey σ sd).map fun m => min m len
      let new ← ze6 σ esz n sd
      if es = esz ∧ off + len * esz ≤ sz ∧ 0 < sz then some (.c (.lit (.int .i64 n)), σ.set b (.cells (put cs off new)), [b]) else none
    | _ => none
  | .call f args =>
    match f.ev env with
    | .c (.fn (.func g) first cap) => orc g (first.map .c ++ args.map (Opd.ev env) ++ cap.map .c) σ
    | .fn (.func g) first cap => orc g (first ++ args.map (Opd.ev env) ++ cap) σ
    | _ => none
end Go.Abs
