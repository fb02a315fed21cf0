/- Regions, code and functions: the compiler and the evaluator. -/
import Derived.Test.YtffiheekdcaihaaDoorDfwL
set_option linter.all false
namespace Go.Abs
variable [Gl]
structure Info where
  cat : Nat
  blk : Option Nat
  wr : List Nat
  dst : Option Nat
  rds : List Nat
  lo : Nat
  hi : Nat
  deriving Inhabited
def tmpsOf (o : AOper) : List Nat := (zc2 o.op).filterMap (fun | .t n => some n | _ => none) ++ (match o.g with | some (t, _) => [t] | none => [])
def infoOf (o : AOper) (env : List D) (lo hi : Nat) (wr : List Nat) : Info :=
  { cat := match wantE env o.g with | some true => cat o.op | _ => 0,
    blk := match ox1 o.op env with | .ptr b _ _ => some b | _ => none,
    wr := wr, dst := o.dst, rds := tmpsOf o, lo := lo, hi := hi }
def wrOk (σ σ' : Heap) (wr : List Nat) : Bool :=
  wr.all fun b => match σ[b]?, σ'[b]? with
    | some x, some y => x.sz == y.sz
    | _, _ => false
def evTr (P : Program) (orc : Orc) : Nat → List AOper → List D → Heap → Option (List D × Heap × List Info)
  | _, [], env, σ => some (env, σ, [])
  | n, o :: os, env, σ =>
    match evOper P orc o env σ with
    | some (env1, σ1, w1) =>
      if n == 0 || wrOk σ σ1 w1 then
        match evTr P orc (n - 1) os env1 σ1 with
        | some (env2, σ2, is) => some (env2, σ2, infoOf o env σ.length σ1.length w1 :: is)
        | none => none
      else none
    | none => none
def disj (dst : Option Nat) (l : List Nat) : Bool :=
  match dst with
  | some t => !l.contains t
  | none => true
def safe (i : Info) (wr : List Nat) : Bool :=
  wr.isEmpty || i.cat == 0 || i.cat == 2 || (i.cat == 1 && (match i.blk with | some b => !wr.contains b | none => true))
def outside (i : Info) (wr : List Nat) : Bool := wr.all fun b => b < i.lo || i.hi ≤ b
def apart (x y : Info) : Bool :=
  disj x.dst y.rds && disj y.dst x.rds && (match x.dst, y.dst with | some s, some t => s != t | _, _ => true) && (safe x y.wr && safe y x.wr) && (outside x y.wr && outside y x.wr)
def pairsOk (bef : List Nat) (is : List Info) : Bool :=
  (List.range is.length).all fun j => (List.range j).all fun i => (bef.getD j 0).testBit i || apart (is.getD i default) (is.getD j default)
def tailOk (bef : List Nat) (p n m : Nat) : Bool :=
  (List.range m).all fun j => j < n || (List.range j).all fun i => Nat.blt i p || (bef.getD j 0).testBit i
def isMv (o : Oper) : Bool :=
  o.guard.isNone && (match o.op with
    | .move _ | .assign _ => true
    | _ => false)
def zeZ (n : Nat) : Nat → Array Bool
  | 0 => Array.replicate n false
  | i + 1 => (zeZ n i).setIfInBounds i true
def leadOk (ops : Array Oper) (i : Nat) : Bool :=
  ((ops[i]?).map isMv).getD false && Region.free .any ops (zeZ ops.size i) i && (Region.ready .any ops (zeZ ops.size i)).contains i
def leads (ops : Array Oper) : Nat → Nat → Nat
  | 0, _ => 0
  | k + 1, i => if leadOk ops i then leads ops k (i + 1) + 1 else 0
def lead (ops : Array Oper) : Nat := if Region.noSelect ops then leads ops ops.size 0 else 0
inductive ACode where
  | skip
  | reg (ops : List AOper)
  | drw (ops : List AOper) (bef : List Nat) (n p : Nat)
  | seq (a b : ACode)
  | cond (c : Opd) (thn els : ACode)
  | block (id : Nat) (body : ACode)
  | loop (body : ACode)
  | exit (id : Nat)
  | ret
  | stuck
  deriving Inhabited
def befOf (acc : List Nat) (o : Oper) : Nat :=
  o.after.toList.foldl (fun s e => if Region.binds .any e then s ||| 2 ^ e.on ||| acc.getD e.on 0 else s) 0
def befs (l : List Oper) : List Nat := l.foldl (fun acc o => acc ++ [befOf acc o]) []
def firstAppend : List AOper → Nat
  | [] => 0
  | o :: os => match o.op with
    | .append .. => 0
    | _ => firstAppend os + 1
def backward (l : List Oper) : Bool := (List.range l.length).all fun j => ((l.getD j default).after.toList.all fun e => !Region.binds .any e || e.on < j)
def zeA (P : Program) : Code → Option ACode
  | .skip => some .skip
  | .region _ ops draw =>
    match ops.toList.mapM (compOper P ops) with
    | some os =>
      if draw then (if backward ops.toList then some (.drw os (befs ops.toList) (firstAppend os) (lead ops)) else some .stuck) else some (.reg os)
    | none => some .stuck
  | .seq a b => match zeA P a, zeA P b with
    | some x, some y => some (.seq x y)
    | _, _ => none
  | .cond c a b => match opd c, zeA P a, zeA P b with
    | some o, some x, some y => some (.cond o x y)
    | _, _, _ => some .stuck
  | .block id b => (zeA P b).map (.block id)
  | .loop b => (zeA P b).map .loop
  | .exit id => some (.exit id)
  | .ret => some .ret
  | _ => some .stuck
structure za5 where
  nparams : Nat
  ntmps : Nat
  results : List (Nat × Option (Option Nat))
  body : ACode
  frz : Bool
  deriving Inhabited
def compR (P : Program) : ResultVar → Option (Nat × Option (Option Nat))
  | .tmp t => some (t, none)
  | .cell a t => (aggN P t).map fun n => (a, some n)
def zbe (P : Program) (f : Func) (frz : Bool) : Option za5 :=
  match f.body with
  | some b =>
    match zeA P b, f.results.toList.mapM (compR P) with
    | some c, some rs => some ⟨f.params.size + f.nfree, f.ntmps, rs, c, frz⟩
    | _, _ => none
  | none => none
inductive AExit where
  | normal
  | exit (id : Nat)
  | ret
  deriving DecidableEq, Inhabited
def lastCall (os : List AOper) : Nat := os.length - 1 - (os.reverse.takeWhile fun o => match o.op with | .call .. => false | _ => true).length
def evDrw (P : Program) (orc : Orc) (os : List AOper) (bef : List Nat) (p n : Nat) (env : List D) (σ : Heap) : Option (List D × Heap × List Nat) :=
  match evTr P orc n os env σ with
  | some (env', σ', is) => if pairsOk bef is && tailOk bef p n os.length && Nat.ble p n then some (env', σ', is.flatMap (·.wr)) else none
  | none => none
def evC (P : Program) (orc : Orc) : Nat → ACode → List D → Heap → List Nat → Option (AExit × List D × Heap × List Nat)
  | 0, _, _, _, _ => none
  | _ + 1, .skip, env, σ, wr => some (.normal, env, σ, wr)
  | _ + 1, .reg os, env, σ, wr => (evOps P orc os env σ).map fun r => (.normal, r.1, r.2.1, r.2.2 ++ wr)
  | _ + 1, .drw os bef n p, env, σ, wr =>
    match evDrw P orc os bef p n env σ with
    | some (env', σ', w) => some (.normal, env', σ', w ++ wr)
    | none =>
      match evDrw P orc os bef p (lastCall os) env σ with
      | some (env', σ', w) => some (.normal, env', σ', w ++ wr)
      | none =>
        match evDrw P orc os bef p os.length env σ with
        | some (env', σ', w) => some (.normal, env', σ', w ++ wr)
        | none => none
  | k + 1, .seq a b, env, σ, wr =>
    match evC P orc k a env σ wr with
    | some (.normal, env1, σ1, wr1) => evC P orc k b env1 σ1 wr1
    | r => r
  | k + 1, .cond c a b, env, σ, wr =>
    match litBool (c.ev env) with
    | some true => evC P orc k a env σ wr
    | some false => evC P orc k b env σ wr
    | none => none
  | k + 1, .block id b, env, σ, wr =>
    match evC P orc k b env σ wr with
    | some (.exit i, env1, σ1, wr1) => if i = id then some (.normal, env1, σ1, wr1) else some (.exit i, env1, σ1, wr1)
    | r => r
  | k + 1, .loop b, env, σ, wr =>
    match evC P orc k b env σ wr with
    | some (.normal, env1, σ1, wr1) => evC P orc k (.loop b) env1 σ1 wr1
    | r => r
  | _ + 1, .exit id, env, σ, wr => some (.exit id, env, σ, wr)
  | _ + 1, .ret, env, σ, wr => some (.ret, env, σ, wr)
  | _ + 1, .stuck, _, _, _ => none
def chunks (n : Nat) : Nat → List C → List (List C)
  | 0, _ => []
  | k + 1, l => l.take n :: chunks n k (l.drop n)
def frzC (σ : Heap) (n : Nat) : Nat → D → Option C
  | 0, _ => none
  | k + 1, d =>
    match d with
    | .c x => some x
    | .ptr b off sz =>
      if n ≤ b then
        match zeO σ b sz with
        | some cs => (cs.mapM (frzC σ n k)).map fun l => .fptr l off
        | none => none
      else none
    | .sl b off len esz sz =>
      if n ≤ b ∧ 0 < esz ∧ off + len * esz ≤ sz then
        match zeO σ b sz with
        | some cs => (((cs.drop off).take (len * esz)).mapM (frzC σ n k)).map fun l => .frz (Nat.blt 0 len) (chunks esz len l)
        | none => none
      else none
    | .fn f first cap =>
      match first.mapM (frzC σ n k), cap.mapM (frzC σ n k) with
      | some a, some b => some (.fn f a b)
      | _, _ => none
    | .mp b =>
      if n ≤ b then
        match σ[b]? with
        | some (.map es _) => (es.mapM fun e => (frzC σ n k e.2.1).map fun x => (e.1, x)).map .fmp
        | _ => none
      else none
    | _ => none
def frzD1 (σ : Heap) (n k : Nat) : D → Option D
  | .agg cs => (cs.mapM (frzC σ n k)).map fun l => .agg (l.map .c)
  | d => (frzC σ n k d).map .c
def frzD (σ : Heap) (n k : Nat) : D → Option D
  | .tup ds => (ds.mapM (frzD1 σ n k)).map .tup
  | d => frzD1 σ n k d
def resultOf (env : List D) (σ : Heap) : Nat × Option (Option Nat) → Option D
  | (t, none) => env[t]?
  | (t, some n) =>
    match env[t]? with
    | some (.ptr b off sz) => (zeO σ b sz).bind fun cs => zcs n cs off
    | _ => none
def one : List D → D
  | [d] => d
  | ds => .tup ds
def finish (f : za5) (σ0 : Heap) (env : List D) (σ : Heap) (wr : List Nat) : Option (D × Heap × List Nat) :=
  match f.results.mapM (resultOf env σ) with
  | some ds =>
    let wr' := wr.filter (· < σ0.length)
    if f.frz && wr'.isEmpty then
      match frzD σ σ0.length 100 (one ds) with
      | some r => some (r, σ0, [])
      | none => some (one ds, σ, wr')
    else some (one ds, σ, wr')
  | none => none
def evF1 (P : Program) (orc : Orc) (k : Nat) (f : za5) (ds : List D) (σ : Heap) : Option (D × Heap × List Nat) :=
  if ds.length = f.nparams then
    match evC P orc k f.body (ds ++ List.replicate (f.ntmps - ds.length) (.tup [])) σ [] with
    | some (.normal, env, σ', wr) => finish f σ env σ' wr
    | some (.ret, env, σ', wr) => finish f σ env σ' wr
    | _ => none
  else none
def evF (P : Program) (tbl : FuncId → Option za5) (prim : Orc) (k : Nat) : Nat → Orc
  | 0 => fun _ _ _ => none
  | n + 1 => fun g ds σ =>
    match prim g ds σ with
    | some r => some r
    | none =>
      match tbl g with
      | some f => evF1 P (evF P tbl prim k n) k f ds σ
      | none => none
end Go.Abs
