/- DfwPb, DfwPc, DfwCx, DfwPd, DfwPe, DfwPf, DfwPg -/
import Derived.Test.YtgneliafoejmeaaGreatFwC
set_option linter.all false
section
namespace Go.Abs
noncomputable section
variable [Gl] [Y:Ty]
structure TSp where
  ins:List VCd
  out:List VCd
  f:tupV ins→Option (outV out)
abbrev TSs:=List (Nat×TSp)
def tsk (g:Nat):TSs→Option TSp
  | []=>none
  | (s,f)::l=>match Nat.beq s g with | true=>some f | false=>tsk g l
def rdVs:(cs:List VCd)→List TV→Option (tupV cs)
  | [],[]=>some ()
  | c :: cs, x :: xs => match rdV c x, rdVs cs xs with
    | some a,some b=>some (a,b)
    | _,_=>none
  | _,_=>none
def VCd.te:(c:VCd)→c.dn→Bool×List TC
  | .c x,a=>(false,[expC x a])
  | .st i,a=>(true,exp i a)
  | .fp i,a=>(false,[.fp i a 0])
  | .k x,_=>(false,[.d (.c (.fn (.func x) [] []))])
def outL:(cs:List VCd)→outV cs→List (Bool×List TC)
  | [],_=>[]
  | [c],x=>[c.te x]
  | c::d::cs,x=>c.te x.1::outL (d::cs) x.2
def outT:(cs:List VCd)→outV cs→TV
  | [c],x=>c.tv x
  | cs,x=>.tup (outL cs x)
def ofD:D→TV
  | .agg ds=>.agg (ds.map .d)
  | d=>.c (.d d)
abbrev Kn:=List (Nat×Bool)
def knk (p:Nat):Kn→Option Bool
  | []=>none
  | (q,b)::l=>match Nat.beq q p with | true=>some b | false=>knk p l
def opn (kn:Kn) (cur:Option (Nat×Bool)) (p:Nat) (w:Bool):Bool:=
  match knk p kn with
  | some b=>b == w
  | none => match cur with
    | some (q,w')=>Nat.beq q p&&w' == w
    | none=>false
def rdO (al:TA) (kn:Kn) (cur:Option (Nat×Bool)):Opd→Option TV
  | .k d=>match d.low 0 with | true=>some (ofD d) | false=>none
  | .t n => match lkP n al with
    | some (.v x,_)=>some x
    | some (.g _ w p x,_)=>match opn kn cur p w with | true=>some x | false=>none
    | none=>none
def rdOs (rd:Opd→Option TV):List Opd→Option (List TV)
  | []=>some []
  | x :: xs => match rd x, rdOs rd xs with
    | some a,some b=>some (a::b)
    | _,_=>none
def TC.scalar:TC→Bool
  | .any=>false
  | .d x=>x.scalar
  | _=>true
def cellsT:TV→Option (List TC)
  | .c x=>match x.scalar with | true=>some [x] | false=>none
  | .agg xs=>match xs.all TC.scalar with | true=>some xs | false=>none
  | .tup _=>none
def putT {α:Type} (cs:List α) (off:Nat) (xs:List α):List α:=cs.take off++xs++cs.drop (off+xs.length)
def fillT (rd:Opd→Option TV):List TC→List (Nat×Nat×Opd)→Option (List TC)
  | cs,[]=>some cs
  | cs, (o, n, x) :: rest =>
    match rd x with
    | some v => match cellsT v with
      | some xs => match Nat.beq xs.length n && Nat.ble (o + n) cs.length with
        | true=>fillT rd (putT cs o xs) rest
        | false=>none
      | none=>none
    | none=>none
def getT (n:Option Nat) (cs:List TC) (off:Nat):Option TV:=
  match n with
  | none=>match cs[off]? with | some x=>some (.c x) | none=>none
  | some n=>match Nat.ble (off+n) cs.length with | true=>some (.agg ((cs.drop off).take n)) | false=>none
def noNil:List TC→Bool
  | []=>true
  | .d (.c (.lit (.slice none 0 0)))::_=>false
  | _::xs=>noNil xs
def isAny:TC→Bool
  | .any=>true
  | _=>false
def noAny:List TC→Bool
  | []=>true
  | x::xs=>!(isAny x)&&noAny xs
def mkT (i:Nat) (cs:List TC):Option (TT i):=match noNil cs,rdT (Y.fl i) cs with | true,some x=>some (Y.mkt i x) | _,_=>none
def mkRow (i:Nat):Nat→List TC→Option (List (TT i))
  | 0,[]=>some []
  | 0,_::_=>none
  | k + 1, cs => match mkT i (cs.take (esz i)), mkRow i k (cs.drop (esz i)) with
    | some a,some l=>some (a::l)
    | _,_=>none
def valT:TV→Option Value
  | .c (.d (.c (.lit v)))=>some v
  | .c (.b e)=>some (.bool e)
  | _=>none
def ofVT:Value→TV
  | .bool e=>.c (.b e)
  | v=>.c (.d (.c (.lit v)))
inductive BX where
  | t
  | f
  | e (x:Bool)
def bxOf:TV→Option BX
  | .c (.b e)=>some (.e e)
  | .c (.d (.c (.lit (.bool true))))=>some .t
  | .c (.d (.c (.lit (.bool false))))=>some .f
  | _=>none
def BX.val:BX→Bool
  | .t=>true
  | .f=>false
  | .e x=>x
def pk (c:Bool):BX→BX→Bool
  | .t,.e y=>c || y
  | .e x,.f=>c&&x
  | x,y=>bif c then x.val else y.val
def pkV (c:Bool):BX→BX→TV
  | .t,.t=>.c (.d (.c (.lit (.bool true))))
  | .f,.f=>.c (.d (.c (.lit (.bool false))))
  | x,y=>.c (.b (pk c x y))
def ints (k:IntKind):List TC→Option (List Int)
  | []=>some []
  | x :: xs => match rdC (.int k) x, ints k xs with
    | some a,some l=>some (a::l)
    | _,_=>none
def valC:TC→Option Value
  | .d (.c (.lit v))=>some v
  | .b e=>some (.bool e)
  | _=>none
def valCs:List TC→Option (List Value)
  | []=>some []
  | x :: xs => match valC x, valCs xs with
    | some v,some vs=>some (v::vs)
    | _,_=>none
def eqFs (P:Program) (xs ys:Array Value):List Field→Option Bool
  | []=>some true
  | f :: fs => match f.name != "_", zax P (part f.type xs f.offset), zax P (part f.type ys f.offset), P.underlying f.type, eqFs P xs ys fs with
    | true,some (.int k a),some (.int k' b),some (.int _),some q=>match decEq k k' with | .isTrue _=>some (a == b&&q) | .isFalse _=>none
    | true,some (.bool a),some (.bool b),some .bool,some q=>some (a == b&&q)
    | _,_,_,_,_=>none
def eqT (P:Program) (t:TypeId) (xs ys:List TC):Option Bool:=
  match valCs xs,valCs ys,P.underlying t,P.eqGuardType P.depth t,P.stoodInHeld t with
  | some vs,some ws,some (.struct fs),false,false=>eqFs P vs.toArray ws.toArray fs.toList
  | _,_,_,_,_=>none
def fsum? (a b:Int):Option Int:=if a.natAbs<2 ^ 52∧b.natAbs<2 ^ 52 then some (a+b) else none
def fdif? (a b:Int):Option Int:=if a.natAbs<2 ^ 52∧b.natAbs<2 ^ 52 then some (a-b) else none
def fmul? (a n:Int):Option Int:=if 0≤a∧a≤1048576∧0≤n∧n≤1048576 then some (a * n) else none
def fint? (a:Int):Option Int:=if a.natAbs<2 ^ 53 then some a else none
variable {R:Type}
abbrev KO (R:Type):=TV→TH→Bool→List Nat→Option R
def valO (val:Operand→Option TV) (x:Operand):Option Value:=match val x with | some v=>valT v | none=>none
def genV (P:Program) (op:Op) (ty:TypeId) (val:Operand→Option TV):Option Value:=
  if op.operands.toList.all (fun x=>(valO val x).isSome) then
    match zax P (execOp (fun x=>(valO val x).getD undef) { dst:=none,op:=op,type:=ty,pos:="",after:=#[],guard:=none }) with
    | some (.value v)=>some v
    | _=>none
  else none
def isFlat:Value→Bool
  | .agg _ | .tuple _=>false
  | _=>true
abbrev valR (rd:Opd→Option TV) (x:Operand):Option TV:=match opd x with | some o=>rd o | none=>none
def genT (P:Program) (op:Op) (ty:TypeId) (rd:Opd→Option TV) (σ:TH) (k:KO R):Option R:=
  match op with
  | .binOp o t x y _ =>
    match valR rd x,valR rd y with
    | some (.c (.d (.c (.lit (.int ka a))))), some (.c (.d (.c (.lit (.int kb b))))) =>
      match o with
      | .quo => match decEq ka kb with
        | .isTrue _=>(quo? ka a b).bind fun v=>k (.c (.d (.c (.lit (.int ka v))))) σ false []
        | .isFalse _=>none
      | .rem => match decEq ka kb with
        | .isTrue _=>(rem? a b).bind fun v=>k (.c (.d (.c (.lit (.int ka v))))) σ false []
        | .isFalse _=>none
      | _ => match binV P o t x y (.int ka a) (.int kb b) with
        | some v=>match isFlat v with | true=>k (ofVT v) σ false [] | false=>none
        | none=>none
    | some (.agg xs), some (.agg ys) =>
      match eqT P t xs ys with
      | some r => match o with
        | .eql=>k (.c (.b r)) σ false []
        | .neq=>k (.c (.b (!r))) σ false []
        | _=>none
      | none=>none
    | some (.c (.cx a b)), some (.c (.cx c d)) =>
      match o with
      | .add=>(fsum? a c).bind fun u=>(fsum? b d).bind fun v=>k (.c (.cx u v)) σ false []
      | .sub=>(fdif? a c).bind fun u=>(fdif? b d).bind fun v=>k (.c (.cx u v)) σ false []
      | .mul => match d with
        | .ofNat 0=>(fmul? a c).bind fun u=>(fmul? b c).bind fun v=>k (.c (.cx u v)) σ false []
        | _=>none
      | _=>none
    | some u, some v =>
      match valT u,valT v with
      | some (.bool a), some (.bool b) =>
        match o,P.underlying t with
        | .eql,some .bool=>k (.c (.b (a == b))) σ false []
        | .neq,some .bool=>k (.c (.b (!(a == b)))) σ false []
        | _,_=>none
      | some a, some b => match binV P o t x y a b with
        | some v=>match isFlat v with | true=>k (ofVT v) σ false [] | false=>none
        | none=>none
      | _,_=>none
    | _,_=>none
  | .unOp o _ x =>
    match valR rd x with
    | some u => match o, valT u with
      | .not,some (.bool e)=>k (.c (.b (!e))) σ false []
      | o, some a => match zax P (Op.unary o a) with
        | some v=>match isFlat v with | true=>k (ofVT v) σ false [] | false=>none
        | none=>none
      | _,_=>none
    | none=>none
  | .convert t t' x =>
    match valR rd x with
    | some (.c (.d (.c (.lit (.int ka a))))) =>
      match P.underlying t' with
      | some (.float .f64)=>match (P.underlying t).isSome with | true=>k (.c (.fl a)) σ false [] | false=>none
      | _ => match zax P (convert t t' (.int ka a)) with
        | some v=>match isFlat v with | true=>k (ofVT v) σ false [] | false=>none
        | none=>none
    | some (.c (.fl a)) => match P.underlying t', (P.underlying t).isSome with
      | some (.int .i64),true=>(fint? a).bind fun a=>k (.c (.d (.c (.lit (.int .i64 a))))) σ false []
      | _,_=>none
    | some u => match valT u with
      | some a => match zax P (convert t t' a) with
        | some v=>match isFlat v with | true=>k (ofVT v) σ false [] | false=>none
        | none=>none
      | none=>none
    | none=>none
  | .call c =>
    match c.callee,c.args.toList with
    | .builtin .min, _ => match genV P (.call c) ty (valR rd) with
      | some v=>match isFlat v with | true=>k (ofVT v) σ false [] | false=>none
      | none=>none
    | .builtin .max, _ => match genV P (.call c) ty (valR rd) with
      | some v=>match isFlat v with | true=>k (ofVT v) σ false [] | false=>none
      | none=>none
    | .builtin .complex, [x, y] => match valR rd x, valR rd y with
      | some (.c (.fl a)),some (.c (.fl b))=>k (.c (.cx a b)) σ false []
      | some (.c (.fl a)), some (.c (.d (.c (.lit (.float .f64 b))))) => match Nat.beq b (Fl.fl 0) with
        | true=>k (.c (.cx a 0)) σ false []
        | false=>none
      | _,_=>none
    | .builtin .real, [x] => match valR rd x with
      | some (.c (.cx a _))=>k (.c (.fl a)) σ false []
      | _=>none
    | .builtin .imag, [x] => match valR rd x with
      | some (.c (.cx _ b))=>k (.c (.fl b)) σ false []
      | _=>none
    | _,_=>none
  | _=>none
def frT (σ:TH):TC→TC
  | .own i b v n => match σ[b]? with
    | some (.row j l lv _)=>match Nat.beq lv v with | true=>.sl j l | false=>.own i b v n
    | _=>.own i b v n
  | x=>x
def frTV (σ:TH):TV→TV
  | .c x=>.c (frT σ x)
  | .agg xs=>.agg (xs.map (frT σ))
  | x=>x
def isOwn:TC→Bool
  | .own ..=>true
  | _=>false
def hasOwn:TV→Bool
  | .c x=>isOwn x
  | .agg xs=>xs.any isOwn
  | _=>false
def CC.gr:CC→Bool
  | .sl _=>false
  | _=>true
def VCd.gr:VCd→Bool
  | .c x=>x.gr
  | .st i=>(Y.fl i).all CC.gr
  | _=>false
def srcT (i:Nat) (σ:TH):TV→Option (List (TT i))
  | .c (.sl _ l)=>castL l
  | .c (.d (.c (.lit (.slice none 0 0))))=>some []
  | .c (.own _ b v _) => match σ[b]? with
    | some (.row _ l lv _)=>match Nat.beq lv v with | true=>castL l | false=>none
    | _=>none
  | _=>none
def intT:TV→Option Int
  | .c (.d (.c (.lit (.int .i64 n))))=>some n
  | _=>none
def teT:TV→Bool×List TC
  | .c x=>(false,[x])
  | .agg xs=>(true,xs)
  | .tup _=>(false,[])
def mpV (j:Nat) (st:Bool) (a:TT j):TV:=match st with | true=>.agg (exp j a) | false=>.c ((exp j a).headD (.d (.c (.lit undef))))
def mkM (j:Nat) (st:Bool) (v:TV):Option (TT j):=match st,v with
  | true,.agg xs=>mkT j xs
  | false,.c x=>mkT j [x]
  | _,_=>none
def lkRes (ok:Bool) (v:TV) (e:Bool):TV:=match ok with
  | true=>.tup [teT v,(false,[.d (.c (.lit (.bool e)))])]
  | false=>v
def tOp (P:Program) (S:TSs) (hint:Nat) (o:AOp) (rd:Opd→Option TV) (σ:TH) (k:KO R):Option R:=
  match o with
  | .mov x=>match rd x with | some v=>k v σ false [] | none=>none
  | .gen op ty=>genT P op ty rd σ k
  | .box x => match rd x with
    | some v => match cellsT v with
      | some cs=>k (.c (.d (.ptr σ.length 0 cs.length))) (σ++[.cells 0 (cs.map fun c=>(0,c))]) false []
      | none=>none
    | none=>none
  | .alloc z => match D.low.lows 0 z with
    | true=>k (.c (.d (.ptr σ.length 0 z.length))) (σ++[.cells 0 (z.map fun c=>(0,.d c))]) false []
    | false=>none
  | .build z ps => match D.low.lows 0 z, fillT rd (z.map .d) ps with
    | true,some cs=>k (.agg cs) σ false []
    | _,_=>none
  | .bslice es len z ps => match Nat.beq hint 1000001 with
    | true => match D.low.lows 0 z, fillT rd ((zeros len z).map .d) ps with
      | true, some cs => match noAny cs with
        | true=>k (.c (.d (.sl σ.length 0 len es cs.length))) (σ++[.cells 0 (cs.map fun c=>(0,c))]) false []
        | false=>none
      | _,_=>none
    | false=>match Nat.beq es (esz hint)&&D.low.lows 0 z,fillT rd ((zeros len z).map .d) ps with
    | true, some cs => match mkRow hint len cs with
      | some l=>k (.c (.own hint σ.length 0 len)) (σ++[.row hint l 0 0]) false []
      | none=>none
    | _,_=>none
  | .load n a => match rd a with
    | some (.c (.d (.ptr b off sz))) => match σ[b]? with
      | some (.cells _ cs) => match Nat.beq cs.length sz, getT n (cs.map Prod.snd) off with
        | true,some v=>k v σ false []
        | _,_=>none
      | _=>none
    | some (.c (.fp i x off)) => match getT n (exp i x) off with
      | some v=>k v σ false []
      | none=>none
    | some (.c (.op i b v _ _ x off)) => match σ[b]? with
      | some (.row _ _ _ cv) => match Nat.beq cv v, getT n (exp i x) off with
        | true,some v=>k v σ false []
        | _,_=>none
      | _=>none
    | some (.c (.ap b off len sz i)) => match n, σ[b]? with
      | none, some (.cells _ cs) => match Nat.beq cs.length sz && Nat.ble (off + len) sz, ints .i64 (((cs.map Prod.snd).drop off).take len) with
        | true,some l=>(at? l i).bind fun a=>k (.c (.d (.c (.lit (.int .i64 a))))) σ false []
        | _,_=>none
      | _,_=>none
    | _=>none
  | .store n a x => match rd a, rd x with
    | some (.c (.d (.ptr b off sz))), some v => match σ[b]?, cellsT v with
      | some (.cells w cs), some xs => match Nat.beq cs.length sz && (Nat.beq xs.length n && Nat.ble (off + n) sz) with
        | true=>k (.tup []) (σ.set b (.cells (w+1) (putT cs off (xs.map fun x=>(w+1,x))))) false [b]
        | false=>none
      | _,_=>none
    | some (.c (.op i b v _ q a off)), some x => match σ[b]?, cellsT x with
      | some (.row j l lv cv), some xs => match Nat.beq cv v && (Nat.beq xs.length n && Nat.ble (off + n) (esz i)), mkT i (putT (exp i a) off xs), castL (i := i) l with
        | true,some a',some l=>k (.tup []) (σ.set b (.row i (l.set q.toNat a') lv (cv+1))) false [b]
        | _,_,_=>none
      | _,_=>none
    | _,_=>none
  | .nilck x => match rd x with
    | some (.c (.d (.ptr b off sz)))=>k (.c (.d (.ptr b off sz))) σ false []
    | some (.c (.d (.c (.fn (.func f) u v))))=>k (.c (.d (.c (.fn (.func f) u v)))) σ false []
    | some (.c (.d (.fn (.func f) u v)))=>k (.c (.d (.fn (.func f) u v))) σ false []
    | some (.c (.fp i a off))=>k (.c (.fp i a off)) σ false []
    | some (.c (.op i b v n q a off))=>k (.c (.op i b v n q a off)) σ false []
    | _=>none
  | .isnil kd neg x => match rd x with
    | some (.c (.d x)) => match isNil kd x with
      | some true=>k (.c (.d (.c (.lit (.bool (!neg)))))) σ false []
      | some false=>k (.c (.d (.c (.lit (.bool neg))))) σ false []
      | none=>none
    | some (.c (.fp ..)) | some (.c (.op ..)) => match kd with
      | 0=>k (.c (.d (.c (.lit (.bool neg))))) σ false []
      | _=>none
    | _=>none
  | .fld off x => match rd x with
    | some (.c (.d (.ptr b o sz)))=>k (.c (.d (.ptr b (o+off) sz))) σ false []
    | some (.c (.fp i a o))=>k (.c (.fp i a (o+off))) σ false []
    | some (.c (.op i b v n q a o))=>k (.c (.op i b v n q a (o+off))) σ false []
    | _=>none
  | .idx es none x i => match rd x, rd i with
    | some (.c (.sl j l)), some iv => match intT iv, Nat.beq es (esz j) with
      | some q,true=>(at? l q).bind fun a=>k (.c (.fp j a 0)) σ false []
      | _,_=>none
    | some (.c (.own j b v n)), some iv => match intT iv, Nat.beq es (esz j), σ[b]? with
      | some q, true, some (.row _ l lv cv) => match Nat.beq lv v, castL (i := j) l with
        | true,some l=>(at? l q).bind fun a=>k (.c (.op j b cv n q a 0)) σ false []
        | _,_=>none
      | _,_,_=>none
    | some (.c (.d (.sl b off len es' sz))), some iv => match intT iv, σ[b]? with
      | some q, some (.cells _ cs) => match Nat.beq cs.length sz && Nat.beq es es', inR q len with
        | true,some j=>k (.c (.d (.ptr b (off+j * es) sz))) σ false []
        | _,_=>none
      | _,_=>none
    | _,_=>none
  | .idx es (some len) x (.k i) => match rd x, intT (ofD i) with
    | some (.c (.d (.ptr b off sz))), some q => match inR q len with
      | some j=>k (.c (.d (.ptr b (off+j * es) sz))) σ false []
      | none=>none
    | _,_=>none
  | .idx es (some len) x (.t i) => match rd x, rd (.t i) with
    | some (.c (.d (.ptr b off sz))), some iv => match intT iv, Nat.beq es 1, σ[b]? with
      | some q, true, some (.cells _ cs) => match Nat.beq cs.length sz && Nat.ble (off + len) sz, ints .i64 (((cs.map Prod.snd).drop off).take len) with
        | true,some l=>(at? l q).bind fun _=>k (.c (.ap b off len sz q)) σ false []
        | _,_=>none
      | _,_,_=>none
    | _,_=>none
  | .slc es x lo hi => match rd x with
    | some (.c (.sl j l)) =>
      match Nat.beq es (esz j),(match lo with | none=>some (.c (.d (I 0))) | some o=>rd o),(match hi with | none=>some (.c (.d (I l.length))) | some o=>rd o) with
      | true, some u, some v => match intT u, intT v with
        | some u,some v=>(slice? l u v).bind fun r=>k (.c (.sl j r)) σ false []
        | _,_=>none
      | _,_,_=>none
    | some (.c (.own j b v' n)) => match Nat.beq es (esz j), σ[b]? with
      | true, some (.row _ l lv _) => match Nat.beq lv v', (match lo with | none => some (.c (.d (I 0))) | some o => rd o), (match hi with | none => some (.c (.d (I l.length))) | some o => rd o) with
        | true, some u, some v => match intT u, intT v with
          | some u,some v=>(slice? l u v).bind fun _=>k (.c (.os j b v' l.length u.toNat (v.toNat-u.toNat))) σ false []
          | _,_=>none
        | _,_,_=>none
      | _,_=>none
    | _=>none
  | .mkmap=>k (.c (.d (.mp σ.length))) (σ++[.mp (hint / 2) (Nat.beq (hint % 2) 1) [] 0]) false []
  | .lookup kind zero m kx ok => match kind, rd m, rd kx, zero.low 0 with
    | .int _, some (.c (.d (.mp b))), some kv, true => match σ[b]?, intT kv with
      | some (.mp j st l _),some x=>oel (mget l x) (k (lkRes ok (ofD zero) false) σ false []) (fun a=>k (lkRes ok (mpV j st a) true) σ false [])
      | _,_=>none
    | _,_,_,_=>none
  | .upd kind m kx x => match kind, rd m, rd kx, rd x with
    | .int _, some (.c (.d (.mp b))), some kv, some v => match σ[b]?, intT kv with
      | some (.mp j st l ver), some i => match mkM j st v with
        | some a=>k (.tup []) (σ.set b (.mp j st (mset l i a) (ver+1))) false [b]
        | none=>none
      | _,_=>none
    | _,_,_,_=>none
  | .del kind m kx => match kind, rd m, rd kx with
    | .int _, some (.c (.d (.mp b))), some kv => match σ[b]?, intT kv with
      | some (.mp j st l ver),some i=>k (.tup []) (σ.set b (.mp j st (mdel l i) (ver+1))) false [b]
      | _,_=>none
    | _,_,_=>none
  | .len x => match rd x with
    | some (.c (.sl _ l))=>k (.c (.d (I l.length))) σ false []
    | some (.c (.d (.c (.lit (.slice none 0 0)))))=>k (.c (.d (I 0))) σ false []
    | some (.c (.own _ b v _)) => match σ[b]? with
      | some (.row _ l lv _)=>match Nat.beq lv v with | true=>k (.c (.d (I l.length))) σ false [] | false=>none
      | _=>none
    | some (.c (.d (.sl b _ len _ sz))) => match σ[b]? with
      | some (.cells _ cs)=>match Nat.beq cs.length sz with | true=>k (.c (.d (I len))) σ false [] | false=>none
      | _=>none
    | _=>none
  | .mk es bytes z l c => match Nat.beq es (esz hint) && (Nat.ble bytes 1000 && D.low.lows 0 z), mkT hint (z.map .d), rd l, rd c with
    | true, some z0, some u, some v => match intT u, intT v with
      | some u,some v=>(mk? z0 u v).bind fun r=>k (.c (.own hint σ.length 0 r.length)) (σ++[.row hint r 0 0]) false []
      | _,_=>none
    | true, none, some (.c (.d (.c (.lit (.int .i64 (.ofNat 0)))))), some v => match intT v with
      | some v=>(mk0? v).bind fun r=>k (.c (.own hint σ.length 0 r.length)) (σ++[.row hint r 0 0]) false []
      | none=>none
    | _,_,_,_=>none
  | .append es bytes s x => match rd s, rd x with
    | some (.c (.own i b v _)), some y => match σ[b]? with
      | some (.row _ l lv cv) => match Nat.beq lv v && (Nat.beq es (esz i) && Nat.ble bytes 1000), castL (i := i) l, srcT i σ y with
        | true,some l,some m=>(app? l m).bind fun r=>k (.c (.own i b (lv+1) r.length)) (σ.set b (.row i r (lv+1) (cv+1))) true [b]
        | _,_,_=>none
      | _=>none
    | some (.c (.d (.c (.lit (.slice none 0 0))))), some (.c (.own i b v q)) => match Nat.beq es (esz i) && Nat.ble bytes 1000, srcT i σ (.c (.own i b v q)) with
      | true, some (a :: l) => match Nat.ble (a :: l).length 1000000 with
        | true=>k (.c (.own i σ.length 0 (a::l).length)) (σ++[.row i (a::l) 0 0]) false []
        | false=>none
      | _,_=>none
    | some (.c (.d (.c (.lit (.slice none 0 0))))), some (.c (.sl i l)) => match Nat.beq es (esz i) && Nat.ble bytes 1000 with
      | true=>(app? [] l).bind fun r=>k (.c (.own i σ.length 0 r.length)) (σ++[.row i r 0 0]) false []
      | false=>none
    | _,_=>none
  | .copy es d s => match rd d, rd s with
    | some (.c (.own i b v _)), some y => match σ[b]? with
      | some (.row _ l lv cv) => match Nat.beq lv v && Nat.beq es (esz i), castL (i := i) l, srcT i σ y with
        | true,some l,some m=>k (.c (.d (I ((m.take l.length).length:Int)))) (σ.set b (.row i (cpL l m 0 l.length) lv (cv+1))) false [b]
        | _,_,_=>none
      | _=>none
    | some (.c (.os i b v _ lo len)), some y => match σ[b]? with
      | some (.row _ l lv cv) => match Nat.beq lv v && Nat.beq es (esz i), castL (i := i) l, srcT i σ y with
        | true,some l,some m=>k (.c (.d (I ((m.take len).length:Int)))) (σ.set b (.row i (cpL l m lo len) lv (cv+1))) false [b]
        | _,_,_=>none
      | _=>none
    | _,_=>none
  | .extract x i => match rd x with
    | some (.tup xs) => match xs[i]? with
      | some (true,cs)=>k (.agg cs) σ false []
      | some (false,[c])=>k (.c c) σ false []
      | _=>none
    | _=>none
  | .mkfn f first cap => match rdOs rd first, rdOs rd cap with
    | some a, some b => match a.mapM fun v => (match v with | .c (.d x) => some x | _ => none), b.mapM fun v => (match v with | .c (.d x) => some x | _ => none) with
      | some a,some b=>k (.c (.d (.fn f a b))) σ false []
      | _,_=>none
    | _,_=>none
  | .part off n x => match rd x with
    | some (.agg cs) => match getT n cs off with
      | some v=>k v σ false []
      | none=>none
    | _=>none
  | .aidx es len n x i => match rd x, rd i with
    | some (.agg cs), some iv => match i, intT iv with
      | .k _, some q => match inR q len with
        | some j => match getT n cs (j * es) with
          | some v=>k v σ false []
          | none=>none
        | none=>none
      | .t _, some q => match n, Nat.beq es 1 && Nat.beq cs.length len, ints .i64 cs with
        | none,true,some l=>(at? l q).bind fun a=>k (.c (.d (.c (.lit (.int .i64 a))))) σ false []
        | _,_,_=>none
      | _,_=>none
    | _,_=>none
  | .call f args => match rd f, rdOs rd args with
    | some (.c (.d (.c (.fn (.func g) [] [])))), some vs => match tsk g S with
      | some s => match rdVs s.ins vs with
        | some a=>(s.f a).bind fun r=>k (outT s.out r) σ false []
        | none => match s.out.all VCd.gr && vs.any hasOwn, rdVs s.ins (vs.map (frTV σ)) with
          | true,some a=>(s.f a).bind fun r=>k (outT s.out r) σ false []
          | _,_=>none
      | none=>none
    | _,_=>none
  | _=>none
def totOp:AOp→Bool
  | .mov _ | .build .. | .nilck _ | .isnil .. | .fld .. | .len _ | .extract .. | .part ..=>true
  | .load _ _=>true
  | .gen (.binOp o ..) _=>match o with | .quo | .rem=>false | _=>true
  | .gen (.unOp ..) _=>true
  | .gen (.convert ..) _=>true
  | .gen (.call _) _=>true
  | _=>false
inductive GR where
  | opn
  | shut
  | sym (e:Bool) (p:Nat) (w:Bool)
  | spl (e:Bool) (p:Nat)
  | res (t:Nat) (x:TV)
  | bad
def gdB (kn:Kn) (want:Bool) (p:Nat):TV→GR
  | .c (.d (.c (.lit (.bool true))))=>if want then .opn else .shut
  | .c (.d (.c (.lit (.bool false))))=>if want then .shut else .opn
  | .c (.d (.tup []))=>.shut
  | .c (.b e) => match knk p kn with
    | some b=>if b == want then .opn else .shut
    | none=>.sym e p want
  | _=>.bad
def gdC (kn:Kn) (p:Nat):TV→GR
  | .c (.d (.c (.lit (.bool true))))=>.opn
  | .c (.d (.c (.lit (.bool false))))=>.shut
  | .c (.b e) => match knk p kn with
    | some true=>.opn
    | some false=>.shut
    | none=>.sym e p true
  | _=>.bad
def tGd (al:TA) (kn:Kn):Option (Nat×Bool)→GR
  | none=>.opn
  | some (t, want) => match lkP t al with
    | some (.v x,p)=>gdB kn want p x
    | some (.g c w p x, _) => match knk p kn with
      | some b=>if b == w then .res t x else .shut
      | none=>.spl c p
    | none=>.bad
def blkT (rd:Opd→Option TV):AOp→Option Nat
  | .load _ x => match rd x with
    | some (.c (.d (.ptr b _ _)))=>some b
    | some (.c (.op _ b ..))=>some b
    | some (.c (.ap b ..))=>some b
    | _=>none
  | _=>none
def hintOf (H:List (Nat×Nat)):Option Nat→Nat
  | none=>0
  | some t=>hk t H
where hk (t:Nat):List (Nat×Nat)→Nat
  | []=>0
  | (s,i)::l=>match Nat.beq s t with | true=>i | false=>hk t l
abbrev KS (R:Type):=TA→TH→List Info→Option R
def setR (dst:Option Nat) (x:RV) (al:TA):TA:=match dst with | some t=>(t,x)::al | none=>al
inductive Pl where
  | r (t:Nat) (c:VCd)
  | w (b i:Nat)
  | h (b j:Nat) (c:CC)
  | m (b j:Nat) (st:Bool)
@[reducible] def Pl.dn:Pl→Type
  | .r _ c=>c.dn
  | .w _ i=>List (TT i)
  | .h _ _ c=>c.dn
  | .m _ j _=>List (Int×TT j)
@[reducible] def tupP:List Pl→Type
  | []=>Unit
  | [p]=>p.dn
  | p::q::ps=>p.dn×tupP (q::ps)
structure JH where
  pl:List Pl
  hs:List (Nat×Nat):=[]
  os:List (Nat×Nat):=[]
  zs:List (Nat×Nat×Nat):=[]
def ownz:List (Nat×Nat)→TA→TH→Option (TA×TH)
  | [],al,σ=>some (al,σ)
  | (t,i)::os,al,σ=>match Nat.ble 1048576 t with
   | true=>match σ[(t-1048576) / 1024]? with
    | some (.cells w cs) => match cs[(t - 1048576) % 1024]? with
      | some (_,.d (.c (.lit (.slice none 0 0))))=>ownz os al (σ.set ((t-1048576) / 1024) (.cells (w+1) (cs.set ((t-1048576) % 1024) (w+1,.own i σ.length 0 0)))++[.row i [] 0 0])
      | some (_,.own ..)=>ownz os al σ
      | _=>none
    | _=>none
   | false=>match lkT t al with
    | some (.v (.c (.d (.c (.lit (.slice none 0 0))))))=>ownz os ((t,.v (.c (.own i σ.length 0 0)))::al) (σ++[.row i [] 0 0])
    | some (.v (.c (.own ..)))=>ownz os al σ
    | _=>none
def castM {i j:Nat} (l:List (Int×TT j)):Option (List (Int×TT i)):=match decEq j i with | .isTrue h=>some (h▸l) | .isFalse _=>none
def cellsSame (ps:List Pl) (b:Nat):Nat→List (Nat×TC)→List (Nat×TC)→Bool
  | _,[],[]=>true
  | j,(v,_)::xs,(w,_)::ys=>(Nat.beq v w || ps.any fun p=>match p with | .h b' j' _=>Nat.beq b' b&&Nat.beq j' j | _=>false)&&cellsSame ps b (j+1) xs ys
  | _,_,_=>false
def blkSame (ps:List Pl) (b:Nat):TB→TB→Bool
  | .cells _ xs,.cells _ ys=>cellsSame ps b 0 xs ys
  | .row _ _ _ v,.row _ _ _ w=>Nat.beq v w || ps.any fun p=>match p with | .w b' _=>Nat.beq b' b | _=>false
  | .mp _ _ _ v,.mp _ _ _ w=>Nat.beq v w || ps.any fun p=>match p with | .m b' _ _=>Nat.beq b' b | _=>false
  | _,_=>false
def heapSame (ps:List Pl):Nat→TH→TH→Bool
  | _,[],_=>true
  | b,x::xs,y::ys=>blkSame ps b x y&&heapSame ps (b+1) xs ys
  | _,_::_,[]=>false
def putZs:List (Nat×Nat×Nat)→TH→TH
  | [],σ=>σ
  | (b, j, r) :: zs, σ => match σ[b]?, σ[r]? with
    | some (.cells w cs),some (.row i l lv _)=>putZs zs (σ.set b (.cells (w+1) (cs.set j (w+1,.own i r lv l.length))))
    | _,_=>putZs zs σ
def zsOk (n:Nat) (σ:TH) (zs:List (Nat×Nat×Nat)):Bool:=
  zs.all fun z=>Nat.blt z.1 n&&(Nat.blt z.2.2 n&&match σ[z.1]?,σ[z.2.2]? with
    | some (.cells _ cs), some (.row i _ lv _) => match cs[z.2.1]? with
      | some (_,.own i' r' v _)=>Nat.beq r' z.2.2&&(Nat.beq v lv&&Nat.beq i' i)
      | _=>false
    | _,_=>false)
def zpl (zs:List (Nat×Nat×Nat)):List Pl:=zs.map fun z=>.h z.1 z.2.1 .bool
inductive It where
  | cc (c:CC)
  | st (i:Nat)
  | fp (i:Nat)
  | ls (i:Nat)
  | ml (j:Nat)
  | cx
  deriving DecidableEq
@[reducible] def It.dn:It→Type
  | .cc c=>c.dn
  | .st i=>TT i
  | .fp i=>TT i
  | .ls i=>List (TT i)
  | .ml j=>List (Int×TT j)
  | .cx=>Int×Int
structure Dat where
  it:It
  v:it.dn
@[reducible] def tupI:List It→Type
  | []=>Unit
  | [c]=>c.dn
  | c::d::cs=>c.dn×tupI (d::cs)
def castI (c:It) (d:Dat):Option c.dn:=match decEq d.it c with | .isTrue h=>some (h▸d.v) | .isFalse _=>none
def toTup:(cs:List It)→List Dat→Option (tupI cs)
  | [],[]=>some ()
  | [c],[d]=>castI c d
  | c :: c2 :: cs, d :: ds => match castI c d, toTup (c2 :: cs) ds with
    | some a,some b=>some (a,b)
    | _,_=>none
  | _,_=>none
def ofTup:(cs:List It)→tupI cs→List Dat
  | [],_=>[]
  | [c],x=>[⟨c,x⟩]
  | c::c2::cs,x=>⟨c,x.1⟩::ofTup (c2::cs) x.2
inductive CP where
  | c (c:CC)
  | cx
  | hd (b:Nat)
  | pt (b off sz:Nat)
  | mr (b:Nat)
  | k (d:D)
inductive RO where
  | v (c:VCd)
  | p (p:CP)
  | ag (ps:List CP)
inductive NB where
  | cells (ps:List CP)
  | row (i:Nat)
  | mp (j:Nat) (st:Bool)
inductive PC where
  | h (b j:Nat) (p:CP)
  | w (b i:Nat)
  | m (b j:Nat) (st:Bool)
inductive CT where
  | mk (out:List RO) (pl:List PC) (nb:List NB) (H:List (Nat×Nat)) (J:List (Nat×JH)) (C:List (Nat×List CT))
def CT.out:CT→List RO | .mk o _ _ _ _ _=>o
def CT.pl:CT→List PC | .mk _ p _ _ _ _=>p
def CT.nb:CT→List NB | .mk _ _ n _ _ _=>n
def CT.H:CT→List (Nat×Nat) | .mk _ _ _ h _ _=>h
def CT.J:CT→List (Nat×JH) | .mk _ _ _ _ j _=>j
def CT.C:CT→List (Nat×List CT) | .mk _ _ _ _ _ c=>c
def ctk (k:Nat):List (Nat×List CT)→Option (List CT)
  | []=>none
  | (q,c)::l=>match Nat.beq q k with | true=>some c | false=>ctk k l
def CP.its:CP→List It
  | .c y=>[.cc y]
  | .cx=>[.cx]
  | _=>[]
def VCd.it:VCd→List It
  | .c x=>[.cc x]
  | .st i=>[.st i]
  | .fp i=>[.fp i]
  | .k _=>[]
def RO.its:RO→List It
  | .v y=>y.it
  | .p y=>y.its
  | .ag ps=>ps.flatMap CP.its
def NB.rts:NB→List It
  | .cells _=>[]
  | .row i=>[.ls i]
  | .mp j _=>[.ml j]
def NB.its:NB→List It
  | .cells ps=>ps.flatMap CP.its
  | _=>[]
def PC.rts:PC→List It
  | .h ..=>[]
  | .w _ i=>[.ls i]
  | .m _ j _=>[.ml j]
def PC.its:PC→List It
  | .h _ _ y=>y.its
  | _=>[]
def CT.items (ct:CT):List It:=ct.pl.flatMap PC.rts++(ct.nb.flatMap NB.rts++(ct.out.flatMap RO.its++(ct.pl.flatMap PC.its++ct.nb.flatMap NB.its)))
@[reducible] def altT:List CT→Type
  | []=>Empty
  | [c]=>tupI c.items
  | c::d::cs=>tupI c.items ⊕ altT (d::cs)
def altK {R:Type}:(cs:List CT)→altT cs→((c:CT)→tupI c.items→Option R)→Option R
  | [],_,_=>none
  | [c],x,f=>f c x
  | c :: d :: cs, x, f => match x with
    | .inl a=>f c a
    | .inr b=>altK (d::cs) b f
structure MS where
  ρ:List (Nat×Nat)
  fz:List Nat
  rw:List Dat
  cl:List Dat
def rhoK (b:Nat):List (Nat×Nat)→Option Nat
  | []=>none
  | (q,o)::l=>match Nat.beq q b with | true=>some o | false=>rhoK b l
def bindR (m b b':Nat) (s:MS):Option MS:=
  match Nat.blt b m with
  | true=>match Nat.beq b b' with | true=>some s | false=>none
  | false => match rhoK b s.ρ with
    | some o=>match Nat.beq o b' with | true=>some s | false=>none
    | none=>match Nat.ble m b' with | true=>some { s with ρ:=(b,b')::s.ρ } | false=>none
def eqK:D→D→Bool
  | .c (.lit (.pointer none)),.c (.lit (.pointer none))=>true
  | .c (.lit (.map none)),.c (.lit (.map none))=>true
  | .c (.lit .nilFunc),.c (.lit .nilFunc)=>true
  | .c (.lit (.slice none 0 0)),.c (.lit (.slice none 0 0))=>true
  | .c (.fn (.func f) [] []),.c (.fn (.func g) [] [])=>Nat.beq f g
  | .c (.lit (.int k a)),.c (.lit (.int k' b))=>decide (k=k')&&decide (a=b)
  | _,_=>false
def mCP (m:Nat) (σ1:TH) (p:CP) (x:TC) (s:MS):Option MS:=
  match p,x with
  | .c c, .own i b v n => match rdC c (frT σ1 (.own i b v n)) with
    | some a=>some { s with fz:=b::s.fz,cl:=s.cl++[⟨.cc c,a⟩] }
    | none=>none
  | .c c, x => match rdC c x with
    | some a=>some { s with cl:=s.cl++[⟨.cc c,a⟩] }
    | none=>none
  | .cx,.cx u v=>some { s with cl:=s.cl++[⟨.cx,(u,v)⟩] }
  | .hd b, .own _ b' v _ => match σ1[b']? with
    | some (.row _ _ lv _)=>match Nat.beq lv v with | true=>bindR m b b' s | false=>none
    | _=>none
  | .pt b off sz,.d (.ptr b' off' sz')=>match Nat.beq off off'&&Nat.beq sz sz' with | true=>bindR m b b' s | false=>none
  | .mr b,.d (.mp b')=>bindR m b b' s
  | .k d,.d d'=>match eqK d d' with | true=>some s | false=>none
  | _,_=>none
def mCPs (m:Nat) (σ1:TH):List CP→List TC→MS→Option MS
  | [],[],s=>some s
  | p :: ps, x :: xs, s => match mCP m σ1 p x s with
    | some s1=>mCPs m σ1 ps xs s1
    | none=>none
  | _,_,_=>none
def ownsT:List TC→List Nat
  | []=>[]
  | .own _ b _ _::xs=>b::ownsT xs
  | _::xs=>ownsT xs
def ownsV:TV→List Nat
  | .c x=>ownsT [x]
  | .agg xs=>ownsT xs
  | _=>[]
def mRO (m:Nat) (σ1:TH) (p:RO) (v:TV) (s:MS):Option MS:=
  match p,v with
  | .v (.c c),v=>match rdV (.c c) (frTV σ1 v) with | some a=>some { s with fz:=ownsV v++s.fz,cl:=s.cl++[⟨.cc c,a⟩] } | none=>none
  | .v (.st i),v=>match rdV (.st i) (frTV σ1 v) with | some a=>some { s with fz:=ownsV v++s.fz,cl:=s.cl++[⟨.st i,a⟩] } | none=>none
  | .v (.fp i),v=>match rdV (.fp i) (frTV σ1 v) with | some a=>some { s with cl:=s.cl++[⟨.fp i,a⟩] } | none=>none
  | .p p,.c x=>mCP m σ1 p x s
  | .ag ps,.agg xs=>mCPs m σ1 ps xs s
  | _,_=>none
def mROs (m:Nat) (σ1:TH):List RO→List TV→MS→Option MS
  | [],[],s=>some s
  | p :: ps, x :: xs, s => match mRO m σ1 p x s with
    | some s1=>mROs m σ1 ps xs s1
    | none=>none
  | _,_,_=>none
def mPCs (m:Nat) (σ σ1:TH):List PC→MS→Option MS
  | [],s=>some s
  | .h b j p :: ps, s => match σ1[b]?, Nat.blt b m with
    | some (.cells _ cs), true => match cs[j]? with
      | some x => match mCP m σ1 p x.2 s with
        | some s1=>mPCs m σ σ1 ps s1
        | none=>none
      | none=>none
    | _,_=>none
  | .w b i :: ps, s => match σ1[b]?, Nat.blt b m with
    | some (.row _ l _ _), true => match castL (i := i) l with
      | some a=>mPCs m σ σ1 ps { s with rw:=s.rw++[⟨.ls i,a⟩] }
      | none=>none
    | _,_=>none
  | .m b j st :: ps, s => match σ1[b]?, Nat.blt b m with
    | some (.mp _ st' l _), true => match st == st', castM (i := j) l with
      | true,some a=>mPCs m σ σ1 ps { s with rw:=s.rw++[⟨.ml j,a⟩] }
      | _,_=>none
    | _,_=>none
def mNBs (m:Nat) (σ1:TH):Nat→List NB→MS→Option MS
  | _,[],s=>some s
  | b, .cells ps :: nbs, s => match rhoK b s.ρ with
    | some b' => match σ1[b']? with
      | some (.cells _ cs) => match mCPs m σ1 ps (cs.map Prod.snd) s with
        | some s1=>mNBs m σ1 (b+1) nbs s1
        | none=>none
      | _=>none
    | none=>none
  | b, .row i :: nbs, s => match rhoK b s.ρ with
    | some b' => match σ1[b']? with
      | some (.row _ l _ _) => match castL (i := i) l with
        | some a=>mNBs m σ1 (b+1) nbs { s with rw:=s.rw++[⟨.ls i,a⟩] }
        | none=>none
      | _=>none
    | none=>none
  | b, .mp j st :: nbs, s => match rhoK b s.ρ with
    | some b' => match σ1[b']? with
      | some (.mp _ st' l _) => match st == st', castM (i := j) l with
        | true,some a=>mNBs m σ1 (b+1) nbs { s with rw:=s.rw++[⟨.ml j,a⟩] }
        | _,_=>none
      | _=>none
    | none=>none
def PC.pl:PC→Pl
  | .h b j _=>.h b j .bool
  | .w b i=>.w b i
  | .m b j st=>.m b j st
def nodupN:List Nat→Bool
  | []=>true
  | x::xs=>!(xs.any (Nat.beq x))&&nodupN xs
def absI (ct:CT) (σ σ1:TH) (rs:List TV):Option (tupI ct.items):=
  match heapSame (ct.pl.map PC.pl) 0 σ σ1 with
  | false=>none
  | true => match mROs σ.length σ1 ct.out rs ⟨[], [], [], []⟩ with
    | none=>none
    | some s1 => match mPCs σ.length σ σ1 ct.pl s1 with
      | none=>none
      | some s2 => match mNBs σ.length σ1 σ.length ct.nb s2 with
        | none=>none
        | some s => match nodupN (s.ρ.map Prod.snd) && (s.fz.all (fun b => Nat.ble σ.length b && !((s.ρ.map Prod.snd).any (Nat.beq b))) && s.ρ.all fun p => Nat.blt p.1 (σ.length + ct.nb.length)) with
          | true=>toTup ct.items (s.rw++s.cl)
          | false=>none
def absA (σ σ1:TH) (rs:List TV):(cs:List CT)→Option (altT cs)
  | []=>none
  | [c]=>absI c σ σ1 rs
  | c :: d :: cs => match absI c σ σ1 rs with
    | some a=>some (.inl a)
    | none => match absA σ σ1 rs (d :: cs) with
      | some b=>some (.inr b)
      | none=>none
def pRows (σ:TH):List PC→List Dat→Option (TH×List Dat)
  | [],ds=>some (σ,ds)
  | .h ..::ps,ds=>pRows σ ps ds
  | .w b i :: ps, d :: ds => match castI (.ls i) d, σ[b]? with
    | some l, some (.row j _ lv cv) => match Nat.beq j i with
      | true=>pRows (σ.set b (.row i l (lv+1) (cv+1))) ps ds
      | false=>none
    | _,_=>none
  | .m b j st :: ps, d :: ds => match castI (.ml j) d, σ[b]? with
    | some l,some (.mp _ _ _ v)=>pRows (σ.set b (.mp j st l (v+1))) ps ds
    | _,_=>none
  | _,[]=>none
def pNew:List NB→List Dat→Option (TH×List Dat)
  | [],ds=>some ([],ds)
  | .cells _::nbs,ds=>match pNew nbs ds with | some (l,r)=>some (.cells 0 []::l,r) | none=>none
  | .row i::nbs,d::ds=>match castI (.ls i) d,pNew nbs ds with | some a,some (l,r)=>some (.row i a 0 0::l,r) | _,_=>none
  | .mp j st::nbs,d::ds=>match castI (.ml j) d,pNew nbs ds with | some a,some (l,r)=>some (.mp j st a 0::l,r) | _,_=>none
  | _,[]=>none
def pCP (σs:TH) (p:CP) (ds:List Dat):Option (TC×List Dat):=
  match p,ds with
  | .c c,d::ds=>match castI (.cc c) d with | some a=>some (expC c a,ds) | none=>none
  | .cx,d::ds=>match castI .cx d with | some a=>some (.cx a.1 a.2,ds) | none=>none
  | .hd b,ds=>match σs[b]? with | some (.row i l lv _)=>some (.own i b lv l.length,ds) | _=>none
  | .pt b off sz,ds=>match Nat.blt b σs.length with | true=>some (.d (.ptr b off sz),ds) | false=>none
  | .mr b,ds=>match Nat.blt b σs.length with | true=>some (.d (.mp b),ds) | false=>none
  | .k d,ds=>match d.low 0 with | true=>some (.d d,ds) | false=>none
  | _,_=>none
def pCPs (σs:TH):List CP→List Dat→Option (List TC×List Dat)
  | [],ds=>some ([],ds)
  | p :: ps, ds => match pCP σs p ds with
    | some (x, ds1) => match pCPs σs ps ds1 with
      | some (xs,r)=>some (x::xs,r)
      | none=>none
    | none=>none
def pRO (σs:TH) (p:RO) (ds:List Dat):Option (TV×List Dat):=
  match p,ds with
  | .v (.c c),d::ds=>match castI (.cc c) d with | some a=>some (.c (expC c a),ds) | none=>none
  | .v (.st i),d::ds=>match castI (.st i) d with | some a=>some (.agg (exp i a),ds) | none=>none
  | .v (.fp i),d::ds=>match castI (.fp i) d with | some a=>some (.c (.fp i a 0),ds) | none=>none
  | .p p,ds=>match pCP σs p ds with | some (x,r)=>some (.c x,r) | none=>none
  | .ag ps,ds=>match pCPs σs ps ds with | some (xs,r)=>some (.agg xs,r) | none=>none
  | _,_=>none
def pROs (σs:TH):List RO→List Dat→Option (List TV×List Dat)
  | [],ds=>some ([],ds)
  | p :: ps, ds => match pRO σs p ds with
    | some (x, ds1) => match pROs σs ps ds1 with
      | some (xs,r)=>some (x::xs,r)
      | none=>none
    | none=>none
def pPCs (σs:TH):List PC→TH→List Dat→Option (TH×List Dat)
  | [],σ,ds=>some (σ,ds)
  | .h b j p :: ps, σ, ds => match pCP σs p ds, σ[b]? with
    | some (x,r),some (.cells w cs)=>pPCs σs ps (σ.set b (.cells (w+1) (cs.set j (w+1,x)))) r
    | _,_=>none
  | _::ps,σ,ds=>pPCs σs ps σ ds
def pNBs (σs:TH):List NB→TH→List Dat→Option TH
  | [],_,_=>some []
  | .cells ps :: nbs, _ :: bs, ds => match pCPs σs ps ds with
    | some (xs, r) => match pNBs σs nbs bs r with
      | some l=>some (.cells 0 (xs.map fun x=>(0,x))::l)
      | none=>none
    | none=>none
  | _ :: nbs, b :: bs, ds => match pNBs σs nbs bs ds with
    | some l=>some (b::l)
    | none=>none
  | _,_,_=>none
def putI (ct:CT) (σ:TH) (x:tupI ct.items):Option (List TV×TH):=
  match pRows σ ct.pl (ofTup ct.items x) with
  | none=>none
  | some (σr, d1) => match pNew ct.nb d1 with
    | none=>none
    | some (nb, d2) => match pROs (σr ++ nb) ct.out d2 with
      | none=>none
      | some (vs, d3) => match pPCs (σr ++ nb) ct.pl σr d3 with
        | none=>none
        | some (σ2, d4) => match pNBs (σr ++ nb) ct.nb nb d4 with
          | some l=>some (vs,σ2++l)
          | none=>none
def oneT:List TV→TV
  | [v]=>v
  | vs=>.tup (vs.map teT)
def fnT:TV→Option (FuncId×List TV×List TV)
  | .c (.d (.c (.fn (.func g) a b)))=>some (g,a.map (fun x=>ofD (.c x)),b.map fun x=>ofD (.c x))
  | .c (.d (.fn (.func g) a b))=>some (g,a.map ofD,b.map ofD)
  | _=>none
def PC.blk:PC→Nat
  | .h b _ _=>b
  | .w b _=>b
  | .m b _ _=>b
def PC.rs:PC→Bool
  | .w ..=>true
  | _=>false
def okT (al:TA):AOp→Bool
  | .load _ (.t a)=>(lkP a al).isSome
  | _=>true
structure Cfg where
  P:Program
  S:TSs
  H:List (Nat×Nat)
  J:List (Nat×JH)
  C:List (Nat×List CT)
  n:Nat
  N:Nat
  inl:(cs:List CT)→FuncId→List TV→TH→Option (altT cs)
  exa:CT→FuncId→List TV→TH→Option (List TV×TH)
  rs:List CT→FuncId→List TV→TH→List CT
def exOf:List CT→Option CT
  | [ct] => match ct.H with
    | (k,_)::_=>match Nat.beq k 1000002 with | true=>some ct | false=>none
    | _=>none
  | _=>none
def inlOf (g:Cfg) (q:Nat) (o:AOper):Option (List CT):=
  match g.C with
  | []=>none
  | C => match o.op, o.dst with
    | .call _ _,some t=>ctk (q * 65536+t) C
    | _,_=>none
def altOf (g:Cfg) (q:Nat) (o:AOper) (n gi:Nat) (cs:List CT):List CT:=
  match o.dst with
  | some t => match ctk (q * 65536 + t + 1099511627776 * (n + 1)) g.C with
    | some cs'=>cs'
    | none => match ctk (q * 65536 + t + 1208925819614629174706176 * (gi + 1)) g.C with
      | some cs'=>cs'
      | none=>cs
  | none=>cs
def sameD (o o':AOper):Bool:=match o.dst,o'.dst with | some a,some b=>Nat.beq a b | _,_=>false
def inlU (g:Cfg) (q:Nat):List AOper→Bool
  | []=>true
  | o :: os => (match inlOf g q o with
    | some _=>!(os.any (sameD o))
    | none=>!(os.any fun o'=>sameD o o'&&(inlOf g q o').isSome))&&inlU g q os
def inlR (g:Cfg) (q:Nat) (os:List AOper):Bool:=match g.C with | []=>true | _=>inlU g q os
def tOps (g:Cfg) (q:Nat):Nat→Nat→List AOper→Kn→TA→TH→KS R→Option R
  | 0,_,_,_,_,_,_=>none
  | _+1,_,[],_,al,σ,K=>K al σ []
  | fu + 1, k, o :: os, kn, al, σ, K =>
    match (match o.dst with | some t=>Nat.blt t g.n | none=>true) with
    | false=>none
    | true=>
    match tGd al kn o.g with
    | .bad=>none
    | .res t x=>tOps g q fu k (o::os) kn ((t,.v x)::al) σ K
    | .spl e p=>if e=true then tOps g q fu k (o::os) ((p,true)::kn) al σ K else tOps g q fu k (o::os) ((p,false)::kn) al σ K
    | .shut => match o.dst with
      | none=>none
      | some t => match okT al o.op with
        | false=>none
        | true=>tOps g q fu (k-1) os kn ((t,.v (.c (.d (.tup []))))::al) σ fun al' σ' is=>K al' σ' (mkI o 0 none [] σ.length σ.length::is)
    | .sym e p w =>
      match totOp o.op,o.dst with
      | true, some t =>
        match tOp (R:=TV) g.P g.S 0 o.op (rdO al kn (some (p,w))) σ fun v _ _ _=>some v with
        | some v=>tOps g q fu (k-1) os kn ((t,.g e w p v)::al) σ fun al' σ' is=>K al' σ' (mkI o (cat o.op) (blkT (rdO al kn (some (p,w))) o.op) [] σ.length σ.length::is)
        | none=>none
      | _,_=>if e=true then tOps g q fu k (o::os) ((p,true)::kn) al σ K else tOps g q fu k (o::os) ((p,false)::kn) al σ K
    | .opn =>
      match inlOf g q o with
      | some cs =>
        match o.op with
        | .call f args => match rdO al kn none f, rdOs (rdO al kn none) args with
          | some fv, some vs => match fnT fv with
            | some (gi,a,b)=>match g.rs (altOf g q o σ.length gi cs) gi (a++vs++b) σ with
             | cs=>match exOf cs with
              | some ct=>(g.exa ct gi (a++vs++b) σ).bind fun p=>tOps g q fu (k-1) os kn (setR o.dst (.v (oneT p.1)) al) p.2 fun al' σ' is=>K al' σ' (mkI o (cat o.op) none [] σ.length p.2.length::is)
              | none=>(g.inl cs gi (a++vs++b) σ).bind fun x=>altK cs x fun ct x=>match putI ct σ x with
              | some (rv, σ1) => match Nat.beq k 0 || !(ct.pl.any PC.rs) with
                | true=>tOps g q fu (k-1) os kn (setR o.dst (.v (oneT rv)) al) σ1 fun al' σ' is=>K al' σ' (mkI o (cat o.op) none (ct.pl.map PC.blk) σ.length σ1.length::is)
                | false=>none
              | none=>none
            | none=>none
          | _,_=>none
        | _=>none
      | none=>
      match o.op,o.dst with
      | .pick (.t c) x y, some t =>
        match lkP c al with
        | some (.v cv, p) =>
          match gdC kn p cv with
          | .opn => match rdO al ((p, true) :: kn) none x with
            | some v=>tOps g q fu (k-1) os kn ((t,.v v)::al) σ fun al' σ' is=>K al' σ' (mkI o (cat o.op) none [] σ.length σ.length::is)
            | none=>none
          | .shut => match rdO al ((p, false) :: kn) none y with
            | some v=>tOps g q fu (k-1) os kn ((t,.v v)::al) σ fun al' σ' is=>K al' σ' (mkI o (cat o.op) none [] σ.length σ.length::is)
            | none=>none
          | .sym e p _ => match rdO al kn (some (p, true)) x, rdO al kn (some (p, false)) y with
            | some u, some v => match bxOf u, bxOf v with
              | some u,some v=>tOps g q fu (k-1) os kn ((t,.v (pkV e u v))::al) σ fun al' σ' is=>K al' σ' (mkI o (cat o.op) none [] σ.length σ.length::is)
              | _,_=>none
            | _,_=>none
          | _=>none
        | _=>none
      | op,dst=>tOp g.P g.S (hintOf g.H dst) op (rdO al kn none) σ fun v σ1 rs wr=>
          match Nat.beq k 0 || !rs with
          | true=>tOps g q fu (k-1) os kn (setR dst (.v v) al) σ1 fun al' σ' is=>K al' σ' (mkI o (cat op) (blkT (rdO al kn none) op) wr σ.length σ1.length::is)
          | false=>none
def rdP (al:TA) (σ:TH):(p:Pl)→Option p.dn
  | .r t c => match lkT t al with
    | some (.v x)=>rdV c x
    | _=>none
  | .w b _ => match σ[b]? with
    | some (.row _ l _ _)=>castL l
    | _=>none
  | .h b j c => match σ[b]? with
    | some (.cells _ cs) => match cs[j]? with
      | some x=>rdC c x.2
      | none=>none
    | _=>none
  | .m b _ st => match σ[b]? with
    | some (.mp _ st' l _)=>match st == st' with | true=>castM l | false=>none
    | _=>none
def rdPs (al:TA) (σ:TH):(ps:List Pl)→Option (tupP ps)
  | []=>some ()
  | [p]=>rdP al σ p
  | p :: q :: ps => match rdP al σ p, rdPs al σ (q :: ps) with
    | some a,some b=>some (a,b)
    | _,_=>none
def putP (p:Pl) (x:p.dn) (al:TA):TA:=
  match p,x with
  | .r t c,x=>(t,.v (c.tv x))::al
  | _,_=>al
def putPs:(ps:List Pl)→tupP ps→TA→TA
  | [],_,al=>al
  | [p],x,al=>putP p x al
  | p::q::ps,x,al=>putP p x.1 (putPs (q::ps) x.2 al)
def putQ (p:Pl) (x:p.dn) (σ:TH):TH:=
  match p,x with
  | .w b i, x => match σ[b]? with
    | some (.row _ _ lv cv)=>σ.set b (.row i x (lv+1) (cv+1))
    | _=>σ
  | .h b j c, x => match σ[b]? with
    | some (.cells w cs)=>σ.set b (.cells (w+1) (cs.set j (w+1,expC c x)))
    | _=>σ
  | .m b j st, x => match σ[b]? with
    | some (.mp _ _ _ v)=>σ.set b (.mp j st x (v+1))
    | _=>σ
  | _,_=>σ
def putQs:(ps:List Pl)→tupP ps→TH→TH
  | [],_,σ=>σ
  | [p],x,σ=>putQ p x σ
  | p::q::ps,x,σ=>putQ p x.1 (putQs (q::ps) x.2 σ)
def putH (σ:TH):List (Nat×Nat)→TA→TA
  | [],al=>al
  | (t, b) :: hs, al => match σ[b]? with
    | some (.row i l lv _)=>(t,.v (.c (.own i b lv l.length)))::putH σ hs al
    | _=>putH σ hs al
def shade (md:List Nat) (al:TA):TA:=(md.filter fun t=>(lkT t al).isSome).map (fun t=>(t,.v (.c .any)))++al
def asgd:ACode→List Nat
  | .reg os=>os.filterMap (·.dst)
  | .drw os _ _ _=>os.filterMap (·.dst)
  | .seq a b=>asgd a++asgd b
  | .cond _ a b=>asgd a++asgd b
  | .block _ b=>asgd b
  | .loop b=>asgd b
  | _=>[]
def hsOk (al:TA) (σ:TH) (hs:List (Nat×Nat)):Bool:=
  hs.all fun (t,b)=>match lkT t al,σ[b]? with
    | some (.v (.c (.own i b' v _))),some (.row j _ lv _)=>Nat.beq b' b&&(Nat.beq v lv&&Nat.beq i j)
    | _,_=>false
def regsOk (md:List Nat) (al al1:TA):Bool:=(al1.take (al1.length-al.length)).all fun p=>md.any (Nat.beq p.1)
def absJ (h:JH) (md:List Nat) (al:TA) (σ:TH) (al1:TA) (σ1:TH):Option (tupP h.pl):=
  match regsOk md al al1&&(heapSame (h.pl++zpl h.zs) 0 σ σ1&&(hsOk al1 σ1 h.hs&&zsOk σ.length σ1 h.zs)) with
  | true=>rdPs al1 σ1 h.pl
  | false=>none
def frzT (m:Nat) (σ:TH):TC→TC
  | .own i b v n => match Nat.blt b m with
    | true=>.own i b v n
    | false => match σ[b]? with
      | some (.row j l lv _)=>match Nat.beq lv v with | true=>.sl j l | false=>.any
      | _=>.any
  | .op i b v n k a o=>match Nat.blt b m with | true=>.op i b v n k a o | false=>.any
  | .ap b off len sz k=>match Nat.blt b m with | true=>.ap b off len sz k | false=>.any
  | .os i b v n lo len=>match Nat.blt b m with | true=>.os i b v n lo len | false=>.any
  | .d x=>match x.low m with | true=>.d x | false=>.any
  | x=>x
def frzV (m:Nat) (σ:TH):RV→RV
  | .v (.c x)=>.v (.c (frzT m σ x))
  | .v (.agg xs)=>.v (.agg (xs.map (frzT m σ)))
  | _=>.v (.c .any)
def frzA (m:Nat) (σ:TH):Nat→TA→TA
  | 0,al=>al
  | _+1,[]=>[]
  | k+1,(t,x)::al=>(t,frzV m σ x)::frzA m σ k al
def okC (m:Nat):TC→Bool
  | .own _ b _ _=>Nat.blt b m
  | .op _ b _ _ _ _ _=>Nat.blt b m
  | .ap b _ _ _ _=>Nat.blt b m
  | .os _ b _ _ _ _=>Nat.blt b m
  | .d x=>x.low m
  | _=>true
def okB (m:Nat):TB→Bool
  | .cells _ cs=>cs.all fun p=>okC m p.2
  | _=>true
def absF (h:JH) (md:List Nat) (al:TA) (σ:TH) (al1:TA) (σ1:TH):Option (tupP h.pl):=
  match (σ1.take σ.length).all (okB σ.length) with
  | true=>absJ h md al σ (frzA σ.length σ1 (al1.length-al.length) al1) (σ1.take σ.length)
  | false=>absJ h md al σ al1 σ1
def putZ (h:JH) (md:List Nat) (al:TA) (σ:TH) (x:tupP h.pl):TH:=putZs h.zs (putQs h.pl x σ)
def putX (h:JH) (md:List Nat) (al:TA) (σ:TH) (x:tupP h.pl):TA:=putPs h.pl x (putH (putQs h.pl x σ) h.hs (shade md al))
def jn {X:Type} (r:X→Option R) (b:(X→Option R)→Option R):Option R:=b r
def lpX {X:Type} (b:(X→Option R)→X→Option R):Nat→X→Option R
  | 0,_=>none
  | n+1,x=>b (lpX b n) x
def jhk (p:Nat):List (Nat×JH)→Option JH
  | []=>none
  | (q,h)::l=>match Nat.beq q p with | true=>some h | false=>jhk p l
def jhl (p n:Nat) (J:List (Nat×JH)):Option JH:=match jhk (p+1099511627776 * (n+1)) J with
  | some h=>some h
  | none=>jhk p J
abbrev KC (R:Type):=AExit→TA→TH→Option R
def isApp (os:List AOper):Bool:=(os.any fun o=>match o.op with | .append ..=>true | _=>false)&&os.any fun o=>match o.op with | .upd ..=>true | _=>false
def rsCall (g:Cfg) (q:Nat) (os:List AOper):Bool:=match g.C with
  | []=>false
  | _ => os.any fun o => match inlOf g q o with
    | some cs=>cs.any fun ct=>ct.pl.any PC.rs || ct.H.any fun p=>Nat.beq p.1 1000005
    | none=>false
def lpU {X:Type} (b:(TA→TH→Option X)→TA→TH→Option X):Nat→TA→TH→Option X
  | 0,_,_=>none
  | n+1,al,σ=>b (lpU b n) al σ
def unrOf (h:JH):Option Nat:=match h.os with
  | [(k,n)]=>match Nat.beq k 1000003 with | true=>some n | false=>none
  | _=>none
def tC (g:Cfg):ACode→Nat→TA→TH→KC R→Option R
  | .skip,_,al,σ,K=>K .normal al σ
  | .reg os, q, al, σ, K => match inlR g q os with
    | true=>tOps g q 1000 0 os [] al σ fun al' σ' _=>K .normal al' σ'
    | false=>none
  | .drw os bef k p, q, al, σ, K =>
    match inlR g q os with
    | false=>none
    | true=>
    match isApp os with
    | true=>tOps g q 1000 os.length os [] al σ fun al' σ' is=>match pairsOk bef is&&tailOk bef p os.length os.length&&Nat.ble p os.length with | true=>K .normal al' σ' | false=>none
    | false => match rsCall g q os with
      | true=>tOps g q 1000 (lastCall os) os [] al σ fun al' σ' is=>match pairsOk bef is&&tailOk bef p (lastCall os) os.length&&Nat.ble p (lastCall os) with | true=>K .normal al' σ' | false=>none
      | false=>tOps g q 1000 k os [] al σ fun al' σ' is=>match pairsOk bef is&&tailOk bef p k os.length&&Nat.ble p k with | true=>K .normal al' σ' | false=>none
  | .seq a b, q, al, σ, K =>
    match jhl q σ.length g.J with
    | none => tC g a (2 * q) al σ fun x al1 σ1 => match x with
      | .normal=>tC g b (2 * q+1) al1 σ1 K
      | x=>K x al1 σ1
    | some h => match ownz h.os al σ with
      | none=>none
      | some (al, σ) => jn (fun x => tC g b (2 * q + 1) (putX h (asgd a) al σ x) (putZ h (asgd a) al σ x) K) fun j =>
        tC g a (2 * q) al σ fun x al1 σ1=>match x with
          | .normal=>match absF h (asgd a) al σ al1 σ1 with | some x=>j x | none=>none
          | x=>K x al1 σ1
  | .cond c a b, q, al, σ, K =>
    match rdO al [] none c with
    | some (.c (.d (.c (.lit (.bool true)))))=>tC g a (2 * q) al σ K
    | some (.c (.d (.c (.lit (.bool false)))))=>tC g b (2 * q+1) al σ K
    | some (.c (.b e))=>if e=true then tC g a (2 * q) al σ K else tC g b (2 * q+1) al σ K
    | _=>none
  | .block id b, q, al, σ, K => tC g b (2 * q) al σ fun x al1 σ1 => match x with
    | .exit i=>match Nat.beq i id with | true=>K .normal al1 σ1 | false=>K (.exit i) al1 σ1
    | x=>K x al1 σ1
  | .loop b, q, al, σ, K =>
    match jhl q σ.length g.J with
    | none=>none
    | some h => match unrOf h with
      | some n => lpU (fun rec al σ => tC g b (2 * q) al σ fun ex al1 σ1 => match ex with
        | .normal=>rec al1 σ1
        | ex=>K ex al1 σ1) n al σ
      | none=>match ownz h.os al σ with
      | none=>none
      | some (al,σ)=>match absJ h (asgd b) al σ al σ with
      | none=>none
      | some x0 => lpX (fun rec x =>
        tC g b (2 * q) (putX h (asgd b) al σ x) (putZ h (asgd b) al σ x) fun ex al1 σ1=>match ex with
          | .normal=>match absF h (asgd b) (putX h (asgd b) al σ x) (putZ h (asgd b) al σ x) al1 σ1 with | some x'=>rec x' | none=>none
          | ex=>K ex al1 σ1) g.N x0
  | .exit id,_,al,σ,K=>K (.exit id) al σ
  | .ret,_,al,σ,K=>K .ret al σ
  | .stuck,_,_,_,_=>none
def zipT:Nat→List TV→TA
  | _,[]=>[]
  | i,d::ds=>(i,.v d)::zipT (i+1) ds
def resT (al:TA) (σ:TH):Nat×Option (Option Nat)→Option TV
  | (t,none)=>match lkT t al with | some (.v x)=>some x | _=>none
  | (t, some n) => match lkT t al with
    | some (.v (.c (.d (.ptr b off sz)))) => match σ[b]? with
      | some (.cells _ cs)=>match Nat.beq cs.length sz with | true=>getT n (cs.map Prod.snd) off | false=>none
      | _=>none
    | _=>none
def rdOut (σ:TH):(cs:List VCd)→List TV→Option (outV cs)
  | [],[]=>some ()
  | [c],[x]=>rdV c (frTV σ x)
  | c :: d :: cs, x :: xs => match rdV c (frTV σ x), rdOut σ (d :: cs) xs with
    | some a,some b=>some (a,b)
    | _,_=>none
  | _,_=>none
def mapO {α β:Type} (f:α→Option β):List α→Option (List β)
  | []=>some []
  | x :: xs => match f x, mapO f xs with
    | some a,some b=>some (a::b)
    | _,_=>none
structure OSp where
  inp:CT
  cts:List CT
  f:tupI inp.items→Option (altT cts)
abbrev OSs:=List (Nat×OSp)
def absS (inp:CT) (σ:TH) (vs:List TV):Option (List (Nat×Nat)×tupI inp.items):=
  match mROs 0 σ inp.out vs ⟨[],[],[],[]⟩ with
  | none=>none
  | some s1 => match mNBs 0 σ 0 inp.nb s1 with
    | none=>none
    | some s => match nodupN (s.ρ.map Prod.snd) && (s.fz.isEmpty && (inp.pl.isEmpty && s.ρ.all fun p => Nat.blt p.1 (0 + inp.nb.length))) with
      | true => match toTup inp.items (s.rw ++ s.cl) with
        | some x=>some (s.ρ,x)
        | none=>none
      | false=>none
def isNilT:TC→Bool
  | .d (.c (.lit (.slice none 0 0)))=>true
  | _=>false
def exN (σ:TH) (ρ:List (Nat×Nat)):Nat→TH→Bool
  | _,[]=>true
  | i, .cells _ ys :: bs => (match σ[(rhoK i ρ).getD 0]? with
    | some (.cells _ xs)=>exC xs ys
    | _=>false)&&exN σ ρ (i+1) bs
  | i,_::bs=>exN σ ρ (i+1) bs
where exC:List (Nat×TC)→List (Nat×TC)→Bool
  | (_,x)::xs,(_,y)::ys=>(!(isNilT x) || isNilT y)&&exC xs ys
  | _,_=>true
def rhoA (n m:Nat) (ρ:List (Nat×Nat)) (i:Nat):Nat:=match Nat.blt i n with | true=>(rhoK i ρ).getD 0 | false=>m+(i-n)
def eqVC:VCd→VCd→Bool
  | .c x,.c y=>decide (x=y)
  | .st i,.st j=>Nat.beq i j
  | .fp i,.fp j=>Nat.beq i j
  | .k g,.k h=>Nat.beq g h
  | _,_=>false
def rCP (ρ:Nat→Nat) (n:Nat):CP→CP→Bool
  | .c a,.c b=>decide (a=b)
  | .cx,.cx=>true
  | .hd b,.hd b'=>Nat.beq (ρ b) b'&&Nat.blt b n
  | .pt b o s,.pt b' o' s'=>Nat.beq (ρ b) b'&&(Nat.blt b n&&(Nat.beq o o'&&Nat.beq s s'))
  | .mr b,.mr b'=>Nat.beq (ρ b) b'&&Nat.blt b n
  | .k d,.k d'=>eqK d d'
  | _,_=>false
def rCPs (ρ:Nat→Nat) (n:Nat):List CP→List CP→Bool
  | [],[]=>true
  | p::ps,q::qs=>rCP ρ n p q&&rCPs ρ n ps qs
  | _,_=>false
def rRO (ρ:Nat→Nat) (n:Nat):RO→RO→Bool
  | .v a,.v b=>eqVC a b
  | .p a,.p b=>rCP ρ n a b
  | .ag a,.ag b=>rCPs ρ n a b
  | _,_=>false
def rROs (ρ:Nat→Nat) (n:Nat):List RO→List RO→Bool
  | [],[]=>true
  | p::ps,q::qs=>rRO ρ n p q&&rROs ρ n ps qs
  | _,_=>false
def rPC (ρ:Nat→Nat) (m0 n:Nat):PC→PC→Bool
  | .h b j p,.h b' j' p'=>Nat.beq (ρ b) b'&&(Nat.blt b m0&&(Nat.beq j j'&&rCP ρ n p p'))
  | .w b i,.w b' i'=>Nat.beq (ρ b) b'&&(Nat.blt b m0&&Nat.beq i i')
  | .m b j st,.m b' j' st'=>Nat.beq (ρ b) b'&&(Nat.blt b m0&&(Nat.beq j j'&&st == st'))
  | _,_=>false
def rPCs (ρ:Nat→Nat) (m0 n:Nat):List PC→List PC→Bool
  | [],[]=>true
  | p::ps,q::qs=>rPC ρ m0 n p q&&rPCs ρ m0 n ps qs
  | _,_=>false
def rNB (ρ:Nat→Nat) (n:Nat):NB→NB→Bool
  | .cells a,.cells b=>rCPs ρ n a b
  | .row i,.row j=>Nat.beq i j
  | .mp j st,.mp j' st'=>Nat.beq j j'&&st == st'
  | _,_=>false
def rNBs (ρ:Nat→Nat) (n:Nat):List NB→List NB→Bool
  | [],[]=>true
  | p::ps,q::qs=>rNB ρ n p q&&rNBs ρ n ps qs
  | _,_=>false
def rCT (ρ:Nat→Nat) (m0:Nat) (a b:CT):Bool:=
  rROs ρ (m0+a.nb.length) a.out b.out&&(rPCs ρ m0 (m0+a.nb.length) a.pl b.pl&&rNBs ρ (m0+a.nb.length) a.nb b.nb)
def rCTs (ρ:Nat→Nat) (m0:Nat):List CT→List CT→Bool
  | [],[]=>true
  | a::as,b::bs=>rCT ρ m0 a b&&rCTs ρ m0 as bs
  | _,_=>false
theorem altT_eq:∀{a b:List CT},a.map CT.items=b.map CT.items→altT a=altT b:=by
  intro a
  induction a with
  | nil=>intro b h; cases b with | nil=>rfl | cons _ _=>simp at h
  | cons x a ih =>
    intro b h
    cases b with
    | nil=>simp at h
    | cons y b =>
      simp only [List.map_cons,List.cons.injEq] at h
      cases a with
      | nil => cases b with
        | nil=>simp only [altT,h.1]
        | cons _ _=>simp at h
      | cons x2 a => cases b with
        | nil=>simp at h
        | cons y2 b=>simp only [altT,h.1,ih h.2]
def inlS (O:OSs) (cs:List CT) (gi:FuncId) (vs:List TV) (σ:TH):Option (altT cs):=
  match cs with
  | []=>none
  | ct :: cs => match ct.H with
    | [(_, k)] => match O[k]? with
      | some (g, s) => match Nat.beq g gi, absS s.inp σ vs with
        | true, some (ρ, x) => match putI s.inp [] x with
          | some (_, σ0) => match exN σ ρ 0 σ0 && rCTs (rhoA s.inp.nb.length σ.length ρ) s.inp.nb.length s.cts (ct :: cs) with
            | true => match decEq (s.cts.map CT.items) ((ct :: cs).map CT.items) with
              | .isTrue h=>cast (congrArg Option (altT_eq h)) (s.f x)
              | .isFalse _=>none
            | false=>none
          | none=>none
        | _,_=>none
      | none=>none
    | _=>none
abbrev ResF:=List CT→FuncId→List TV→TH→List CT
abbrev InlB:=(cs:List CT)→FuncId→List TV→TH→Option (altT cs)
def renCP (ρ:Nat→Nat):CP→CP
  | .hd b=>.hd (ρ b)
  | .pt b o s=>.pt (ρ b) o s
  | .mr b=>.mr (ρ b)
  | p=>p
def renRO (ρ:Nat→Nat):RO→RO
  | .p p=>.p (renCP ρ p)
  | .ag ps=>.ag (ps.map (renCP ρ))
  | o=>o
def renPC (ρ:Nat→Nat):PC→PC
  | .h b j p=>.h (ρ b) j (renCP ρ p)
  | .w b i=>.w (ρ b) i
  | .m b j st=>.m (ρ b) j st
def renNB (ρ:Nat→Nat):NB→NB
  | .cells ps=>.cells (ps.map (renCP ρ))
  | n=>n
def renCT (ρ:Nat→Nat) (H:List (Nat×Nat)) (c:CT):CT:=.mk (c.out.map (renRO ρ)) (c.pl.map (renPC ρ)) (c.nb.map (renNB ρ)) H [] []
def resK (O:OSs) (gi:FuncId) (vs:List TV) (σ:TH):List (Nat×Nat)→List CT
  | []=>[]
  | (q, k) :: H => match Nat.beq q 1000000, O[k]? with
    | true, some (g, s) => match Nat.beq g gi, absS s.inp σ vs with
      | true,some (ρ,_)=>s.cts.map (renCT (rhoA s.inp.nb.length σ.length ρ) [(1000000,k)])
      | _,_=>resK O gi vs σ H
    | _,_=>resK O gi vs σ H
def resO (O:OSs):ResF:=fun cs gi vs σ=>match cs with
  | [.mk [] [] [] (p :: H) [] []] => match Nat.beq p.1 1000000 with
    | true=>resK O gi vs σ (p::H)
    | false=>cs
  | cs=>cs
def isOS (ct:CT):Bool:=match ct.H with
  | [(k,_)]=>Nat.beq k 1000000
  | _=>false
abbrev ExB:=CT→FuncId→List TV→TH→Option (List TV×TH)
def sTC (n:Nat):TC→Bool
  | .d x=>x.low n
  | .b _=>true
  | .sl _ _=>true
  | .fp _ _ _=>true
  | .fl _=>true
  | .cx _ _=>true
  | _=>false
def exV (n:Nat):TV→Bool
  | .c x=>sTC n x
  | .agg xs=>xs.all (sTC n)
  | .tup _=>false
def sBlk (n:Nat):TB→Bool
  | .cells w cs=>cs.all fun p=>sTC n p.2&&Nat.ble p.1 w
  | _=>false
def inl1 (P:Program) (S:TSs) (N:Nat) (B:InlB) (RS:ResF) (I:InlB) (X:ExB):InlB:=fun cs g vs σ=>
  match cs with
  | []=>none
  | ct :: cs =>
    match isOS ct with
    | true=>B (ct::cs) g vs σ
    | false=>
    match P.funcs[g]? with
    | some f => match compF P f true with
      | some af => match enterable P g && Nat.ble vs.length af.ntmps with
        | true => tC ⟨P, S, ct.H, ct.J, ct.C, af.ntmps, N, I, X, RS⟩ af.body 1 (zipT 0 vs) σ fun x al1 σ1 => match x with
          | .exit _=>none
          | _ => match mapO (resT al1 σ1) af.results with
            | some rs=>absA σ σ1 rs (ct::cs)
            | none=>none
        | false=>none
      | none=>none
    | none=>none
def ex1 (P:Program) (S:TSs) (N:Nat) (RS:ResF) (I:InlB) (X:ExB):ExB:=fun ct g vs σ=>
  match P.funcs[g]? with
  | some f => match compF P f true with
    | some af => match enterable P g && Nat.ble vs.length af.ntmps with
      | true => (tC (R := List TV × TH) ⟨P, S, ct.H, ct.J, ct.C, af.ntmps, N, I, X, RS⟩ af.body 1 (zipT 0 vs) σ fun x al1 σ1 => match x with
        | .exit _=>none
        | _ => match mapO (resT al1 σ1) af.results with
          | some rs=>some (rs,σ1)
          | none => none).bind fun p => match p.1.all (exV p.2.length) && (heapSame [] 0 σ p.2 && (p.2.drop σ.length).all (sBlk p.2.length)) with
            | true=>some (p.1,σ++p.2.drop σ.length)
            | false=>none
      | false=>none
    | none=>none
  | none=>none
def evD (P:Program) (S:TSs) (N:Nat) (B:InlB) (RS:ResF):Nat→InlB×ExB
  | 0=>(fun _ _ _ _=>none,fun _ _ _ _=>none)
  | d+1=>(inl1 P S N B RS (evD P S N B RS d).1 (evD P S N B RS d).2,ex1 P S N RS (evD P S N B RS d).1 (evD P S N B RS d).2)
def tF (P:Program) (S:TSs) (B:InlB) (RS:ResF) (H:List (Nat×Nat)) (J:List (Nat×JH)) (C:List (Nat×List CT)) (dp:Nat) (f:AFunc) (ins out:List VCd) (N:Nat) (a:tupV ins):Option (outV out):=
  tC ⟨P,S,H,J,C,f.ntmps,N,(evD P S N B RS dp).1,(evD P S N B RS dp).2,RS⟩ f.body 1 (zipT 0 (tvV ins a)) [] fun x al σ=>
    match x with
    | .exit _=>none
    | _ => match mapO (resT al σ) f.results with
      | some rs=>rdOut σ out rs
      | none=>none
end
end Go.Abs
end
section
namespace Go.Abs
section
variable [Gl] [Y:Ty]
def GC (σ:TH):TC→Prop
  | .own i c v n=>∃blk,σ[c]? = some blk∧∀j l lv cv,blk=.row j l lv cv→v≤lv∧(v=lv→j=i∧n=l.length)
  | .op i c v n k a _=>∃blk,σ[c]? = some blk∧∀j l lv cv,blk=.row j l lv cv→v≤cv∧(v=cv→∃m:List (TT i),castL l=some m∧n=m.length∧at? m k=some a)
  | .ap c _ _ _ _=>c<σ.length
  | .os i c v n lo len=>∃blk,σ[c]? = some blk∧∀j l lv cv,blk=.row j l lv cv→v≤lv∧(v=lv→j=i∧n=l.length∧lo+len≤n)
  | .d x=>x.low σ.length=true
  | _=>True
def GV (σ:TH):TV→Prop
  | .c x=>GC σ x
  | .agg xs=>∀x∈xs,GC σ x
  | .tup xs=>∀p∈xs,∀x∈p.2,GC σ x
structure RH (σ:TH) (σD:Heap):Prop where
  len:σD.length=σ.length
  hp:∀(b:Nat) blk,σ[b]? = some blk→∃ob,σD[b]? = some ob∧RB blk ob
  hg:∀(b:Nat) w cs,σ[b]? = some (.cells w cs)→∀p∈cs,GC σ p.2∧p.1≤w
def BE:TB→TB→Prop
  | .cells w cs,blk1=>∃w1 cs1,blk1=.cells w1 cs1∧w≤w1∧cs1.length=cs.length∧∀(j:Nat) v x v1 x1,cs[j]? = some (v,x)→cs1[j]? = some (v1,x1)→(v1=v∧x1=x)∨w<v1
  | .row i l lv cv,blk1=>∃l1 lv1 cv1,blk1=.row i l1 lv1 cv1∧lv≤lv1∧cv≤cv1∧(lv=lv1→l1.length=l.length)∧(cv=cv1→l1=l∧lv1=lv)
  | .mp j st l v,blk1=>∃j1 st1 l1 v1,blk1=.mp j1 st1 l1 v1∧v≤v1∧(v=v1→blk1=.mp j st l v)
def Ext (σ σ1:TH):Prop:=∀(b:Nat) blk,σ[b]? = some blk→∃blk1,σ1[b]? = some blk1∧BE blk blk1
theorem BE.refl (blk:TB):BE blk blk:=by
  cases blk with
  | cells w cs=>exact ⟨w,cs,rfl,Nat.le_refl _,rfl,fun j v x v1 x1 h h1=>.inl (by rw [h] at h1; simp only [Option.some.injEq,Prod.mk.injEq] at h1; exact ⟨h1.1.symm,h1.2.symm⟩)⟩
  | row i l lv cv=>exact ⟨l,lv,cv,rfl,Nat.le_refl _,Nat.le_refl _,fun _=>rfl,fun _=>⟨rfl,rfl⟩⟩
  | mp j st l v=>exact ⟨j,st,l,v,rfl,Nat.le_refl _,fun _=>rfl⟩
theorem Ext.refl (σ:TH):Ext σ σ:=fun _ blk h=>⟨blk,h,BE.refl blk⟩
theorem BE.trans {a b c:TB} (h1:BE a b) (h2:BE b c) (ha:∀w cs,a=.cells w cs→∀p∈cs,p.1≤w):BE a c:=by
  cases a with
  | cells w cs =>
    obtain ⟨w1,cs1,rfl,hw,hl,hc⟩:=h1
    obtain ⟨w2,cs2,rfl,hw2,hl2,hc2⟩:=h2
    refine ⟨w2,cs2,rfl,by omega,by rw [hl2,hl],fun j v x v2 x2 h h2=>?_⟩
    have hj:j<cs1.length:=by rw [hl]; exact (List.getElem?_eq_some_iff.1 h).1
    obtain ⟨⟨v1,x1⟩,hq'⟩:∃p,cs1[j]? = some p:=⟨cs1[j],List.getElem?_eq_getElem hj⟩
    rcases hc j v x v1 x1 h hq' with ⟨rfl,rfl⟩ | hlt
    · rcases hc2 j _ _ v2 x2 hq' h2 with h | h
      · exact .inl h
      · exact .inr (by omega)
    · rcases hc2 j _ _ v2 x2 hq' h2 with ⟨rfl,rfl⟩ | h
      · exact .inr hlt
      · exact .inr (by omega)
  | row i l lv cv =>
    obtain ⟨l1,lv1,cv1,rfl,h3,h4,h5,h6⟩:=h1
    obtain ⟨l2,lv2,cv2,rfl,h7,h8,h9,h10⟩:=h2
    refine ⟨l2,lv2,cv2,rfl,by omega,by omega,fun e=>?_,fun e=>?_⟩
    · rw [h9 (by omega),h5 (by omega)]
    · obtain ⟨rfl,rfl⟩:=h10 (by omega)
      exact h6 (by omega)
  | mp j st l v =>
    obtain ⟨j1,st1,l1,v1,rfl,h3,h4⟩:=h1
    obtain ⟨j2,st2,l2,v2,rfl,h5,h6⟩:=h2
    refine ⟨j2,st2,l2,v2,rfl,by omega,fun e=>?_⟩
    have e1:=h4 (by omega)
    have e2:=h6 (by omega)
    rw [e2,e1]
theorem RH.ver {σ:TH} {σD:Heap} (H:RH σ σD) {b:Nat} {blk:TB} (h:σ[b]? = some blk):∀w cs,blk=.cells w cs→∀p∈cs,p.1≤w:=fun w cs e p hp=>by
  subst e; exact (H.hg b w cs h p hp).2
theorem Ext.trans {σ σ1 σ2:TH} {σD:Heap} (H:RH σ σD) (h1:Ext σ σ1) (h2:Ext σ1 σ2):Ext σ σ2:=fun b blk h=>by
  obtain ⟨blk1,h3,h4⟩:=h1 b blk h
  obtain ⟨blk2,h5,h6⟩:=h2 b blk1 h3
  exact ⟨blk2,h5,h4.trans h6 (H.ver h)⟩
theorem Ext.len {σ σ1:TH} (h:Ext σ σ1):σ.length≤σ1.length:=by
  rcases Nat.lt_or_ge σ1.length σ.length with hlt | hge
  · obtain ⟨blk,h1,_⟩:=h σ1.length _ (List.getElem?_eq_getElem hlt)
    rw [List.getElem?_eq_none (Nat.le_refl _)] at h1
    simp at h1
  · exact hge
theorem D.low_mono {m m':Nat} (hm:m≤m') {d:D} (h:d.low m=true):d.low m'=true:=by
  have key:∀(k:Nat) (d:D),SizeOf.sizeOf d<k→d.low m=true→d.low m'=true:=by
    intro k
    induction k with
    | zero=>intro d h; omega
    | succ k ih =>
      have lows:∀(ds:List D),SizeOf.sizeOf ds<k+1→D.low.lows m ds=true→D.low.lows m' ds=true:=by
        intro ds
        induction ds with
        | nil=>intro _ _; rfl
        | cons x ds ih2 =>
          intro hs h
          simp only [D.low.lows,Bool.and_eq_true,List.cons.sizeOf_spec] at h hs ⊢
          exact ⟨ih x (by omega) h.1,ih2 (by omega) h.2⟩
      intro d hs h
      cases d with
      | c x=>rfl
      | any=>rfl
      | ptr b o s=>simp only [D.low,decide_eq_true_eq] at h ⊢; omega
      | sl b o l e s=>simp only [D.low,decide_eq_true_eq] at h ⊢; omega
      | mp b=>simp only [D.low,decide_eq_true_eq] at h ⊢; omega
      | fn f a b =>
        simp only [D.low,Bool.and_eq_true,D.fn.sizeOf_spec] at h hs ⊢
        exact ⟨lows a (by omega) h.1,lows b (by omega) h.2⟩
      | agg ds=>simp only [D.low,D.agg.sizeOf_spec] at h hs ⊢; exact lows ds (by omega) h
      | tup ds=>simp only [D.low,D.tup.sizeOf_spec] at h hs ⊢; exact lows ds (by omega) h
  exact key (SizeOf.sizeOf d+1) d (Nat.lt_succ_self _) h
theorem GC.mono {σ σ1:TH} (h:Ext σ σ1) {x:TC} (hx:GC σ x):GC σ1 x:=by
  cases x with
  | own i c v n =>
    obtain ⟨blk,h1,h2⟩:=hx
    obtain ⟨blk1,h3,h4⟩:=h c blk h1
    refine ⟨blk1,h3,fun j l lv cv e=>?_⟩
    subst e
    cases blk with
    | cells w cs=>obtain ⟨w1,cs1,e,_⟩:=h4; simp at e
    | mp j st l v=>obtain ⟨j1,st1,l1,v1,e,_⟩:=h4; simp at e
    | row j0 l0 lv0 cv0 =>
      obtain ⟨l1,lv1,cv1,e,h5,h6,h7,h8⟩:=h4
      simp only [TB.row.injEq] at e
      obtain ⟨rfl,hl,rfl,rfl⟩:=e
      cases hl
      obtain ⟨h9,h10⟩:=h2 _ _ _ _ rfl
      refine ⟨by omega,fun e=>?_⟩
      obtain ⟨h11,h12⟩:=h10 (by omega)
      exact ⟨h11,by rw [h12,h7 (by omega)]⟩
  | os i c v n lo len =>
    obtain ⟨blk,h1,h2⟩:=hx
    obtain ⟨blk1,h3,h4⟩:=h c blk h1
    refine ⟨blk1,h3,fun j l lv cv e=>?_⟩
    subst e
    cases blk with
    | cells w cs=>obtain ⟨w1,cs1,e,_⟩:=h4; simp at e
    | mp j st l v=>obtain ⟨j1,st1,l1,v1,e,_⟩:=h4; simp at e
    | row j0 l0 lv0 cv0 =>
      obtain ⟨l1,lv1,cv1,e,h5,h6,h7,h8⟩:=h4
      simp only [TB.row.injEq] at e
      obtain ⟨rfl,hl,rfl,rfl⟩:=e
      cases hl
      obtain ⟨h9,h10⟩:=h2 _ _ _ _ rfl
      refine ⟨by omega,fun e=>?_⟩
      obtain ⟨h11,h12,h13⟩:=h10 (by omega)
      exact ⟨h11,by rw [h12,h7 (by omega)],h13⟩
  | op i c v n k a off =>
    obtain ⟨blk,h1,h2⟩:=hx
    obtain ⟨blk1,h3,h4⟩:=h c blk h1
    refine ⟨blk1,h3,fun j l lv cv e=>?_⟩
    subst e
    cases blk with
    | cells w cs=>obtain ⟨w1,cs1,e,_⟩:=h4; simp at e
    | mp j st l v=>obtain ⟨j1,st1,l1,v1,e,_⟩:=h4; simp at e
    | row j0 l0 lv0 cv0 =>
      obtain ⟨l1,lv1,cv1,e,h5,h6,h7,h8⟩:=h4
      simp only [TB.row.injEq] at e
      obtain ⟨rfl,hl,rfl,rfl⟩:=e
      cases hl
      obtain ⟨h9,h10⟩:=h2 _ _ _ _ rfl
      refine ⟨by omega,fun e=>?_⟩
      obtain ⟨rfl,_⟩:=h8 (by omega)
      exact h10 (by omega)
  | ap c off len sz k=>exact Nat.lt_of_lt_of_le hx h.len
  | d x=>exact D.low_mono h.len hx
  | _=>trivial
theorem GV.mono {σ σ1:TH} (h:Ext σ σ1) {x:TV} (hx:GV σ x):GV σ1 x:=by
  cases x with
  | c x=>exact GC.mono h hx
  | agg xs=>exact fun x hm=>GC.mono h (hx x hm)
  | tup xs=>exact fun p hp x hm=>GC.mono h (hx p hp x hm)
theorem Ext.push (σ:TH) (blk:TB):Ext σ (σ++[blk]):=fun b blk' h=>⟨blk',by rw [List.getElem?_append_left (List.getElem?_eq_some_iff.1 h).1]; exact h,BE.refl _⟩
theorem RH.push {σ:TH} {σD:Heap} (H:RH σ σD) {blk:TB} {ob:Ob} (h:RB blk ob) (hg:∀w cs,blk=.cells w cs→∀p∈cs,GC σ p.2∧p.1≤w):RH (σ++[blk]) (σD++[ob]):={
  len:=by simp [H.len]
  hp:=fun b blk' hb=>by
    rcases Nat.lt_or_ge b σ.length with hlt | hge
    · rw [List.getElem?_append_left hlt] at hb
      rw [List.getElem?_append_left (by rw [H.len]; exact hlt)]
      exact H.hp b blk' hb
    · rw [List.getElem?_append_right hge] at hb
      rw [List.getElem?_append_right (by rw [H.len]; exact hge),H.len]
      have:b-σ.length=0:=by have:=(List.getElem?_eq_some_iff.1 hb).1; simp at this; omega
      rw [this] at hb ⊢
      simp only [List.getElem?_cons_zero,Option.some.injEq] at hb
      subst hb
      exact ⟨ob,rfl,h⟩
  hg:=fun b w cs hb p hp=>by
    rcases Nat.lt_or_ge b σ.length with hlt | hge
    · rw [List.getElem?_append_left hlt] at hb
      obtain ⟨h1,h2⟩:=H.hg b w cs hb p hp
      exact ⟨h1.mono (Ext.push σ blk),h2⟩
    · rw [List.getElem?_append_right hge] at hb
      have:b-σ.length=0:=by have:=(List.getElem?_eq_some_iff.1 hb).1; simp at this; omega
      rw [this] at hb
      simp only [List.getElem?_cons_zero,Option.some.injEq] at hb
      obtain ⟨h1,h2⟩:=hg w cs hb p hp
      exact ⟨h1.mono (Ext.push σ blk),h2⟩ }
theorem set_at {α:Type} {l:List α} {b b':Nat} {x y z:α} (h:l[b]? = some x) (h':(l.set b y)[b']? = some z):(b'=b∧z=y)∨(b'≠b∧l[b']? = some z):=by
  rw [List.getElem?_set] at h'
  by_cases e:b=b'
  · subst e
    rw [if_pos rfl,if_pos (List.getElem?_eq_some_iff.1 h).1] at h'
    simp only [Option.some.injEq] at h'
    exact .inl ⟨rfl,h'.symm⟩
  · rw [if_neg e] at h'
    exact .inr ⟨fun e'=>e e'.symm,h'⟩
theorem zaT {α:Type} {l:List α} {b:Nat} {x y:α} (h:l[b]? = some x):(l.set b y)[b]? = some y:=by
  rw [List.getElem?_set_self (List.getElem?_eq_some_iff.1 h).1]
theorem zaN {α:Type} {l:List α} {b b':Nat} {y:α} (h:b'≠b):(l.set b y)[b']? = l[b']?:=by
  rw [List.getElem?_set_ne (fun e=>h e.symm)]
theorem Ext.set {σ:TH} {b:Nat} {blk blk1:TB} (h:σ[b]? = some blk) (he:BE blk blk1):Ext σ (σ.set b blk1):=fun b' blk' h'=>by
  by_cases e:b'=b
  · subst e
    rw [h] at h'
    simp only [Option.some.injEq] at h'
    subst h'
    exact ⟨blk1,zaT h,he⟩
  · exact ⟨blk',by rw [zaN e]; exact h',BE.refl _⟩
theorem RH.set {σ:TH} {σD:Heap} (H:RH σ σD) {b:Nat} {blk blk1:TB} {ob:Ob} (hb:σ[b]? = some blk) (he:BE blk blk1) (h:RB blk1 ob) (hg:∀w cs,blk1=.cells w cs→∀p∈cs,GC σ p.2∧p.1≤w):RH (σ.set b blk1) (σD.set b ob):={
  len:=by simp [H.len]
  hp:=fun b' blk' hb'=>by
    obtain ⟨ob0,h0,_⟩:=H.hp b blk hb
    rcases set_at hb hb' with ⟨rfl,rfl⟩ | ⟨hne,h'⟩
    · exact ⟨ob,zaT h0,h⟩
    · rw [zaN hne]; exact H.hp b' blk' h'
  hg:=fun b' w cs hb' p hp=>by
    rcases set_at hb hb' with ⟨rfl,e⟩ | ⟨hne,h'⟩
    · obtain ⟨h1,h2⟩:=hg w cs e.symm p hp
      exact ⟨h1.mono (Ext.set hb he),h2⟩
    · obtain ⟨h1,h2⟩:=H.hg b' w cs h' p hp
      exact ⟨h1.mono (Ext.set hb he),h2⟩ }
def RdOk (σ:TH) (alD:AL) (rd:Opd→Option TV):Prop:=∀x v,rd x=some v→∃d,lx alD x=some d∧RT v d∧GV σ v
def OpK (P:Program) (orc:Orc) (n:Nat) (alD:AL) (σ:TH) (σD:Heap) (o:AOp) (Q:TV→TH→Bool→List Nat→Prop):Prop:=
  ∃v σ1 rs wr d σD1,OpR P orc n alD σD o d σD1 wr∧RT v d∧GV σ1 v∧RH σ1 σD1∧Ext σ σ1∧(rs=false→wrOk σD σD1 wr=true)∧(totOp o=true→σ1=σ∧σD1=σD∧wr=[])∧Q v σ1 rs wr
variable {P:Program} {orc:Orc} {n:Nat} {alD:AL} {σ σ1:TH} {σD σD1:Heap} {o:AOp} {Q:TV→TH→Bool→List Nat→Prop}
theorem OpK.pure {v:TV} {d:D} (h:OpR P orc n alD σD o d σD []) (hv:RT v d) (hg:GV σ v) (H:RH σ σD) (q:Q v σ false []):OpK P orc n alD σ σD o Q:=
  ⟨v,σ,false,[],d,σD,h,hv,hg,H,Ext.refl σ,fun _=>rfl,fun _=>⟨rfl,rfl,rfl⟩,q⟩
theorem OpK.new {v:TV} {d:D} {blk:TB} {ob:Ob} (h:OpR P orc n alD σD o d (σD++[ob]) []) (hv:RT v d) (hg:GV (σ++[blk]) v) (H:RH σ σD) (hb:RB blk ob) (hc:∀w cs,blk=.cells w cs→∀p∈cs,GC σ p.2∧p.1≤w)
    (q:Q v (σ++[blk]) false []) (ht:totOp o=false:=by rfl):OpK P orc n alD σ σD o Q:=
  ⟨v,σ++[blk],false,[],d,σD++[ob],h,hv,hg,H.push hb hc,Ext.push σ blk,fun _=>rfl,fun h=>by rw [ht] at h; simp at h,q⟩
theorem RH.cells (H:RH σ σD) {b w:Nat} {cs:List (Nat×TC)} (h:σ[b]? = some (.cells w cs)):∃ds,σD[b]? = some (.cells ds)∧All2 RC (cs.map Prod.snd) ds∧ds.length=cs.length∧ds=cs.map fun p=>p.2.er:=by
  obtain ⟨ob,h1,rfl⟩:=H.hp b _ h
  refine ⟨_,h1,?_,by simp,rfl⟩
  have:=All2.er (cs.map Prod.snd)
  rw [List.map_map] at this
  exact this
theorem RH.row (H:RH σ σD) {b i lv cv:Nat} {l:List (TT i)} (h:σ[b]? = some (.row i l lv cv)):σD[b]? = some (OB (enc i) l):=by
  obtain ⟨ob,h1,h2⟩:=H.hp b _ h
  rw [h1]; exact congrArg some h2
theorem zc8 {b sz:Nat} {ds:List D} (h:σD[b]? = some (.cells ds)) (hs:ds.length=sz):zcB σD b sz=some ds:=by simp [zcB,h,hs]
theorem getT_ok {m:Option Nat} {cs:List TC} {ds:List D} {off:Nat} {v:TV} (h:getT m cs off=some v) (hc:All2 RC cs ds):∃d,zaO m ds off=some d∧RT v d:=by
  cases m with
  | none =>
    simp only [getT] at h
    split at h
    · rename_i x hx
      simp only [Option.some.injEq] at h
      subst h
      obtain ⟨d,h1,h2⟩:=hc.get _ _ hx
      exact ⟨d,h1,h2⟩
    · simp at h
  | some m =>
    simp only [getT] at h
    split at h
    · rename_i hb
      simp only [Option.some.injEq] at h
      subst h
      have hb':=Nat.le_of_ble_eq_true hb
      refine ⟨.agg ((ds.drop off).take m),?_,_,rfl,(hc.drop off).take m⟩
      simp only [zaO]
      rw [if_pos (by rw [←hc.len]; exact hb')]
    · simp at h
theorem getT_good {m:Option Nat} {cs:List TC} {off:Nat} {v:TV} (h:getT m cs off=some v) (hc:∀x∈cs,GC σ x):GV σ v:=by
  cases m with
  | none =>
    simp only [getT] at h
    split at h
    · rename_i x hx
      simp only [Option.some.injEq] at h
      subst h
      exact hc x (List.mem_of_getElem? hx)
    · simp at h
  | some m =>
    simp only [getT] at h
    split at h
    · simp only [Option.some.injEq] at h
      subst h
      exact fun x hx=>hc x (List.mem_of_mem_drop (List.mem_of_mem_take hx))
    · simp at h
theorem expC_good (c:CC) (a:c.dn):GC σ (expC c a):=by cases c <;> first | exact True.intro | rfl
theorem expT_good:∀(cs:List CC) (x:tup cs),∀y∈expT cs x,GC σ y:=by
  intro cs
  induction cs with
  | nil=>intro x y h; simp [expT] at h
  | cons c cs ih =>
    intro x y h
    simp only [expT,List.mem_cons] at h
    rcases h with rfl | h
    · exact expC_good c x.1
    · exact ih x.2 y h
theorem exp_good (i:Nat) (a:TT i):∀y∈exp i a,GC σ y:=expT_good _ _
theorem exp_all (i:Nat) (a:TT i):All2 RC (exp i a) ((enc i a).map .c):=by rw [←exp_er]; exact All2.er _
theorem scalar_ok {x:TC} {d:D} (h:x.scalar=true) (r:RC x d):d.scalar=true∧d=x.er:=by
  rcases r with rfl | rfl
  · simp [TC.scalar] at h
  · refine ⟨?_,rfl⟩
    cases x with
    | any=>simp [TC.scalar] at h
    | d x=>exact h
    | _=>rfl
theorem cellsT_ok {v:TV} {d:D} {xs:List TC} (h:cellsT v=some xs) (r:RT v d):d.cells? = some (xs.map TC.er)∧All2 RC xs (xs.map TC.er)∧∀x∈xs,x≠.any:=by
  refine ⟨?_,All2.er _,?_⟩
  · cases v with
    | c x =>
      simp only [cellsT] at h
      split at h
      · rename_i hs
        simp only [Option.some.injEq] at h
        subst h
        obtain ⟨h1,rfl⟩:=scalar_ok hs r
        cases hx:x.er with
        | agg cs=>rw [hx] at h1; simp [D.scalar] at h1
        | _=>rw [hx] at h1; simp [D.cells?,h1,hx]
      · simp at h
    | agg ys =>
      simp only [cellsT] at h
      split at h
      · rename_i hs
        simp only [Option.some.injEq] at h
        subst h
        obtain ⟨ds,rfl,ha⟩:=r
        rw [List.all_eq_true] at hs
        have hne:∀y∈ys,y≠.any:=fun y hy e=>by have:=hs y hy; subst e; simp [TC.scalar] at this
        rw [ha.eq hne]
        simp only [D.cells?]
        rw [if_pos]
        rw [List.all_eq_true]
        intro d hd
        rw [List.mem_map] at hd
        obtain ⟨y,hy,rfl⟩:=hd
        exact (scalar_ok (hs y hy) (.inr rfl)).1
      · simp at h
    | tup ys=>simp [cellsT] at h
  · intro x hx e
    subst e
    cases v with
    | c y =>
      simp only [cellsT] at h
      split at h
      · simp only [Option.some.injEq] at h; subst h; simp only [List.mem_singleton] at hx; subst hx; rename_i hs; simp [TC.scalar] at hs
      · simp at h
    | agg ys =>
      simp only [cellsT] at h
      split at h
      · rename_i hs
        simp only [Option.some.injEq] at h; subst h
        rw [List.all_eq_true] at hs
        have:=hs _ hx; simp [TC.scalar] at this
      · simp at h
    | tup ys=>simp [cellsT] at h
theorem cellsT_good {v:TV} {xs:List TC} (h:cellsT v=some xs) (g:GV σ v):∀x∈xs,GC σ x:=by
  cases v with
  | c x =>
    simp only [cellsT] at h
    split at h
    · simp only [Option.some.injEq] at h; subst h; intro y hy; simp only [List.mem_singleton] at hy; subst hy; exact g
    · simp at h
  | agg ys =>
    simp only [cellsT] at h
    split at h
    · simp only [Option.some.injEq] at h; subst h; exact g
    · simp at h
  | tup ys=>simp [cellsT] at h
theorem All2.put {α β:Type} {R:α→β→Prop} {cs xs:List α} {ds ys:List β} (h:All2 R cs ds) (h':All2 R xs ys) (off:Nat):All2 R (putT cs off xs) (ds.take off++ys++ds.drop (off+ys.length)):=by
  unfold putT
  rw [h'.len]
  exact ((h.take off).app h').app (h.drop _)
theorem putT_mem {α:Type} {cs xs:List α} {off:Nat} {x:α} (h:x∈putT cs off xs):x∈cs∨x∈xs:=by
  unfold putT at h
  simp only [List.mem_append] at h
  rcases h with (h | h) | h
  · exact .inl (List.mem_of_mem_take h)
  · exact .inr h
  · exact .inl (List.mem_of_mem_drop h)
theorem fillT_ok {rd:Opd→Option TV} (hr:RdOk σ alD rd):∀{ps:List (Nat×Nat×Opd)} {cs cs':List TC} {ds:List D},fillT rd cs ps=some cs'→All2 RC cs ds→(∀x∈cs,GC σ x)→∃ds',fillA alD ds ps=some ds'∧All2 RC cs' ds'∧∀x∈cs',GC σ x:=by
  intro ps
  induction ps with
  | nil=>intro cs cs' ds h hc hg; simp only [fillT,Option.some.injEq] at h; subst h; exact ⟨ds,rfl,hc,hg⟩
  | cons p ps ih =>
    intro cs cs' ds h hc hg
    obtain ⟨o,m,x⟩:=p
    simp only [fillT] at h
    split at h
    · rename_i v hv
      split at h
      · rename_i xs hxs
        split at h
        · rename_i hb
          obtain ⟨d,h1,h2,h3⟩:=hr x v hv
          obtain ⟨h4,h5,h6⟩:=cellsT_ok hxs h2
          simp only [Bool.and_eq_true] at hb
          have e1:=Nat.eq_of_beq_eq_true hb.1
          have e2:=Nat.le_of_ble_eq_true hb.2
          obtain ⟨ds',h7,h8⟩:=ih h (hc.put h5 o) fun y hy=>by
            rcases putT_mem hy with hy | hy
            · exact hg y hy
            · exact cellsT_good hxs h3 y hy
          refine ⟨ds',?_,h8⟩
          simp only [fillA,h1,Option.bind_some,h4]
          rw [if_neg (by rw [List.length_map,e1,←hc.len]; omega)]
          exact h7
        · simp at h
      · simp at h
    · simp at h
end
end Go.Abs
end
section
namespace Go.Abs
open Go.Fl
theorem arith_add {a b:Int} (ha:a.natAbs<2 ^ 52) (hb:b.natAbs<2 ^ 52):Op.Complex.arith .add .f64 (fl a) (fl b)=pure (fl (a+b)):=by
  have h:FloatKind.f64.format.add (fl a) (fl b)=some (fl (a+b)):=fl_add ha hb
  have e:Op.floatArith .add .f64 (fl a) (fl b)=pure (.float .f64 (fl (a+b))):=by
    show (match FloatKind.f64.format.add (fl a) (fl b) with | some r=>(pure (.float .f64 r):Go.Sem Value) | none=>_)=_
    rw [h]
  unfold Op.Complex.arith
  rw [e]
  rfl
theorem arith_sub {a b:Int} (ha:a.natAbs<2 ^ 52) (hb:b.natAbs<2 ^ 52):Op.Complex.arith .sub .f64 (fl a) (fl b)=pure (fl (a-b)):=by
  have h:FloatKind.f64.format.sub (fl a) (fl b)=some (fl (a-b)):=fl_sub ha hb
  have e:Op.floatArith .sub .f64 (fl a) (fl b)=pure (.float .f64 (fl (a-b))):=by
    show (match FloatKind.f64.format.sub (fl a) (fl b) with | some r=>(pure (.float .f64 r):Go.Sem Value) | none=>_)=_
    rw [h]
  unfold Op.Complex.arith
  rw [e]
  rfl
theorem arith_mul {a b:Int} (h0:0≤a) (h1:0≤b) (ha:a.natAbs<2 ^ 53) (hb:b.natAbs<2 ^ 53) (hm:(a * b).natAbs<2 ^ 53):Op.Complex.arith .mul .f64 (fl a) (fl b)=pure (fl (a * b)):=by
  have h:FloatKind.f64.format.mul (fl a) (fl b)=some (fl (a * b)):=fl_mul h0 h1 ha hb hm
  have e:Op.floatArith .mul .f64 (fl a) (fl b)=pure (.float .f64 (fl (a * b))):=by
    show (match FloatKind.f64.format.mul (fl a) (fl b) with | some r=>(pure (.float .f64 r):Go.Sem Value) | none=>_)=_
    rw [h]
  unfold Op.Complex.arith
  rw [e]
  rfl
theorem complex_add {a b c d:Int} (ha:a.natAbs<2 ^ 52) (hb:b.natAbs<2 ^ 52) (hc:c.natAbs<2 ^ 52) (hd:d.natAbs<2 ^ 52) :
    Op.complexOp .add .f64 (fl a) (fl b) (fl c) (fl d)=pure (.complex .f64 (fl (a+c)) (fl (b+d))):=by
  unfold Op.complexOp
  simp only [arith_add ha hc,arith_add hb hd]
  rfl
theorem complex_sub {a b c d:Int} (ha:a.natAbs<2 ^ 52) (hb:b.natAbs<2 ^ 52) (hc:c.natAbs<2 ^ 52) (hd:d.natAbs<2 ^ 52) :
    Op.complexOp .sub .f64 (fl a) (fl b) (fl c) (fl d)=pure (.complex .f64 (fl (a-c)) (fl (b-d))):=by
  unfold Op.complexOp
  simp only [arith_sub ha hc,arith_sub hb hd]
  rfl
theorem prod_of {x1 x2 x3 x4 A B z:Nat} (p1:Op.Complex.arith .mul .f64 x1 x3=pure A) (p2:Op.Complex.arith .mul .f64 x2 x4=pure z) (p3:Op.Complex.arith .mul .f64 x1 x4=pure z) (p4:Op.Complex.arith .mul .f64 x2 x3=pure B)
    (p5:Op.Complex.arith .sub .f64 A z=pure A) (p6:Op.Complex.arith .add .f64 z B=pure B):Op.Complex.product x1 x2 x3 x4=pure (A,B):=by
  unfold Op.Complex.product Op.Complex.mul Op.Complex.sub Op.Complex.add
  rw [p1,p2,p3,p4]
  show (do pure (←Op.Complex.arith .sub .f64 A z,←Op.Complex.arith .add .f64 z B):Go.Sem (Nat×Nat))=_
  rw [p5,p6]
  rfl
theorem cop_of {x1 x2 x3 x4 A B:Nat} (h:Op.Complex.product x1 x2 x3 x4=pure (A,B)):Op.complexOp .mul .f64 x1 x2 x3 x4=pure (.complex .f64 A B):=by
  unfold Op.complexOp
  show (do let (e,f) ←Op.Complex.product x1 x2 x3 x4; pure (.complex .f64 (←Op.Complex.conv .f64 e .f64) (←Op.Complex.conv .f64 f .f64)):Go.Sem Value)=_
  rw [h]
  rfl
theorem complex_mul {a b n:Int} (h0:0≤a) (h1:0≤b) (h2:0≤n) (ha:a≤1048576) (hb:b≤1048576) (hn:n≤1048576) :
    Op.complexOp .mul .f64 (fl a) (fl b) (fl n) (fl 0)=pure (.complex .f64 (fl (a * n)) (fl (b * n))):=by
  have m1:0≤a * n∧a * n≤1048576 * 1048576:=⟨Int.mul_nonneg h0 h2,Int.mul_le_mul ha hn h2 (by omega)⟩
  have m2:0≤b * n∧b * n≤1048576 * 1048576:=⟨Int.mul_nonneg h1 h2,Int.mul_le_mul hb hn h2 (by omega)⟩
  have z:(0:Int).natAbs<2 ^ 53:=by omega
  have z2:(0:Int).natAbs<2 ^ 52:=by omega
  refine cop_of (prod_of (z:=fl 0) ?_ ?_ ?_ ?_ ?_ ?_)
  · exact arith_mul h0 h2 (by omega) (by omega) (by omega)
  · have h:=arith_mul (a:=b) (b:=0) h1 (Int.le_refl _) (by omega) z (by rw [Int.mul_zero]; exact z)
    rw [Int.mul_zero] at h; exact h
  · have h:=arith_mul (a:=a) (b:=0) h0 (Int.le_refl _) (by omega) z (by rw [Int.mul_zero]; exact z)
    rw [Int.mul_zero] at h; exact h
  · exact arith_mul h1 h2 (by omega) (by omega) (by omega)
  · have h:=arith_sub (a:=a * n) (b:=0) (by omega) z2
    rw [Int.sub_zero] at h; exact h
  · have h:=arith_add (a:=0) (b:=b * n) z2 (by omega)
    rw [Int.zero_add] at h; exact h
theorem float_int {n:Int} (h:n.natAbs<2 ^ 53):Conv.floatToInt .f64 (fl n) .i64=pure (.int .i64 n):=by
  unfold Conv.floatToInt
  have e:(FloatKind.f64.decode (fl n)).toInt .zero=some n:=fl_int h
  simp only [e]
  have h1:IntKind.i64.min=-9223372036854775808:=rfl
  have h2:IntKind.i64.max=9223372036854775807:=rfl
  rw [if_pos (by rw [h1,h2]; omega)]
end Go.Abs
end
section
namespace Go.Abs
section
variable [Gl] [Y:Ty]
variable {P:Program} {orc:Orc} {n:Nat} {alD:AL} {σ σ1:TH} {σD σD1:Heap} {o:AOp} {Q:TV→TH→Bool→List Nat→Prop} {rd:Opd→Option TV}
theorem zcx (hr:RdOk σ alD rd) {x:Operand} {v:TV} (h:valR rd x=some v):∃d,oev alD x=some d∧RT v d∧GV σ v:=by
  unfold valR at h
  split at h
  · rename_i o ho
    obtain ⟨d,h1,h2⟩:=hr o v h
    exact ⟨d,by simp only [oev,ho]; exact h1,h2⟩
  · simp at h
theorem valT_ok {v:TV} {d:D} {a:Value} (h:valT v=some a) (r:RT v d):d.val? = some a∧d=.c (.lit a):=by
  unfold valT at h
  split at h
  · simp only [Option.some.injEq] at h; subst h
    rcases r with r | rfl
    · simp at r
    · exact ⟨rfl,rfl⟩
  · simp only [Option.some.injEq] at h; subst h
    rcases r with r | rfl
    · simp at r
    · exact ⟨rfl,rfl⟩
  · simp at h
def flat:Value→Bool
  | .agg _ | .tuple _=>false
  | _=>true
theorem ofVT_ok {v:Value} (h:flat v=true):RT (ofVT v) (ofVal v)∧GV σ (ofVT v):=by
  unfold ofVT
  split
  · exact ⟨.inr rfl,True.intro⟩
  · refine ⟨.inr ?_,rfl⟩
    cases v <;> first | rfl | simp [flat] at h
theorem valC_ok {x:TC} {d:D} {a:Value} (h:valC x=some a) (r:RC x d):litOf d=some a:=by
  unfold valC at h
  split at h
  · simp only [Option.some.injEq] at h; subst h
    rcases r with r | rfl
    · simp at r
    · rfl
  · simp only [Option.some.injEq] at h; subst h
    rcases r with r | rfl
    · simp at r
    · rfl
  · simp at h
theorem valCs_ok:∀{xs:List TC} {ds:List D} {vs:List Value},valCs xs=some vs→All2 RC xs ds→ds.mapM litOf=some vs:=by
  intro xs ds vs h r
  induction r generalizing vs with
  | nil=>simp only [valCs,Option.some.injEq] at h; subst h; rfl
  | cons h1 _ ih =>
    simp only [valCs] at h
    split at h
    · rename_i a b h2 h3
      simp only [Option.some.injEq] at h
      subst h
      rw [List.mapM_cons,valC_ok h2 h1,ih h3]
      rfl
    · simp at h
theorem eqFs_ok {xs ys:Array Value} {d:Nat}:∀{fs:List Field} {r:Bool},eqFs P xs ys fs=some r→zax P (Op.eqFields (d+1) xs ys fs)=some r:=by
  intro fs
  induction fs with
  | nil=>intro r h; simp only [eqFs,Option.some.injEq] at h; subst h; rfl
  | cons f fs ih =>
    intro r h
    simp only [eqFs] at h
    split at h
    · rename_i k a k' b k2 q h1 h2 h3 h4 h5
      split at h
      · rename_i e _
        subst e
        simp only [Option.some.injEq] at h
        subst h
        exact eqF_cons h1 h2 h3 (eq_int h4) (ih h5)
      · simp at h
    · rename_i a b q h1 h2 h3 h4 h5
      simp only [Option.some.injEq] at h
      subst h
      exact eqF_cons h1 h2 h3 (eq_bool h4) (ih h5)
    · simp at h
theorem eqT_ok {t:TypeId} {xs ys:List TC} {ds es:List D} {r:Bool} (h:eqT P t xs ys=some r) (h1:All2 RC xs ds) (h2:All2 RC ys es) :
    ∃vs ws,(D.agg ds).val? = some (.agg vs)∧(D.agg es).val? = some (.agg ws)∧P.eqGuardType P.depth t=false∧zax P (Op.equalIn 10000 t (.agg vs) (.agg ws))=some r:=by
  unfold eqT at h
  split at h
  · rename_i vs ws fs h3 h4 h5 h6 h7
    refine ⟨vs.toArray,ws.toArray,?_,?_,h6,?_⟩
    · simp only [D.val?,valCs_ok h3 h1,Option.map_some]
    · simp only [D.val?,valCs_ok h4 h2,Option.map_some]
    · have hf:P.fieldsOf t=fs:=by simp only [Program.fieldsOf,h5]
      refine eq_agg (d:=9999) (by rw [hf]; exact h5) h7 ?_
      rw [hf]
      exact eqFs_ok (d:=9998) h
  · simp at h
theorem zbE {α β:Type} {o:Option α} {f:α→Option β} {b:β} (h:o.bind f=some b):∃a,o=some a∧f a=some b:=Option.bind_eq_some_iff.1 h
theorem binV_cx {o:BinOp} {t:TypeId} {x y:Operand} {a b c d:Nat} {v:Value} (ho:o≠.eql) (ho2:o≠.neq) (ho3:o≠.shl) (ho4:o≠.shr) (h:Op.complexOp o .f64 a b c d=pure v):binV P o t x y (.complex .f64 a b) (.complex .f64 c d)=some v:=by
  unfold binV
  rw [zal]
  have hg:zax P (eqGuard o t x y (.complex .f64 a b) (.complex .f64 c d))=some ():=by
    cases o <;> first | rfl | exact absurd rfl ho | exact absurd rfl ho2
  rw [hg,Option.bind_some]
  have:binOp o t (.complex .f64 a b) (.complex .f64 c d)=Op.complexOp o .f64 a b c d:=by
    cases o <;> first | rfl | exact absurd rfl ho | exact absurd rfl ho2 | exact absurd rfl ho3 | exact absurd rfl ho4
  rw [this,h]
  rfl
theorem fsum_ok {a b c:Int} (h:fsum? a b=some c):a.natAbs<2 ^ 52∧b.natAbs<2 ^ 52∧c=a+b:=by
  unfold fsum? at h
  split at h
  · rename_i hh; simp only [Option.some.injEq] at h; exact ⟨hh.1,hh.2,h.symm⟩
  · simp at h
theorem fdif_ok {a b c:Int} (h:fdif? a b=some c):a.natAbs<2 ^ 52∧b.natAbs<2 ^ 52∧c=a-b:=by
  unfold fdif? at h
  split at h
  · rename_i hh; simp only [Option.some.injEq] at h; exact ⟨hh.1,hh.2,h.symm⟩
  · simp at h
theorem fmul_ok {a b c:Int} (h:fmul? a b=some c):0≤a∧a≤1048576∧0≤b∧b≤1048576∧c=a * b:=by
  unfold fmul? at h
  split at h
  · rename_i hh; simp only [Option.some.injEq] at h; exact ⟨hh.1,hh.2.1,hh.2.2.1,hh.2.2.2,h.symm⟩
  · simp at h
theorem valO_ok (hr:RdOk σ alD rd) {x:Operand} {a:Value} (h:valO (valR rd) x=some a):(oev alD x).bind D.val? = some a:=by
  unfold valO at h
  split at h
  · rename_i v hv
    obtain ⟨d,h1,h2,_⟩:=zcx hr hv
    rw [h1,Option.bind_some]
    exact (valT_ok h h2).1
  · simp at h
theorem genV_ok (hr:RdOk σ alD rd) {op:Op} {ty:TypeId} {v:Value} (hsel:∀cs b,op≠.select cs b) (h:genV P op ty (valR rd)=some v):genA P op ty alD=some (ofVal v):=by
  unfold genV at h
  split at h
  · rename_i hall
    rw [List.all_eq_true] at hall
    have key:∀x∈op.operands.toList,(oev alD x).bind D.val? = valO (valR rd) x:=fun x hx=>by
      have:=hall x hx
      rw [Option.isSome_iff_exists] at this
      obtain ⟨a,ha⟩:=this
      rw [ha]; exact valO_ok hr ha
    unfold genA
    rw [if_pos (by rw [List.all_eq_true]; intro x hx; rw [key x hx]; exact hall x hx)]
    rw [execOp_congr (ρ:=fun x=>(((oev alD x).bind D.val?).getD undef)) (ρ':=fun x=>(valO (valR rd) x).getD undef) { dst:=none,op:=op,type:=ty,pos:="",after:=#[],guard:=none } hsel (fun x hx=>by rw [key x (by simpa using hx)])]
    split at h
    · rename_i v' hv
      simp only [Option.some.injEq] at h
      subst h
      rw [hv]
    · simp at h
  · simp at h
theorem conv_fl {t t':TypeId} {ka:IntKind} {a:Int} (ht:P.underlying t'=some (.float .f64)) (hs:(P.underlying t).isSome=true):zax P (convert t t' (.int ka a))=some (.float .f64 (Fl.fl a)):=by
  obtain ⟨u,hu⟩:=Option.isSome_iff_exists.1 hs
  unfold convert
  rw [zal,zbr hu,Option.bind_some,zal,zbr ht,Option.bind_some]
  cases u <;> rfl
theorem conv_int {t t':TypeId} {a b:Int} (ht:P.underlying t'=some (.int .i64)) (hs:(P.underlying t).isSome=true) (h:fint? a=some b):zax P (convert t t' (.float .f64 (Fl.fl a)))=some (.int .i64 b):=by
  unfold fint? at h
  split at h
  · rename_i hh
    simp only [Option.some.injEq] at h
    subst h
    obtain ⟨u,hu⟩:=Option.isSome_iff_exists.1 hs
    unfold convert
    rw [zal,zbr hu,Option.bind_some,zal,zbr ht,Option.bind_some]
    have e:zax P (Conv.floatToInt .f64 (Fl.fl a) .i64)=some (.int .i64 a):=by rw [float_int hh]; rfl
    cases u <;> exact e
  · simp at h
theorem gen_of {c:Call} {ty:TypeId} {b:Builtin} {v:Value} (hc:c.callee=.builtin b) (hall:∀x∈c.args.toList,((oev alD x).bind D.val?).isSome=true)
    (h:zax P (builtin b c.argTypes ty (c.args.map fun | .const _=>true | _=>false) (c.args.map fun x=>((oev alD x).bind D.val?).getD undef))=some (.value v)):genA P (.call c) ty alD=some (ofVal v):=by
  obtain ⟨callee,args,ts⟩:=c
  dsimp only at hc hall h
  subst hc
  have hop:(Op.operands (.call ⟨.builtin b,args,ts⟩)).toList=args.toList:=by simp [Op.operands,Call.operands]
  unfold genA
  rw [if_pos (by rw [hop,List.all_eq_true]; exact hall)]
  have:zax P (execOp (fun x=>((oev alD x).bind D.val?).getD undef) { dst:=none,op:=.call ⟨.builtin b,args,ts⟩,type:=ty,pos:="",after:=#[],guard:=none })=some (.value v):=h
  rw [this]
theorem gen_complex {c:Call} {ty:TypeId} {x y:Operand} {a b:Nat} (hc:c.callee=.builtin .complex) (ha:c.args.toList=[x,y]) (e1:oev alD x=some (.c (.lit (.float .f64 a)))) (e2:oev alD y=some (.c (.lit (.float .f64 b)))) :
    genA P (.call c) ty alD=some (.c (.lit (.complex .f64 a b))):=by
  have ha':c.args=#[x,y]:=by rw [←Array.toArray_toList (xs:=c.args),ha]
  refine gen_of (v:=.complex .f64 a b) hc (by rw [ha]; simp [e1,e2,D.val?]) ?_
  rw [ha']
  have e3:(#[x,y].map fun x=>((oev alD x).bind D.val?).getD undef)=#[.float .f64 a,.float .f64 b]:=by simp [e1,e2,D.val?]
  rw [e3]
  rfl
theorem gen_real {c:Call} {ty:TypeId} {x:Operand} {a b:Nat} (hc:c.callee=.builtin .real) (ha:c.args.toList=[x]) (e1:oev alD x=some (.c (.lit (.complex .f64 a b)))) :
    genA P (.call c) ty alD=some (.c (.lit (.float .f64 a))):=by
  have ha':c.args=#[x]:=by rw [←Array.toArray_toList (xs:=c.args),ha]
  refine gen_of (v:=.float .f64 a) hc (by rw [ha]; simp [e1,D.val?]) ?_
  rw [ha']
  have e3:(#[x].map fun x=>((oev alD x).bind D.val?).getD undef)=#[.complex .f64 a b]:=by simp [e1,D.val?]
  rw [e3]
  rfl
theorem gen_imag {c:Call} {ty:TypeId} {x:Operand} {a b:Nat} (hc:c.callee=.builtin .imag) (ha:c.args.toList=[x]) (e1:oev alD x=some (.c (.lit (.complex .f64 a b)))) :
    genA P (.call c) ty alD=some (.c (.lit (.float .f64 b))):=by
  have ha':c.args=#[x]:=by rw [←Array.toArray_toList (xs:=c.args),ha]
  refine gen_of (v:=.float .f64 b) hc (by rw [ha]; simp [e1,D.val?]) ?_
  rw [ha']
  have e3:(#[x].map fun x=>((oev alD x).bind D.val?).getD undef)=#[.complex .f64 a b]:=by simp [e1,D.val?]
  rw [e3]
  rfl
theorem flat_of {v:Value} (h:isFlat v=true):flat v=true:=by cases v <;> first | rfl | simp [isFlat] at h
variable {R:Type} {k:KO R} {r:R}
theorem OpK.one {x:TC} {d:D} (q:Q (.c x) σ false []) (h:OpR P orc n alD σD o d σD []) (hd:d=x.er) (hg:GC σ x) (H:RH σ σD):OpK P orc n alD σ σD o Q:=
  OpK.pure h (v:=.c x) (Or.inr hd) hg H q
theorem OpK.vt {v:Value} (q:Q (ofVT v) σ false []) (h:OpR P orc n alD σD o (ofVal v) σD []) (hf:isFlat v=true) (H:RH σ σD):OpK P orc n alD σ σD o Q:=
  OpK.pure h (ofVT_ok (σ:=σ) (flat_of hf)).1 (ofVT_ok (flat_of hf)).2 H q
theorem genT_ok {op:Op} {ty:TypeId} (hr:RdOk σ alD rd) (H:RH σ σD) (h:genT P op ty rd σ k=some r):OpK P orc n alD σ σD (.gen op ty) (fun v σ1 rs wr=>k v σ1 rs wr=some r):=by
  unfold genT at h
  split at h
  · -- binOp
    rename_i o t x y t'
    split at h
    · -- ints
      rename_i ka a kb b hx hy
      obtain ⟨d1,e1,r1,_⟩:=zcx hr hx
      obtain ⟨d2,e2,r2,_⟩:=zcx hr hy
      rcases r1 with r1 | rfl
      · simp at r1
      rcases r2 with r2 | rfl
      · simp at r2
      split at h
      · split at h
        · rename_i e _
          subst e
          obtain ⟨v,h1,h2⟩:=zbE h
          exact OpK.one h2 (op_bin e1 e2 rfl rfl (bin_quo h1) rfl) rfl rfl H
        · simp at h
      · split at h
        · rename_i e _
          subst e
          obtain ⟨v,h1,h2⟩:=zbE h
          exact OpK.one h2 (op_bin e1 e2 rfl rfl (bin_rem h1) rfl) rfl rfl H
        · simp at h
      · split at h
        · rename_i v hv
          split at h
          · rename_i hf
            exact OpK.vt h (op_bin e1 e2 rfl rfl hv rfl) hf H
          · simp at h
        · simp at h
    · -- structs
      rename_i xs ys hx hy
      obtain ⟨d1,e1,⟨ds,rfl,a1⟩,_⟩:=zcx hr hx
      obtain ⟨d2,e2,⟨es,rfl,a2⟩,_⟩:=zcx hr hy
      split at h
      · rename_i q hq
        obtain ⟨vs,ws,h1,h2,h3,h4⟩:=eqT_ok hq a1 a2
        split at h
        · exact OpK.one h (op_bin e1 e2 h1 h2 (bin_eql h3 h4) rfl) rfl True.intro H
        · exact OpK.one h (op_bin e1 e2 h1 h2 (bin_neq h3 h4) rfl) rfl True.intro H
        · simp at h
      · simp at h
    · -- complex numbers
      rename_i a b c d hx hy
      obtain ⟨d1,e1,r1,_⟩:=zcx hr hx
      obtain ⟨d2,e2,r2,_⟩:=zcx hr hy
      rcases r1 with r1 | rfl
      · simp at r1
      rcases r2 with r2 | rfl
      · simp at r2
      split at h
      · obtain ⟨u,h1,h⟩:=zbE h
        obtain ⟨v,h2,h⟩:=zbE h
        obtain ⟨p1,p2,rfl⟩:=fsum_ok h1
        obtain ⟨p3,p4,rfl⟩:=fsum_ok h2
        exact OpK.one h (op_bin e1 e2 rfl rfl (binV_cx (by simp) (by simp) (by simp) (by simp) (complex_add p1 p3 p2 p4)) rfl) rfl True.intro H
      · obtain ⟨u,h1,h⟩:=zbE h
        obtain ⟨v,h2,h⟩:=zbE h
        obtain ⟨p1,p2,rfl⟩:=fdif_ok h1
        obtain ⟨p3,p4,rfl⟩:=fdif_ok h2
        exact OpK.one h (op_bin e1 e2 rfl rfl (binV_cx (by simp) (by simp) (by simp) (by simp) (complex_sub p1 p3 p2 p4)) rfl) rfl True.intro H
      · split at h
        · obtain ⟨u,h1,h⟩:=zbE h
          obtain ⟨v,h2,h⟩:=zbE h
          obtain ⟨p1,p2,p3,p4,rfl⟩:=fmul_ok h1
          obtain ⟨p5,p6,_,_,rfl⟩:=fmul_ok h2
          exact OpK.one h (op_bin e1 e2 rfl rfl (binV_cx (by simp) (by simp) (by simp) (by simp) (complex_mul p1 p5 p3 p2 p6 p4)) rfl) rfl True.intro H
        · simp at h
      · simp at h
    · -- zdA
      rename_i u v _ _ _ hx hy
      obtain ⟨d1,e1,r1,_⟩:=zcx hr hx
      obtain ⟨d2,e2,r2,_⟩:=zcx hr hy
      split at h
      · rename_i a b ha hb
        obtain ⟨h1,rfl⟩:=valT_ok ha r1
        obtain ⟨h2,rfl⟩:=valT_ok hb r2
        split at h
        · rename_i hu
          exact OpK.one h (op_bin e1 e2 rfl rfl (bin_eqlB hu) rfl) rfl True.intro H
        · rename_i hu
          exact OpK.one h (op_bin e1 e2 rfl rfl (bin_neqB hu) rfl) rfl True.intro H
        · simp at h
      · rename_i a b _ ha hb
        obtain ⟨h1,rfl⟩:=valT_ok ha r1
        obtain ⟨h2,rfl⟩:=valT_ok hb r2
        split at h
        · rename_i w hw
          split at h
          · rename_i hf
            exact OpK.vt h (op_bin e1 e2 rfl rfl hw rfl) hf H
          · simp at h
        · simp at h
      · simp at h
    · simp at h
  · -- unOp
    rename_i o t x
    split at h
    · rename_i u hu
      obtain ⟨d1,e1,r1,_⟩:=zcx hr hu
      split at h
      · rename_i e he
        obtain ⟨h1,rfl⟩:=valT_ok he r1
        exact OpK.one h (op_un e1 rfl rfl rfl) rfl True.intro H
      · rename_i a _ ha
        obtain ⟨h1,rfl⟩:=valT_ok ha r1
        split at h
        · rename_i w hw
          split at h
          · rename_i hf
            exact OpK.vt h (op_un e1 rfl hw rfl) hf H
          · simp at h
        · simp at h
      · simp at h
    · simp at h
  · -- convert
    rename_i t t' x
    split at h
    · rename_i ka a ha
      obtain ⟨d1,e1,r1,_⟩:=zcx hr ha
      rcases r1 with r1 | rfl
      · simp at r1
      split at h
      · rename_i ht
        split at h
        · rename_i hs
          exact OpK.one h (op_conv e1 rfl (v:=.float .f64 (Fl.fl a)) (conv_fl ht hs) rfl) rfl True.intro H
        · simp at h
      · split at h
        · rename_i w hw
          split at h
          · rename_i hf
            exact OpK.vt h (op_conv e1 rfl hw rfl) hf H
          · simp at h
        · simp at h
    · rename_i a ha
      obtain ⟨d1,e1,r1,_⟩:=zcx hr ha
      rcases r1 with r1 | rfl
      · simp at r1
      split at h
      · rename_i ht hs
        obtain ⟨b,h1,h2⟩:=zbE h
        exact OpK.one h2 (op_conv e1 rfl (v:=.int .i64 b) (conv_int ht hs h1) rfl) rfl rfl H
      · simp at h
    · rename_i u _ _ hu
      obtain ⟨d1,e1,r1,_⟩:=zcx hr hu
      split at h
      · rename_i a ha
        obtain ⟨h1,rfl⟩:=valT_ok ha r1
        split at h
        · rename_i w hw
          split at h
          · rename_i hf
            exact OpK.vt h (op_conv e1 rfl hw rfl) hf H
          · simp at h
        · simp at h
      · simp at h
    · simp at h
  · -- builtins
    rename_i c
    split at h
    · split at h
      · rename_i v hv
        split at h
        · rename_i hf
          refine OpK.vt h (op_call_gen (genV_ok hr (fun cs b=>by simp) hv)) hf H
        · simp at h
      · simp at h
    · split at h
      · rename_i v hv
        split at h
        · rename_i hf
          refine OpK.vt h (op_call_gen (genV_ok hr (fun cs b=>by simp) hv)) hf H
        · simp at h
      · simp at h
    · rename_i x y hc ha
      split at h
      · rename_i a b hx hy
        obtain ⟨d1,e1,r1,_⟩:=zcx hr hx
        obtain ⟨d2,e2,r2,_⟩:=zcx hr hy
        rcases r1 with r1 | rfl
        · simp at r1
        rcases r2 with r2 | rfl
        · simp at r2
        exact OpK.one h (op_call_gen (gen_complex hc ha e1 e2)) rfl True.intro H
      · rename_i a b hx hy
        obtain ⟨d1,e1,r1,_⟩:=zcx hr hx
        obtain ⟨d2,e2,r2,_⟩:=zcx hr hy
        rcases r1 with r1 | rfl
        · simp at r1
        rcases r2 with r2 | rfl
        · simp at r2
        split at h
        · rename_i hb
          have:=Nat.eq_of_beq_eq_true hb
          subst this
          exact OpK.one h (op_call_gen (gen_complex hc ha e1 e2)) rfl True.intro H
        · simp at h
      · simp at h
    · rename_i x hc ha
      split at h
      · rename_i a b hx
        obtain ⟨d1,e1,r1,_⟩:=zcx hr hx
        rcases r1 with r1 | rfl
        · simp at r1
        exact OpK.one h (op_call_gen (gen_real hc ha e1)) rfl True.intro H
      · simp at h
    · rename_i x hc ha
      split at h
      · rename_i a b hx
        obtain ⟨d1,e1,r1,_⟩:=zcx hr hx
        rcases r1 with r1 | rfl
        · simp at r1
        exact OpK.one h (op_call_gen (gen_imag hc ha e1)) rfl True.intro H
      · simp at h
    · simp at h
  · simp at h
end
end Go.Abs
end
section
namespace Go.Abs
noncomputable section
variable [Gl] [Y:Ty]
def outE:(cs:List VCd)→outV cs→List D
  | [],_=>[]
  | [c],x=>[c.enc x]
  | c::d::cs,x=>c.enc x.1::outE (d::cs) x.2
def outD (cs:List VCd) (x:outV cs):D:=one (outE cs x)
def zbb (P:Program) (g:Nat) (s:TSp):Prop:=∀a r,s.f a=some r→Pure P g (encV s.ins a) (outD s.out r)
def TSsOk (P:Program) (S:TSs):Prop:=∀p∈S,zbb P p.1 p.2
def zc4 (S:TSs):Specs:=S.map fun p=>(p.1,spec (encV p.2.ins) (outD p.2.out) p.2.f)
theorem VCd.inj {c:VCd} {a b:c.dn} (h:c.enc a=c.enc b):a=b:=by
  cases c with
  | c x=>simp only [VCd.enc,D.c.injEq] at h; exact encC_inj (fun j _=>enc_inj j) h
  | st i=>exact ST_inj (fun {a b}=>enc_inj i a b) h
  | fp i=>simp only [VCd.enc,D.c.injEq,C.fptr.injEq,and_true] at h; exact enc_inj i a b h
  | k g=>rfl
theorem encV_inj:∀{cs:List VCd} {a b:tupV cs},encV cs a=encV cs b→a=b:=by
  intro cs
  induction cs with
  | nil=>intro a b _; rfl
  | cons c cs ih =>
    intro a b h
    simp only [encV,List.cons.injEq] at h
    obtain ⟨a1,a2⟩:=a
    obtain ⟨b1,b2⟩:=b
    have h1:=VCd.inj h.1
    have h2:=ih h.2
    dsimp only at h1 h2
    rw [h1,h2]
theorem specsOf_ok {P:Program} {S:TSs} (h:TSsOk P S):SpecsOk P (zc4 S):=by
  intro p hp ds r hr
  simp only [zc4,List.mem_map] at hp
  obtain ⟨q,hq,rfl⟩:=hp
  exact spec_ok (h q hq) ds r hr
theorem spk_of {g:Nat} {s:TSp}:∀{S:TSs},tsk g S=some s→spk g (zc4 S)=some (spec (encV s.ins) (outD s.out) s.f):=by
  intro S
  induction S with
  | nil=>intro h; simp [tsk] at h
  | cons p S ih =>
    intro h
    obtain ⟨q,s'⟩:=p
    simp only [tsk] at h
    simp only [zc4,List.map_cons,spk]
    split at h
    · rename_i hb
      simp only [Option.some.injEq] at h
      subst h
      try rw [hb]
    · rename_i hb
      try rw [hb]
      exact ih h
theorem rdSt_agg {i:Nat} {xs:List TC} {a:TT i} (h:rdSt i (.agg xs)=some a):∃x,rdT (Y.fl i) xs=some x∧a=Y.mkt i x:=by
  simp only [rdSt] at h
  cases h1:rdT (Y.fl i) xs with
  | none=>rw [h1] at h; simp at h
  | some x=>rw [h1] at h; simp only [Option.some.injEq] at h; exact ⟨x,rfl,h.symm⟩
theorem rdV_ok {c:VCd} {v:TV} {d:D} {a:c.dn} (h:rdV c v=some a) (r:RT v d):nrm d=c.enc a∧d.low 0=true∧d.plain=true:=by
  cases c with
  | c x =>
    cases v with
    | c y =>
      simp only [rdV,rdCV] at h
      obtain ⟨h1,h2⟩:=rdC_ok h
      rcases r with r | rfl
      · exact absurd r h1
      · obtain ⟨q,hq⟩:∃q,y.er=.c q:=by
          cases hy:y.er with
          | c q=>exact ⟨q,rfl⟩
          | _=>rw [hy] at h2; simp [nrm1] at h2
        rw [hq] at h2 ⊢
        exact ⟨h2,rfl,rfl⟩
    | agg xs=>simp [rdV,rdCV] at h
    | tup xs=>simp [rdV,rdCV] at h
  | st i =>
    cases v with
    | c y=>simp [rdV,rdSt] at h
    | agg xs =>
      obtain ⟨x,h1,rfl⟩:=rdSt_agg h
      obtain ⟨h2,h3⟩:=rdT_ok h1
      obtain ⟨ds,rfl,ha⟩:=r
      rw [ha.eq h2]
      have key:∀(l:List D) (m:List C),l.map nrm1=m.map .c→D.low.lows 0 l=true∧(l.all fun d=>match d with | .fn ..=>false | _=>true)=true:=by
        intro l
        induction l with
        | nil=>intro m _; exact ⟨rfl,rfl⟩
        | cons d l ih =>
          intro m hm
          cases m with
          | nil=>simp at hm
          | cons c m =>
            simp only [List.map_cons,List.cons.injEq] at hm
            obtain ⟨h4,h5⟩:=ih m hm.2
            cases d with
            | c x=>exact ⟨by simp [D.low.lows,D.low,h4],by simp [h5]⟩
            | _=>simp [nrm1] at hm
      obtain ⟨h4,h5⟩:=key _ _ h3
      refine ⟨?_,h4,h5⟩
      simp only [nrm,h3,VCd.enc,enc_eq,Y.pm]
    | tup xs=>simp [rdV,rdSt] at h
  | fp i =>
    simp only [rdV] at h
    unfold rdFp at h
    split at h
    · split at h
      · rename_i e _
        subst e
        simp only [Option.some.injEq] at h
        subst h
        rcases r with r | rfl
        · simp at r
        · exact ⟨rfl,rfl,rfl⟩
      · simp at h
    · simp at h
  | k g =>
    simp only [rdV] at h
    unfold rdFn at h
    split at h
    · split at h
      · rename_i hb
        have:=Nat.eq_of_beq_eq_true hb
        subst this
        rcases r with r | rfl
        · simp at r
        · exact ⟨rfl,rfl,rfl⟩
      · simp at h
    · simp at h
inductive All3:List TV→List D→Prop where
  | nil:All3 [] []
  | cons {v:TV} {d:D} {vs:List TV} {ds:List D} (h:RT v d) (r:All3 vs ds):All3 (v::vs) (d::ds)
theorem rdVs_ok:∀{cs:List VCd} {vs:List TV} {ds:List D} {a:tupV cs},rdVs cs vs=some a→All3 vs ds→ds.map nrm=encV cs a∧(ds.all fun d=>d.low 0&&d.plain)=true:=by
  intro cs
  induction cs with
  | nil =>
    intro vs ds a h r
    cases r with
    | nil=>exact ⟨rfl,rfl⟩
    | cons _ _=>simp [rdVs] at h
  | cons c cs ih =>
    intro vs ds a h r
    cases r with
    | nil=>simp [rdVs] at h
    | cons h1 r =>
      simp only [rdVs] at h
      split at h
      · rename_i x y h2 h3
        simp only [Option.some.injEq] at h
        subst h
        obtain ⟨h4,h5,h6⟩:=rdV_ok h2 h1
        obtain ⟨h7,h8⟩:=ih h3 r
        exact ⟨by simp only [List.map_cons,encV,h4,h7],by simp [h5,h6,h8]⟩
      · simp at h
theorem VCd.enc_low (c:VCd) (a:c.dn):(c.enc a).low 0=true:=by
  cases c with
  | c x=>rfl
  | st i=>exact lows_c _
  | fp i=>rfl
  | k g=>rfl
theorem outE_low:∀(cs:List VCd) (x:outV cs),D.low.lows 0 (outE cs x)=true:=by
  intro cs
  induction cs with
  | nil=>intro x; rfl
  | cons c cs ih =>
    intro x
    cases cs with
    | nil=>simp only [outE,D.low.lows,VCd.enc_low,Bool.and_self]
    | cons d cs=>simp only [outE,D.low.lows,VCd.enc_low,Bool.true_and]; exact ih x.2
theorem outD_low (cs:List VCd) (x:outV cs):(outD cs x).low 0=true:=by
  have:=outE_low cs x
  unfold outD one
  split
  · rename_i d h; rw [h] at this; simp only [D.low.lows,Bool.and_true] at this; exact this
  · exact this
theorem te_ok (c:VCd) (a:c.dn):RE (c.te a) (c.enc a):=by
  cases c with
  | c x=>exact ⟨_,rfl,.inr (expC_er x a).symm⟩
  | st i=>exact ⟨_,rfl,exp_all i a⟩
  | fp i=>exact ⟨_,rfl,.inr rfl⟩
  | k g=>exact ⟨_,rfl,.inr rfl⟩
theorem outL_ok:∀(cs:List VCd) (x:outV cs),All2 RE (outL cs x) (outE cs x):=by
  intro cs
  induction cs with
  | nil=>intro x; exact .nil
  | cons c cs ih =>
    intro x
    cases cs with
    | nil=>exact .cons (te_ok c x) .nil
    | cons d cs=>exact .cons (te_ok c x.1) (ih x.2)
theorem outT_ok (cs:List VCd) (x:outV cs):RT (outT cs x) (outD cs x):=by
  cases cs with
  | nil=>exact ⟨[],rfl,.nil⟩
  | cons c cs =>
    cases cs with
    | nil=>exact c.tv_ok x
    | cons d cs =>
      refine ⟨outE (c::d::cs) x,?_,outL_ok (c::d::cs) x⟩
      cases cs <;> rfl
theorem te_good {σ:TH} (c:VCd) (a:c.dn):∀x∈(c.te a).2,GC σ x:=by
  cases c with
  | c x=>intro y hy; simp only [VCd.te,List.mem_singleton] at hy; subst hy; exact expC_good x a
  | st i=>exact exp_good i a
  | fp i=>intro y hy; simp only [VCd.te,List.mem_singleton] at hy; subst hy; trivial
  | k g=>intro y hy; simp only [VCd.te,List.mem_singleton] at hy; subst hy; rfl
theorem outL_good {σ:TH}:∀(cs:List VCd) (x:outV cs),∀p∈outL cs x,∀y∈p.2,GC σ y:=by
  intro cs
  induction cs with
  | nil=>intro x p hp; simp [outL] at hp
  | cons c cs ih =>
    intro x p hp
    cases cs with
    | nil=>simp only [outL,List.mem_singleton] at hp; subst hp; exact te_good c x
    | cons d cs =>
      simp only [outL,List.mem_cons] at hp
      rcases hp with rfl | hp
      · exact te_good c x.1
      · exact ih x.2 p hp
theorem tv_good {σ:TH} (c:VCd) (a:c.dn):GV σ (c.tv a):=by
  cases c with
  | c x=>exact expC_good x a
  | st i=>exact exp_good i a
  | fp i=>trivial
  | k g=>rfl
theorem outT_good {σ:TH} (cs:List VCd) (x:outV cs):GV σ (outT cs x):=by
  cases cs with
  | nil=>intro p hp; simp [outL] at hp
  | cons c cs =>
    cases cs with
    | nil=>exact tv_good c x
    | cons d cs=>exact outL_good (c::d::cs) x
variable {P:Program} {orc:Orc} {n:Nat} {alD:AL} {σ σ1:TH} {σD σD1:Heap} {o:AOp} {Q:TV→TH→Bool→List Nat→Prop} {rd:Opd→Option TV}
theorem er_c_of_rd {c:CC} {x:TC} {a:c.dn} (h:rdC c x=some a):∃q,x.er=.c q:=by
  obtain ⟨_,h2⟩:=rdC_ok h
  cases hy:x.er with
  | c q=>exact ⟨q,rfl⟩
  | _=>rw [hy] at h2; simp [nrm1] at h2
theorem frT_ok (H:RH σ σD) {x:TC} (g:GC σ x) {c:CC} {a:c.dn} (h:rdC c (frT σ x)=some a):∃q,frzC σD 0 100 x.er=some q∧nrm1 (.c q)=.c (encC enc c a):=by
  have other:frT σ x=x→∃q,frzC σD 0 100 x.er=some q∧nrm1 (.c q)=.c (encC enc c a):=fun e=>by
    rw [e] at h
    obtain ⟨_,h2⟩:=rdC_ok h
    obtain ⟨q,hq⟩:=er_c_of_rd h
    rw [hq] at h2
    exact ⟨q,by rw [hq]; rfl,h2⟩
  cases x with
  | own i b v m =>
    have bad:∀{z:TC} {a:c.dn},z=.own i b v m→rdC c z=some a→False:=fun e h=>by
      subst e; cases c <;> simp [rdC] at h
    cases hb:σ[b]? with
    | none=>simp only [frT,hb] at h; exact (bad rfl h).elim
    | some blk =>
      cases blk with
      | row j l lv cv =>
        cases hv:Nat.beq lv v with
        | false=>simp only [frT,hb,hv] at h; exact (bad rfl h).elim
        | true =>
          simp only [frT,hb,hv] at h
          have hv:=Nat.eq_of_beq_eq_true hv
          obtain ⟨blk,h1,h2⟩:=g
          rw [hb] at h1
          simp only [Option.some.injEq] at h1
          obtain ⟨_,h3⟩:=h2 j l lv cv h1.symm
          obtain ⟨rfl,rfl⟩:=h3 hv.symm
          refine ⟨_,frzC_own (k:=98) (zaZ j) (Y.ps j) (H.row hb) rfl,?_⟩
          obtain ⟨_,h5⟩:=rdC_ok h
          rw [←h5]
          rfl
      | cells w cs=>simp only [frT,hb] at h; exact (bad rfl h).elim
      | mp j st l w=>simp only [frT,hb] at h; exact (bad rfl h).elim
  | _=>exact other rfl
theorem frTs_ok (H:RH σ σD):∀{cs:List CC} {xs:List TC} {a:tup cs},(∀x∈xs,GC σ x)→rdT cs (xs.map (frT σ))=some a→∃qs,(xs.map TC.er).mapM (frzC σD 0 100)=some qs∧(qs.map D.c).map nrm1=(encT enc cs a).map .c:=by
  intro cs
  induction cs with
  | nil =>
    intro xs a _ h
    cases xs with
    | nil=>exact ⟨[],rfl,rfl⟩
    | cons x xs=>simp [rdT] at h
  | cons c cs ih =>
    intro xs a g h
    cases xs with
    | nil=>simp [rdT] at h
    | cons x xs =>
      simp only [List.map_cons,rdT] at h
      split at h
      · rename_i a1 a2 h1 h2
        simp only [Option.some.injEq] at h
        subst h
        obtain ⟨q,h3,h4⟩:=frT_ok H (g x (List.mem_cons_self ..)) h1
        obtain ⟨qs,h5,h6⟩:=ih (fun y hy=>g y (List.mem_cons_of_mem _ hy)) h2
        refine ⟨q::qs,?_,?_⟩
        · rw [List.map_cons]; exact mapM_c h3 h5
        · simp only [List.map_cons,encT,h4,h6]
      · simp at h
theorem noAny_of_rd (σ:TH):∀{cs:List CC} {xs:List TC} {a:tup cs},rdT cs (xs.map (frT σ))=some a→∀y∈xs,y≠.any:=by
  intro cs xs a h y hy e
  subst e
  have:=(rdT_ok h).1 (frT σ .any) (List.mem_map_of_mem hy)
  exact this rfl
theorem frT_own {i b v m:Nat}:(∃j l,frT σ (.own i b v m)=.sl j l)∨frT σ (.own i b v m)=.own i b v m:=by
  cases hb:σ[b]? with
  | none=>exact .inr (by simp only [frT,hb])
  | some blk =>
    cases blk with
    | row j l lv cv =>
      cases hv:Nat.beq lv v with
      | false=>exact .inr (by simp only [frT,hb,hv])
      | true=>exact .inl ⟨j,l,by simp only [frT,hb,hv]⟩
    | cells w cs=>exact .inr (by simp only [frT,hb])
    | mp j st l w=>exact .inr (by simp only [frT,hb])
theorem frV_ok (H:RH σ σD) {c:VCd} {v:TV} {d:D} {a:c.dn} (g:GV σ v) (r:RT v d) (h:rdV c (frTV σ v)=some a):∃d',frzD1 σD 0 100 d=some d'∧frzD σD 0 100 d=some d'∧nrm d'=c.enc a:=by
  have same:frTV σ v=v→(∃q,d=.c q)→∃d',frzD1 σD 0 100 d=some d'∧frzD σD 0 100 d=some d'∧nrm d'=c.enc a:=fun e ⟨q,hq⟩=>by
    rw [e] at h
    subst hq
    exact ⟨_,rfl,rfl,(rdV_ok h r).1⟩
  cases v with
  | c x =>
    cases c with
    | c cc =>
      simp only [frTV,rdV,rdCV] at h
      have hne:x≠.any:=fun e=>by subst e; exact (rdC_ok h).1 rfl
      rcases r with r | rfl
      · exact absurd r hne
      obtain ⟨q,h1,h2⟩:=frT_ok H g h
      have h3:frzD1 σD 0 100 x.er=some (.c q):=by
        cases hx:x.er with
        | agg cs=>rw [hx] at h1; simp [frzC] at h1
        | _=>rw [hx] at h1; simp only [frzD1,h1,Option.map_some]
      refine ⟨.c q,h3,?_,h2⟩
      cases hx:x.er with
      | tup cs=>rw [hx] at h1; simp [frzC] at h1
      | _=>rw [hx] at h3; exact h3
    | st i=>simp [frTV,rdV,rdSt] at h
    | fp i =>
      cases x with
      | fp j b off =>
        rcases r with r | rfl
        · simp at r
        exact same rfl ⟨_,rfl⟩
      | own i b v m =>
        exfalso
        simp only [frTV,rdV] at h
        rcases frT_own (σ:=σ) (i:=i) (b:=b) (v:=v) (m:=m) with ⟨j,l,e⟩ | e <;> rw [e] at h <;> simp [rdFp] at h
      | _=>simp [frTV,frT,rdV,rdFp] at h
    | k f =>
      cases x with
      | d y =>
        rcases r with r | rfl
        · simp at r
        refine same rfl ?_
        simp only [frTV,frT,rdV,rdFn] at h
        split at h
        · rename_i e
          simp only [TV.c.injEq,TC.d.injEq] at e
          subst e
          exact ⟨_,rfl⟩
        · simp at h
      | own i b v m =>
        exfalso
        simp only [frTV,rdV] at h
        rcases frT_own (σ:=σ) (i:=i) (b:=b) (v:=v) (m:=m) with ⟨j,l,e⟩ | e <;> rw [e] at h <;> simp [rdFn] at h
      | _=>simp [frTV,frT,rdV,rdFn] at h
  | agg xs =>
    cases c with
    | st i =>
      obtain ⟨y,h1,rfl⟩:=rdSt_agg h
      obtain ⟨ds,rfl,ha⟩:=r
      rw [ha.eq (noAny_of_rd σ h1)]
      obtain ⟨qs,h2,h3⟩:=frTs_ok H g h1
      have h4:=frz_agg (σ:=σD) h2
      refine ⟨_,h4,h4,?_⟩
      simp only [nrm,h3,VCd.enc,enc_eq,Y.pm]
    | c x=>simp [frTV,rdV,rdCV] at h
    | fp i=>simp [frTV,rdV,rdFp] at h
    | k i=>simp [frTV,rdV,rdFn] at h
  | tup xs =>
    cases c with
    | st i=>simp [frTV,rdV,rdSt] at h
    | c x=>simp [frTV,rdV,rdCV] at h
    | fp i=>simp [frTV,rdV,rdFp] at h
    | k i=>simp [frTV,rdV,rdFn] at h
theorem frVs_ok (H:RH σ σD):∀{cs:List VCd} {vs:List TV} {ds:List D} {a:tupV cs},(∀v∈vs,GV σ v)→All3 vs ds→rdVs cs (vs.map (frTV σ))=some a→∃ds',ds.mapM (frzD σD 0 100)=some ds'∧ds'.map nrm=encV cs a:=by
  intro cs
  induction cs with
  | nil =>
    intro vs ds a _ r h
    cases r with
    | nil=>exact ⟨[],rfl,rfl⟩
    | cons _ _=>simp [rdVs] at h
  | cons c cs ih =>
    intro vs ds a g r h
    cases r with
    | nil=>simp [rdVs] at h
    | cons h1 r =>
      simp only [List.map_cons,rdVs] at h
      split at h
      · rename_i x y h2 h3
        simp only [Option.some.injEq] at h
        subst h
        obtain ⟨d',_,h4,h5⟩:=frV_ok H (g _ (List.mem_cons_self ..)) h1 h2
        obtain ⟨ds',h6,h7⟩:=ih (fun v hv=>g v (List.mem_cons_of_mem _ hv)) r h3
        exact ⟨d'::ds',mapM_c h4 h6,by simp only [List.map_cons,encV,h5,h7]⟩
      · simp at h
theorem gr_ground {cs:List VCd} (h:cs.all VCd.gr=true) (x:outV cs):(outD cs x).ground=true:=by
  have cc:∀(c:CC) (a:c.dn),c.gr=true→(D.c (encC enc c a)).ground=true:=by
    intro c a h
    cases c <;> first | rfl | simp [CC.gr] at h
  have ct:∀(cs:List CC) (x:tup cs),cs.all CC.gr=true→D.ground.grounds ((encT enc cs x).map .c)=true:=by
    intro cs
    induction cs with
    | nil=>intro x _; rfl
    | cons c cs ih =>
      intro x h
      simp only [List.all_cons,Bool.and_eq_true] at h
      simp only [encT,List.map_cons,D.ground.grounds,cc c x.1 h.1,ih x.2 h.2,Bool.and_self]
  have cv:∀(c:VCd) (a:c.dn),c.gr=true→(c.enc a).ground=true:=by
    intro c a h
    cases c with
    | c x=>exact cc x a h
    | st i=>simp only [VCd.enc,D.ground,enc_eq]; exact ct _ _ h
    | fp i=>simp [VCd.gr] at h
    | k g=>simp [VCd.gr] at h
  have co:∀(cs:List VCd) (x:outV cs),cs.all VCd.gr=true→D.ground.grounds (outE cs x)=true:=by
    intro cs
    induction cs with
    | nil=>intro x _; rfl
    | cons c cs ih =>
      intro x h
      simp only [List.all_cons,Bool.and_eq_true] at h
      cases cs with
      | nil=>simp only [outE,D.ground.grounds,cv c x h.1,Bool.and_self]
      | cons d cs=>simp only [outE,D.ground.grounds,cv c x.1 h.1,Bool.true_and]; exact ih x.2 (by simpa using h.2)
  have:=co cs x h
  unfold outD one
  split
  · rename_i d h; rw [h] at this; simp only [D.ground.grounds,Bool.and_true] at this; exact this
  · exact this
theorem spc_ok {S:TSs} {g:Nat} {s:TSp} {vs:List TV} {ds:List D} {a:tupV s.ins} {r:outV s.out} (hs:tsk g S=some s) (hv:All3 vs ds) (hr:rdVs s.ins vs=some a) (hf:s.f a=some r) :
    zcs (zc4 S) g ds σD=some (outD s.out r,σD,[]):=by
  obtain ⟨h1,h2⟩:=rdVs_ok hr hv
  exact callOrc_data (spk_of hs) h2 h1 (spec_eq (fun a b=>encV_inj) hf) (outD_low s.out r)
theorem own_low {v:TV} {d:D} (h:hasOwn v=true) (r:RT v d):d.low 0=false:=by
  cases v with
  | c x =>
    cases x <;> simp [hasOwn,isOwn] at h
    rcases r with r | rfl
    · simp at r
    · simp [TC.er,D.low]
  | agg xs =>
    obtain ⟨ds,rfl,ha⟩:=r
    simp only [hasOwn] at h
    simp only [D.low]
    induction ha with
    | nil=>simp at h
    | cons h1 _ ih =>
      rename_i a b l m _
      simp only [List.any_cons,Bool.or_eq_true] at h
      simp only [D.low.lows]
      rcases h with h | h
      · cases a <;> simp [isOwn] at h
        rcases h1 with h1 | rfl
        · simp at h1
        · simp [TC.er,D.low]
      · rw [ih h,Bool.and_false]
  | tup xs=>simp [hasOwn] at h
theorem owns_low {vs:List TV} {ds:List D} (r:All3 vs ds) (h:vs.any hasOwn=true):(ds.all fun d=>d.low 0&&d.plain)=false:=by
  induction r with
  | nil=>simp at h
  | cons h1 _ ih =>
    simp only [List.any_cons,Bool.or_eq_true] at h
    simp only [List.all_cons]
    rcases h with h | h
    · rw [own_low h h1]; rfl
    · rw [ih h,Bool.and_false]
theorem spc_lend {S:TSs} (H:RH σ σD) {g:Nat} {s:TSp} {vs:List TV} {ds:List D} {a:tupV s.ins} {r:outV s.out} (hs:tsk g S=some s) (hg:∀v∈vs,GV σ v) (hv:All3 vs ds) (ho:s.out.all VCd.gr=true) (hw:vs.any hasOwn=true)
    (hr:rdVs s.ins (vs.map (frTV σ))=some a) (hf:s.f a=some r):zcs (zc4 S) g ds σD=some (outD s.out r,σD,[]):=by
  obtain ⟨ds',h1,h2⟩:=frVs_ok H hg hv hr
  exact callOrc_lend (spk_of hs) (owns_low hv hw) h1 h2 (spec_eq (fun a b=>encV_inj) hf) (gr_ground ho r)
end
end Go.Abs
end
section
namespace Go.Abs
noncomputable section
variable [Gl] [Y:Ty]
variable {P:Program} {orc:Orc} {n:Nat} {alD:AL} {σ σ1:TH} {σD σD1:Heap} {o:AOp} {Q:TV→TH→Bool→List Nat→Prop} {rd:Opd→Option TV}
theorem rt0:RT (.tup []) (.tup []):=⟨[],rfl,.nil⟩
theorem lows_mem:∀{z:List D} {m:Nat},D.low.lows 0 z=true→∀d∈z,d.low m=true:=by
  intro z
  induction z with
  | nil=>intro m _ d hd; simp at hd
  | cons x z ih =>
    intro m h d hd
    simp only [D.low.lows,Bool.and_eq_true] at h
    rcases List.mem_cons.1 hd with rfl | hd
    · exact D.low_mono (Nat.zero_le _) h.1
    · exact ih h.2 d hd
theorem All2.ds:∀(z:List D),All2 RC (z.map .d) z:=by
  intro z
  induction z with
  | nil=>exact .nil
  | cons d z ih=>exact .cons (.inr rfl) ih
theorem ds_good {z:List D} (h:D.low.lows 0 z=true):∀x∈z.map TC.d,GC σ x:=by
  intro x hx
  rw [List.mem_map] at hx
  obtain ⟨d,hd,rfl⟩:=hx
  exact lows_mem h d hd
theorem zeros_low {z:List D} (h:D.low.lows 0 z=true) (k:Nat):∀x∈(zeros k z).map TC.d,GC σ x:=by
  intro x hx
  rw [List.mem_map] at hx
  obtain ⟨d,hd,rfl⟩:=hx
  simp only [zeros,List.mem_flatten,List.mem_replicate] at hd
  obtain ⟨l,⟨_,rfl⟩,hd⟩:=hd
  exact lows_mem h d hd
theorem noNil_ok:∀{cs:List CC} {xs:List TC} {a:tup cs},noNil xs=true→rdT cs xs=some a→xs.map TC.er=(encT enc cs a).map .c:=by
  intro cs
  induction cs with
  | nil =>
    intro xs a _ h
    cases xs with
    | nil=>rfl
    | cons x xs=>simp [rdT] at h
  | cons c cs ih =>
    intro xs a hn h
    cases xs with
    | nil=>simp [rdT] at h
    | cons x xs =>
      simp only [rdT] at h
      split at h
      · rename_i a1 a2 h1 h2
        simp only [Option.some.injEq] at h
        subst h
        have hn2:noNil xs=true∧x≠.d (.c (.lit (.slice none 0 0))):=by
          refine ⟨?_,fun e=>by subst e; simp [noNil] at hn⟩
          unfold noNil at hn
          split at hn
          · rename_i e; simp at e
          · simp at hn
          · rename_i e
            simp only [List.cons.injEq] at e
            obtain ⟨rfl,rfl⟩:=e
            exact hn
        rcases rdC_ex h1 with h3 | h3
        · exact absurd h3 hn2.2
        · simp only [List.map_cons,encT,h3,ih hn2.1 h2]
      · simp at h
theorem mkT_ok {i:Nat} {xs:List TC} {a:TT i} (h:mkT i xs=some a):xs.map TC.er=(enc i a).map .c∧∀x∈xs,x≠.any:=by
  unfold mkT at h
  split at h
  · rename_i x hn hx
    simp only [Option.some.injEq] at h
    subst h
    rw [enc_eq,Y.pm]
    exact ⟨noNil_ok hn hx,(rdT_ok hx).1⟩
  · simp at h
theorem mkRow_ok {i:Nat}:∀{k:Nat} {xs:List TC} {l:List (TT i)} {ds:List D},mkRow i k xs=some l→All2 RC xs ds→ds=(l.flatMap (enc i)).map .c∧l.length=k:=by
  intro k
  induction k with
  | zero =>
    intro xs l ds h r
    cases xs with
    | nil=>simp only [mkRow,Option.some.injEq] at h; subst h; cases r; exact ⟨rfl,rfl⟩
    | cons x xs=>simp [mkRow] at h
  | succ k ih =>
    intro xs l ds h r
    simp only [mkRow] at h
    split at h
    · rename_i a l' h1 h2
      simp only [Option.some.injEq] at h
      subst h
      obtain ⟨h3,h4⟩:=mkT_ok h1
      obtain ⟨h5,h6⟩:=ih h2 (r.drop (esz i))
      have h7:=(r.take (esz i)).eq h4
      refine ⟨?_,by simp [h6]⟩
      rw [←List.take_append_drop (esz i) ds,h5,h7,h3]
      simp
    · simp at h
theorem intT_ok {v:TV} {d:D} {q:Int} (h:intT v=some q) (r:RT v d):d=I q:=by
  unfold intT at h
  split at h
  · simp only [Option.some.injEq] at h; subst h
    rcases r with r | rfl
    · simp at r
    · rfl
  · simp at h
theorem RT.c1 {x:TC} {d:D} (hx:x≠.any) (r:RT (.c x) d):d=x.er:=by
  rcases r with r | r
  · exact absurd r hx
  · exact r
theorem ints_ok {k:IntKind}:∀{xs:List TC} {l:List Int} {ds:List D},ints k xs=some l→All2 RC xs ds→ds=l.map fun z=>.c (.lit (.int k z)):=by
  intro xs l ds h r
  induction r generalizing l with
  | nil=>simp only [ints,Option.some.injEq] at h; subst h; rfl
  | cons h1 _ ih =>
    simp only [ints] at h
    split at h
    · rename_i a l' h2 h3
      simp only [Option.some.injEq] at h
      subst h
      obtain ⟨h4,_⟩:=rdC_ok h2
      rw [ih h3,List.map_cons]
      congr 1
      rcases h1 with h1 | rfl
      · exact absurd h1 h4
      · rcases rdC_ex h2 with h5 | h5
        · subst h5; simp [rdC] at h2
        · rw [h5]; rfl
    · simp at h
theorem RdOk.c {x:Opd} {y:TC} (hr:RdOk σ alD rd) (h:rd x=some (.c y)) (hy:y≠.any):lx alD x=some y.er∧GC σ y:=by
  obtain ⟨d,h1,h2,h3⟩:=hr x _ h
  exact ⟨by rw [h1,RT.c1 hy h2],h3⟩
theorem RdOk.int {x:Opd} {v:TV} {q:Int} (hr:RdOk σ alD rd) (h:rd x=some v) (hq:intT v=some q):lx alD x=some (I q):=by
  obtain ⟨d,h1,h2,_⟩:=hr x _ h
  rw [h1,intT_ok hq h2]
theorem RdOk.all (hr:RdOk σ alD rd):∀{xs:List Opd} {vs:List TV},rdOs rd xs=some vs→∃ds,lxs alD xs=some ds∧All3 vs ds∧∀v∈vs,GV σ v:=by
  intro xs
  induction xs with
  | nil=>intro vs h; simp only [rdOs,Option.some.injEq] at h; subst h; exact ⟨[],rfl,.nil,by simp⟩
  | cons x xs ih =>
    intro vs h
    simp only [rdOs] at h
    split at h
    · rename_i a b h1 h2
      simp only [Option.some.injEq] at h
      subst h
      obtain ⟨d,h3,h4,h5⟩:=hr x a h1
      obtain ⟨ds,h6,h7,h8⟩:=ih h2
      refine ⟨d::ds,by simp only [lxs,h3,h6],.cons h4 h7,fun v hv=>?_⟩
      rcases List.mem_cons.1 hv with rfl | hv
      · exact h5
      · exact h8 v hv
    · simp at h
theorem row_cast (H:RH σ σD) {b i j lv cv:Nat} {l:List (TT j)} {m:List (TT i)} (hb:σ[b]? = some (.row j l lv cv)) (h:castL l=some m):σ[b]? = some (.row i m lv cv):=by
  obtain ⟨rfl,rfl⟩:=zbS h; exact hb
theorem srcT_ok (H:RH σ σD) {i:Nat} {v:TV} {d:D} {m:List (TT i)} (h:srcT i σ v=some m) (r:RT v d) (g:GV σ v):Src σD (enc i) (esz i) d m:=by
  unfold srcT at h
  split at h
  · rename_i j l
    obtain ⟨rfl,rfl⟩:=zbS h
    rw [RT.c1 (by simp) r]
    exact src_frz (zaZ j)
  · simp only [Option.some.injEq] at h
    subst h
    rw [RT.c1 (by simp) r]
    exact src_nil
  · rename_i j b v q
    split at h
    · rename_i j' l lv cv hb
      split at h
      · rename_i hv
        have hv:=Nat.eq_of_beq_eq_true hv
        obtain ⟨blk,h1,h2⟩:=g
        rw [hb] at h1
        simp only [Option.some.injEq] at h1
        obtain ⟨_,h3⟩:=h2 _ _ _ _ h1.symm
        obtain ⟨rfl,rfl⟩:=h3 hv.symm
        obtain ⟨rfl,rfl⟩:=zbS h
        rw [RT.c1 (by simp) r]
        exact src_own (zaZ _) (H.row hb) rfl
      · simp at h
    · simp at h
  · simp at h
theorem srcN_ok (H:RH σ σD) {i:Nat} {v:TV} {d:D} {m:List (TT i)} (h:srcT i σ v=some m) (r:RT v d) (g:GV σ v):SrcN σD (enc i) (esz i) d m:=by
  unfold srcT at h
  split at h
  · rename_i j l
    obtain ⟨rfl,rfl⟩:=zbS h
    rw [RT.c1 (by simp) r]
    exact srcN_frz (zaZ j)
  · simp only [Option.some.injEq] at h
    subst h
    rw [RT.c1 (by simp) r]
    exact srcN_nil
  · rename_i j b v q
    split at h
    · rename_i j' l lv cv hb
      split at h
      · rename_i hv
        have hv:=Nat.eq_of_beq_eq_true hv
        obtain ⟨blk,h1,h2⟩:=g
        rw [hb] at h1
        simp only [Option.some.injEq] at h1
        obtain ⟨_,h3⟩:=h2 _ _ _ _ h1.symm
        obtain ⟨rfl,rfl⟩:=h3 hv.symm
        obtain ⟨rfl,rfl⟩:=zbS h
        rw [RT.c1 (by simp) r]
        exact srcN_own (zaZ _) (H.row hb) rfl
      · simp at h
    · simp at h
  · simp at h
theorem os_row (H:RH σ σD) {i b v q lo len j lv cv:Nat} {l:List (TT j)} (g:GC σ (.os i b v q lo len)) (hb:σ[b]? = some (.row j l lv cv)) (hv:Nat.beq lv v=true):j=i∧q=l.length∧lo+len≤q:=by
  have hv:=Nat.eq_of_beq_eq_true hv
  obtain ⟨blk,h1,h2⟩:=g
  rw [hb] at h1
  simp only [Option.some.injEq] at h1
  obtain ⟨_,h3⟩:=h2 _ _ _ _ h1.symm
  exact h3 hv.symm
theorem own_row (H:RH σ σD) {i b v q j lv cv:Nat} {l:List (TT j)} (g:GC σ (.own i b v q)) (hb:σ[b]? = some (.row j l lv cv)) (hv:Nat.beq lv v=true):j=i∧q=l.length:=by
  have hv:=Nat.eq_of_beq_eq_true hv
  obtain ⟨blk,h1,h2⟩:=g
  rw [hb] at h1
  simp only [Option.some.injEq] at h1
  obtain ⟨_,h3⟩:=h2 _ _ _ _ h1.symm
  exact h3 hv.symm
theorem op_row (H:RH σ σD) {i b v q j lv cv off:Nat} {k:Int} {a:TT i} {l:List (TT j)} (g:GC σ (.op i b v q k a off)) (hb:σ[b]? = some (.row j l lv cv)) (hv:Nat.beq cv v=true):∃m:List (TT i),castL l=some m∧q=m.length∧at? m k=some a:=by
  have hv:=Nat.eq_of_beq_eq_true hv
  obtain ⟨blk,h1,h2⟩:=g
  rw [hb] at h1
  simp only [Option.some.injEq] at h1
  obtain ⟨_,h3⟩:=h2 _ _ _ _ h1.symm
  exact h3 hv.symm
theorem getT_exp {m:Option Nat} {i:Nat} {a:TT i} {off:Nat} {v:TV} (h:getT m (exp i a) off=some v):∃d,zaO m ((enc i a).map .c) off=some d∧RT v d∧GV σ v:=by
  obtain ⟨d,h1,h2⟩:=getT_ok h (exp_all i a)
  exact ⟨d,h1,h2,getT_good h (exp_good i a)⟩
variable {R:Type} {k:KO R} {r:R}
theorem tload_ok {S:TSs} {hint:Nat} {m:Option Nat} {x:Opd} (hr:RdOk σ alD rd) (H:RH σ σD) (h:tOp P S hint (.load m x) rd σ k=some r):OpK P orc n alD σ σD (.load m x) (fun v σ1 rs wr=>k v σ1 rs wr=some r):=by
  simp only [tOp] at h
  split at h
  · rename_i b off sz hx
    obtain ⟨h1,_⟩:=hr.c hx (by simp)
    split at h
    · rename_i w cs hb
      obtain ⟨ds,h2,h3,h4,_⟩:=H.cells hb
      split at h
      · rename_i v hs hv
        obtain ⟨d,h5,h6⟩:=getT_ok hv h3
        refine OpK.pure (op_load h1 (zc8 h2 (by rw [h4]; exact Nat.eq_of_beq_eq_true hs)) h5) h6 (getT_good hv fun y hy=>?_) H h
        rw [List.mem_map] at hy
        obtain ⟨p,hp,rfl⟩:=hy
        exact (H.hg b w cs hb p hp).1
      · simp at h
    · simp at h
  · rename_i i a off hx
    obtain ⟨h1,_⟩:=hr.c hx (by simp)
    split at h
    · rename_i v hv
      obtain ⟨d,h2,h3,h4⟩:=getT_exp (σ:=σ) hv
      exact OpK.pure (op_loadf h1 h2) h3 h4 H h
    · simp at h
  · rename_i i b v q z a off hx
    obtain ⟨h1,g⟩:=hr.c hx (by simp)
    split at h
    · rename_i j l lv cv hb
      split at h
      · rename_i v' hv hv'
        obtain ⟨m',h2,rfl,h3⟩:=op_row H g hb hv
        have hb':=row_cast H hb h2
        obtain ⟨d,h4,h5,h6⟩:=getT_exp (σ:=σ) hv'
        exact OpK.pure (op_loade (zaZ i) h1 rfl (H.row hb') rfl (at_get h3) h4) h5 h6 H h
      · simp at h
    · simp at h
  · rename_i b off len sz i hx
    obtain ⟨h1,g⟩:=hr.c hx (by simp)
    split at h
    · rename_i w cs hb
      obtain ⟨ds,h2,h3,h4,_⟩:=H.cells hb
      split at h
      · rename_i l hs hl
        simp only [Bool.and_eq_true] at hs
        obtain ⟨a,ha,hk⟩:=zbE h
        have h5:=ints_ok hl ((h3.drop off).take len)
        obtain ⟨a1,a2,a3⟩:=at_some ha
        refine OpK.one hk (op_load h1 (zc8 h2 (by rw [h4]; exact Nat.eq_of_beq_eq_true hs.1)) (d:=I a) ?_) rfl rfl H
        have h6:((ds.drop off).take len)[i.toNat]? = some (I a):=by rw [h5,List.getElem?_map,a3]; rfl
        have h7:i.toNat<len:=by
          have:=(List.getElem?_eq_some_iff.1 h6).1
          rw [List.length_take] at this
          omega
        rw [List.getElem?_take_of_lt h7,List.getElem?_drop] at h6
        simp only [zaO,Nat.mul_one]
        exact h6
      · simp at h
    · simp at h
  · simp at h
theorem tstore_ok {S:TSs} {hint:Nat} {m:Nat} {x y:Opd} (hr:RdOk σ alD rd) (H:RH σ σD) (h:tOp P S hint (.store m x y) rd σ k=some r):OpK P orc n alD σ σD (.store m x y) (fun v σ1 rs wr=>k v σ1 rs wr=some r):=by
  simp only [tOp] at h
  split at h
  · rename_i b off sz v hx hv
    obtain ⟨h1,_⟩:=hr.c hx (by simp)
    obtain ⟨d,h2,h3,h4⟩:=hr _ _ hv
    split at h
    · rename_i w cs xs hb hxs
      obtain ⟨ds,h5,h6,h7,hds⟩:=H.cells hb
      obtain ⟨h8,h9,h10⟩:=cellsT_ok hxs h3
      split at h
      · rename_i hc
        simp only [Bool.and_eq_true] at hc
        have c1:=Nat.eq_of_beq_eq_true hc.1
        have c2:=Nat.eq_of_beq_eq_true hc.2.1
        have c3:=Nat.le_of_ble_eq_true hc.2.2
        have hlen:(putT cs off (xs.map fun x=>(w+1,x))).length=cs.length:=by
          simp only [putT,List.length_append,List.length_take,List.length_drop,List.length_map]
          omega
        have hbe:BE (.cells w cs) (.cells (w+1) (putT cs off (xs.map fun x=>(w+1,x)))):=by
          refine ⟨w+1,_,rfl,by omega,hlen,fun j v x v1 x1 e1 e2=>?_⟩
          by_cases hj:j<off
          · left
            simp only [putT] at e2
            rw [List.append_assoc,List.getElem?_append_left (by rw [List.length_take]; have:=(List.getElem?_eq_some_iff.1 e1).1; omega),List.getElem?_take_of_lt hj,e1] at e2
            simp only [Option.some.injEq,Prod.mk.injEq] at e2
            exact ⟨e2.1.symm,e2.2.symm⟩
          · by_cases hj2:j<off+xs.length
            · right
              simp only [putT] at e2
              rw [List.append_assoc,List.getElem?_append_right (by rw [List.length_take]; omega),List.getElem?_append_left (by rw [List.length_take,List.length_map]; omega),List.getElem?_map,Option.map_eq_some_iff] at e2
              obtain ⟨q,_,e3⟩:=e2
              simp only [Prod.mk.injEq] at e3
              omega
            · left
              simp only [putT] at e2
              rw [List.getElem?_append_right (by rw [List.length_append,List.length_take,List.length_map]; omega),List.getElem?_drop,List.length_append,List.length_take,List.length_map] at e2
              rw [show off+xs.length+(j-(min off cs.length+xs.length))=j by omega,e1] at e2
              simp only [Option.some.injEq,Prod.mk.injEq] at e2
              exact ⟨e2.1.symm,e2.2.symm⟩
        have hgood:∀w' cs',TB.cells (w+1) (putT cs off (xs.map fun x=>(w+1,x)))=.cells w' cs'→∀p∈cs',GC σ p.2∧p.1≤w':=by
          intro w' cs' e p hp
          simp only [TB.cells.injEq] at e
          obtain ⟨rfl,rfl⟩:=e
          rcases putT_mem hp with hp | hp
          · obtain ⟨q1,q2⟩:=H.hg b w cs hb p hp
            exact ⟨q1,by omega⟩
          · rw [List.mem_map] at hp
            obtain ⟨y,hy,rfl⟩:=hp
            exact ⟨cellsT_good hxs h4 y hy,Nat.le_refl _⟩
        have hrb:RB (.cells (w+1) (putT cs off (xs.map fun x=>(w+1,x)))) (.cells (put ds off (xs.map TC.er))):=by
          unfold RB TB.er
          rw [hds]
          simp [put,putT,Function.comp_def]
        refine ⟨_,_,_,_,.tup [],σD.set b (.cells (put ds off (xs.map TC.er))),op_store h1 (zc8 h5 (by rw [h7]; exact c1)) h2 h8 ⟨by rw [List.length_map]; exact c2,c3⟩ rfl,rt0,?_,H.set hb hbe hrb hgood,Ext.set hb hbe,fun _=>?_,fun e=>by simp [totOp] at e,h⟩
        · intro p hp; simp at hp
        · simp only [wrOk,List.all_cons,List.all_nil,Bool.and_true]
          rw [h5,zaT h5]
          simp only [Ob.sz,beq_iff_eq]
          simp only [put,List.length_append,List.length_take,List.length_drop,List.length_map]
          omega
      · simp at h
    · simp at h
  · rename_i i b v q z a off xv hx hv
    obtain ⟨h1,g⟩:=hr.c hx (by simp)
    obtain ⟨d,h2,h3,h4⟩:=hr _ _ hv
    split at h
    · rename_i j l lv cv xs hb hxs
      obtain ⟨h8,h9,h10⟩:=cellsT_ok hxs h3
      split at h
      · rename_i a' l' hc ha hl
        simp only [Bool.and_eq_true] at hc
        obtain ⟨m',e1,rfl,e2⟩:=op_row H g hb hc.1
        rw [hl] at e1
        simp only [Option.some.injEq] at e1
        subst e1
        have hb':=row_cast H hb hl
        have c2:=Nat.eq_of_beq_eq_true hc.2.1
        obtain ⟨e3,e4⟩:=mkT_ok ha
        -- the new cells,as data
        have hput:(putT (exp i a) off xs).map TC.er=((exp i a).map TC.er).take off++xs.map TC.er++((exp i a).map TC.er).drop (off+xs.length):=by
          simp [putT]
        rw [e3,exp_er] at hput
        obtain ⟨ys,hys⟩:∃ys:List C,xs.map TC.er=ys.map .c:=by
          have c3:=Nat.le_of_ble_eq_true hc.2.2
          refine ⟨((enc i a').drop off).take xs.length,?_⟩
          rw [List.map_take,List.map_drop,hput]
          have l1:(((enc i a).map D.c).take off).length=off:=by rw [List.length_take,List.length_map,zaZ]; omega
          rw [List.append_assoc,List.drop_append_of_le_length (by omega),List.drop_eq_nil_of_le (by omega),List.nil_append,List.take_append_of_le_length (by rw [List.length_map]; exact Nat.le_refl _),List.take_of_length_le (by rw [List.length_map]; exact Nat.le_refl _)]
        have hlen:ys.length=xs.length:=by have:=congrArg List.length hys; simpa using this.symm
        have he:enc i a'=(enc i a).take off++ys++(enc i a).drop (off+ys.length):=by
          apply mapc_inj
          rw [hput,hys,hlen]
          simp
        have hbe:BE (.row i l' lv cv) (.row i (l'.set z.toNat a') lv (cv+1)):=⟨_,_,_,rfl,Nat.le_refl _,by omega,fun _=>by simp,fun e=>by omega⟩
        refine ⟨_,_,_,_,.tup [],σD.set b (OB (enc i) (l'.set z.toNat a')),op_storee (zaZ i) h1 rfl (H.row hb') rfl (at_get e2) h2 (by rw [h8,hys]) (by rw [hlen]; exact c2) hc.2.2 he rfl rfl,rt0,?_,H.set hb' hbe rfl (fun w cs e=>by simp at e),Ext.set hb' hbe,fun _=>?_,fun e=>by simp [totOp] at e,h⟩
        · intro p hp; simp at hp
        · simp only [wrOk,List.all_cons,List.all_nil,Bool.and_true]
          rw [H.row hb',zaT (H.row hb')]
          simp [Ob.sz,flat_len (zaZ i)]
      · simp at h
    · simp at h
  · simp at h
end
end Go.Abs
end
section
namespace Go.Abs
noncomputable section
variable [Gl] [Y:Ty]
variable {P:Program} {n:Nat} {alD:AL} {σ σ1:TH} {σD σD1:Heap} {o:AOp} {Q:TV→TH→Bool→List Nat→Prop} {rd:Opd→Option TV} {S:TSs} {hint:Nat} {R:Type} {k:KO R} {r:R} {orc:Orc}
abbrev Goal (P:Program) (orc:Orc) (n:Nat) (alD:AL) (σ:TH) (σD:Heap) (o:AOp) (k:KO R) (r:R):Prop:=OpK P orc n alD σ σD o (fun v σ1 rs wr=>k v σ1 rs wr=some r)
theorem new_cells {cs:List TC} {ds:List D} (h:ds=cs.map TC.er):RB (.cells 0 (cs.map fun c=>(0,c))) (.cells ds):=by
  subst h; simp [RB,TB.er,Function.comp_def]
theorem new_good {cs:List TC} (g:∀x∈cs,GC σ x):∀w cs',TB.cells 0 (cs.map fun c=>(0,c))=.cells w cs'→∀p∈cs',GC σ p.2∧p.1≤w:=by
  intro w cs' e p hp
  simp only [TB.cells.injEq] at e
  obtain ⟨rfl,rfl⟩:=e
  rw [List.mem_map] at hp
  obtain ⟨y,hy,rfl⟩:=hp
  exact ⟨g y hy,Nat.le_refl _⟩
theorem tbox_ok {x:Opd} (hr:RdOk σ alD rd) (H:RH σ σD) (h:tOp P S hint (.box x) rd σ k=some r):Goal P orc n alD σ σD (.box x) k r:=by
  simp only [tOp] at h
  split at h
  · rename_i v hv
    obtain ⟨d,h1,h2,h3⟩:=hr _ _ hv
    split at h
    · rename_i cs hcs
      obtain ⟨h4,h5,_⟩:=cellsT_ok hcs h2
      refine OpK.new (v:=.c (.d (.ptr σ.length 0 cs.length))) (d:=.ptr σ.length 0 cs.length) (ob:=.cells (cs.map TC.er)) (op_box h1 h4 (by rw [H.len,List.length_map]) rfl) (Or.inr rfl) ?_ H (new_cells rfl) (new_good (cellsT_good hcs h3)) h
      show D.low _ _=true
      simp [D.low]
    · simp at h
  · simp at h
theorem talloc_ok {z:List D} (H:RH σ σD) (h:tOp P S hint (.alloc z) rd σ k=some r):Goal P orc n alD σ σD (.alloc z) k r:=by
  simp only [tOp] at h
  split at h
  · rename_i hl
    have e:(z.map fun c=>((0:Nat),TC.d c))=(z.map TC.d).map fun c=>(0,c):=by simp
    rw [e] at h
    refine OpK.new (v:=.c (.d (.ptr σ.length 0 z.length))) (d:=.ptr σ.length 0 z.length) (ob:=.cells z) (op_alloc (by rw [H.len]) rfl) (Or.inr rfl) ?_ H (new_cells (by simp [TC.er,Function.comp_def])) (new_good (ds_good hl)) h
    show D.low _ _=true
    simp [D.low]
  · simp at h
theorem tbuild_ok {z:List D} {ps:List (Nat×Nat×Opd)} (hr:RdOk σ alD rd) (H:RH σ σD) (h:tOp P S hint (.build z ps) rd σ k=some r):Goal P orc n alD σ σD (.build z ps) k r:=by
  simp only [tOp] at h
  split at h
  · rename_i cs hl hcs
    obtain ⟨ds,h1,h2,h3⟩:=fillT_ok hr hcs (All2.ds z) (ds_good hl)
    exact OpK.pure (v:=.agg cs) (op_build h1) ⟨ds,rfl,h2⟩ h3 H h
  · simp at h
theorem own_good {i b m:Nat} {l:List (TT i)} (hm:m=l.length):GC (σ++[TB.row i l 0 0]) (.own i σ.length 0 m):=by
  refine ⟨_,by rw [List.getElem?_append_right (Nat.le_refl _),Nat.sub_self]; rfl,fun j l' lv cv e=>?_⟩
  simp only [TB.row.injEq] at e
  obtain ⟨rfl,hl,rfl,rfl⟩:=e
  cases hl
  exact ⟨Nat.le_refl _,fun _=>⟨rfl,hm⟩⟩
theorem noAny_ok:∀{cs:List TC},noAny cs=true→∀y∈cs,y≠.any:=by
  intro cs
  induction cs with
  | nil=>intro _ y hy; simp at hy
  | cons x cs ih =>
    intro h y hy
    simp only [noAny,Bool.and_eq_true,Bool.not_eq_true'] at h
    rcases List.mem_cons.1 hy with rfl | hy
    · intro e; subst e; simp [isAny] at h
    · exact ih h.2 y hy
theorem tbslice_ok {es len:Nat} {z:List D} {ps:List (Nat×Nat×Opd)} (hr:RdOk σ alD rd) (H:RH σ σD) (h:tOp P S hint (.bslice es len z ps) rd σ k=some r):Goal P orc n alD σ σD (.bslice es len z ps) k r:=by
  simp only [tOp] at h
  split at h
  · split at h
    · rename_i cs hl hcs
      obtain ⟨ds,h1,h2,h3⟩:=fillT_ok hr hcs (All2.ds (zeros len z)) (zeros_low hl len)
      split at h
      rotate_left
      · simp at h
      rename_i hna
      have e:ds=cs.map TC.er:=h2.eq (noAny_ok hna)
      refine OpK.new (v:=.c (.d (.sl σ.length 0 len es cs.length))) (d:=.sl σ.length 0 len es ds.length) (blk:=.cells 0 (cs.map fun c=>(0,c))) (ob:=.cells ds) (op_bslice h1 (by rw [H.len]) rfl) (Or.inr ?_) ?_ H (new_cells e) (new_good h3) h
      · rw [e,List.length_map]; rfl
      · show D.low _ _=true; simp [D.low]
    · simp at h
  split at h
  · rename_i cs hl hcs
    simp only [Bool.and_eq_true] at hl
    have he:=Nat.eq_of_beq_eq_true hl.1
    subst he
    split at h
    · rename_i l hrow
      obtain ⟨ds,h1,h2,h3⟩:=fillT_ok hr hcs (All2.ds (zeros len z)) (zeros_low hl.2 len)
      obtain ⟨h4,h5⟩:=mkRow_ok hrow h2
      refine OpK.new (v:=.c (.own hint σ.length 0 len)) (d:=OS (esz hint) σ.length len) (ob:=OB (enc hint) l) (op_bslice_own h1 h4 h5 (zaZ hint) rfl (by rw [H.len]) rfl) (Or.inr rfl) (own_good (b:=0) h5.symm) H rfl (fun w cs e=>by simp at e) h
    · simp at h
  · simp at h
theorem tnilck_ok {x:Opd} (hr:RdOk σ alD rd) (H:RH σ σD) (h:tOp P S hint (.nilck x) rd σ k=some r):Goal P orc n alD σ σD (.nilck x) k r:=by
  simp only [tOp] at h
  split at h
  · rename_i hx; obtain ⟨h1,g⟩:=hr.c hx (by simp); exact OpK.one h (op_nilck h1) rfl g H
  · rename_i hx; obtain ⟨h1,g⟩:=hr.c hx (by simp); exact OpK.one h (op_nilckc h1) rfl g H
  · rename_i hx; obtain ⟨h1,g⟩:=hr.c hx (by simp); exact OpK.one h (op_nilckn h1) rfl g H
  · rename_i hx; obtain ⟨h1,g⟩:=hr.c hx (by simp); exact OpK.one h (op_nilckf h1) rfl g H
  · rename_i hx; obtain ⟨h1,g⟩:=hr.c hx (by simp); exact OpK.one h (op_nilck h1) rfl g H
  · simp at h
theorem tisnil_ok {kd:Nat} {neg:Bool} {x:Opd} (hr:RdOk σ alD rd) (H:RH σ σD) (h:tOp P S hint (.isnil kd neg x) rd σ k=some r):Goal P orc n alD σ σD (.isnil kd neg x) k r:=by
  simp only [tOp] at h
  split at h
  · rename_i y hx
    obtain ⟨h1,g⟩:=hr.c hx (by simp)
    split at h
    · rename_i hb; exact OpK.one h (op_isnil h1 hb) (by cases neg <;> rfl) rfl H
    · rename_i hb; exact OpK.one h (op_isnil h1 hb) (by cases neg <;> rfl) rfl H
    · simp at h
  · rename_i hx
    obtain ⟨h1,g⟩:=hr.c hx (by simp)
    split at h
    · exact OpK.one h (op_isnil (b:=false) h1 rfl) (by cases neg <;> rfl) rfl H
    · simp at h
  · rename_i hx
    obtain ⟨h1,g⟩:=hr.c hx (by simp)
    split at h
    · exact OpK.one h (op_isnil (b:=false) h1 rfl) (by cases neg <;> rfl) rfl H
    · simp at h
  · simp at h
theorem tfld_ok {off:Nat} {x:Opd} (hr:RdOk σ alD rd) (H:RH σ σD) (h:tOp P S hint (.fld off x) rd σ k=some r):Goal P orc n alD σ σD (.fld off x) k r:=by
  simp only [tOp] at h
  split at h
  · rename_i hx; obtain ⟨h1,g⟩:=hr.c hx (by simp); exact OpK.one h (op_fld h1) rfl g H
  · rename_i hx; obtain ⟨h1,g⟩:=hr.c hx (by simp); exact OpK.one h (op_fldf h1) rfl True.intro H
  · rename_i hx; obtain ⟨h1,g⟩:=hr.c hx (by simp); exact OpK.one h (op_fld h1) (by simp only [TC.er,Nat.add_assoc]) g H
  · simp at h
theorem op_idxR {len j es b off sz:Nat} {x i:Opd} {q:Int} (h:lx alD x=some (.ptr b off sz)) (hi:lx alD i=some (I q)) (hk:inR q len=some j):OpR P orc n alD σD (.idx es (some len) x i) (.ptr b (off+j * es) sz) σD []:=fun e he=>by
  simp [zaG,zaP he h,zaP he hi,zb5,hk]
theorem op_good {i b v q:Nat} {k:Int} {a:TT i} {l:List (TT i)} {lv cv:Nat} (hb:σ[b]? = some (.row i l lv cv)) (ha:at? l k=some a):GC σ (.op i b cv l.length k a 0):=by
  refine ⟨_,hb,fun j l' lv' cv' e=>?_⟩
  simp only [TB.row.injEq] at e
  obtain ⟨rfl,hl,rfl,rfl⟩:=e
  cases hl
  refine ⟨Nat.le_refl _,fun _=>⟨l,?_,rfl,ha⟩⟩
  unfold castL
  split
  · rfl
  · rename_i hne _; exact absurd rfl hne
theorem tidx_ok {es:Nat} {len:Option Nat} {x i:Opd} (hr:RdOk σ alD rd) (H:RH σ σD) (h:tOp P S hint (.idx es len x i) rd σ k=some r):Goal P orc n alD σ σD (.idx es len x i) k r:=by
  cases len with
  | none =>
    simp only [tOp] at h
    split at h
    · rename_i j l iv hx hi
      obtain ⟨h1,g⟩:=hr.c hx (by simp)
      split at h
      · rename_i q hq he
        have he:=Nat.eq_of_beq_eq_true he
        subst he
        obtain ⟨a,ha,hk⟩:=zbE h
        exact OpK.one hk (op_idx h1 (hr.int hi hq) ha (zaZ j a)) rfl True.intro H
      · simp at h
    · rename_i j b v m iv hx hi
      obtain ⟨h1,g⟩:=hr.c hx (by simp)
      split at h
      · rename_i q j' l lv cv hq he hb
        have he:=Nat.eq_of_beq_eq_true he
        subst he
        split at h
        · rename_i l' hv hl
          obtain ⟨a,ha,hk⟩:=zbE h
          obtain ⟨rfl,rfl⟩:=own_row H g hb hv
          have hb':=row_cast H hb hl
          rw [hb] at hb'
          simp only [Option.some.injEq,TB.row.injEq,heq_eq_eq,true_and,and_true] at hb'
          subst hb'
          exact OpK.one hk (op_idx_own (zaZ _) h1 (H.row hb) rfl (hr.int hi hq) ha) rfl (op_good (v:=0) (q:=0) hb ha) H
        · simp at h
      · simp at h
    · rename_i b off ln es' sz iv hx hi
      obtain ⟨h1,g⟩:=hr.c hx (by simp)
      split at h
      · rename_i q w cs hq hb
        obtain ⟨ds,h2,h3,h4,_⟩:=H.cells hb
        split at h
        · rename_i j hc hj
          simp only [Bool.and_eq_true] at hc
          have e1:=Nat.eq_of_beq_eq_true hc.1
          have e2:=Nat.eq_of_beq_eq_true hc.2
          subst e2
          exact OpK.one h (op_idxS (cs:=ds) h1 (hr.int hi hq) (zc8 h2 (by rw [h4]; exact e1)) hj rfl) rfl g H
        · simp at h
      · simp at h
    · simp at h
  | some len =>
    cases i with
    | k i =>
      simp only [tOp] at h
      split at h
      · rename_i b off sz q hx hq
        obtain ⟨h1,g⟩:=hr.c hx (by simp)
        split at h
        · rename_i j hj
          have hi:lx alD (.k i)=some (I q):=by
            have:=intT_ok (d:=i) hq (by
              unfold ofD at hq ⊢
              split at hq
              · simp [intT] at hq
              · exact Or.inr rfl)
            simp only [lx,this]
          exact OpK.one h (op_idxR h1 hi hj) rfl g H
        · simp at h
      · simp at h
    | t i =>
      simp only [tOp] at h
      split at h
      · rename_i b off sz iv hx hi
        obtain ⟨h1,g⟩:=hr.c hx (by simp)
        split at h
        · rename_i q w cs hq he hb
          have he:=Nat.eq_of_beq_eq_true he
          subst he
          obtain ⟨ds,h2,h3,h4,_⟩:=H.cells hb
          split at h
          · rename_i l hs hl
            simp only [Bool.and_eq_true] at hs
            obtain ⟨a,ha,hk⟩:=zbE h
            have h5:=ints_ok hl ((h3.drop off).take len)
            have hlen:l.length=len:=by
              have:=congrArg List.length h5
              have q1:=Nat.eq_of_beq_eq_true hs.1
              have q2:=Nat.le_of_ble_eq_true hs.2
              rw [List.length_take,List.length_drop,List.length_map] at this
              omega
            have hlow:b<σ.length:=(List.getElem?_eq_some_iff.1 hb).1
            exact OpK.one hk (op_idxA h1 (hr.int hi hq) ha hlen rfl) rfl hlow H
          · simp at h
        · simp at h
      · simp at h
theorem op_slcO {α:Type} {f:α→List C} {esz:Nat} {x:Opd} {lo hi:Option Opd} {b:Nat} {l r:List α} {i j:Int} (hf:∀a,(f a).length=esz) (h:lx alD x=some (OS esz b l.length)) (hb:σD[b]? = some (OB f l)) (hlo:(match lo with | none=>some (I 0) | some o=>lx alD o)=some (I i))
    (hhi:(match hi with | none=>some (I l.length) | some o=>lx alD o)=some (I j)) (hr:slice? l i j=some r):OpR P orc n alD σD (.slc esz x lo hi) (.sl b (0+i.toNat * esz) (j.toNat-i.toNat) esz (l.length * esz)) σD []:=fun e he=>by
  unfold slice? at hr
  split at hr
  · rename_i hc
    have hrow:zcB σD b (l.length * esz)=some ((l.flatMap f).map .c):=zc8 hb (by
      rw [List.length_map]
      clear hb h hlo hhi hr hc
      induction l with
      | nil=>simp
      | cons a l ih=>rw [List.flatMap_cons,List.length_append,hf,ih,List.length_cons,Nat.add_mul,Nat.one_mul,Nat.add_comm])
    have hh:zaL e l.length l.length hi=some j.toNat:=by
      cases hi with
      | none=>simp only [Option.some.injEq,I,D.c.injEq,C.lit.injEq,Value.int.injEq,true_and] at hhi; subst hhi; simp [zaL]
      | some o =>
        simp only at hhi
        simp only [zaL,zaP he hhi,zb5,Option.bind_some,inB]
        rw [if_pos (by omega)]
    have hl:zaL e 0 j.toNat lo=some i.toNat:=by
      cases lo with
      | none=>simp only [Option.some.injEq,I,D.c.injEq,C.lit.injEq,Value.int.injEq,true_and] at hlo; subst hlo; simp [zaL]
      | some o =>
        simp only at hlo
        simp only [zaL,zaP he hlo,zb5,Option.bind_some,inB]
        rw [if_pos (by omega)]
    simp only [zaG,zaP he h,hrow,hh,hl,Option.bind_eq_bind,Option.bind_some,if_true]
  · simp at hr
theorem tslc_ok {es:Nat} {x:Opd} {lo hi:Option Opd} (hr:RdOk σ alD rd) (H:RH σ σD) (h:tOp P S hint (.slc es x lo hi) rd σ k=some r):Goal P orc n alD σ σD (.slc es x lo hi) k r:=by
  simp only [tOp] at h
  split at h
  · rename_i j l hx
    obtain ⟨h1,g⟩:=hr.c hx (by simp)
    split at h
    · rename_i u v he hu hv
      have he:=Nat.eq_of_beq_eq_true he
      subst he
      split at h
      · rename_i u' v' hu' hv'
        obtain ⟨a,ha,hk⟩:=zbE h
        refine OpK.one hk (op_slc (i:=u') (j:=v') (zaZ j) h1 ?_ ?_ ha) rfl True.intro H
        · cases lo with
          | none=>simp only [Option.some.injEq] at hu; subst hu; simp only [intT,Option.some.injEq] at hu'; subst hu'; rfl
          | some o=>exact hr.int hu hu'
        · cases hi with
          | none=>simp only [Option.some.injEq] at hv; subst hv; simp only [intT,Option.some.injEq] at hv'; subst hv'; rfl
          | some o=>exact hr.int hv hv'
      · simp at h
    · simp at h
  · rename_i j b vv n hx
    obtain ⟨h1,g⟩:=hr.c hx (by simp)
    split at h
    · rename_i j2 l lv cv he hb
      have he:=Nat.eq_of_beq_eq_true he
      subst he
      split at h
      · rename_i u v hvv hu hv
        obtain ⟨rfl,rfl⟩:=own_row H g hb hvv
        split at h
        · rename_i u' v' hu' hv'
          obtain ⟨a,ha,hk⟩:=zbE h
          have hb':=H.row hb
          refine ⟨.c (.os j2 b vv l.length u'.toNat (v'.toNat-u'.toNat)),σ,false,[],_,σD,op_slcO (l:=l) (i:=u') (j:=v') (zaZ j2) h1 hb' ?_ ?_ ha,.inr rfl,?_,H,Ext.refl σ,fun _=>rfl,fun _=>⟨rfl,rfl,rfl⟩,hk⟩
          · cases lo with
            | none=>simp only [Option.some.injEq] at hu; subst hu; simp only [intT,Option.some.injEq] at hu'; subst hu'; rfl
            | some o=>exact hr.int hu hu'
          · cases hi with
            | none=>simp only [Option.some.injEq] at hv; subst hv; simp only [intT,Option.some.injEq] at hv'; subst hv'; rfl
            | some o=>exact hr.int hv hv'
          · refine ⟨_,hb,fun j l' lv' cv' e=>?_⟩
            simp only [TB.row.injEq] at e
            obtain ⟨rfl,hl',rfl,rfl⟩:=e
            cases hl'
            have hvq:=Nat.eq_of_beq_eq_true hvv
            unfold slice? at ha
            split at ha
            · exact ⟨Nat.le_of_eq hvq.symm,fun _=>⟨rfl,rfl,by omega⟩⟩
            · simp at ha
        · simp at h
      · simp at h
    · simp at h
  · simp at h
theorem tmkmap_ok (H:RH σ σD) (h:tOp P S hint .mkmap rd σ k=some r):Goal P orc n alD σ σD .mkmap k r:=by
  simp only [tOp] at h
  exact OpK.new (v:=.c (.d (.mp σ.length))) (d:=.mp σ.length) (blk:=.mp (hint / 2) (Nat.beq (hint % 2) 1) [] 0) (ob:=MB (mpE (hint / 2) (Nat.beq (hint % 2) 1)) []) (op_mkmap (g:=mpE (hint / 2) (Nat.beq (hint % 2) 1)) (by rw [H.len]) rfl) (Or.inr rfl) (by show D.low _ _=true; simp [D.low]) H rfl (fun w cs e=>by simp at e) h
theorem headD_er (j:Nat) (a:TT j):((exp j a).headD (.d (.c (.lit undef)))).er=.c ((enc j a).headD (.lit undef)):=by
  have h:=exp_er j a
  cases e1:exp j a with
  | nil =>
    rw [e1] at h
    cases e2:enc j a with
    | nil=>rfl
    | cons c cs=>rw [e2] at h; simp at h
  | cons x xs =>
    rw [e1] at h
    cases e2:enc j a with
    | nil=>rw [e2] at h; simp at h
    | cons c cs=>rw [e2] at h; simp only [List.map_cons,List.cons.injEq] at h; exact h.1
theorem mpV_ok (j:Nat) (st:Bool) (a:TT j):RT (mpV j st a) (mpE j st a)∧GV σ (mpV j st a):=by
  cases st with
  | true=>exact ⟨⟨_,rfl,by rw [←exp_er]; exact All2.er _⟩,exp_good j a⟩
  | false =>
    refine ⟨.inr ?_,?_⟩
    · rw [headD_er]; rfl
    · show GC σ ((exp j a).headD (.d (.c (.lit undef))))
      cases e:exp j a with
      | nil=>rfl
      | cons x xs=>exact exp_good j a x (by rw [e]; exact List.mem_cons_self ..)
theorem lkRes_ok {ok e:Bool} {v:TV} {d:D} (h:RT v d) (g:GV σ v) (hn:∀xs,v≠.tup xs):RT (lkRes ok v e) (if ok then .tup [d,B e] else d)∧GV σ (lkRes ok v e):=by
  cases ok with
  | false=>exact ⟨h,g⟩
  | true =>
    cases v with
    | tup xs=>exact absurd rfl (hn xs)
    | c x => exact ⟨⟨_, rfl, .cons ⟨x, rfl, h⟩ (.cons ⟨_, rfl, .inr rfl⟩ .nil)⟩, fun p hp y hy => by
        rcases List.mem_cons.1 hp with rfl | hp
        · rcases List.mem_cons.1 hy with rfl | hy
          · exact g
          · simp at hy
        · rcases List.mem_cons.1 hp with rfl | hp
          · rcases List.mem_cons.1 hy with rfl | hy
            · rfl
            · simp at hy
          · simp at hp⟩
    | agg xs=>exact ⟨⟨_,rfl,.cons h (.cons ⟨_,rfl,.inr rfl⟩ .nil)⟩,fun p hp y hy=>by
        rcases List.mem_cons.1 hp with rfl | hp
        · exact g y hy
        · rcases List.mem_cons.1 hp with rfl | hp
          · rcases List.mem_cons.1 hy with rfl | hy
            · rfl
            · simp at hy
          · simp at hp⟩
theorem mpV_nt (j:Nat) (st:Bool) (a:TT j):∀xs,mpV j st a≠.tup xs:=by
  intro xs h
  cases st <;> simp [mpV] at h
theorem ofD_nt (d:D):∀xs,ofD d≠.tup xs:=by
  intro xs h
  cases d <;> simp [ofD] at h
theorem ofD_okg {d:D} (h:d.low 0=true):RT (ofD d) d∧GV σ (ofD d):=by
  have one:∀d:D,d.low 0=true→RT (.c (.d d)) d∧GV σ (.c (.d d)):=fun d h=>⟨.inr rfl,D.low_mono (Nat.zero_le _) h⟩
  cases d with
  | agg ds =>
    simp only [D.low] at h
    refine ⟨⟨ds,rfl,All2.ds ds⟩,fun x hx=>?_⟩
    rw [List.mem_map] at hx
    obtain ⟨y,hy,rfl⟩:=hx
    exact lows_mem h y hy
  | _=>exact one _ h
theorem tlookup_ok {kind:TypeDesc} {zero:D} {m kx:Opd} {ok:Bool} (hr:RdOk σ alD rd) (H:RH σ σD) (h:tOp P S hint (.lookup kind zero m kx ok) rd σ k=some r):Goal P orc n alD σ σD (.lookup kind zero m kx ok) k r:=by
  simp only [tOp] at h
  split at h
  · rename_i ik b kv hm hk hz
    obtain ⟨h1,g⟩:=hr.c hm (by simp)
    split at h
    · rename_i j st l v x hb hx
      obtain ⟨ob,e1,e2⟩:=H.hp b _ hb
      have e2:ob=MB (mpE j st) l:=e2
      subst e2
      cases hq:mget l x with
      | none =>
        rw [hq] at h
        obtain ⟨z1,z2⟩:=ofD_okg (σ:=σ) hz
        obtain ⟨q1,q2⟩:=lkRes_ok (ok:=ok) (e:=false) z1 z2 (ofD_nt zero)
        exact OpK.pure (op_lookN h1 e1 (hr.int hk hx) hq rfl) q1 q2 H h
      | some a =>
        rw [hq] at h
        obtain ⟨z1,z2⟩:=mpV_ok (σ:=σ) j st a
        obtain ⟨q1,q2⟩:=lkRes_ok (ok:=ok) (e:=true) z1 z2 (mpV_nt j st a)
        exact OpK.pure (op_look h1 e1 (hr.int hk hx) hq rfl) q1 q2 H h
    · simp at h
  · simp at h
theorem mkM_ok {j:Nat} {st:Bool} {v:TV} {d:D} {a:TT j} (h:mkM j st v=some a) (r:RT v d):d=mpE j st a:=by
  unfold mkM at h
  split at h
  · rename_i xs
    obtain ⟨ds,rfl,hd⟩:=r
    obtain ⟨e1,e2⟩:=mkT_ok h
    rw [hd.eq e2,e1]
    rfl
  · rename_i x
    obtain ⟨e1,e2⟩:=mkT_ok h
    have:=RT.c1 (e2 x (List.mem_cons_self ..)) r
    subst this
    cases e:enc j a with
    | nil=>rw [e] at e1; simp at e1
    | cons c cs =>
      rw [e] at e1
      simp only [List.map_cons,List.map_nil,List.cons.injEq] at e1
      simp only [mpE,e,e1.1,List.headD_cons]
      rfl
  · simp at h
theorem tupd_ok {kind:TypeDesc} {m kx x:Opd} (hr:RdOk σ alD rd) (H:RH σ σD) (h:tOp P S hint (.upd kind m kx x) rd σ k=some r):Goal P orc n alD σ σD (.upd kind m kx x) k r:=by
  simp only [tOp] at h
  split at h
  · rename_i ik b kv v hm hk hx
    obtain ⟨h1,g⟩:=hr.c hm (by simp)
    obtain ⟨d,h2,h3,h4⟩:=hr _ _ hx
    split at h
    · rename_i j st l ver i hb hi
      obtain ⟨ob,e1,e2⟩:=H.hp b _ hb
      have e2:ob=MB (mpE j st) l:=e2
      subst e2
      split at h
      · rename_i a ha
        have:=mkM_ok ha h3
        subst this
        have hbe:BE (.mp j st l ver) (.mp j st (mset l i a) (ver+1)):=⟨_,_,_,_,rfl,by omega,fun e=>by omega⟩
        refine ⟨_,_,_,_,.tup [],σD.set b (MB (mpE j st) (mset l i a)),op_upd h1 e1 (hr.int hk hi) h2 rfl,rt0,?_,H.set hb hbe rfl (fun w cs e=>by simp at e),Ext.set hb hbe,fun _=>?_,fun e=>by simp [totOp] at e,h⟩
        · intro p hp; simp at hp
        · simp only [wrOk,List.all_cons,List.all_nil,Bool.and_true]
          rw [e1,zaT e1]
          rfl
      · simp at h
    · simp at h
  · simp at h
theorem tdel_ok {kind:TypeDesc} {m kx:Opd} (hr:RdOk σ alD rd) (H:RH σ σD) (h:tOp P S hint (.del kind m kx) rd σ k=some r):Goal P orc n alD σ σD (.del kind m kx) k r:=by
  simp only [tOp] at h
  split at h
  · rename_i ik b kv hm hk
    obtain ⟨h1,g⟩:=hr.c hm (by simp)
    split at h
    · rename_i j st l ver i hb hi
      obtain ⟨ob,e1,e2⟩:=H.hp b _ hb
      have e2:ob=MB (mpE j st) l:=e2
      subst e2
      have hbe:BE (.mp j st l ver) (.mp j st (mdel l i) (ver+1)):=⟨_,_,_,_,rfl,by omega,fun e=>by omega⟩
      refine ⟨_,_,_,_,.tup [],σD.set b (MB (mpE j st) (mdel l i)),op_del h1 e1 (hr.int hk hi) rfl,rt0,?_,H.set hb hbe rfl (fun w cs e=>by simp at e),Ext.set hb hbe,fun _=>?_,fun e=>by simp [totOp] at e,h⟩
      · intro p hp; simp at hp
      · simp only [wrOk,List.all_cons,List.all_nil,Bool.and_true]
        rw [e1,zaT e1]
        rfl
    · simp at h
  · simp at h
theorem tlen_ok {x:Opd} (hr:RdOk σ alD rd) (H:RH σ σD) (h:tOp P S hint (.len x) rd σ k=some r):Goal P orc n alD σ σD (.len x) k r:=by
  simp only [tOp] at h
  split at h
  · rename_i i l hx; obtain ⟨h1,g⟩:=hr.c hx (by simp); exact OpK.one h (op_len h1) rfl rfl H
  · rename_i hx; obtain ⟨h1,g⟩:=hr.c hx (by simp); exact OpK.one h (op_len0 h1) rfl rfl H
  · rename_i i b v q hx
    obtain ⟨h1,g⟩:=hr.c hx (by simp)
    split at h
    · rename_i j l lv cv hb
      split at h
      · rename_i hv
        obtain ⟨rfl,rfl⟩:=own_row H g hb hv
        exact OpK.one h (op_len_own (zaZ _) h1 (H.row hb) rfl) rfl rfl H
      · simp at h
    · simp at h
  · rename_i b off ln es sz hx
    obtain ⟨h1,g⟩:=hr.c hx (by simp)
    split at h
    · rename_i w cs hb
      obtain ⟨ds,h2,h3,h4,_⟩:=H.cells hb
      split at h
      · rename_i hc
        have e1:=Nat.eq_of_beq_eq_true hc
        exact OpK.one h (op_lenS (cs:=ds) h1 (zc8 h2 (by rw [h4]; exact e1)) rfl) rfl rfl H
      · simp at h
    · simp at h
  · simp at h
theorem tmk_ok {es bytes:Nat} {z:List D} {x y:Opd} (hr:RdOk σ alD rd) (H:RH σ σD) (h:tOp P S hint (.mk es bytes z x y) rd σ k=some r):Goal P orc n alD σ σD (.mk es bytes z x y) k r:=by
  simp only [tOp] at h
  split at h
  · rename_i z0 u v hc hz hu hv
    simp only [Bool.and_eq_true] at hc
    have he:=Nat.eq_of_beq_eq_true hc.1
    subst he
    split at h
    · rename_i u' v' hu' hv'
      obtain ⟨l,hl,hk⟩:=zbE h
      obtain ⟨h3,_⟩:=mkT_ok hz
      have hz':z=(enc hint z0).map .c:=by rw [←h3]; simp [TC.er,Function.comp_def]
      refine OpK.new (v:=.c (.own hint σ.length 0 l.length)) (d:=OS (esz hint) σ.length l.length) (ob:=OB (enc hint) l) (op_mk (hr.int hu hu') (hr.int hv hv') hz' hl hc.2.1 (by rw [H.len]) rfl) (Or.inr rfl) (own_good (b:=0) rfl) H rfl (fun w cs e=>by simp at e) hk
    · simp at h
  · rename_i v hc hz hu hv
    simp only [Bool.and_eq_true] at hc
    have he:=Nat.eq_of_beq_eq_true hc.1
    subst he
    split at h
    · rename_i v' hv'
      obtain ⟨l,hl,hk⟩:=zbE h
      refine OpK.new (v:=.c (.own hint σ.length 0 l.length)) (d:=OS (esz hint) σ.length l.length) (ob:=OB (enc hint) l) (op_mk0 (hr.int hu rfl) (hr.int hv hv') hl hc.2.1 (by rw [H.len]) rfl) (Or.inr rfl) (own_good (b:=0) rfl) H rfl (fun w cs e=>by simp at e) hk
    · simp at h
  · simp at h
theorem tapp_ok {es bytes:Nat} {s x:Opd} (hr:RdOk σ alD rd) (H:RH σ σD) (h:tOp P S hint (.append es bytes s x) rd σ k=some r):Goal P orc n alD σ σD (.append es bytes s x) k r:=by
  simp only [tOp] at h
  split at h
  · rename_i i b v q y hs hx
    obtain ⟨h1,g⟩:=hr.c hs (by simp)
    obtain ⟨d,h2,h3,h4⟩:=hr _ _ hx
    split at h
    · rename_i j l lv cv hb
      split at h
      · rename_i l' m hc hl hm
        simp only [Bool.and_eq_true] at hc
        have he:=Nat.eq_of_beq_eq_true hc.2.1
        subst he
        obtain ⟨rfl,rfl⟩:=own_row H g hb hc.1
        have hb':=row_cast H hb hl
        rw [hb] at hb'
        simp only [Option.some.injEq,TB.row.injEq,heq_eq_eq,true_and,and_true] at hb'
        subst hb'
        obtain ⟨rr,ha,hk⟩:=zbE h
        have hbe:BE (.row j l lv cv) (.row j rr (lv+1) (cv+1)):=⟨_,_,_,rfl,by omega,by omega,fun e=>by omega,fun e=>by omega⟩
        refine ⟨.c (.own j b (lv+1) rr.length),_,true,[b],OS (esz j) b rr.length,_,op_append (zaZ j) h1 (H.row hb) rfl h2 (srcT_ok H hm h3 h4) ha hc.2.2 rfl rfl,Or.inr rfl,?_,H.set hb hbe rfl (fun w cs e=>by simp at e),Ext.set hb hbe,fun e=>by simp at e,fun e=>by simp [totOp] at e,hk⟩
        refine ⟨_,zaT hb,fun j' l' lv' cv' e=>?_⟩
        simp only [TB.row.injEq] at e
        obtain ⟨rfl,hl,rfl,rfl⟩:=e
        cases hl
        exact ⟨Nat.le_refl _,fun _=>⟨rfl,rfl⟩⟩
      · simp at h
    · simp at h
  · rename_i i b v q hs hx
    obtain ⟨h1,_⟩:=hr.c hs (by simp)
    obtain ⟨d,h2,h3,h4⟩:=hr _ _ hx
    split at h
    · rename_i a l hc hm
      simp only [Bool.and_eq_true] at hc
      have he:=Nat.eq_of_beq_eq_true hc.1
      subst he
      split at h
      · rename_i hle
        exact OpK.new (v:=.c (.own i σ.length 0 (a::l).length)) (d:=OS (esz i) σ.length (a::l).length) (ob:=OB (enc i) (a::l)) (op_appendN h1 h2 (srcT_ok H hm h3 h4) hle hc.2 (by rw [H.len]) rfl) (Or.inr rfl) (own_good (b:=0) rfl) H rfl (fun w cs e=>by simp at e) h
      · simp at h
    · simp at h
  · rename_i i ll hs hx
    obtain ⟨h1,_⟩:=hr.c hs (by simp)
    obtain ⟨d,h2,h3,h4⟩:=hr _ _ hx
    split at h
    · rename_i hc
      simp only [Bool.and_eq_true] at hc
      have he:=Nat.eq_of_beq_eq_true hc.1
      subst he
      rw [Option.bind_eq_some_iff] at h
      obtain ⟨rr,ha,h⟩:=h
      obtain ⟨hle,e⟩:=app_some ha
      rw [e] at h
      have hm:srcT i σ (.c (.sl i ll))=some ([]++ll):=by
        simp only [srcT,castL,List.nil_append]
        split
        · rfl
        · rename_i h _; exact absurd rfl h
      exact OpK.new (v:=.c (.own i σ.length 0 ([]++ll).length)) (d:=OS (esz i) σ.length ([]++ll).length) (ob:=OB (enc i) ([]++ll)) (op_appendN h1 h2 (srcT_ok H hm h3 h4) (Nat.ble_eq.mpr (by simpa using hle)) hc.2 (by rw [H.len]) rfl) (Or.inr rfl) (own_good (b:=0) rfl) H rfl (fun w cs e=>by simp at e) h
    · simp at h
  · simp at h
theorem tcopy1xok {es:Nat} {d s:Opd} {y:TV} {i b lo len:Nat} {l:List (TT i)} {m:List (TT i)} {lv cv:Nat} (hr:RdOk σ alD rd) (H:RH σ σD) (h1:lx alD d=some (.sl b (0+lo * esz i) len (esz i) (l.length * esz i))) (hx:rd s=some y) (hm:srcT i σ y=some m)
    (hb:σ[b]? = some (.row i l lv cv)) (hle:lo+len≤l.length) (he:es=esz i) (h:k (.c (.d (I ((m.take len).length:Int)))) (σ.set b (.row i (cpL l m lo len) lv (cv+1))) false [b]=some r):Goal P orc n alD σ σD (.copy es d s) k r:=by
  subst he
  obtain ⟨dd,h2,h3,h4⟩:=hr _ _ hx
  have hbe:BE (.row i l lv cv) (.row i (cpL l m lo len) lv (cv+1)):=⟨_,_,_,rfl,Nat.le_refl _,by omega,fun _=>cpL_len hle,fun e=>by omega⟩
  refine ⟨.c (.d (I ((m.take len).length:Int))),_,false,[b],_,_,op_copy (zaZ i) h1 (H.row hb) hle h2 (srcN_ok H hm h3 h4) rfl,.inr rfl,rfl,H.set hb hbe rfl (fun w cs e=>by simp at e),Ext.set hb hbe,fun _=>?_,fun e=>by simp [totOp] at e,h⟩
  simp only [wrOk,List.all_cons,List.all_nil,Bool.and_true]
  rw [H.row hb,zaT (H.row hb)]
  simp [Ob.sz,flat_len (zaZ i),cpL_len hle]
theorem tcopy_ok {es:Nat} {d s:Opd} (hr:RdOk σ alD rd) (H:RH σ σD) (h:tOp P S hint (.copy es d s) rd σ k=some r):Goal P orc n alD σ σD (.copy es d s) k r:=by
  simp only [tOp] at h
  split at h
  · rename_i i b v q y hd hx
    obtain ⟨h1,g⟩:=hr.c hd (by simp)
    split at h
    · rename_i j l lv cv hb
      split at h
      · rename_i l' m hc hl hm
        simp only [Bool.and_eq_true] at hc
        obtain ⟨rfl,rfl⟩:=own_row H g hb hc.1
        obtain ⟨_,rfl⟩:=zbS hl
        exact tcopy1xok (lo:=0) (len:=l'.length) hr H (by simpa [TC.er,OS] using h1) hx hm hb (by omega) (Nat.eq_of_beq_eq_true hc.2) h
      · simp at h
    · simp at h
  · rename_i i b v q lo len y hd hx
    obtain ⟨h1,g⟩:=hr.c hd (by simp)
    split at h
    · rename_i j l lv cv hb
      split at h
      · rename_i l' m hc hl hm
        simp only [Bool.and_eq_true] at hc
        obtain ⟨rfl,rfl,hle⟩:=os_row H g hb hc.1
        obtain ⟨_,rfl⟩:=zbS hl
        exact tcopy1xok hr H h1 hx hm hb hle (Nat.eq_of_beq_eq_true hc.2) h
      · simp at h
    · simp at h
  · simp at h
theorem textract_ok {x:Opd} {i:Nat} (hr:RdOk σ alD rd) (H:RH σ σD) (h:tOp P S hint (.extract x i) rd σ k=some r):Goal P orc n alD σ σD (.extract x i) k r:=by
  simp only [tOp] at h
  split at h
  · rename_i xs hx
    obtain ⟨d,h1,⟨ds,rfl,h2⟩,h3⟩:=hr _ _ hx
    split at h
    · rename_i cs hi
      obtain ⟨d,h4,es,rfl,h5⟩:=h2.get _ _ hi
      exact OpK.pure (v:=.agg cs) (op_extract h1 h4) ⟨es,rfl,h5⟩ (h3 _ (List.mem_of_getElem? hi)) H h
    · rename_i c hi
      obtain ⟨d,h4,y,e,h5⟩:=h2.get _ _ hi
      simp only [List.cons.injEq,and_true] at e
      subst e
      exact OpK.pure (v:=.c c) (op_extract h1 h4) h5 (h3 _ (List.mem_of_getElem? hi) c (by simp)) H h
    · simp at h
  · simp at h
theorem fnD_ok:∀{vs:List TV} {xs:List D} {ds:List D},vs.mapM (fun v=>(match v with | .c (.d x)=>some x | _=>none))=some xs→All3 vs ds→(∀v∈vs,GV σ v)→ds=xs∧D.low.lows σ.length xs=true:=by
  intro vs
  induction vs with
  | nil=>intro xs ds h r _; simp only [List.mapM_nil] at h; cases h; cases r; exact ⟨rfl,rfl⟩
  | cons v vs ih =>
    intro xs ds h r g
    cases r with
    | cons h1 r =>
      rw [List.mapM_cons] at h
      split at h
      · rename_i x
        cases h2:vs.mapM (fun v=>(match v with | .c (.d x)=>some x | _=>none)) with
        | none=>rw [h2] at h; simp at h
        | some ys =>
          rw [h2] at h
          cases h
          obtain ⟨h3,h4⟩:=ih h2 r fun v hv=>g v (List.mem_cons_of_mem _ hv)
          have h5:=RT.c1 (by simp) h1
          subst h3 h5
          refine ⟨rfl,?_⟩
          simp only [D.low.lows,h4,Bool.and_true]
          exact g _ (List.mem_cons_self ..)
      · simp at h
theorem tmkfn_ok {f:Fn} {first cap:List Opd} (hr:RdOk σ alD rd) (H:RH σ σD) (h:tOp P S hint (.mkfn f first cap) rd σ k=some r):Goal P orc n alD σ σD (.mkfn f first cap) k r:=by
  simp only [tOp] at h
  split at h
  · rename_i a b ha hb
    obtain ⟨ds,h1,h2,h3⟩:=hr.all ha
    obtain ⟨es,h4,h5,h6⟩:=hr.all hb
    split at h
    · rename_i a' b' ha' hb'
      obtain ⟨rfl,h7⟩:=fnD_ok ha' h2 h3
      obtain ⟨rfl,h8⟩:=fnD_ok hb' h5 h6
      refine OpK.one h (op_mkfn h1 h4) rfl ?_ H
      show D.low _ _=true
      simp only [D.low,h7,h8,Bool.and_self]
    · simp at h
  · simp at h
theorem tpart_ok {off:Nat} {m:Option Nat} {x:Opd} (hr:RdOk σ alD rd) (H:RH σ σD) (h:tOp P S hint (.part off m x) rd σ k=some r):Goal P orc n alD σ σD (.part off m x) k r:=by
  simp only [tOp] at h
  split at h
  · rename_i cs hx
    obtain ⟨d,h1,⟨ds,rfl,h2⟩,h3⟩:=hr _ _ hx
    split at h
    · rename_i v hv
      obtain ⟨d,h4,h5⟩:=getT_ok hv h2
      exact OpK.pure (op_part h1 h4) h5 (getT_good hv h3) H h
    · simp at h
  · simp at h
theorem op_aidxR {len j es:Nat} {m:Option Nat} {x i:Opd} {q:Int} {cs:List D} {d:D} (h:lx alD x=some (.agg cs)) (hi:lx alD i=some (I q)) (hk:inR q len=some j) (hg:zaO m cs (j * es)=some d):OpR P orc n alD σD (.aidx es len m x i) d σD []:=fun e he=>by
  simp [zaG,zaP he h,zaP he hi,zb5,hk,hg]
theorem taidx_ok {es len:Nat} {m:Option Nat} {x i:Opd} (hr:RdOk σ alD rd) (H:RH σ σD) (h:tOp P S hint (.aidx es len m x i) rd σ k=some r):Goal P orc n alD σ σD (.aidx es len m x i) k r:=by
  simp only [tOp] at h
  split at h
  · rename_i cs iv hx hi
    obtain ⟨d,h1,⟨ds,rfl,h2⟩,h3⟩:=hr _ _ hx
    split at h
    · rename_i q hq
      split at h
      · rename_i j hj
        split at h
        · rename_i v hv
          obtain ⟨d,h4,h5⟩:=getT_ok hv h2
          exact OpK.pure (op_aidxR h1 (hr.int hi hq) hj h4) h5 (getT_good hv h3) H h
        · simp at h
      · simp at h
    · rename_i q hq
      split at h
      · rename_i l hs hl
        simp only [Bool.and_eq_true] at hs
        have he:=Nat.eq_of_beq_eq_true hs.1
        have hn:=Nat.eq_of_beq_eq_true hs.2
        subst he
        obtain ⟨a,ha,hk⟩:=zbE h
        have h5:=ints_ok hl h2
        have hlen:l.length=len:=by rw [←hn,h2.len,h5,List.length_map]
        exact OpK.one hk (op_aidx (f:=fun z=>.c (.lit (.int .i64 z))) h1 (hr.int hi hq) ha h5 hlen) rfl rfl H
      · simp at h
    · simp at h
  · simp at h
theorem tcall_ok {f:Opd} {args:List Opd} (hr:RdOk σ alD rd) (H:RH σ σD) (h:tOp P S hint (.call f args) rd σ k=some r):Goal P (zcs (zc4 S)) n alD σ σD (.call f args) k r:=by
  simp only [tOp] at h
  split at h
  · rename_i g vs hf hvs
    obtain ⟨h1,_⟩:=hr.c hf (by simp)
    obtain ⟨ds,h2,h3,h4⟩:=hr.all hvs
    split at h
    · rename_i s hs
      split at h
      · rename_i a ha
        obtain ⟨q,hq,hk⟩:=zbE h
        exact OpK.pure (op_call h1 h2 (spc_ok hs h3 ha hq)) (outT_ok s.out q) (outT_good s.out q) H hk
      · split at h
        · rename_i a hc ha
          simp only [Bool.and_eq_true] at hc
          obtain ⟨q,hq,hk⟩:=zbE h
          exact OpK.pure (op_call h1 h2 (spc_lend H hs h4 h3 hc.1 hc.2 ha hq)) (outT_ok s.out q) (outT_good s.out q) H hk
        · simp at h
    · simp at h
  · simp at h
theorem tOp_ok (hr:RdOk σ alD rd) (H:RH σ σD) (h:tOp P S hint o rd σ k=some r):Goal P (zcs (zc4 S)) n alD σ σD o k r:=by
  cases o with
  | mov x =>
    simp only [tOp] at h
    split at h
    · rename_i v hv
      obtain ⟨d,h1,h2,h3⟩:=hr _ _ hv
      exact OpK.pure (zdn h1) h2 h3 H h
    · simp at h
  | gen op ty=>exact genT_ok hr H h
  | box x=>exact tbox_ok hr H h
  | alloc z=>exact talloc_ok H h
  | build z ps=>exact tbuild_ok hr H h
  | bslice es len z ps=>exact tbslice_ok hr H h
  | load m x=>exact tload_ok hr H h
  | store m x y=>exact tstore_ok hr H h
  | nilck x=>exact tnilck_ok hr H h
  | isnil kd neg x=>exact tisnil_ok hr H h
  | fld off x=>exact tfld_ok hr H h
  | idx es len x i=>exact tidx_ok hr H h
  | slc es x lo hi=>exact tslc_ok hr H h
  | mkmap=>exact tmkmap_ok H h
  | lookup kind zero m kx ok=>exact tlookup_ok hr H h
  | upd kind m kx x=>exact tupd_ok hr H h
  | del kind m kx=>exact tdel_ok hr H h
  | len x=>exact tlen_ok hr H h
  | mk es bytes z x y=>exact tmk_ok hr H h
  | append es bytes s x=>exact tapp_ok hr H h
  | copy es d s=>exact tcopy_ok hr H h
  | extract x i=>exact textract_ok hr H h
  | mkfn f a b=>exact tmkfn_ok hr H h
  | part off m x=>exact tpart_ok hr H h
  | aidx es len m x i=>exact taidx_ok hr H h
  | call f args=>exact tcall_ok hr H h
  | _=>simp [tOp] at h
end
end Go.Abs
end
