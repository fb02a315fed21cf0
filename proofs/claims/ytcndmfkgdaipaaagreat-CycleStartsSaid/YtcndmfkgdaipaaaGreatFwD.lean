/- Lemmas. -/
import Derived.Test.YtcndmfkgdaipaaaGreatFwC
import Derived.Test.YtcndmfkgdaipaaaGreatFwB
import Derived.RangeFuncStops
import Derived.ControlIn
set_option linter.all false
set_option autoImplicit true
set_option relaxedAutoImplicit true
section
namespace Go.Abs
noncomputable section
variable[Gl][σ:Ty]
structure bE where
 ins:List dt
 out:List dt
 f:tD ins->Option (kY out)
abbrev sq:=List (Nat×bE)
def tsk(g:Nat):sq->Option bE
 |[]=>none
 |(s,f)::l=>match Nat.beq s g with | true=>some f | false=>tsk g l
def ZC(g:Nat)(S:sq):Option bE:=match Nat.blt g 1048576 with | true=>tsk g S | false=>none
def yc:(cs:List dt)->List TV->Option (tD cs)
 |[],[]=>some ()
 |c :: cs, x :: xs => match qC c x, yc cs xs with
  |some a,some b=>some (a,b)
  |_,_=>none
 |_,_=>none
def dt.te:(c:dt)->c.dn->Bool×List TC
 |.c x,a=>(false,[tc x a])
 |.st i,a=>(true,exp i a)
 |.fp i,a=>(false,[.fp i a 0])
 |.k x,_=>(false,[.d (.c (.fn (.func x) [] []))])
def Nb:(cs:List dt)->kY cs->List (Bool×List TC)
 |[],_=>[]
 |[c],x=>[c.te x]
 |c::d::cs,x=>c.te x.1::Nb (d::cs) x.2
def outT:(cs:List dt)->kY cs->TV
 |[c],x=>c.tv x
 |cs,x=>.aV (Nb cs x)
def HF:D->TV
 |.agg ds=>.agg (ds.map .d)
 |d=>.c (.d d)
abbrev Kn:=List (Nat×Bool)
def AN(p:Nat):Kn->Option Bool
 |[]=>none
 |(q,b)::l=>match Nat.beq q p with | true=>some b | false=>AN p l
def Vi(d:Kn)(a:Option (Nat×Bool))(p:Nat)(w:Bool):Bool:=
 match AN p d with
 |some b=>b == w
 |none => match a with
  |some (q,e)=>Nat.beq q p&&e == w
  |none=>false
def Gc(al:TA)(b:Kn)(a:Option (Nat×Bool)):aT->Option TV
 |.k d=>match d.low 0 with | true=>some (HF d) | false=>none
 |.t n => match iI n al with
  |some (.v x,_)=>some x
  |some (.g _ w p x,_)=>match Vi b a p w with | true=>some x | false=>none
  |none=>none
def LW(rd:aT->Option TV):List aT->Option (List TV)
 |[]=>some []
 |x :: xs => match rd x, LW rd xs with
  |some a,some b=>some (a::b)
  |_,_=>none
def TC.scalar:TC->Bool
 |.any=>false
 |.d x=>x.scalar
 |_=>true
def fi:TV->Option (List TC)
 |.c x=>match x.scalar with | true=>some [x] | false=>none
 |.agg a=>match a.all TC.scalar with | true=>some a | false=>none
 |.aV _=>none
def sL{α:Type}(cs:List α)(off:Nat)(xs:List α):List α:=cs.take off++xs++cs.drop (off+xs.length)
def Ew(rd:aT->Option TV):List TC->List (Nat×Nat×aT)->Option (List TC)
 |a,[]=>some a
 |a, (o, n, x) :: rest=>
  match rd x with
  |some v => match fi v with
   |some b => match Nat.beq b.length n && Nat.ble (o + n) a.length with
    |true=>Ew rd (sL a o b) rest
    |false=>none
   |none=>none
  |none=>none
def Bq(n:Option Nat)(cs:List TC)(off:Nat):Option TV:=
 match n with
 |none=>match cs[off]? with | some x=>some (.c x) | none=>none
 |some n=>match Nat.ble (off+n) cs.length with | true=>some (.agg ((cs.drop off).take n)) | false=>none
def Rp:List TC->Bool
 |[]=>true
 |.d (.c (.lit (.slice none 0 0)))::_=>false
 |_::xs=>Rp xs
def isAny:TC->Bool
 |.any=>true
 |_=>false
def Tf:List TC->Bool
 |[]=>true
 |x::xs=>!(isAny x)&&Tf xs
def mkT(i:Nat)(cs:List TC):Option (TT i):=match Rp cs,DS (σ.fl i) cs with | true,some x=>some (σ.mkt i x) | _,_=>none
def mkTs(i:Nat):List TC->Option (List (TT i))
 |[]=>some []
 |c :: b => match mkT i [c], mkTs i b with
  |some a,some l=>some (a::l)
  |_,_=>none
def Hm(i:Nat):Nat->List TC->Option (List (TT i))
 |0,[]=>some []
 |0,_::_=>none
 |k + 1, b => match mkT i (b.take (aB i)), Hm i k (b.drop (aB i)) with
  |some a,some l=>some (a::l)
  |_,_=>none
def Qd:TV->Option Value
 |.c (.d (.c (.lit v)))=>some v
 |.c (.b e)=>some (.bool e)
 |_=>none
def Es:Value->TV
 |.bool e=>.c (.b e)
 |v=>.c (.d (.c (.lit v)))
inductive BX where
 |t
 |f
 |e (x:Bool)
def UA:TV->Option BX
 |.c (.b e)=>some (.e e)
 |.c (.d (.c (.lit (.bool true))))=>some .t
 |.c (.d (.c (.lit (.bool false))))=>some .f
 |_=>none
def BX.val:BX->Bool
 |.t=>true
 |.f=>false
 |.e x=>x
def pk(c:Bool):BX->BX->Bool
 |.t,.e y=>c || y
 |.e x,.f=>c&&x
 |x,y=>bif c then x.val else y.val
def pkV(c:Bool):BX->BX->TV
 |.t,.t=>.c (.d (.c (.lit (.bool true))))
 |.f,.f=>.c (.d (.c (.lit (.bool false))))
 |x,y=>.c (.b (pk c x y))
def ints(k:IntKind):List TC->Option (List Int)
 |[]=>some []
 |x :: xs => match E_ (.int k) x, ints k xs with
  |some a,some l=>some (a::l)
  |_,_=>none
def Lk:List Value->Option (List Int)
 |[]=>some []
 |.int .i64 a::xs=>match Lk xs with | some l=>some (a::l) | none=>none
 |_::_=>none
def Nx:List C->Option (List Int)
 |[]=>some []
 |.lit (.int .i64 a)::xs=>match Nx xs with | some l=>some (a::l) | none=>none
 |_::_=>none
def valC:TC->Option Value
 |.d (.c (.lit v))=>some v
 |.b e=>some (.bool e)
 |_=>none
def Ib:List TC->Option (List Value)
 |[]=>some []
 |x :: xs => match valC x, Ib xs with
  |some v,some a=>some (v::a)
  |_,_=>none
def Xj(P:Program)(xs d:Array Value):List Field->Option Bool
 |[]=>some true
 |f :: e => match f.name != "_", fE P (part f.type xs f.offset), fE P (part f.type d f.offset), P.underlying f.type, Xj P xs d e with
  |true,some (.int k a),some (.int g b),some (.int _),some q=>match decEq k g with | .isTrue _=>some (a == b&&q) | .isFalse _=>none
  |true,some (.bool a),some (.bool b),some .bool,some q=>some (a == b&&q)
  |_,_,_,_,_=>none
def ZS(P:Program)(xs d:Array Value):List Field->Option Bool
 |[]=>some true
 |f :: e => match f.name != "_", fE P (part f.type xs f.offset), fE P (part f.type d f.offset), P.underlying f.type, ZS P xs d e with
  |true,some (.int k a),some (.int g b),some (.int _),some q=>match decEq k g with | .isTrue _=>some (a == b&&q) | .isFalse _=>none
  |true,some (.bool a),some (.bool b),some .bool,some q=>some (a == b&&q)
  |true, some (.agg a), some (.agg b), some (.struct gs), some q => match P.stoodInHeld f.type, Xj P a b gs.toList with
   |false,some r=>some (r&&q)
   |_,_=>none
  |_,_,_,_,_=>none
def eqT(P:Program)(t:TypeId)(xs a:List TC):Option Bool:=
 match Ib xs,Ib a,P.underlying t,P.eqGuardType P.depth t,P.stoodInHeld t with
 |some b,some d,some (.struct e),false,false=>ZS P b.toArray d.toArray e.toList
 |_,_,_,_,_=>none
def SD(a b:Int):Option Int:=if a.natAbs<2 ^ 52/\b.natAbs<2 ^ 52 then some (a+b) else none
def xV(a b:Int):Option Int:=if a.natAbs<2 ^ 52/\b.natAbs<2 ^ 52 then some (a-b) else none
def xY(a n:Int):Option Int:=if 0<=a/\a<=1048576/\0<=n/\n<=1048576 then some (a * n) else none
def zC(a:Int):Option Int:=if a.natAbs<2 ^ 53 then some a else none
variable{R:Type}
abbrev KO(R:Type):=TV->TH->Bool->List Nat->Option R
def TX(val:Operand->Option TV)(x:Operand):Option Value:=match val x with | some v=>Qd v | none=>none
def genV(P:Program)(op:Op)(ty:TypeId)(val:Operand->Option TV):Option Value:=
 if op.operands.toList.all (λx=>(TX val x).isSome) then
  match fE P (execOp (λx=>(TX val x).getD undef) { dst:=none,op:=op,type:=ty,pos:="",after:=#[],guard:=none }) with
  |some (.value v)=>some v
  |_=>none
 else none
def oD:Value->Bool
 |.agg _ | .tuple _=>false
 |_=>true
abbrev wA(rd:aT->Option TV)(x:Operand):Option TV:=match cf x with | some o=>rd o | none=>none
def genT(P:Program)(op:Op)(ty:TypeId)(rd:aT->Option TV)(Y:TH)(k:KO R):Option R:=
 match op with
 |.binOp o t x y _=>
  match wA rd x,wA rd y with
  |some (.c (.d (.c (.lit (.int f a))))), some (.c (.d (.c (.lit (.int h b)))))=>
   match o with
   |.quo => match decEq f h with
    |.isTrue _=>(EY f a b).bind λv=>k (.c (.d (.c (.lit (.int f v))))) Y false []
    |.isFalse _=>none
   |.rem => match decEq f h with
    |.isTrue _=>(rem? a b).bind λv=>k (.c (.d (.c (.lit (.int f v))))) Y false []
    |.isFalse _=>none
   |.shr=>(shr? f a b).bind λv=>k (.c (.d (.c (.lit (.int f v))))) Y false []
   |.shl=>(shl? f a b).bind λv=>k (.c (.d (.c (.lit (.int f v))))) Y false []
   |_ => match gR P o t x y (.int f a) (.int h b) with
    |some v=>match oD v with | true=>k (Es v) Y false [] | false=>none
    |none=>none
  |some (.agg xs), some (.agg i)=>
   match eqT P t xs i with
   |some r => match o with
    |.eql=>k (.c (.b r)) Y false []
    |.neq=>k (.c (.b (!r))) Y false []
    |_=>none
   |none=>none
  |some (.c (.cx a b)), some (.c (.cx c d))=>
   match o with
   |.add=>(SD a c).bind λu=>(SD b d).bind λv=>k (.c (.cx u v)) Y false []
   |.sub=>(xV a c).bind λu=>(xV b d).bind λv=>k (.c (.cx u v)) Y false []
   |.mul => match d with
    |.ofNat 0=>(xY a c).bind λu=>(xY b c).bind λv=>k (.c (.cx u v)) Y false []
    |_=>none
   |_=>none
  |some u, some v=>
   match Qd u,Qd v with
   |some (.bool a), some (.bool b)=>
    match o,P.underlying t with
    |.eql,some .bool=>k (.c (.b (a == b))) Y false []
    |.neq,some .bool=>k (.c (.b (!(a == b)))) Y false []
    |_,_=>none
   |some a, some b => match gR P o t x y a b with
    |some v=>match oD v with | true=>k (Es v) Y false [] | false=>none
    |none=>none
   |_,_=>none
  |_,_=>none
 |.unOp o _ x=>
  match wA rd x with
  |some u => match o, Qd u with
   |.not,some (.bool e)=>k (.c (.b (!e))) Y false []
   |o, some a => match fE P (Op.unary o a) with
    |some v=>match oD v with | true=>k (Es v) Y false [] | false=>none
    |none=>none
   |_,_=>none
  |none=>none
 |.convert t g x=>
  match wA rd x with
  |some (.c (.d (.c (.lit (.int f a)))))=>
   match P.underlying g with
   |some (.float .f64)=>match (P.underlying t).isSome with | true=>k (.c (.fl a)) Y false [] | false=>none
   |_ => match fE P (convert t g (.int f a)) with
    |some v=>match oD v with | true=>k (Es v) Y false [] | false=>none
    |none=>none
  |some (.c (.fl a)) => match P.underlying g, (P.underlying t).isSome with
   |some (.int .i64),true=>(zC a).bind λa=>k (.c (.d (.c (.lit (.int .i64 a))))) Y false []
   |_,_=>none
  |some u => match Qd u with
   |some a => match fE P (convert t g a) with
    |some v=>match oD v with | true=>k (Es v) Y false [] | false=>none
    |none=>none
   |none=>none
  |none=>none
 |.call c=>
  match c.callee,c.args.toList with
  |.builtin .min, _ => match genV P (.call c) ty (wA rd) with
   |some v=>match oD v with | true=>k (Es v) Y false [] | false=>none
   |none=>none
  |.builtin .max, _ => match genV P (.call c) ty (wA rd) with
   |some v=>match oD v with | true=>k (Es v) Y false [] | false=>none
   |none=>none
  |.builtin .complex, [x, y] => match wA rd x, wA rd y with
   |some (.c (.fl a)),some (.c (.fl b))=>k (.c (.cx a b)) Y false []
   |some (.c (.fl a)), some (.c (.d (.c (.lit (.float .f64 b))))) => match Nat.beq b (Fl.fl 0) with
    |true=>k (.c (.cx a 0)) Y false []
    |false=>none
   |_,_=>none
  |.builtin .real, [x] => match wA rd x with
   |some (.c (.cx a _))=>k (.c (.fl a)) Y false []
   |_=>none
  |.builtin .imag, [x] => match wA rd x with
   |some (.c (.cx _ b))=>k (.c (.fl b)) Y false []
   |_=>none
  |_,_=>none
 |_=>none
def CB(Y:TH):TC->TC
 |.own i b v n => match Y[b]? with
  |some (.row j l a _)=>match Nat.beq a v with | true=>.sl j l | false=>.own i b v n
  |_=>.own i b v n
 |x=>x
def fT(Y:TH):TV->TV
 |.c x=>.c (CB Y x)
 |.agg a=>.agg (a.map (CB Y))
 |x=>x
def Rs:TC->Bool
 |.own ..=>true
 |_=>false
def x_:TV->Bool
 |.c x=>Rs x
 |.agg a=>a.any Rs
 |_=>false
def CC.gr:CC->Bool
 |.sl _=>false
 |.fk _=>false
 |_=>true
def dt.gr:dt->Bool
 |.c x=>x.gr
 |.st i=>(σ.fl i).all CC.gr
 |_=>false
def TS(i:Nat)(Y:TH):TV->Option (List (TT i))
 |.c (.sl _ l)=>iB l
 |.c (.d (.c (.lit (.slice none 0 0))))=>some []
 |.c (.own _ b v _) => match Y[b]? with
  |some (.row _ l a _)=>match Nat.beq a v with | true=>iB l | false=>none
  |_=>none
 |_=>none
def YG:TC->Option CV
 |.d x=>some (.d x)
 |.b e=>some (.b e)
 |.sl i l=>some (.sl i l)
 |_=>none
def cvT:CV->TC
 |.d x=>.d x
 |.b e=>.b e
 |.sl i l=>.sl i l
def fnaOf:Fn->List TV->List TV->Option (FuncId×List CV)
 |.func g,[.agg xs],[]=>(xs.mapM YG).map λa=>(g,a)
 |_,_,_=>none
def lc:TV->Option Int
 |.c (.d (.c (.lit (.int .i64 n))))=>some n
 |_=>none
def teT:TV->Bool×List TC
 |.c x=>(false,[x])
 |.agg a=>(true,a)
 |.aV _=>(false,[])
def mpV(j:Nat)(st:Bool)(a:TT j):TV:=match st with | true=>.agg (exp j a) | false=>.c ((exp j a).headD (.d (.c (.lit undef))))
def mkM(j:Nat)(st:Bool)(v:TV):Option (TT j):=match st,v with
 |true,.agg xs=>mkT j xs
 |false,.c x=>mkT j [x]
 |_,_=>none
def Ml(ok:Bool)(v:TV)(e:Bool):TV:=match ok with
 |true=>.aV [teT v,(false,[.d (.c (.lit (.bool e)))])]
 |false=>v
def LX:List Nat->Nat->(Nat->Option R)->Option R
 |[],_,_=>none
 |g::gs,n,f=>cond (Nat.beq n g) (f g) (LX gs n f)
def splC:(cs:List CC)->aV cs->(List TC->Option R)->Option R
 |[],_,k=>k []
 |.fk gs::cs,x,k=>LX gs x.1 λg=>splC cs x.2 λl=>k (.d (.c (.fn (.func g) [] []))::l)
 |c::cs,x,k=>splC cs x.2 λl=>k (tc c x.1::l)
def lkS(b j:Nat)(st:Bool)(a:TT j)(k:TV->Option R):Option R:=match Nat.beq b 1000005,st with
 |true,true=>splC (σ.fl j) (σ.prj j a) λd=>k (.agg d)
 |_,_=>k (mpV j st a)
def gI(P:Program)(S:sq)(d:Nat)(o:kN)(rd:aT->Option TV)(Y:TH)(k:KO R):Option R:=
 match o with
 |.AO x=>match rd x with | some v=>k v Y false [] | none=>none
 |.gen op ty=>genT P op ty rd Y k
 |.box x => match rd x with
  |some v => match fi v with
   |some e=>k (.c (.d (.ptr Y.length 0 e.length))) (Y++[.cells 0 (e.map λc=>(0,c))]) false []
   |none=>none
  |none=>none
 |.alloc z => match D.low.cW 0 z with
  |true=>k (.c (.d (.ptr Y.length 0 z.length))) (Y++[.cells 0 (z.map λc=>(0,.d c))]) false []
  |false=>none
 |.build z K => match D.low.cW 0 z, Ew rd (z.map .d) K with
  |true,some e=>k (.agg e) Y false []
  |_,_=>none
 |.jh h len z K => match Nat.beq d 1000001 with
  |true => match D.low.cW 0 z, Ew rd ((dJ len z).map .d) K with
   |true, some e => match Tf e with
    |true=>k (.c (.d (.sl Y.length 0 len h e.length))) (Y++[.cells 0 (e.map λc=>(0,c))]) false []
    |false=>none
   |_,_=>none
  |false=>match Nat.beq h (aB d)&&D.low.cW 0 z,Ew rd ((dJ len z).map .d) K with
  |true, some e => match Hm d len e with
   |some l=>k (.c (.own d Y.length 0 len)) (Y++[.row d l 0 0]) false []
   |none=>none
  |_,_=>none
 |.load n a => match rd a with
  |some (.c (.d (.ptr b off sz))) => match Y[b]? with
   |some (.cells _ e) => match Nat.beq e.length sz, Bq n (e.map Prod.snd) off with
    |true,some v=>k v Y false []
    |_,_=>none
   |_=>none
  |some (.c (.fp i x off)) => match Bq n (exp i x) off with
   |some v=>k v Y false []
   |none=>none
  |some (.c (.op i b v _ _ x off)) => match Y[b]? with
   |some (.row _ _ _ F) => match Nat.beq F v, Bq n (exp i x) off with
    |true,some v=>k v Y false []
    |_,_=>none
   |_=>none
  |some (.c (.ap b off len sz i)) => match n, Y[b]? with
   |none, some (.cells _ e) => match Nat.beq e.length sz && Nat.ble (off + len) sz, ints .i64 (((e.map Prod.snd).drop off).take len) with
    |true,some l=>(aD l i).bind λa=>k (.c (.d (.c (.lit (.int .i64 a))))) Y false []
    |_,_=>none
   |_,_=>none
  |some (.c (.d (.c (.cD e off)))) => match n, Nx e with
   |none,some l=>(aD l (off:Int)).bind λa=>k (.c (.d (.c (.lit (.int .i64 a))))) Y false []
   |_,_=>none
  |_=>none
 |.store n a x => match rd a, rd x with
  |some (.c (.d (.ptr b off sz))), some v => match Y[b]?, fi v with
   |some (.cells w e), some xs => match Nat.beq e.length sz && (Nat.beq xs.length n && Nat.ble (off + n) sz) with
    |true=>k (.aV []) (Y.set b (.cells (w+1) (sL e off (xs.map λx=>(w+1,x))))) false [b]
    |false=>none
   |_,_=>none
  |some (.c (.op i b v _ q a off)), some x => match Y[b]?, fi x with
   |some (.row j l t F), some xs => match Nat.beq F v && (Nat.beq xs.length n && Nat.ble (off + n) (aB i)), mkT i (sL (exp i a) off xs), iB (i := i) l with
    |true,some X,some l=>k (.aV []) (Y.set b (.row i (l.set q.toNat X) t (F+1))) false [b]
    |_,_,_=>none
   |_,_=>none
  |_,_=>none
 |.mM x => match rd x with
  |some (.c (.d (.ptr b off sz)))=>k (.c (.d (.ptr b off sz))) Y false []
  |some (.c (.d (.c (.fn (.func f) u v))))=>k (.c (.d (.c (.fn (.func f) u v)))) Y false []
  |some (.c (.d (.fn (.func f) u v)))=>k (.c (.d (.fn (.func f) u v))) Y false []
  |some (.c (.fp i a off))=>k (.c (.fp i a off)) Y false []
  |some (.c (.op i b v n q a off))=>k (.c (.op i b v n q a off)) Y false []
  |some (.c (.Gt g xs))=>k (.c (.Gt g xs)) Y false []
  |_=>none
 |.iT T G x => match rd x with
  |some (.c (.d x)) => match isNil T x with
   |some true=>k (.c (.d (.c (.lit (.bool (!G)))))) Y false []
   |some false=>k (.c (.d (.c (.lit (.bool G))))) Y false []
   |none=>none
  |some (.c (.fp ..)) | some (.c (.op ..)) => match T with
   |0=>k (.c (.d (.c (.lit (.bool G))))) Y false []
   |_=>none
  |_=>none
 |.HW off x => match rd x with
  |some (.c (.d (.ptr b o sz)))=>k (.c (.d (.ptr b (o+off) sz))) Y false []
  |some (.c (.fp i a o))=>k (.c (.fp i a (o+off))) Y false []
  |some (.c (.op i b v n q a o))=>k (.c (.op i b v n q a (o+off))) Y false []
  |_=>none
 |.idx h none x i => match rd x, rd i with
  |some (.c (.sl j l)), some A => match lc A, Nat.beq h (aB j) with
   |some q,true=>(aD l q).bind λa=>k (.c (.fp j a 0)) Y false []
   |_,_=>none
  |some (.c (.own j b v n)), some A => match lc A, Nat.beq h (aB j), Y[b]? with
   |some q, true, some (.row _ l t F) => match Nat.beq t v, iB (i := j) l with
    |true,some l=>(aD l q).bind λa=>k (.c (.op j b F n q a 0)) Y false []
    |_,_=>none
   |_,_,_=>none
  |some (.c (.d (.sl b off len L sz))), some A => match lc A, Y[b]? with
   |some q, some (.cells _ e) => match Nat.beq e.length sz && Nat.beq h L, BU q len with
    |true,some j=>k (.c (.d (.ptr b (off+j * h) sz))) Y false []
    |_,_=>none
   |_,_=>none
  |_,_=>none
 |.idx h (some len) x (.k i) => match rd x, lc (HF i) with
  |some (.c (.d (.ptr b off sz))), some q => match BU q len with
   |some j=>k (.c (.d (.ptr b (off+j * h) sz))) Y false []
   |none=>none
  |_,_=>none
 |.idx h (some len) x (.t i) => match rd x, rd (.t i) with
  |some (.c (.d (.ptr b off sz))), some A => match lc A, Nat.beq h 1, Y[b]? with
   |some q, true, some (.cells _ e) => match Nat.beq e.length sz && Nat.ble (off + len) sz, ints .i64 (((e.map Prod.snd).drop off).take len) with
    |true,some l=>(aD l q).bind λ_=>k (.c (.ap b off len sz q)) Y false []
    |_,_=>none
   |_,_,_=>none
  |some (.c (.d (.c (.We g)))), some A => match lc A, Nat.beq h 1, Lk (Gl.tab g) with
   |some q, true, some (z :: l) => match Nat.beq (z :: l).length len with
    |true=>(aD (z::l) q).bind λ_=>k (.c (.d (.c (.cD ((Gl.tab g).map .lit) (q.toNat * h))))) Y false []
    |false=>none
   |_,_,_=>none
  |_,_=>none
 |.VT h x U hi => match rd x with
  |some (.c (.sl j l))=>
   match Nat.beq h (aB j),(match U with | none=>some (.c (.d (I 0))) | some o=>rd o),(match hi with | none=>some (.c (.d (I l.length))) | some o=>rd o) with
   |true, some u, some v => match lc u, lc v with
    |some u,some v=>(slice? l u v).bind λr=>k (.c (.sl j r)) Y false []
    |_,_=>none
   |_,_,_=>none
  |some (.c (.own j b W n)) => match Nat.beq h (aB j), Y[b]? with
   |true, some (.row _ l t _) => match Nat.beq t W, (match U with | none => some (.c (.d (I 0))) | some o => rd o), (match hi with | none => some (.c (.d (I l.length))) | some o => rd o) with
    |true, some u, some v => match lc u, lc v with
     |some u,some v=>(slice? l u v).bind λ_=>k (.c (.os j b W l.length u.toNat (v.toNat-u.toNat))) Y false []
     |_,_=>none
    |_,_,_=>none
   |_,_=>none
  |_=>none
 |.DM m x => match rd x with
  |some (.c (.fp i a off)) => match Nat.ble (off + m) (aB i), mkTs d (((exp i a).drop off).take m) with
   |true,some l=>k (.c (.sl d l)) Y false []
   |_,_=>none
  |_=>none
 |.uC=>k (.c (.d (.mp Y.length))) (Y++[.mp (d / 2) (Nat.beq (d % 2) 1) [] 0]) false []
 |.lookup E zero m M ok => match E, rd m, rd M, zero.low 0 with
  |.int _, some (.c (.d (.mp b))), some N, true => match Y[b]?, lc N with
   |some (.mp j st l _),some x=>oel (dm l x) (k (Ml ok (HF zero) false) Y false []) (λa=>lkS d j st a λv=>k (Ml ok v true) Y false [])
   |_,_=>none
  |_,_,_,_=>none
 |.yg E m M x => match E, rd m, rd M, rd x with
  |.int _, some (.c (.d (.mp b))), some N, some v => match Y[b]?, lc N with
   |some (.mp j st l ver), some i => match mkM j st v with
    |some a=>k (.aV []) (Y.set b (.mp j st (kA l i a) (ver+1))) false [b]
    |none=>none
   |_,_=>none
  |_,_,_,_=>none
 |.len x => match rd x with
  |some (.c (.sl _ l))=>k (.c (.d (I l.length))) Y false []
  |some (.c (.d (.c (.lit (.slice none 0 0)))))=>k (.c (.d (I 0))) Y false []
  |some (.c (.own _ b v _)) => match Y[b]? with
   |some (.row _ l t _)=>match Nat.beq t v with | true=>k (.c (.d (I l.length))) Y false [] | false=>none
   |_=>none
  |some (.c (.d (.sl b _ len _ sz))) => match Y[b]? with
   |some (.cells _ e)=>match Nat.beq e.length sz with | true=>k (.c (.d (I len))) Y false [] | false=>none
   |_=>none
  |_=>none
 |.mk h p z l c => match Nat.beq h (aB d) && (Nat.ble p 1000 && D.low.cW 0 z), mkT d (z.map .d), rd l, rd c with
  |true, some z0, some u, some v => match lc u, lc v with
   |some u,some v=>(Dl z0 u v).bind λr=>k (.c (.own d Y.length 0 r.length)) (Y++[.row d r 0 0]) false []
   |_,_=>none
  |true, none, some (.c (.d (.c (.lit (.int .i64 (.ofNat 0)))))), some v => match lc v with
   |some v=>(mk0? v).bind λr=>k (.c (.own d Y.length 0 r.length)) (Y++[.row d r 0 0]) false []
   |none=>none
  |_,_,_,_=>none
 |.append h p s x => match rd s, rd x with
  |some (.c (.own i b v _)), some y => match Y[b]? with
   |some (.row _ l t F) => match Nat.beq t v && (Nat.beq h (aB i) && Nat.ble p 1000), iB (i := i) l, TS i Y y with
    |true,some l,some m=>(cB l m).bind λr=>k (.c (.own i b (t+1) r.length)) (Y.set b (.row i r (t+1) (F+1))) true [b]
    |_,_,_=>none
   |_=>none
  |some (.c (.d (.c (.lit (.slice none 0 0))))), some (.c (.own i b v q)) => match Nat.beq h (aB i) && Nat.ble p 1000, TS i Y (.c (.own i b v q)) with
   |true, some (a :: l) => match Nat.ble (a :: l).length 1000000 with
    |true=>k (.c (.own i Y.length 0 (a::l).length)) (Y++[.row i (a::l) 0 0]) false []
    |false=>none
   |_,_=>none
  |some (.c (.d (.c (.lit (.slice none 0 0))))), some (.c (.sl i l)) => match Nat.beq h (aB i) && Nat.ble p 1000 with
   |true=>(cB [] l).bind λr=>k (.c (.own i Y.length 0 r.length)) (Y++[.row i r 0 0]) false []
   |false=>none
  |_,_=>none
 |.extract x i => match rd x with
  |some (.aV xs) => match xs[i]? with
   |some (true,e)=>k (.agg e) Y false []
   |some (false,[c])=>k (.c c) Y false []
   |_=>none
  |_=>none
 |.Ea f first cap => match LW rd first, LW rd cap with
  |some a, some b => match fnaOf f a b with
   |some (g,e)=>k (.c (.Gt g e)) Y false []
   |none => match a.mapM λv => (match v with | .c (.d x) => some x | _ => none), b.mapM λv => (match v with | .c (.d x) => some x | _ => none) with
    |some a,some b=>k (.c (.d (.fn f a b))) Y false []
    |_,_=>none
  |_,_=>none
 |.part off n x => match rd x with
  |some (.agg e) => match Bq n e off with
   |some v=>k v Y false []
   |none=>none
  |_=>none
 |.Cx h len n x i => match rd x, rd i with
  |some (.agg e), some A => match i, lc A with
   |.k _, some q => match BU q len with
    |some j => match Bq n e (j * h) with
     |some v=>k v Y false []
     |none=>none
    |none=>none
   |.t _, some q => match n, Nat.beq h 1 && Nat.beq e.length len, ints .i64 e with
    |none,true,some l=>(aD l q).bind λa=>k (.c (.d (.c (.lit (.int .i64 a))))) Y false []
    |_,_,_=>none
   |_,_=>none
  |_,_=>none
 |.call f args => match rd f, LW rd args with
  |some (.c (.d (.c (.fn (.func g) [] [])))), some O => match ZC g S with
   |some s => match yc s.ins O with
    |some a=>(s.f a).bind λr=>k (outT s.out r) Y false []
    |none => match s.out.all dt.gr && O.any x_, yc s.ins (O.map (fT Y)) with
     |true,some a=>(s.f a).bind λr=>k (outT s.out r) Y false []
     |_,_=>none
   |none=>none
  |_,_=>none
 |_=>none
def xI:kN->Bool
 |.AO _ | .build .. | .mM _ | .iT .. | .HW .. | .len _ | .extract .. | .part ..=>true
 |.load _ _=>true
 |.gen (.binOp o ..) _=>match o with | .quo | .rem | .shr=>false | _=>true
 |.gen (.unOp ..) _=>true
 |.gen (.convert ..) _=>true
 |.gen (.call _) _=>true
 |_=>false
inductive GR where
 |Vi
 |shut
 |sym (e:Bool) (p:Nat) (w:Bool)
 |spl (e:Bool) (p:Nat)
 |UQ (t:Nat) (x:TV)
 |bad
def gdB(d:Kn)(a:Bool)(p:Nat):TV->GR
 |.c (.d (.c (.lit (.bool true))))=>if a then .Vi else .shut
 |.c (.d (.c (.lit (.bool false))))=>if a then .shut else .Vi
 |.c (.d (.aV []))=>.shut
 |.c (.b e) => match AN p d with
  |some b=>if b == a then .Vi else .shut
  |none=>.sym e p a
 |_=>.bad
def gdC(a:Kn)(p:Nat):TV->GR
 |.c (.d (.c (.lit (.bool true))))=>.Vi
 |.c (.d (.c (.lit (.bool false))))=>.shut
 |.c (.b e) => match AN p a with
  |some true=>.Vi
  |some false=>.shut
  |none=>.sym e p true
 |_=>.bad
def tGd(al:TA)(a:Kn):Option (Nat×Bool)->GR
 |none=>.Vi
 |some (t, want) => match iI t al with
  |some (.v x,p)=>gdB a want p x
  |some (.g c w p x, _) => match AN p a with
   |some b=>if b == w then .UQ t x else .shut
   |none=>.spl c p
  |none=>.bad
def blkT(rd:aT->Option TV):kN->Option Nat
 |.load _ x => match rd x with
  |some (.c (.d (.ptr b _ _)))=>some b
  |some (.c (.op _ b ..))=>some b
  |some (.c (.ap b ..))=>some b
  |_=>none
 |_=>none
def hintOf(H:List (Nat×Nat)):Option Nat->Nat
 |none=>0
 |some t=>hk t H
where hk (t:Nat):List (Nat×Nat)->Nat
 |[]=>0
 |(s,i)::l=>match Nat.beq s t with | true=>i | false=>hk t l
abbrev KS(R:Type):=TA->TH->List eC->Option R
def Yj(a:Option Nat)(x:RV)(al:TA):TA:=match a with | some t=>(t,x)::al | none=>al
inductive It where
 |cc (c:CC)
 |st (i:Nat)
 |fp (i:Nat)
 |ls (i:Nat)
 |ml (j:Nat)
 |cx
 deriving DecidableEq
@[reducible] def It.dn:It->Type
 |.cc c=>c.dn
 |.st i=>TT i
 |.fp i=>TT i
 |.ls i=>List (TT i)
 |.ml j=>List (Int×TT j)
 |.cx=>Int×Int
def rdI:(c:It)->TC->Option c.dn
 |.cc c,x=>E_ c x
 |.fp i,x=>wx i (.c x)
 |_,_=>none
def Zb:(c:It)->c.dn->TC
 |.cc c,a=>tc c a
 |.fp i,a=>.fp i a 0
 |_,_=>.any
inductive Pl where
 |r (t:Nat) (c:dt)
 |w (b i:Nat)
 |h (b j:Nat) (c:It)
 |m (b j:Nat) (st:Bool)
@[reducible] def Pl.dn:Pl->Type
 |.r _ c=>c.dn
 |.w _ i=>List (TT i)
 |.h _ _ c=>c.dn
 |.m _ j _=>List (Int×TT j)
@[reducible] def rG:List Pl->Type
 |[]=>Unit
 |[p]=>p.dn
 |p::q::ps=>p.dn×rG (q::ps)
structure JH where
 pl:List Pl
 hs:List (Nat×Nat):=[]
 os:List (Nat×Nat):=[]
 zs:List (Nat×Nat×Nat):=[]
def Gk:List (Nat×Nat)->TA->TH->Option (TA×TH)
  |[],a,Y=>some (a,Y)
  |(t,i)::os,a,Y=>match Nat.ble 1048576 t with
   |true=>match Y[(t-1048576) / 1024]? with
    |some (.cells w b) => match b[(t - 1048576) % 1024]? with
      |some (_,.d (.c (.lit (.slice none 0 0))))=>Gk os a (Y.set ((t-1048576) / 1024) (.cells (w+1) (b.set ((t-1048576) % 1024) (w+1,.own i Y.length 0 0)))++[.row i [] 0 0])
      |some (_,.own ..)=>Gk os a Y
      |_=>none
    |_=>none
   |false=>match OF t a with
    |some (.v (.c (.d (.c (.lit (.slice none 0 0))))))=>Gk os ((t,.v (.c (.own i Y.length 0 0)))::a) (Y++[.row i [] 0 0])
    |some (.v (.c (.own ..)))=>Gk os a Y
    |_=>none
def MJ(l:List (Int×TT j)):Option (List (Int×TT i)):=match decEq j i with | .isTrue h=>some (h▸l) | .isFalse _=>none
def lU(ps:List Pl)(b:Nat):Nat->List (Nat×TC)->List (Nat×TC)->Bool
 |_,[],[]=>true
 |j,(v,_)::xs,(w,_)::a=>(Nat.beq v w || ps.any λp=>match p with | .h d e _=>Nat.beq d b&&Nat.beq e j | _=>false)&&lU ps b (j+1) xs a
 |_,_,_=>false
def Ap(ps:List Pl)(b:Nat):TB->TB->Bool
 |.cells _ xs,.cells _ d=>lU ps b 0 xs d
 |.row _ _ _ v,.row _ _ _ w=>Nat.beq v w || ps.any λp=>match p with | .w a _=>Nat.beq a b | _=>false
 |.mp _ _ _ v,.mp _ _ _ w=>Nat.beq v w || ps.any λp=>match p with | .m a _ _=>Nat.beq a b | _=>false
 |_,_=>false
def eQ(ps:List Pl):Nat->TH->TH->Bool
 |_,[],_=>true
 |b,x::xs,y::a=>Ap ps b x y&&eQ ps (b+1) xs a
 |_,_::_,[]=>false
def MT:List (Nat×Nat×Nat)->TH->TH
 |[],Y=>Y
 |(b, j, r) :: zs, Y => match Y[b]?, Y[r]? with
  |some (.cells w a),some (.row i l d _)=>MT zs (Y.set b (.cells (w+1) (a.set j (w+1,.own i r d l.length))))
  |_,_=>MT zs Y
def Yp(n:Nat)(Y:TH)(zs:List (Nat×Nat×Nat)):Bool:=
 zs.all λz=>Nat.blt z.1 n&&(Nat.blt z.2.2 n&&match Y[z.1]?,Y[z.2.2]? with
  |some (.cells _ a), some (.row i _ b _) => match a[z.2.1]? with
   |some (_,.own d e v _)=>Nat.beq e z.2.2&&(Nat.beq v b&&Nat.beq d i)
   |_=>false
  |_,_=>false)
def Lp(zs:List (Nat×Nat×Nat)):List Pl:=zs.map λz=>.h z.1 z.2.1 (.cc .bool)
structure kw where
 it:It
 v:it.dn
@[reducible] def dF:List It->Type
 |[]=>Unit
 |[c]=>c.dn
 |c::d::a=>c.dn×dF (d::a)
def kK(c:It)(d:kw):Option c.dn:=match decEq d.it c with | .isTrue h=>some (h▸d.v) | .isFalse _=>none
def uG:(cs:List It)->List kw->Option (dF cs)
 |[],[]=>some ()
 |[c],[d]=>kK c d
 |c :: e :: cs, d :: ds => match kK c d, uG (e :: cs) ds with
  |some a,some b=>some (a,b)
  |_,_=>none
 |_,_=>none
def dS:(cs:List It)->dF cs->List kw
 |[],_=>[]
 |[c],x=>[⟨c,x⟩]
 |c::a::cs,x=>⟨c,x.1⟩::dS (a::cs) x.2
inductive CP where
 |c (c:CC)
 |cx
 |hd (b:Nat)
 |pt (b off sz:Nat)
 |mr (b:Nat)
 |fb (f b sz:Nat)
 |fp (i:Nat)
 |k (d:D)
inductive RO where
 |v (c:dt)
 |p (p:CP)
 |ag (ps:List CP)
inductive NB where
 |cells (ps:List CP)
 |row (i:Nat)
 |mp (j:Nat) (st:Bool)
inductive PC where
 |h (b j:Nat) (p:CP)
 |w (b i:Nat)
 |m (b j:Nat) (st:Bool)
inductive CT where
 |mk (out:List RO) (pl:List PC) (nb:List NB) (H:List (Nat×Nat)) (J:List (Nat×JH)) (C:List (Nat×List CT))
def CT.out:CT->List RO | .mk o _ _ _ _ _=>o
def CT.pl:CT->List PC | .mk _ p _ _ _ _=>p
def CT.nb:CT->List NB | .mk _ _ n _ _ _=>n
def CT.H:CT->List (Nat×Nat) | .mk _ _ _ h _ _=>h
def CT.J:CT->List (Nat×JH) | .mk _ _ _ _ j _=>j
def CT.C:CT->List (Nat×List CT) | .mk _ _ _ _ _ c=>c
def ctk(k:Nat):List (Nat×List CT)->Option (List CT)
 |[]=>none
 |(q,c)::l=>match Nat.beq q k with | true=>some c | false=>ctk k l
def CP.its:CP->List It
 |.c y=>[.cc y]
 |.cx=>[.cx]
 |.fp i=>[.fp i]
 |_=>[]
def dt.it:dt->List It
 |.c x=>[.cc x]
 |.st i=>[.st i]
 |.fp i=>[.fp i]
 |.k _=>[]
def RO.its:RO->List It
 |.v y=>y.it
 |.p y=>y.its
 |.ag i=>i.flatMap CP.its
def NB.rts:NB->List It
 |.cells _=>[]
 |.row i=>[.ls i]
 |.mp j _=>[.ml j]
def NB.its:NB->List It
 |.cells i=>i.flatMap CP.its
 |_=>[]
def PC.rts:PC->List It
 |.h ..=>[]
 |.w _ i=>[.ls i]
 |.m _ j _=>[.ml j]
def PC.its:PC->List It
 |.h _ _ y=>y.its
 |_=>[]
def CT.items(ct:CT):List It:=ct.pl.flatMap PC.rts++(ct.nb.flatMap NB.rts++(ct.out.flatMap RO.its++(ct.pl.flatMap PC.its++ct.nb.flatMap NB.its)))
@[reducible] def qq:List CT->Type
 |[]=>Empty
 |[c]=>dF c.items
 |c::d::a=>dF c.items ⊕ qq (d::a)
def altK:(cs:List CT)->qq cs->((c:CT)->dF c.items->Option R)->Option R
 |[],_,_=>none
 |[c],x,f=>f c x
 |c :: d :: cs, x, f => match x with
  |.inl a=>f c a
  |.inr b=>altK (d::cs) b f
structure MS where
 ρ:List (Nat×Nat)
 fz:List Nat
 rw:List kw
 cl:List kw
def oW(b:Nat):List (Nat×Nat)->Option Nat
 |[]=>none
 |(q,o)::l=>match Nat.beq q b with | true=>some o | false=>oW b l
def Ic(m b a:Nat)(s:MS):Option MS:=
 match Nat.blt b m with
 |true=>match Nat.beq b a with | true=>some s | false=>none
 |false => match oW b s.ρ with
  |some o=>match Nat.beq o a with | true=>some s | false=>none
  |none=>match Nat.ble m a with | true=>some { s with ρ:=(b,a)::s.ρ } | false=>none
def eqK:D->D->Bool
 |.c (.lit (.pointer none)),.c (.lit (.pointer none))=>true
 |.c (.lit (.map none)),.c (.lit (.map none))=>true
 |.c (.lit .nilFunc),.c (.lit .nilFunc)=>true
 |.c (.lit (.slice none 0 0)),.c (.lit (.slice none 0 0))=>true
 |.c (.fn (.func f) [] []),.c (.fn (.func g) [] [])=>Nat.beq f g
 |.c (.lit (.int k a)),.c (.lit (.int d b))=>decide (k=d)&&decide (a=b)
 |_,_=>false
def mCP(m:Nat)(Y1:TH)(p:CP)(x:TC)(s:MS):Option MS:=
 match p,x with
 |.c c, .own i b v n => match E_ c (CB Y1 (.own i b v n)) with
  |some a=>some { s with fz:=b::s.fz,cl:=s.cl++[⟨.cc c,a⟩] }
  |none=>none
 |.c c, x => match E_ c x with
  |some a=>some { s with cl:=s.cl++[⟨.cc c,a⟩] }
  |none=>none
 |.cx,.cx u v=>some { s with cl:=s.cl++[⟨.cx,(u,v)⟩] }
 |.fp i,x=>match wx i (.c x) with | some a=>some { s with cl:=s.cl++[⟨.fp i,a⟩] } | none=>none
 |.hd b, .own _ e v _ => match Y1[e]? with
  |some (.row _ _ j _)=>match Nat.beq j v with | true=>Ic m b e s | false=>none
  |_=>none
 |.pt b off sz,.d (.ptr e h g)=>match Nat.beq off h&&Nat.beq sz g with | true=>Ic m b e s | false=>none
 |.mr b,.d (.mp e)=>Ic m b e s
 |.fb f b sz,.d (.fn (.func l) [] [.ptr e 0 g])=>match Nat.beq f l&&Nat.beq sz g with | true=>Ic m b e s | false=>none
 |.k d,.d q=>match eqK d q with | true=>some s | false=>none
 |_,_=>none
def NS(m:Nat)(Y1:TH):List CP->List TC->MS->Option MS
 |[],[],s=>some s
 |p :: ps, x :: xs, s => match mCP m Y1 p x s with
  |some s1=>NS m Y1 ps xs s1
  |none=>none
 |_,_,_=>none
def iS:List TC->List Nat
 |[]=>[]
 |.own _ b _ _::xs=>b::iS xs
 |_::xs=>iS xs
def ownsV:TV->List Nat
 |.c x=>iS [x]
 |.agg a=>iS a
 |_=>[]
def mRO(m:Nat)(Y1:TH)(p:RO)(v:TV)(s:MS):Option MS:=
 match p,v with
 |.v (.c c),v=>match qC (.c c) (fT Y1 v) with | some a=>some { s with fz:=ownsV v++s.fz,cl:=s.cl++[⟨.cc c,a⟩] } | none=>none
 |.v (.st i),v=>match qC (.st i) (fT Y1 v) with | some a=>some { s with fz:=ownsV v++s.fz,cl:=s.cl++[⟨.st i,a⟩] } | none=>none
 |.v (.fp i),v=>match qC (.fp i) (fT Y1 v) with | some a=>some { s with cl:=s.cl++[⟨.fp i,a⟩] } | none=>none
 |.p p,.c x=>mCP m Y1 p x s
 |.ag ps,.agg xs=>NS m Y1 ps xs s
 |_,_=>none
def Kw(m:Nat)(Y1:TH):List RO->List TV->MS->Option MS
 |[],[],s=>some s
 |p :: ps, x :: xs, s => match mRO m Y1 p x s with
  |some s1=>Kw m Y1 ps xs s1
  |none=>none
 |_,_,_=>none
def Gq(m:Nat)(Y Y1:TH):List PC->MS->Option MS
 |[],s=>some s
 |.h b j p :: ps, s => match Y1[b]?, Nat.blt b m with
  |some (.cells _ e), true => match e[j]? with
   |some x => match mCP m Y1 p x.2 s with
    |some s1=>Gq m Y Y1 ps s1
    |none=>none
   |none=>none
  |_,_=>none
 |.w b i :: ps, s => match Y1[b]?, Nat.blt b m with
  |some (.row _ l _ _), true => match iB (i := i) l with
   |some a=>Gq m Y Y1 ps { s with rw:=s.rw++[⟨.ls i,a⟩] }
   |none=>none
  |_,_=>none
 |.m b j st :: ps, s => match Y1[b]?, Nat.blt b m with
  |some (.mp _ d l _), true => match st == d, MJ (i := j) l with
   |true,some a=>Gq m Y Y1 ps { s with rw:=s.rw++[⟨.ml j,a⟩] }
   |_,_=>none
  |_,_=>none
def DP(m:Nat)(Y1:TH):Nat->List NB->MS->Option MS
 |_,[],s=>some s
 |b, .cells ps :: d, s => match oW b s.ρ with
  |some e => match Y1[e]? with
   |some (.cells _ g) => match NS m Y1 ps (g.map Prod.snd) s with
    |some s1=>DP m Y1 (b+1) d s1
    |none=>none
   |_=>none
  |none=>none
 |b, .row i :: d, s => match oW b s.ρ with
  |some e => match Y1[e]? with
   |some (.row _ l _ _) => match iB (i := i) l with
    |some a=>DP m Y1 (b+1) d { s with rw:=s.rw++[⟨.ls i,a⟩] }
    |none=>none
   |_=>none
  |none=>none
 |b, .mp j st :: d, s => match oW b s.ρ with
  |some e => match Y1[e]? with
   |some (.mp _ f l _) => match st == f, MJ (i := j) l with
    |true,some a=>DP m Y1 (b+1) d { s with rw:=s.rw++[⟨.ml j,a⟩] }
    |_,_=>none
   |_=>none
  |none=>none
def PC.pl:PC->Pl
 |.h b j _=>.h b j (.cc .bool)
 |.w b i=>.w b i
 |.m b j st=>.m b j st
def yB:List Nat->Bool
 |[]=>true
 |x::xs=>!(xs.any (Nat.beq x))&&yB xs
def absI(ct:CT)(Y Y1:TH)(rs:List TV):Option (dF ct.items):=
 match eQ (ct.pl.map PC.pl) 0 Y Y1 with
 |false=>none
 |true => match Kw Y.length Y1 ct.out rs ⟨[], [], [], []⟩ with
  |none=>none
  |some s1 => match Gq Y.length Y Y1 ct.pl s1 with
   |none=>none
   |some a => match DP Y.length Y1 Y.length ct.nb a with
    |none=>none
    |some s => match yB (s.ρ.map Prod.snd) && (s.fz.all (λb => Nat.ble Y.length b && !((s.ρ.map Prod.snd).any (Nat.beq b))) && s.ρ.all λp => Nat.blt p.1 (Y.length + ct.nb.length)) with
     |true=>uG ct.items (s.rw++s.cl)
     |false=>none
def UG(Y Y1:TH)(rs:List TV):(cs:List CT)->Option (qq cs)
 |[]=>none
 |[c]=>absI c Y Y1 rs
 |c :: d :: cs => match absI c Y Y1 rs with
  |some a=>some (.inl a)
  |none => match UG Y Y1 rs (d :: cs) with
   |some b=>some (.inr b)
   |none=>none
def cd(Y:TH):List PC->List kw->Option (TH×List kw)
 |[],ds=>some (Y,ds)
 |.h ..::ps,ds=>cd Y ps ds
 |.w b i :: ps, d :: ds => match kK (.ls i) d, Y[b]? with
  |some l, some (.row j _ a e) => match Nat.beq j i with
   |true=>cd (Y.set b (.row i l (a+1) (e+1))) ps ds
   |false=>none
  |_,_=>none
 |.m b j st :: ps, d :: ds => match kK (.ml j) d, Y[b]? with
  |some l,some (.mp _ _ _ v)=>cd (Y.set b (.mp j st l (v+1))) ps ds
  |_,_=>none
 |_,[]=>none
def dx:List NB->List kw->Option (TH×List kw)
 |[],ds=>some ([],ds)
 |.cells _::b,ds=>match dx b ds with | some (l,r)=>some (.cells 0 []::l,r) | none=>none
 |.row i::b,d::ds=>match kK (.ls i) d,dx b ds with | some a,some (l,r)=>some (.row i a 0 0::l,r) | _,_=>none
 |.mp j st::b,d::ds=>match kK (.ml j) d,dx b ds with | some a,some (l,r)=>some (.mp j st a 0::l,r) | _,_=>none
 |_,[]=>none
def tQ(e:TH)(p:CP)(ds:List kw):Option (TC×List kw):=
 match p,ds with
 |.c c,d::ds=>match kK (.cc c) d with | some a=>some (tc c a,ds) | none=>none
 |.cx,d::ds=>match kK .cx d with | some a=>some (.cx a.1 a.2,ds) | none=>none
 |.fp i,d::ds=>match kK (.fp i) d with | some a=>some (.fp i a 0,ds) | none=>none
 |.hd b,ds=>match e[b]? with | some (.row i l g _)=>some (.own i b g l.length,ds) | _=>none
 |.pt b off sz,ds=>match Nat.blt b e.length with | true=>some (.d (.ptr b off sz),ds) | false=>none
 |.mr b,ds=>match Nat.blt b e.length with | true=>some (.d (.mp b),ds) | false=>none
 |.fb f b sz,ds=>match Nat.blt b e.length with | true=>some (.d (.fn (.func f) [] [.ptr b 0 sz]),ds) | false=>none
 |.k d,ds=>match d.low 0 with | true=>some (.d d,ds) | false=>none
 |_,_=>none
def Ag(a:TH):List CP->List kw->Option (List TC×List kw)
 |[],ds=>some ([],ds)
 |p :: ps, ds => match tQ a p ds with
  |some (x, b) => match Ag a ps b with
   |some (xs,r)=>some (x::xs,r)
   |none=>none
  |none=>none
def zh(b:TH)(p:RO)(ds:List kw):Option (TV×List kw):=
 match p,ds with
 |.v (.c c),d::ds=>match kK (.cc c) d with | some a=>some (.c (tc c a),ds) | none=>none
 |.v (.st i),d::ds=>match kK (.st i) d with | some a=>some (.agg (exp i a),ds) | none=>none
 |.v (.fp i),d::ds=>match kK (.fp i) d with | some a=>some (.c (.fp i a 0),ds) | none=>none
 |.p p,ds=>match tQ b p ds with | some (x,r)=>some (.c x,r) | none=>none
 |.ag ps,ds=>match Ag b ps ds with | some (xs,r)=>some (.agg xs,r) | none=>none
 |_,_=>none
def kz(a:TH):List RO->List kw->Option (List TV×List kw)
 |[],ds=>some ([],ds)
 |p :: ps, ds => match zh a p ds with
  |some (x, b) => match kz a ps b with
   |some (xs,r)=>some (x::xs,r)
   |none=>none
  |none=>none
def dU(a:TH):List PC->TH->List kw->Option (TH×List kw)
 |[],Y,ds=>some (Y,ds)
 |.h b j p :: ps, Y, ds => match tQ a p ds, Y[b]? with
  |some (x,r),some (.cells w d)=>dU a ps (Y.set b (.cells (w+1) (d.set j (w+1,x)))) r
  |_,_=>none
 |_::ps,Y,ds=>dU a ps Y ds
def dP(a:TH):List NB->TH->List kw->Option TH
 |[],_,_=>some []
 |.cells ps :: d, _ :: bs, ds => match Ag a ps ds with
  |some (xs, r) => match dP a d bs r with
   |some l=>some (.cells 0 (xs.map λx=>(0,x))::l)
   |none=>none
  |none=>none
 |_ :: d, b :: bs, ds => match dP a d bs ds with
  |some l=>some (b::l)
  |none=>none
 |_,_,_=>none
def ma(ct:CT)(Y:TH)(x:dF ct.items):Option (List TV×TH):=
 match cd Y ct.pl (dS ct.items x) with
 |none=>none
 |some (iJ, d1) => match dx ct.nb d1 with
  |none=>none
  |some (nb, d2) => match kz (iJ ++ nb) ct.out d2 with
   |none=>none
   |some (a, d3) => match dU (iJ ++ nb) ct.pl iJ d3 with
    |none=>none
    |some (aC, d4) => match dP (iJ ++ nb) ct.nb nb d4 with
     |some l=>some (a,aC++l)
     |none=>none
def wC:List TV->TV
 |[v]=>v
 |a=>.aV (a.map teT)
def fnT:TV->Option (FuncId×List TV×List TV)
 |.c (.d (.c (.fn (.func g) a b)))=>some (g,a.map (λx=>HF (.c x)),b.map λx=>HF (.c x))
 |.c (.d (.fn (.func g) a b))=>some (g,a.map HF,b.map HF)
 |.c (.Gt g xs)=>some (g,[.agg (xs.map cvT)],[])
 |_=>none
def PC.blk:PC->Nat
 |.h b _ _=>b
 |.w b _=>b
 |.m b _ _=>b
def PC.rs:PC->Bool
 |.w ..=>true
 |_=>false
def okT(al:TA):kN->Bool
 |.load _ (.t a)=>(iI a al).isSome
 |_=>true
structure Hn where
 P:Program
 S:sq
 H:List (Nat×Nat)
 J:List (Nat×JH)
 C:List (Nat×List CT)
 n:Nat
 N:Nat
 inl:(cs:List CT)->FuncId->List TV->TH->Option (qq cs)
 exa:CT->FuncId->List TV->TH->Option (List TV×TH)
 rs:List CT->FuncId->List TV->TH->List CT
def exOf:List CT->Option CT
 |[a] => match a.H with
  |(k,_)::_=>match Nat.beq k 1000002 with | true=>some a | false=>none
  |_=>none
 |_=>none
def iZ(g:Hn)(q:Nat)(o:aH):Option (List CT):=
 match g.C with
 |[]=>none
 |C => match o.op, o.dst with
  |.call _ _,some t=>ctk (q * 65536+t) C
  |_,_=>none
def altOf(g:Hn)(q:Nat)(o:aH)(n b:Nat)(cs:List CT):List CT:=
 match o.dst with
 |some t => match ctk (q * 65536 + t + 1099511627776 * (n + 1)) g.C with
  |some a=>a
  |none => match ctk (q * 65536 + t + 1208925819614629174706176 * (b + 1)) g.C with
   |some a=>a
   |none=>cs
 |none=>cs
def Su(o o':aH):Bool:=match o.dst,o'.dst with | some a,some b=>Nat.beq a b | _,_=>false
def lB(g:Hn)(q:Nat):List aH->Bool
 |[]=>true
 |o :: os => (match iZ g q o with
  |some _=>!(os.any (Su o))
  |none=>!(os.any λa=>Su o a&&(iZ g q a).isSome))&&lB g q os
def VD(g:Hn)(q:Nat)(os:List aH):Bool:=match g.C with | []=>true | _=>lB g q os
def BY(a b:Nat)(k:Option R):Option R:=match Nat.beq a b with | true=>k | false=>none
def Eg:TB->TB->Option R->Option R
 |.cells _ xs,.cells _ a,k=>BY xs.length a.length k
 |.row i l _ _,.row j m _ _,k=>match Nat.beq i j with | true=>BY l.length m.length k | false=>none
 |.mp ..,.mp ..,k=>k
 |_,_,_=>none
def Ry(Y Y1:TH):List Nat->Option R->Option R
 |[],k=>k
 |b::bs,k=>match Y[b]?,Y1[b]? with | some x,some y=>Eg x y (Ry Y Y1 bs k) | _,_=>none
def iA(g:Hn)(q:Nat):Nat->Nat->List aH->Kn->TA->TH->KS R->Option R
  |0,_,_,_,_,_,_=>none
  |_+1,_,[],_,i,Y,K=>K i Y []
  |l + 1, k, o :: os, kn, i, Y, K=>
    match (match o.dst with | some t=>Nat.blt t g.n | none=>true) with
    |false=>none
    |true=>
    match tGd i kn o.g with
    |.bad=>none
    |.UQ t x=>iA g q l k (o::os) kn ((t,.v x)::i) Y K
    |.spl e p=>if e=true then iA g q l k (o::os) ((p,true)::kn) i Y K else iA g q l k (o::os) ((p,false)::kn) i Y K
    |.shut => match o.dst with
      |none=>none
      |some t => match okT i o.op with
        |false=>none
        |true=>iA g q l (k-1) os kn ((t,.v (.c (.d (.aV []))))::i) Y λd h j=>K d h (DN o 0 none [] Y.length Y.length::j)
    |.sym e p w=>
      match xI o.op,o.dst with
      |true, some t=>
        match gI (R:=TV) g.P g.S 0 o.op (Gc i kn (some (p,w))) Y λv _ _ _=>some v with
        |some v=>iA g q l (k-1) os kn ((t,.g e w p v)::i) Y λd h j=>K d h (DN o (cat o.op) (blkT (Gc i kn (some (p,w))) o.op) [] Y.length Y.length::j)
        |none=>none
      |_,_=>if e=true then iA g q l k (o::os) ((p,true)::kn) i Y K else iA g q l k (o::os) ((p,false)::kn) i Y K
    |.Vi=>
      match iZ g q o with
      |some s=>
        match o.op with
        |.call f args => match Gc i kn none f, LW (Gc i kn none) args with
          |some F, some A => match fnT F with
            |some (z,a,b)=>match g.rs (altOf g q o Y.length z s) z (a++A++b) Y with
             |s=>match exOf s with
              |some m=>(g.exa m z (a++A++b) Y).bind λp=>iA g q l (k-1) os kn (Yj o.dst (.v (wC p.1)) i) p.2 λd h j=>K d h (DN o (cat o.op) none [] Y.length p.2.length::j)
              |none=>(g.inl s z (a++A++b) Y).bind λx=>altK s x λm x=>match ma m Y x with
              |some (E, Y1) => match Nat.beq k 0 || !(m.pl.any PC.rs) with
                |true=>iA g q l (k-1) os kn (Yj o.dst (.v (wC E)) i) Y1 λd h j=>K d h (DN o (cat o.op) none (m.pl.map PC.blk) Y.length Y1.length::j)
                |false=>Ry Y Y1 (m.pl.map PC.blk) (iA g q l (k-1) os kn (Yj o.dst (.v (wC E)) i) Y1 λd h j=>K d h (DN o (cat o.op) none (m.pl.map PC.blk) Y.length Y1.length::j))
              |none=>none
            |none=>none
          |_,_=>none
        |_=>none
      |none=>
      match o.op,o.dst with
      |.pick (.t c) x y, some t=>
        match iI c i with
        |some (.v G, p)=>
          match gdC kn p G with
          |.Vi => match Gc i ((p, true) :: kn) none x with
            |some v=>iA g q l (k-1) os kn ((t,.v v)::i) Y λd h j=>K d h (DN o (cat o.op) none [] Y.length Y.length::j)
            |none=>none
          |.shut => match Gc i ((p, false) :: kn) none y with
            |some v=>iA g q l (k-1) os kn ((t,.v v)::i) Y λd h j=>K d h (DN o (cat o.op) none [] Y.length Y.length::j)
            |none=>none
          |.sym e p _ => match Gc i kn (some (p, true)) x, Gc i kn (some (p, false)) y with
            |some u, some v => match UA u, UA v with
              |some u,some v=>iA g q l (k-1) os kn ((t,.v (pkV e u v))::i) Y λd h j=>K d h (DN o (cat o.op) none [] Y.length Y.length::j)
              |_,_=>none
            |_,_=>none
          |_=>none
        |_=>none
      |op,dst=>gI g.P g.S (hintOf g.H dst) op (Gc i kn none) Y λv Y1 rs wr=>
          match Nat.beq k 0 || !rs with
          |true=>iA g q l (k-1) os kn (Yj dst (.v v) i) Y1 λd h j=>K d h (DN o (cat op) (blkT (Gc i kn none) op) wr Y.length Y1.length::j)
          |false=>none
def VZ(al:TA)(Y:TH):(p:Pl)->Option p.dn
 |.r t c => match OF t al with
  |some (.v x)=>qC c x
  |_=>none
 |.w b _ => match Y[b]? with
  |some (.row _ l _ _)=>iB l
  |_=>none
 |.h b j c => match Y[b]? with
  |some (.cells _ d) => match d[j]? with
   |some x=>rdI c x.2
   |none=>none
  |_=>none
 |.m b _ st => match Y[b]? with
  |some (.mp _ a l _)=>match st == a with | true=>MJ l | false=>none
  |_=>none
def LO(al:TA)(Y:TH):(ps:List Pl)->Option (rG ps)
 |[]=>some ()
 |[p]=>VZ al Y p
 |p :: q :: ps => match VZ al Y p, LO al Y (q :: ps) with
  |some a,some b=>some (a,b)
  |_,_=>none
def Wt(p:Pl)(x:p.dn)(al:TA):TA:=
 match p,x with
 |.r t c,x=>(t,.v (c.tv x))::al
 |_,_=>al
def Hq:(ps:List Pl)->rG ps->TA->TA
 |[],_,a=>a
 |[p],x,a=>Wt p x a
 |p::q::ps,x,a=>Wt p x.1 (Hq (q::ps) x.2 a)
def Uh(p:Pl)(x:p.dn)(Y:TH):TH:=
 match p,x with
 |.w b i, x => match Y[b]? with
  |some (.row _ _ a d)=>Y.set b (.row i x (a+1) (d+1))
  |_=>Y
 |.h b j c, x => match Y[b]? with
  |some (.cells w e)=>Y.set b (.cells (w+1) (e.set j (w+1,Zb c x)))
  |_=>Y
 |.m b j st, x => match Y[b]? with
  |some (.mp _ _ _ v)=>Y.set b (.mp j st x (v+1))
  |_=>Y
 |_,_=>Y
def rQ:(ps:List Pl)->rG ps->TH->TH
 |[],_,Y=>Y
 |[p],x,Y=>Uh p x Y
 |p::q::ps,x,Y=>Uh p x.1 (rQ (q::ps) x.2 Y)
def Rb(Y:TH):List (Nat×Nat)->TA->TA
 |[],a=>a
 |(t, b) :: hs, a => match Y[b]? with
  |some (.row i l d _)=>(t,.v (.c (.own i b d l.length)))::Rb Y hs a
  |_=>Rb Y hs a
def HG(md:List Nat)(al:TA):TA:=(md.filter λt=>(OF t al).isSome).map (λt=>(t,.v (.c .any)))++al
def dR:aQ->List Nat
 |.Bb d=>d.filterMap (·.dst)
 |.HH d _ _ _=>d.filterMap (·.dst)
 |.seq a b=>dR a++dR b
 |.cond _ a b=>dR a++dR b
 |.block _ b=>dR b
 |.loop b=>dR b
 |.VV _ a r=>dR a++dR r
 |_=>[]
def Yr(al:TA)(Y:TH)(hs:List (Nat×Nat)):Bool:=
 hs.all λ(t,b)=>match OF t al,Y[b]? with
  |some (.v (.c (.own i a v _))),some (.row j _ d _)=>Nat.beq a b&&(Nat.beq v d&&Nat.beq i j)
  |_,_=>false
def rowAt(Y:TH)(b:Nat):Bool:=match Y[b]? with | some (.row ..)=>true | _=>false
def IY(hs:List (Nat×Nat))(md:List Nat)(al:TA)(Y:TH)(a:TA):Bool:=(a.take (a.length-al.length)).all λp=>md.any (Nat.beq p.1) || hs.any λz=>Nat.beq z.1 p.1&&rowAt Y z.2
def OX(h:JH)(md:List Nat)(al:TA)(Y:TH)(a:TA)(Y1:TH):Option (rG h.pl):=
 match IY h.hs md al Y a&&(eQ (h.pl++Lp h.zs) 0 Y Y1&&(Yr a Y1 h.hs&&Yp Y.length Y1 h.zs)) with
 |true=>LO a Y1 h.pl
 |false=>none
def Cy(m:Nat)(Y:TH):TC->TC
 |.own i b v n => match Nat.blt b m with
  |true=>.own i b v n
  |false => match Y[b]? with
   |some (.row j l e _)=>match Nat.beq e v with | true=>.sl j l | false=>.any
   |_=>.any
 |.op i b v n k a o=>match Nat.blt b m with | true=>.op i b v n k a o | false=>.any
 |.ap b off len sz k=>match Nat.blt b m with | true=>.ap b off len sz k | false=>.any
 |.os i b v n f len=>match Nat.blt b m with | true=>.os i b v n f len | false=>.any
 |.d x=>match x.low m with | true=>.d x | false=>.any
 |.Gt g d=>match d.all (CV.low m) with | true=>.Gt g d | false=>.any
 |x=>x
def Ct(m:Nat)(Y:TH):RV->RV
 |.v (.c x)=>.v (.c (Cy m Y x))
 |.v (.agg xs)=>.v (.agg (xs.map (Cy m Y)))
 |_=>.v (.c .any)
def frzA(m:Nat)(Y:TH):Nat->TA->TA
 |0,a=>a
 |_+1,[]=>[]
 |k+1,(t,x)::a=>(t,Ct m Y x)::frzA m Y k a
def okC(m:Nat):TC->Bool
 |.own _ b _ _=>Nat.blt b m
 |.op _ b _ _ _ _ _=>Nat.blt b m
 |.ap b _ _ _ _=>Nat.blt b m
 |.os _ b _ _ _ _=>Nat.blt b m
 |.d x=>x.low m
 |.Gt _ a=>a.all (CV.low m)
 |_=>true
def okB(m:Nat):TB->Bool
 |.cells _ a=>a.all λp=>okC m p.2
 |_=>true
def FN(h:JH)(md:List Nat)(al:TA)(Y:TH)(a:TA)(Y1:TH):Option (rG h.pl):=
 match (Y1.take Y.length).all (okB Y.length) with
 |true=>OX h md al Y (frzA Y.length Y1 (a.length-al.length) a) (Y1.take Y.length)
 |false=>OX h md al Y a Y1
def cT(h:JH)(md:List Nat)(al:TA)(Y:TH)(x:rG h.pl):TH:=MT h.zs (rQ h.pl x Y)
def dV(h:JH)(md:List Nat)(al:TA)(Y:TH)(x:rG h.pl):TA:=Hq h.pl x (Rb (rQ h.pl x Y) h.hs (HG md al))
def nrC(t:Nat):TC->Bool
 |.own _ b _ _=>!Nat.beq b t
 |.op _ b _ _ _ _ _=>!Nat.beq b t
 |.ap b _ _ _ _=>!Nat.beq b t
 |.os _ b _ _ _ _=>!Nat.beq b t
 |.d x=>x.low t
 |.Gt _ a=>a.all (CV.low t)
 |_=>true
def nrV(t:Nat):TV->Bool
 |.c x=>nrC t x
 |.agg a=>a.all (nrC t)
 |.aV a=>a.all λp=>p.2.all (nrC t)
def nrR(t:Nat):RV->Bool
 |.v x=>nrV t x
 |.g _ _ _ x=>nrV t x
def cutC(t:Nat)(x:TC):TC:=match nrC t x with | true=>x | false=>.any
def cutR(t:Nat):RV->RV
 |.v (.c x)=>.v (.c (cutC t x))
 |.v (.agg xs)=>.v (.agg (xs.map (cutC t)))
 |_=>.v (.c .any)
def cutP(t w:Nat)(p:Nat×TC):Nat×TC:=match nrC t p.2 with | true=>p | false=>(w+1,.any)
def cutB(t:Nat):TB->TB
 |.cells w a=>.cells (w+1) (a.map (cutP t w))
 |x=>x
def dflC:(c:CC)->c.dn
 |.int _=>(0:Int)
 |.bool=>false
 |.str=>ByteArray.empty
 |.sl _=>[]
 |.fk _=>0
def dflT:(cs:List CC)->aV cs
 |[]=>()
 |c::cs=>(dflC c,dflT cs)
def dfl(i:Nat):TT i:=σ.mkt i (dflT (σ.fl i))
def mvA(n t b j:Nat)(al:TA)(Y:TH):Option (TA×TH):=
 match Y[b]? with
 |some (.cells w a) => match a[j]? with
  |some (_, .own _ r v _) => match Nat.beq r t with
   |true=>some (al,Y)
   |false => match Y[r]?, Y[t]? with
    |some (.row i1 l d e), some (.row i2 _ lt f) => match Nat.beq v d && (Nat.beq i2 i1 && (al.drop n).all λp => nrR t p.2) with
     |true => some ((al.take n).map (λp => (p.1, cutR t p.2)) ++ al.drop n,
      (((Y.map (cutB t)).set t (.row i1 l (lt+1) (f+1))).set r (.row i1 (l++[dfl i1]) (d+1) (e+1))).set b (.cells (w+2) ((a.map (cutP t w)).set j (w+2,.own i1 t (lt+1) l.length))))
     |false=>none
    |_,_=>none
  |_=>none
 |_=>none
def mvL(n:Nat):List (Nat×Nat×Nat)->TA->TH->Option (TA×TH)
 |[],a,Y=>some (a,Y)
 |(b, j, t) :: zs, a, Y => match mvA n t b j a Y with
  |some (a,Y)=>mvL n zs a Y
  |none=>none
def mvs(m:Nat)(zs:List (Nat×Nat×Nat)):List (Nat×Nat×Nat):=zs.filter λz=>Nat.ble m z.2.2
def jn{X:Type}(r:X->Option R)(b:(X->Option R)->Option R):Option R:=b r
def bB{X:Type}(b:(X->Option R)->X->Option R):Nat->X->Option R
 |0,_=>none
 |n+1,x=>b (bB b n) x
def jhk(p:Nat):List (Nat×JH)->Option JH
 |[]=>none
 |(q,h)::l=>match Nat.beq q p with | true=>some h | false=>jhk p l
def jhl(p n:Nat)(J:List (Nat×JH)):Option JH:=match jhk (p+1099511627776 * (n+1)) J with
 |some h=>some h
 |none=>jhk p J
abbrev KC(R:Type):=nr->TA->TH->Option R
def isApp(os:List aH):Bool:=(os.any λo=>match o.op with | .append ..=>true | _=>false)&&os.any λo=>match o.op with | .yg ..=>true | _=>false
def rsCall(g:Hn)(q:Nat)(os:List aH):Bool:=match g.C with
 |[]=>false
 |_ => os.any λo => match iZ g q o with
  |some b=>b.any λa=>a.pl.any PC.rs || a.H.any λp=>Nat.beq p.1 1000005
  |none=>false
def lpU{X:Type}(b:(TA->TH->Option X)->TA->TH->Option X):Nat->TA->TH->Option X
 |0,_,_=>none
 |n+1,a,Y=>b (lpU b n) a Y
def capOk(a:Nat)(ps:List Pl):Bool:=ps.all λp=>match p with | .h b _ _=>!Nat.beq b a | _=>true
def itF{X:Type}(i:Nat)(l:List (TT i))(s:bE)(k:(j:Nat)->List (TT j)->Option X):Option X:=match s with
 | ⟨[.c (.sl a)], [.c (.sl j)], f⟩ => match iB (i := a) l with
  |some l=>(f (l,())).bind λr=>k j r
  |none=>none
 |_=>none
def lpR{T X:Type}(b:T->X->(X->Option R)->Option R)(k:X->Option R):List T->X->Option R
 |[],x=>k x
 |a::l,x=>b a x (lpR b k l)
def W_(t:Nat)(al:TA)(Y:TH):Option TC:=match Nat.ble 1048576 t with
 |true => match Y[(t - 1048576) / 1024]? with
  |some (.cells _ a)=>match a[(t-1048576) % 1024]? with | some (_,x)=>some x | none=>none
  |_=>none
 |false=>match OF t al with | some (.v (.c x))=>some x | _=>none
def setL(t:Nat)(x:TC)(al:TA)(Y:TH):TA×TH:=match Nat.ble 1048576 t with
 |true => match Y[(t - 1048576) / 1024]? with
  |some (.cells w a)=>(al,Y.set ((t-1048576) / 1024) (.cells (w+1) (a.set ((t-1048576) % 1024) (w+1,x))))
  |_=>(al,Y)
 |false=>((t,.v (.c x))::al,Y)
def IK(t b:Nat):Bool:=match Nat.ble 1048576 t with | true=>!Nat.beq ((t-1048576) / 1024) b | false=>true
def Om:List (Nat×Nat)->TA->TH->Option (TA×TH)
 |[],d,Y=>some (d,Y)
 |(t, i) :: os, d, Y => match W_ t d Y with
  |some (.own _ b v _) => match Y[b]? with
   |some (.row j l f g) => match Nat.beq f v && IK t b with
    |true=>match setL t (.sl j l) d (Y.set b (.row j (l++[dfl j]) (f+1) (g+1))) with | (d,Y)=>Om os d Y
    |false=>none
   |_=>none
  |some (.d (.ptr b 0 sz)) => match Y[b]? with
   |some (.cells w e) => match Nat.beq e.length sz && IK t b, mkT i (e.map Prod.snd) with
    |true,some a=>match setL t (.fp i a 0) d (Y.set b (.cells (w+1) (e++[(w+1,.any)]))) with | (d,Y)=>Om os d Y
    |_,_=>none
   |_=>none
  |_=>none
def Xr(g:Hn)(q:Nat):List (Nat×Nat×Nat)->List aH->TA->TH->(TA->TH->Option R)->Option R
 |[],os,d,Y,K=>iA g q 1000 0 os [] d Y λa b _=>K a b
 |(k, t, i) :: zs, os, d, Y, K => iA g q 1000 0 (os.take k) [] d Y λa b _ => match Om [(t, i)] a b with
  |some (e,aC)=>Xr g q zs (os.drop k) e aC K
  |none=>none
def ZY:List (Nat×Nat)->TA->TH->(TA->Option R)->Option R
 |[],a,_,k=>k a
 |(t, _) :: hs, a, Y, k => match OF t a with
  |some (.v (.c (.own i b _ n))) => match Y[b]? with
   |some (.row j l d _) => match Nat.beq j i with
    |true=>BY n l.length (ZY hs ((t,.v (.c (.own j b d l.length)))::a) Y k)
    |false=>none
   |_=>none
  |_=>none
def unrOf(h:JH):Option Nat:=match h.os with
 |[(k,n)]=>match Nat.beq k 1000003 with | true=>some n | false=>none
 |_=>none
def tC(g:Hn):aQ->Nat->TA->TH->KC R->Option R
 |.skip,_,d,Y,K=>K .normal d Y
 |.Bb os, q, d, Y, K => match jhl q Y.length g.J with
  |none => match VD g q os with
   |true=>iA g q 1000 0 os [] d Y λm t _=>K .normal m t
   |false=>none
  |some h => match Om h.os d Y, VD g q os with
   |some (d,Y),true=>Xr g q h.zs os d Y λm t=>ZY h.hs m t λm=>K .normal m t
   |_,_=>none
 |.HH os u k p, q, d, Y, K=>
  match VD g q os with
  |false=>none
  |true=>
  match isApp os with
  |true=>iA g q 1000 os.length os [] d Y λm t v=>match eT u v&&l_ u p os.length os.length&&Nat.ble p os.length with | true=>K .normal m t | false=>none
  |false => match Sl os u with
   |some (pi, _, G) => match VD g q (nK pi os) with
    |true=>iA g q 1000 G (nK pi os) [] d Y λm t v=>match Ql u pi v with | true=>K .normal m t | false=>none
    |false=>none
   |none=>match rsCall g q os&&l_ u p (V_ os) os.length with
   |true=>iA g q 1000 (V_ os) os [] d Y λm t v=>match eT u v&&l_ u p (V_ os) os.length&&Nat.ble p (V_ os) with | true=>K .normal m t | false=>none
   |false=>iA g q 1000 k os [] d Y λm t v=>match eT u v&&l_ u p k os.length&&Nat.ble p k with | true=>K .normal m t | false=>none
 |.seq a b, q, d, Y, K=>
  match jhl q Y.length g.J with
  |none => tC g a (2 * q) d Y λx f Y1 => match x with
   |.normal=>tC g b (2 * q+1) f Y1 K
   |x=>K x f Y1
  |some h => match Gk h.os d Y with
   |none=>none
   |some (d, Y) => jn (λx => tC g b (2 * q + 1) (dV h (dR a) d Y x) (cT h (dR a) d Y x) K) λj=>
    tC g a (2 * q) d Y λx f Y1=>match x with
     |.normal=>match FN h (dR a) d Y f Y1 with | some x=>j x | none=>none
     |x=>K x f Y1
 |.cond c a b, q, d, Y, K=>
  match Gc d [] none c with
  |some (.c (.d (.c (.lit (.bool true)))))=>tC g a (2 * q) d Y K
  |some (.c (.d (.c (.lit (.bool false)))))=>tC g b (2 * q+1) d Y K
  |some (.c (.b e))=>if e=true then tC g a (2 * q) d Y K else tC g b (2 * q+1) d Y K
  |_=>none
 |.block id b, q, d, Y, K => tC g b (2 * q) d Y λx f Y1 => match x with
  |.exit i=>match Nat.beq i id with | true=>K .normal f Y1 | false=>K (.exit i) f Y1
  |x=>K x f Y1
 |.loop b, q, d, Y, K=>
  match jhl q Y.length g.J with
  |none=>none
  |some h => match unrOf h with
   |some n => lpU (λrec d Y => tC g b (2 * q) d Y λex f Y1 => match ex with
    |.normal=>rec f Y1
    |ex=>K ex f Y1) n d Y
   |none=>match Gk h.os d Y with
   |none=>none
   |some (d,Y)=>match mvs Y.length h.zs with
   |_::_=>none
   |[]=>match OX h (dR b) d Y d Y with
   |none=>none
   |some w => bB (λrec x=>
    tC g b (2 * q) (dV h (dR b) d Y x) (cT h (dR b) d Y x) λex f Y1=>match ex with
     |.normal=>match FN h (dR b) (dV h (dR b) d Y x) (cT h (dR b) d Y x) f Y1 with | some z=>rec z | none=>none
     |ex=>K ex f Y1) g.N w
 |.exit id,_,d,Y,K=>K (.exit id) d Y
 |.ret,_,d,Y,K=>K .ret d Y
 |.lbl _,_,d,Y,K=>K .normal d Y
 |.VV l a r, q, d, Y, K=>
  match jhl q Y.length g.J with
  |none => tC g a (2 * q) d Y λex f Y1 => match ex with
   |.exit i => match Nat.beq i (2 * l + 1) with
    |true => tC g r (2 * q + 1) f Y1 λex A E => match ex with
     |.exit i=>match Nat.beq (i % 2) 0 with | true=>K (.exit i) A E | false=>none
     |ex=>K ex A E
    |false=>match Nat.beq (i % 2) 0 with | true=>K (.exit i) f Y1 | false=>none
   |ex=>K ex f Y1
  |some h => tC g a (2 * q) d Y λex f Y1 => match ex with
   |.exit i => match Nat.beq i (2 * l + 1) with
    |true => match FN h (dR a ++ dR r) d Y f Y1 with
     |none=>none
     |some w => bB (λrec x => tC g r (2 * q + 1) (dV h (dR a ++ dR r) d Y x) (cT h (dR a ++ dR r) d Y x) λex f Y1 => match ex with
      |.exit i => match Nat.beq i (2 * l + 1) with
       |true=>match FN h (dR a++dR r) (dV h (dR a++dR r) d Y x) (cT h (dR a++dR r) d Y x) f Y1 with | some z=>rec z | none=>none
       |false=>match Nat.beq (i % 2) 0 with | true=>K (.exit i) f Y1 | false=>none
      |ex=>K ex f Y1) g.N w
    |false=>match Nat.beq (i % 2) 0 with | true=>K (.exit i) f Y1 | false=>none
   |ex=>K ex f Y1
 |.Wj o ps a b, q, d, Y, K=>
  match jhl q Y.length g.J with
  |none=>none
  |some h => match Gk h.os d Y with
   |none=>none
   |some (d, Y) => match OX h [] d Y d Y, ps with
    |some w, [p] => match Gc (dV h [] d Y w) [] none o with
     |some (.c (.d (.fn (.func gf) [] [.ptr F 0 1]))) => match Y[F]?, tsk (gf + 1048576) g.S, Nat.blt p g.n && (aW g.P gf && capOk F (h.pl ++ Lp h.zs)) with
      |some (.cells _ [(_,.sl i l)]),some s,true=>itF i l s λj items=>lpR (λy x rec=>tC g a (2 * q) ((p,.v (.agg (exp j y)))::dV h [] d Y x) (cT h [] d Y x) λex f Y1=>match ex with
        |.normal => tC g b (2 * q + 1) f Y1 λex _ E => match ex with
         |.normal=>match FN h [] (dV h [] d Y x) (cT h [] d Y x) (dV h [] d Y x) E with | some z=>rec z | none=>none
         |ex=>K ex (dV h [] d Y x) E
        |_=>none) (λx=>K .normal (dV h [] d Y x) (cT h [] d Y x)) items w
      |_,_,_=>none
     |_=>none
    |_,_=>none
 |.stuck,_,_,_,_=>none
def Bf:Nat->List TV->TA
 |_,[]=>[]
 |i,d::ds=>(i,.v d)::Bf (i+1) ds
def FK(al:TA)(Y:TH):Nat×Option (Option Nat)->Option TV
 |(t,none)=>match OF t al with | some (.v x)=>some x | _=>none
 |(t, some n) => match OF t al with
  |some (.v (.c (.d (.ptr b off sz)))) => match Y[b]? with
   |some (.cells _ a)=>match Nat.beq a.length sz with | true=>Bq n (a.map Prod.snd) off | false=>none
   |_=>none
  |_=>none
def xP(Y:TH):(cs:List dt)->List TV->Option (kY cs)
 |[],[]=>some ()
 |[c],[x]=>qC c (fT Y x)
 |c :: d :: cs, x :: xs => match qC c (fT Y x), xP Y (d :: cs) xs with
  |some a,some b=>some (a,b)
  |_,_=>none
 |_,_=>none
def Gf{α d:Type}(f:α->Option d):List α->Option (List d)
 |[]=>some []
 |x :: xs => match f x, Gf f xs with
  |some a,some b=>some (a::b)
  |_,_=>none
structure dC where
 AQ:CT
 Qu:List CT
 f:dF AQ.items->Option (qq Qu)
abbrev OH:=List (Nat×dC)
def absS(a:CT)(Y:TH)(vs:List TV):Option (List (Nat×Nat)×dF a.items):=
 match Kw 0 Y a.out vs ⟨[],[],[],[]⟩ with
 |none=>none
 |some s1 => match DP 0 Y 0 a.nb s1 with
  |none=>none
  |some s => match yB (s.ρ.map Prod.snd) && (s.fz.isEmpty && (a.pl.isEmpty && s.ρ.all λp => Nat.blt p.1 (0 + a.nb.length))) with
   |true => match uG a.items (s.rw ++ s.cl) with
    |some x=>some (s.ρ,x)
    |none=>none
   |false=>none
def yt:TC->Bool
 |.d (.c (.lit (.slice none 0 0)))=>true
 |_=>false
def Wo(Y:TH)(ρ:List (Nat×Nat)):Nat->TH->Bool
 |_,[]=>true
 |i, .cells _ a :: bs => (match Y[(oW i ρ).getD 0]? with
  |some (.cells _ xs)=>exC xs a
  |_=>false)&&Wo Y ρ (i+1) bs
 |i,_::bs=>Wo Y ρ (i+1) bs
where exC:List (Nat×TC)->List (Nat×TC)->Bool
 |(_,x)::xs,(_,y)::a=>(!(yt x) || yt y)&&exC xs a
 |_,_=>true
def WL(n m:Nat)(ρ:List (Nat×Nat))(i:Nat):Nat:=match Nat.blt i n with | true=>(oW i ρ).getD 0 | false=>m+(i-n)
def eqVC:dt->dt->Bool
 |.c x,.c y=>decide (x=y)
 |.st i,.st j=>Nat.beq i j
 |.fp i,.fp j=>Nat.beq i j
 |.k g,.k h=>Nat.beq g h
 |_,_=>false
def rCP(ρ:Nat->Nat)(n:Nat):CP->CP->Bool
 |.c a,.c b=>decide (a=b)
 |.cx,.cx=>true
 |.fp a,.fp b=>Nat.beq a b
 |.hd b,.hd e=>Nat.beq (ρ b) e&&Nat.blt b n
 |.pt b o s,.pt e h g=>Nat.beq (ρ b) e&&(Nat.blt b n&&(Nat.beq o h&&Nat.beq s g))
 |.mr b,.mr e=>Nat.beq (ρ b) e&&Nat.blt b n
 |.fb f b s,.fb i e g=>Nat.beq (ρ b) e&&(Nat.blt b n&&(Nat.beq f i&&Nat.beq s g))
 |.k d,.k j=>eqK d j
 |_,_=>false
def QB(ρ:Nat->Nat)(n:Nat):List CP->List CP->Bool
 |[],[]=>true
 |p::ps,q::qs=>rCP ρ n p q&&QB ρ n ps qs
 |_,_=>false
def rRO(ρ:Nat->Nat)(n:Nat):RO->RO->Bool
 |.v a,.v b=>eqVC a b
 |.p a,.p b=>rCP ρ n a b
 |.ag a,.ag b=>QB ρ n a b
 |_,_=>false
def UE(ρ:Nat->Nat)(n:Nat):List RO->List RO->Bool
 |[],[]=>true
 |p::ps,q::qs=>rRO ρ n p q&&UE ρ n ps qs
 |_,_=>false
def rPC(ρ:Nat->Nat)(m0 n:Nat):PC->PC->Bool
 |.h b j p,.h a d f=>Nat.beq (ρ b) a&&(Nat.blt b m0&&(Nat.beq j d&&rCP ρ n p f))
 |.w b i,.w a g=>Nat.beq (ρ b) a&&(Nat.blt b m0&&Nat.beq i g)
 |.m b j st,.m a d e=>Nat.beq (ρ b) a&&(Nat.blt b m0&&(Nat.beq j d&&st == e))
 |_,_=>false
def Be(ρ:Nat->Nat)(m0 n:Nat):List PC->List PC->Bool
 |[],[]=>true
 |p::ps,q::qs=>rPC ρ m0 n p q&&Be ρ m0 n ps qs
 |_,_=>false
def rNB(ρ:Nat->Nat)(n:Nat):NB->NB->Bool
 |.cells a,.cells b=>QB ρ n a b
 |.row i,.row j=>Nat.beq i j
 |.mp j st,.mp e d=>Nat.beq j e&&st == d
 |_,_=>false
def Ax(ρ:Nat->Nat)(n:Nat):List NB->List NB->Bool
 |[],[]=>true
 |p::ps,q::qs=>rNB ρ n p q&&Ax ρ n ps qs
 |_,_=>false
def rCT(ρ:Nat->Nat)(m0:Nat)(a b:CT):Bool:=
 UE ρ (m0+a.nb.length) a.out b.out&&(Be ρ m0 (m0+a.nb.length) a.pl b.pl&&Ax ρ (m0+a.nb.length) a.nb b.nb)
def rCTs(ρ:Nat->Nat)(m0:Nat):List CT->List CT->Bool
 |[],[]=>true
 |a::as,b::bs=>rCT ρ m0 a b&&rCTs ρ m0 as bs
 |_,_=>false
theorem Kt:∀{a b:List CT},a.map CT.items=b.map CT.items->qq a=qq b:=by
 intro a;induction a with
 |nil=>simp_all
 |cons x a ih=>
  intro b h;cases b with
  |nil=>simp at h
  |cons y b=>
   simp only[rS,yCi] at h;cases a with
   |nil => cases b with
    |nil=>grind
    |cons _ _=>simp at h
   |cons d a => cases b with
    |nil=>simp at h
    |cons e b=>grind
def inlS(O:OH)(cs:List CT)(d:FuncId)(vs:List TV)(Y:TH):Option (qq cs):=
 match cs with
 |[]=>none
 |a :: cs => match a.H with
  |[(_, k)] => match O[k]? with
   |some (g, s) => match Nat.beq g d, absS s.AQ Y vs with
    |true, some (ρ, x) => match ma s.AQ [] x with
     |some (_, b) => match Wo Y ρ 0 b && rCTs (WL s.AQ.nb.length Y.length ρ) s.AQ.nb.length s.Qu (a :: cs) with
      |true => match decEq (s.Qu.map CT.items) ((a :: cs).map CT.items) with
       |.isTrue h=>cast (Ig Option (Kt h)) (s.f x)
       |.isFalse _=>none
      |false=>none
     |none=>none
    |_,_=>none
   |none=>none
  |_=>none
abbrev D_:=List CT->FuncId->List TV->TH->List CT
abbrev dj:=(a:List CT)->FuncId->List TV->TH->Option (qq a)
def Rt(ρ:Nat->Nat):CP->CP
 |.hd b=>.hd (ρ b)
 |.pt b o s=>.pt (ρ b) o s
 |.mr b=>.mr (ρ b)
 |.fb f b s=>.fb f (ρ b) s
 |p=>p
def renRO(ρ:Nat->Nat):RO->RO
 |.p p=>.p (Rt ρ p)
 |.ag a=>.ag (a.map (Rt ρ))
 |o=>o
def renPC(ρ:Nat->Nat):PC->PC
 |.h b j p=>.h (ρ b) j (Rt ρ p)
 |.w b i=>.w (ρ b) i
 |.m b j st=>.m (ρ b) j st
def renNB(ρ:Nat->Nat):NB->NB
 |.cells a=>.cells (a.map (Rt ρ))
 |n=>n
def renCT(ρ:Nat->Nat)(H:List (Nat×Nat))(c:CT):CT:=.mk (c.out.map (renRO ρ)) (c.pl.map (renPC ρ)) (c.nb.map (renNB ρ)) H [] []
def resK(O:OH)(a:FuncId)(vs:List TV)(Y:TH):List (Nat×Nat)->List CT
 |[]=>[]
 |(q, k) :: H => match Nat.beq q 1000000, O[k]? with
  |true, some (g, s) => match Nat.beq g a, absS s.AQ Y vs with
   |true,some (ρ,_)=>s.Qu.map (renCT (WL s.AQ.nb.length Y.length ρ) [(1000000,k)])
   |_,_=>resK O a vs Y H
  |_,_=>resK O a vs Y H
def resO(O:OH):D_:=λa b d Y=>match a with
 |[.mk [] [] [] (p :: H) [] []] => match Nat.beq p.1 1000000 with
  |true=>resK O b d Y (p::H)
  |false=>a
 |a=>a
def isOS(ct:CT):Bool:=match ct.H with
 |[(k,_)]=>Nat.beq k 1000000
 |_=>false
abbrev OG:=CT->FuncId->List TV->TH->Option (List TV×TH)
def WG(n:Nat):TC->Bool
 |.d x=>x.low n
 |.b _=>true
 |.sl _ _=>true
 |.fp _ _ _=>true
 |.fl _=>true
 |.cx _ _=>true
 |_=>false
def exV(n:Nat):TV->Bool
 |.c x=>WG n x
 |.agg a=>a.all (WG n)
 |.aV _=>false
def sBlk(n:Nat):TB->Bool
 |.cells w a=>a.all λp=>WG n p.2&&Nat.ble p.1 w
 |_=>false
def inl1(P:Program)(S:sq)(N:Nat)(B:dj)(i:D_)(I:dj)(X:OG):dj:=λb g e Y=>
 match b with
 |[]=>none
 |a :: b=>
  match isOS a with
  |true=>B (a::b) g e Y
  |false=>
  match P.funcs[g]? with
  |some f => match il P f true with
   |some d => match aW P g && Nat.ble e.length d.ntmps with
    |true => tC ⟨P, S, a.H, a.J, a.C, d.ntmps, N, I, X, i⟩ d.body 1 (Bf 0 e) Y λx h Y1 => match x with
     |.exit _=>none
     |_ => match Gf (FK h Y1) d.results with
      |some rs=>UG Y Y1 rs (a::b)
      |none=>none
    |false=>none
   |none=>none
  |none=>none
def ex1(P:Program)(S:sq)(N:Nat)(h:D_)(I:dj)(X:OG):OG:=λb g e Y=>
 match P.funcs[g]? with
 |some f => match il P f true with
  |some a => match aW P g && Nat.ble e.length a.ntmps with
   |true => (tC (R := List TV × TH) ⟨P, S, b.H, b.J, b.C, a.ntmps, N, I, X, h⟩ a.body 1 (Bf 0 e) Y λx d Y1 => match x with
    |.exit _=>none
    |_ => match Gf (FK d Y1) a.results with
     |some rs=>some (rs,Y1)
     |none => none).bind λp => match p.1.all (exV p.2.length) && (eQ [] 0 Y p.2 && (p.2.drop Y.length).all (sBlk p.2.length)) with
      |true=>some (p.1,Y++p.2.drop Y.length)
      |false=>none
   |false=>none
  |none=>none
 |none=>none
def Ph(P:Program)(S:sq)(N:Nat)(B:dj)(a:D_):Nat->dj×OG
 |0=>(λ_ _ _ _=>none,λ_ _ _ _=>none)
 |d+1=>(inl1 P S N B a (Ph P S N B a d).1 (Ph P S N B a d).2,ex1 P S N a (Ph P S N B a d).1 (Ph P S N B a d).2)
def tF(P:Program)(S:sq)(B:dj)(d:D_)(H:List (Nat×Nat))(J:List (Nat×JH))(C:List (Nat×List CT))(e:Nat)(f:kP)(b out:List dt)(N:Nat)(a:tD b):Option (kY out):=
 tC ⟨P,S,H,J,C,f.ntmps,N,(Ph P S N B d e).1,(Ph P S N B d e).2,d⟩ f.body 1 (Bf 0 (tvV b a)) [] λx g Y=>
  match x with
  |.exit _=>none
  |_ => match Gf (FK g Y) f.results with
   |some rs=>xP Y out rs
   |none=>none
end
end Go.Abs
end
section
namespace Go.Abs
section
variable[Gl][σ:Ty]
def GC(Y:TH):TC->Prop
 |.own i c v n=>∃blk,Y[c]? = some blk/\∀j l b d,blk=.row j l b d->v<=b/\(v=b->j=i/\n=l.length)
 |.op i c v n k a _=>∃blk,Y[c]? = some blk/\∀j l b d,blk=.row j l b d->v<=d/\(v=d->∃m:List (TT i),iB l=some m/\n=m.length/\aD m k=some a)
 |.ap c _ _ _ _=>c<Y.length
 |.os i c v n e len=>∃blk,Y[c]? = some blk/\∀j l b d,blk=.row j l b d->v<=b/\(v=b->j=i/\n=l.length/\e+len<=n)
 |.d x=>x.low Y.length=true
 |.Gt _ f=>f.all (CV.low Y.length)=true
 |_=>True
def GV(Y:TH):TV->Prop
 |.c x=>GC Y x
 |.agg a=>∀x∈a,GC Y x
 |.aV a=>∀p∈a,∀x∈p.2,GC Y x
structure RH (Y:TH) (σD:ar):Prop where
 len:σD.length=Y.length
 hp:∀(b:Nat) blk,Y[b]? = some blk->∃ob,σD[b]? = some ob/\RB blk ob
 hg:∀(b:Nat) w cs,Y[b]? = some (.cells w cs)->∀p∈cs,GC Y p.2/\p.1<=w
def BE:TB->TB->Prop
 |.cells w p,a=>∃w1 d,a=.cells w1 d/\w<=w1/\p.length<=d.length/\∀(j:Nat) v x e q,p[j]? = some (v,x)->d[j]? = some (e,q)->(e=v/\q=x)\/w<e
 |.row i l h s,a=>∃g b f,a=.row i g b f/\h<=b/\s<=f/\(h=b->g.length=l.length)/\(s=f->g=l/\b=h)
 |.mp j st l v,a=>∃t m g e,a=.mp t m g e/\v<=e/\(v=e->a=.mp j st l v)
def Ext(Y Y1:TH):Prop:=∀(b:Nat) blk,Y[b]? = some blk->∃a,Y1[b]? = some a/\BE blk a
theorem BE.refl(blk:TB):BE blk blk:=by
 cases blk with
 |cells w s=>exact ⟨w,s,rfl,cP _,cP _,λj v x A E h F=>.inl (by simp_all)⟩
 |row i l u z=>exact ⟨l,u,z,rfl,cP _,cP _,λ_=>rfl,λ_=>⟨rfl,rfl⟩⟩
 |mp j st l v=>exact ⟨j,st,l,v,rfl,cP _,λ_=>rfl⟩
theorem Ext.refl(Y:TH):Ext Y Y:=λ_ blk h=>⟨blk,h,BE.refl blk⟩
theorem BE.trans(u:BE a b)(s:BE b c)(ha:∀w cs,a=.cells w cs->∀p∈cs,p.1<=w):BE a c:=by
 cases a with
 |cells w cs=>
  obtain ⟨w1,M,rfl,hw,hl,hc⟩:=u;obtain ⟨w2,z,rfl,O,U,W⟩:=s;refine ⟨w2,z,rfl,by omega,by omega,λj v x K x2 h s=>?_⟩
  grind
 |row i l lv cv=>
  obtain ⟨X,Z,aa,rfl,h3,h4,h5,h6⟩:=u;obtain ⟨A,E,F,rfl,h7,h8,h9,ab⟩:=s;refine ⟨A,E,F,rfl,by omega,by omega,λe=>?_,λe=>?_⟩
  ·omega
  grind
 |mp j st l v=>
  obtain ⟨j1,ad,X,v1,rfl,h3,h4⟩:=u;obtain ⟨j2,G,A,K,rfl,h5,h6⟩:=s;refine ⟨j2,G,A,K,rfl,by omega,λe=>?_⟩
  grind
def RH.ver(H:RH Y σD){b:Nat}(h:Y[b]? = some blk):∀w cs,blk=.cells w cs->∀p∈cs,p.1<=w:=λw cs e p i=>by subst e;exact (H.hg b w cs h p i).2
def Ext.trans(H:RH Y σD)(u:Ext Y Y1)(x:Ext Y1 s):Ext Y s:=λb blk h=>by obtain ⟨i,z,A⟩:=u b blk h;obtain ⟨j,E,F⟩:=x b i z;exact ⟨j,E,A.trans F (H.ver h)⟩
theorem Ext.len(h:Ext Y Y1):Y.length<=Y1.length:=by
 rcases rU Y1.length Y.length with i | j
 ·obtain ⟨blk,s,_⟩:=h Y1.length _ (dW i)
  simp_all
 omega
def D.eK(hm:m<=m'){d:D}(h:d.low m=true):d.low m'=true:=by
 have i:∀(k:Nat)(d:D),SizeOf.sizeOf d<k->d.low m=true->d.low m'=true:=by
  intro k;induction k with
  |zero=>omega
  |succ k ih=>
   have cW:∀(ds:List D),SizeOf.sizeOf ds<k+1->D.low.cW m ds=true->D.low.cW m' ds=true:=by
    intro ds;induction ds with
    |nil=>intro _ _;rfl
    |cons x ds j=>
     intro hs h;simp only[D.low.cW,bG,List.cons.sizeOf_spec] at h hs ⊢
     grind
   intro d hs h;cases d with
   |c x=>rfl
   |any=>rfl
   |ptr b o s=>simp only[D.low,bz] at h ⊢;omega
   |sl b o l e s=>simp only[D.low,bz] at h ⊢;omega
   |mp b=>simp only[D.low,bz] at h ⊢;omega
   |fn f a b=>
    simp only[D.low,bG,D.fn.sizeOf_spec] at h hs ⊢
    grind
   |agg ds=>grind [D.low]
   |aV ds=>grind [D.low]
 exact i (SizeOf.sizeOf d+1) d (Nat.lt_succ_self _) h
theorem CV.eK(hm:m<=m'){xs:List CV}(h:xs.all (CV.low m)=true):xs.all (CV.low m')=true:=by
 rw[iK] at h ⊢;intro x j;have:=h x j;cases x with
 |d x=>exact D.eK hm this
 |b e=>rfl
 |sl i l=>rfl
def Dh(h:xs.all (CV.low m)=true):(TC.Gt g xs).er.low m=true:=by
 have:D.low.cW m (xs.map CV.er)=true:=by
  induction xs with
  |nil=>rfl
  |cons x xs ih=>
   simp only[SW,bG] at h;simp only[rS,D.low.cW,bG];refine ⟨?_,ih h.2⟩;cases x with
   |d x=>exact h.1
   |b e=>rfl
   |sl i l=>rfl
 grind [TC.er,D.low,D.low.cW]
theorem GC.mono(h:Ext Y Y1)(z:GC Y x):GC Y1 x:=by
 cases x with
 |own i c v n=>
  obtain ⟨blk,A,X⟩:=z;obtain ⟨s,E,u⟩:=h c blk A;refine ⟨s,E,λj l Z cv e=>?_⟩;subst e;cases blk with
  |cells w cs=>obtain ⟨w1,F,e,_⟩:=u;simp at e
  |mp j st l v=>obtain ⟨j1,G,K,v1,e,_⟩:=u;simp at e
  |row j0 l0 M O=>
   obtain ⟨K,U,W,e,h5,h6,h7,h8⟩:=u
   grind
 |os i c v n lo len=>
  obtain ⟨blk,A,X⟩:=z;obtain ⟨s,E,u⟩:=h c blk A;refine ⟨s,E,λj l Z cv e=>?_⟩;subst e;cases blk with
  |cells w cs=>obtain ⟨w1,F,e,_⟩:=u;simp at e
  |mp j st l v=>obtain ⟨j1,G,K,v1,e,_⟩:=u;simp at e
  |row j0 l0 M O=>
   obtain ⟨K,U,W,e,h5,h6,h7,h8⟩:=u
   grind
 |op i c v n k a off=>
  obtain ⟨blk,A,X⟩:=z;obtain ⟨s,E,u⟩:=h c blk A;refine ⟨s,E,λj l Z cv e=>?_⟩;subst e;cases blk with
  |cells w cs=>obtain ⟨w1,F,e,_⟩:=u;simp at e
  |mp j st l v=>obtain ⟨j1,G,K,v1,e,_⟩:=u;simp at e
  |row j0 l0 M O=>
   obtain ⟨K,U,W,e,h5,h6,h7,h8⟩:=u
   grind
 |ap c off len sz k=>exact FG z h.len
 |d x=>exact D.eK h.len z
 |Gt g xs=>exact CV.eK h.len z
 |_=>trivial
theorem GV.mono(h:Ext Y Y1)(i:GV Y x):GV Y1 x:=by
 cases x with
 |c x=>exact GC.mono h i
 |agg s=>exact λx j=>GC.mono h (i x j)
 |aV s=>exact λp u x j=>GC.mono h (i p u x j)
def Ext.push(Y:TH)(blk:TB):Ext Y (Y++[blk]):=λb i h=>⟨i,by grind,BE.refl _⟩
def RH.push(H:RH Y σD)(h:RB blk ob)(hg:∀w cs,blk=.cells w cs->∀p∈cs,GC Y p.2/\p.1<=w):RH (Y++[blk]) (σD++[ob]):={
 len:=by simp[H.len]
 hp:=λb j hb=>by
  rcases rU b Y.length with i | s
  ·rw[FF i] at hb;rw[FF (by grind [RH.len])];exact H.hp b j hb
  grind [RH.len]
 hg:=λb w cs hb p hp=>by
  rcases rU b Y.length with i | s
  ·rw[FF i] at hb;obtain ⟨u,x⟩:=H.hg b w cs hb p hp;exact ⟨u.mono (Ext.push Y blk),x⟩
  ·rw[Np s] at hb;have:b-Y.length=0:=by grind
   rw[this] at hb;simp only[xF,au] at hb;obtain ⟨u,x⟩:=hg w cs hb p hp;exact ⟨u.mono (Ext.push Y blk),x⟩ }
def YO{α:Type}{l:List α}{x y z:α}(h:l[b]? = some x)(d:(l.set b y)[a]? = some z):(a=b/\z=y)\/(a≠b/\l[a]? = some z):=by grind
theorem HK{α:Type}{l:List α}{x y:α}(h:l[b]? = some x):(l.set b y)[b]? = some y:=by grind
def Vz{α:Type}{l:List α}{y:α}(h:a≠b):(l.set b y)[a]? = l[a]?:=by grind
def Ext.set(h:Y[b]? = some blk)(s:BE blk i):Ext Y (Y.set b i):=λu j x=>by grind [BE.refl]
def RH.set(H:RH Y σD)(hb:Y[b]? = some blk)(F:BE blk i)(h:RB i ob)(hg:∀w cs,i=.cells w cs->∀p∈cs,GC Y p.2/\p.1<=w):RH (Y.set b i) (σD.set b ob):={
 len:=by simp[H.len]
 hp:=λx s j=>by
  obtain ⟨G,K,_⟩:=H.hp b blk hb;rcases YO hb j with ⟨rfl,rfl⟩ | ⟨u,z⟩
  ·grind
  ·rw[Vz u];exact H.hp x s z
 hg:=λx w cs j p hp=>by
  rcases YO hb j with ⟨rfl,e⟩ | ⟨u,z⟩
  ·obtain ⟨A,E⟩:=hg w cs e.symm p hp;exact ⟨A.mono (Ext.set hb F),E⟩
  ·obtain ⟨A,E⟩:=H.hg x w cs z p hp;exact ⟨A.mono (Ext.set hb F),E⟩ }
def dD(Y:TH)(alD:AL)(rd:aT->Option TV):Prop:=∀x v,rd x=some v->∃d,lx alD x=some d/\RT v d/\GV Y v
def dq(P:Program)(orc:xg)(n:Nat)(alD:AL)(Y:TH)(σD:ar)(o:kN)(Q:TV->TH->Bool->List Nat->Prop):Prop:=
 ∃v Y1 rs wr d σD1,ff P orc n alD σD o d σD1 wr/\RT v d/\GV Y1 v/\RH Y1 σD1/\Ext Y Y1/\(rs=false->kC σD σD1 wr=true)/\(xI o=true->Y1=Y/\σD1=σD/\wr=[])/\Q v Y1 rs wr
variable{P:Program}{orc:xg}{n:Nat}{alD:AL}{Y Y1:TH}{σD σD1:ar}{o:kN}{Q:TV->TH->Bool->List Nat->Prop}
def dq.pure(h:ff P orc n alD σD o d σD [])(i:RT v d)(j:GV Y v)(H:RH Y σD)(q:Q v Y false []):dq P orc n alD Y σD o Q:=
 ⟨v,Y,false,[],d,σD,h,i,j,H,Ext.refl Y,λ_=>rfl,λ_=>⟨rfl,rfl,rfl⟩,q⟩
def dq.new(h:ff P orc n alD σD o d (σD++[ob]) [])(i:RT v d)(j:GV (Y++[blk]) v)(H:RH Y σD)(hb:RB blk ob)(s:∀w cs,blk=.cells w cs->∀p∈cs,GC Y p.2/\p.1<=w)
  (q:Q v (Y++[blk]) false []) (u:xI o=false:=by rfl):dq P orc n alD Y σD o Q:=
 ⟨v,Y++[blk],false,[],d,σD++[ob],h,i,j,H.push hb s,Ext.push Y blk,λ_=>rfl,λh=>by simp_all,q⟩
theorem RH.cells(H:RH Y σD){b w:Nat}(h:Y[b]? = some (.cells w cs)):∃ds,σD[b]? = some (.cells ds)/\aM RC (cs.map Prod.snd) ds/\ds.length=cs.length/\ds=cs.map λp=>p.2.er:=by obtain ⟨j,i,rfl⟩:=H.hp b _ h;refine ⟨_,i,?_,by simp,rfl⟩;have:=aM.er (cs.map Prod.snd);rw[UX] at this;exact this
def RH.row(H:RH Y σD){b i j s:Nat}{l:List (TT i)}(h:Y[b]? = some (.row i l j s)):σD[b]? = some (OB (enc i) l):=by obtain ⟨z,u,x⟩:=H.hp b _ h;rw[u];exact Ig some x
def Qk(h:σD[b]? = some (.cells ds))(hs:ds.length=sz):nW σD b sz=some ds:=by grind [nW]
theorem zl(h:Bq m cs off=some v)(a:aM RC cs ds):∃d,uL m ds off=some d/\RT v d:=by
 cases m with
 |none=>
  simp only[Bq] at h;split at h
  ·rename_i x b;simp only[au] at h;subst h;obtain ⟨d,e,f⟩:=a.get _ _ b;exact ⟨d,e,f⟩
  simp_all
 |some m=>
  simp only[Bq] at h;split at h
  ·rename_i hb;simp only[au] at h;subst h;have g:=CH hb;refine ⟨.agg ((ds.drop off).take m),?_,_,rfl,(a.drop off).take m⟩;simp only[uL];rw[if_pos (by grind [aM.len])]
  simp_all
theorem pP(h:Bq m cs off=some v)(b:∀x∈cs,GC Y x):GV Y v:=by
 cases m with
 |none=>
  simp only[Bq] at h;split at h
  ·rename_i x a;simp only[au] at h;subst h;exact b x (Av a)
  simp_all
 |some m=>
  simp only[Bq] at h;split at h
  ·simp only[au] at h;subst h;exact λx a=>b x (yBp (Mx a))
  simp_all
theorem vL(c:CC)(a:c.dn):GC Y (tc c a):=by cases c <;> first | exact True.intro | rfl
theorem TY(c:It)(a:c.dn):GC Y (Zb c a):=by cases c <;> first | exact vL _ _ | exact True.intro
def GY(h:wx i (.c x)=some a):x=.fp i a 0:=by
 unfold wx at h;split at h
 ·rename_i e;simp only[TV.c.injEq] at e;subst e;split at h
  ·rename_i e _;subst e;simp only[au] at h;subst h;rfl
  ·simp at h
 ·simp at h
theorem Vn:∀(cs:List CC)(x:aV cs),∀y∈uj cs x,GC Y y:=by
 intro cs;induction cs with
 |nil=>grind [uj]
 |cons c cs ih=>grind [uj,vL]
theorem un(i:Nat)(a:TT i):∀y∈exp i a,GC Y y:=Vn _ _
def Tp(i:Nat)(a:TT i):aM RC (exp i a) ((enc i a).map .c):=by rw[<-vj];exact aM.er _
def Ii(h:x.scalar=true)(r:RC x d):d.scalar=true/\d=x.er:=by
 rcases r with rfl | rfl
 ·grind [TC.scalar]
 ·refine ⟨?_,rfl⟩;cases x with
  |any=>grind [TC.scalar]
  |d x=>exact h
  |_=>rfl
def qh(h:fi v=some xs)(r:RT v d):d.cells? = some (xs.map TC.er)/\aM RC xs (xs.map TC.er)/\∀x∈xs,x≠.any:=by
 refine ⟨?_,aM.er _,?_⟩
 ·cases v with
  |c x=>
   simp only[fi] at h;split at h
   ·rename_i hs;simp only[au] at h;subst h;obtain ⟨l,rfl⟩:=Ii hs r;cases i:x.er with
    |agg m=>grind [D.scalar]
    |_=>grind [D.cells?]
   simp_all
  |agg a=>
   simp only[fi] at h;split at h
   ·rename_i hs;simp only[au] at h;subst h;obtain ⟨ds,rfl,j⟩:=r;rw[iK] at hs;have b:∀y∈a,y≠.any:=λy f e=>by grind [TC.scalar]
    rw[j.eq b];simp only[D.cells?];rw[if_pos];rw[iK];intro d g;rw[iX] at g;obtain ⟨y,f,rfl⟩:=g;exact (Ii (hs y f) (.inr rfl)).1
   simp_all
  |aV a=>grind [fi]
 ·intro x i e;subst e;cases v with
  |c y=>grind [fi,TC.scalar]
  |agg a=>grind [fi,TC.scalar]
  |aV a=>grind [fi]
theorem vg(h:fi v=some xs)(g:GV Y v):∀x∈xs,GC Y x:=by
 cases v with
 |c x=>
  simp only[fi] at h;split at h
  ·simp only[au] at h;subst h;intro y a;simp only[zV] at a;subst a;exact g
  simp_all
 |agg b=>
  simp only[fi] at h;split at h
  ·simp only[au] at h;subst h;exact g
  simp_all
 |aV b=>grind [fi]
theorem aM.put{cs xs:List α}{ds i:List j}(h:aM R cs ds)(s:aM R xs i)(off:Nat):aM R (sL cs off xs) (ds.take off++i++ds.drop (off+i.length)):=by unfold sL;rw[s.len];exact ((h.take off).VF s).VF (h.drop _)
theorem MP{x:α}(h:x∈sL cs off xs):x∈cs\/x∈xs:=by grind [sL]
theorem EZ(i:dD Y alD rd):∀{ps:List (Nat×Nat×aT)}{cs a:List TC}{ds:List D},Ew rd cs ps=some a->aM RC cs ds->(∀x∈cs,GC Y x)->∃b,Ce alD ds ps=some b/\aM RC a b/\∀x∈a,GC Y x:=by
 intro ps;induction ps with
 |nil=>intro cs a ds h e g;simp only[Ew,au] at h;subst h;exact ⟨ds,rfl,e,g⟩
 |cons p ps ih=>
  intro cs a ds h e g;obtain ⟨o,m,x⟩:=p;simp only[Ew] at h;split at h
  ·rename_i v j;split at h
   ·rename_i z f;split at h
    ·rename_i hb;obtain ⟨d,l,q,A⟩:=i x v j;obtain ⟨s,t,E⟩:=qh f q;simp only[bG] at hb;have F:=dd hb.1;have G:=CH hb.2;obtain ⟨b,u,w⟩:=ih h (e.put t o) λy K=>by
      grind [MP,vg]
     refine ⟨b,?_,w⟩;simp only[Ce,l,aw,s];rw[if_neg (by grind [aM.len])];exact u
    simp_all
   simp_all
  simp_all
end
end Go.Abs
end
section
namespace Go.Abs
open Go.Fl
theorem GL(d:a.natAbs<2 ^ 52)(hb:b.natAbs<2 ^ 52):Op.Complex.arith .add .f64 (fl a) (fl b)=pure (fl (a+b)):=by
 have h:FloatKind.f64.format.add (fl a) (fl b)=some (fl (a+b)):=fl_add d hb;have e:Op.floatArith .add .f64 (fl a) (fl b)=pure (.float .f64 (fl (a+b))):=by show (match FloatKind.f64.format.add (fl a) (fl b) with | some r=>(pure (.float .f64 r):Go.Sem Value) | none=>_)=_;rw[h]
 grind [Go.Op.Complex.arith]
theorem HB(d:a.natAbs<2 ^ 52)(hb:b.natAbs<2 ^ 52):Op.Complex.arith .sub .f64 (fl a) (fl b)=pure (fl (a-b)):=by
 have h:FloatKind.f64.format.sub (fl a) (fl b)=some (fl (a-b)):=fl_sub d hb;have e:Op.floatArith .sub .f64 (fl a) (fl b)=pure (.float .f64 (fl (a-b))):=by show (match FloatKind.f64.format.sub (fl a) (fl b) with | some r=>(pure (.float .f64 r):Go.Sem Value) | none=>_)=_;rw[h]
 grind [Go.Op.Complex.arith]
theorem wg(d:0<=a)(f:0<=b)(g:a.natAbs<2 ^ 53)(hb:b.natAbs<2 ^ 53)(hm:(a * b).natAbs<2 ^ 53):Op.Complex.arith .mul .f64 (fl a) (fl b)=pure (fl (a * b)):=by
 have h:FloatKind.f64.format.mul (fl a) (fl b)=some (fl (a * b)):=fl_mul d f g hb hm;have e:Op.floatArith .mul .f64 (fl a) (fl b)=pure (.float .f64 (fl (a * b))):=by show (match FloatKind.f64.format.mul (fl a) (fl b) with | some r=>(pure (.float .f64 r):Go.Sem Value) | none=>_)=_;rw[h]
 grind [Go.Op.Complex.arith]
def MC(e:a.natAbs<2 ^ 52)(hb:b.natAbs<2 ^ 52)(f:c.natAbs<2 ^ 52)(g:d.natAbs<2 ^ 52) :
  Op.complexOp .add .f64 (fl a) (fl b) (fl c) (fl d)=pure (.complex .f64 (fl (a+c)) (fl (b+d))):=by
 grind [Go.Op.complexOp,GL]
def Mm(e:a.natAbs<2 ^ 52)(hb:b.natAbs<2 ^ 52)(f:c.natAbs<2 ^ 52)(g:d.natAbs<2 ^ 52) :
  Op.complexOp .sub .f64 (fl a) (fl b) (fl c) (fl d)=pure (.complex .f64 (fl (a-c)) (fl (b-d))):=by
 grind [Go.Op.complexOp,HB]
def prod_of{a b d e A B z:Nat}(p1:Op.Complex.arith .mul .f64 a d=pure A)(f:Op.Complex.arith .mul .f64 b e=pure z)(g:Op.Complex.arith .mul .f64 a e=pure z)(h:Op.Complex.arith .mul .f64 b d=pure B)
  (i:Op.Complex.arith .sub .f64 A z=pure A) (j:Op.Complex.arith .add .f64 z B=pure B):Op.Complex.product a b d e=pure (A,B):=by
 unfold Op.Complex.product Op.Complex.mul Op.Complex.sub Op.Complex.add
 simp_all
def cop_of{a b d g A B:Nat}(h:Op.Complex.product a b d g=pure (A,B)):Op.complexOp .mul .f64 a b d g=pure (.complex .f64 A B):=by unfold Op.complexOp;show (do let (e,f) <-Op.Complex.product a b d g;pure (.complex .f64 (<-Op.Complex.conv .f64 e .f64) (<-Op.Complex.conv .f64 f .f64)):Go.Sem Value)=_;rw[h];rfl
def MK(e:0<=a)(f:0<=b)(d:0<=n)(j:a<=1048576)(hb:b<=1048576)(g:n<=1048576) :
  Op.complexOp .mul .f64 (fl a) (fl b) (fl n) (fl 0)=pure (.complex .f64 (fl (a * n)) (fl (b * n))):=by
 have m1:0<=a * n/\a * n<=1048576 * 1048576:=⟨yBT e d,Int.mul_le_mul j g d (by omega)⟩;have l:0<=b * n/\b * n<=1048576 * 1048576:=⟨yBT f d,Int.mul_le_mul hb g d (by omega)⟩;have z:(0:Int).natAbs<2 ^ 53:=by omega
 have i:(0:Int).natAbs<2 ^ 52:=by omega
 refine cop_of (prod_of (z:=fl 0) ?_ ?_ ?_ ?_ ?_ ?_)
 ·grind [wg]
 ·have h:=wg (a:=b) (b:=0) f (MG _) (by omega) z (by omega)
  simp_all
 ·have h:=wg (a:=a) (b:=0) e (MG _) (by omega) z (by omega)
  simp_all
 ·grind [wg]
 ·have h:=HB (a:=a * n) (b:=0) (by omega) i
  simp_all
 ·have h:=GL (a:=0) (b:=b * n) i (by omega)
  simp_all
def Ux(h:n.natAbs<2 ^ 53):Conv.floatToInt .f64 (fl n) .i64=pure (.int .i64 n):=by
 unfold Conv.floatToInt;have e:(FloatKind.f64.decode (fl n)).toInt .zero=some n:=fl_int h;simp only[e];have a:IntKind.i64.min=-9223372036854775808:=rfl;have b:IntKind.i64.max=9223372036854775807:=rfl
 grind
end Go.Abs
end
section
namespace Go.Abs
section
variable[Gl][σ:Ty]
variable{P:Program}{orc:xg}{n:Nat}{alD:AL}{Y Y1:TH}{σD σD1:ar}{o:kN}{Q:TV->TH->Bool->List Nat->Prop}{rd:aT->Option TV}
theorem IX(a:dD Y alD rd)(h:wA rd x=some v):∃d,AU alD x=some d/\RT v d/\GV Y v:=by
 unfold wA at h;split at h
 ·rename_i o b;obtain ⟨d,e,f⟩:=a o v h
  grind [AU]
 simp_all
theorem rc(h:Qd v=some a)(r:RT v d):d.cX = some a/\d=.c (.lit a):=by
 unfold Qd at h;split at h
 ·simp only[au] at h;subst h;rcases r with r | rfl
  ·simp at r
  ·exact ⟨rfl,rfl⟩
 ·simp only[au] at h;subst h;rcases r with r | rfl
  ·simp at r
  ·exact ⟨rfl,rfl⟩
 simp_all
def flat:Value->Bool
 |.agg _ | .tuple _=>false
 |_=>true
def SK(h:flat v=true):RT (Es v) (dH v)/\GV Y (Es v):=by
 unfold Es;split
 ·exact ⟨.inr rfl,True.intro⟩
 ·refine ⟨.inr ?_,rfl⟩;cases v <;> first | rfl | grind [flat]
theorem valC_ok(h:valC x=some a)(r:RC x d):kR d=some a:=by
 unfold valC at h;split at h
 ·simp only[au] at h;subst h;rcases r with r | rfl
  ·simp at r
  ·rfl
 ·simp only[au] at h;subst h;rcases r with r | rfl
  ·simp at r
  ·rfl
 simp_all
theorem LU:∀{xs:List TC}{ds:List D}{vs:List Value},Ib xs=some vs->aM RC xs ds->ds.mapM kR=some vs:=by
 intro xs ds vs h r;induction r generalizing vs with
 |nil=>grind [Ib]
 |cons a _ ih=>grind [Ib,valC_ok]
theorem eqF0xok:∀{e:List Field}{r:Bool},Xj P xs g e=some r->fE P (Op.eqFields (d+1) xs g e)=some r:=by
 intro e;induction e with
 |nil=>intro r h;simp only[Xj,au] at h;subst h;rfl
 |cons f e ih=>
  intro r h;simp only[Xj] at h;split at h
  ·rename_i k a i b j q l m p s t;split at h
   ·grind [uA,eq_int]
   simp_all
  ·grind [uA,Db]
  simp_all
theorem eqFs_ok:∀{e:List Field}{r:Bool},ZS P xs i e=some r->fE P (Op.eqFields (d+2) xs i e)=some r:=by
 intro e;induction e with
 |nil=>intro r h;simp only[ZS,au] at h;subst h;rfl
 |cons f e ih=>
  intro r h;simp only[ZS] at h;split at h
  ·rename_i k a w b x q j l m g p;split at h
   ·grind [uA,eq_int]
   simp_all
  ·grind [uA,Db]
  ·rename_i a b t q j l m g p;split at h
   ·rename_i y u v;simp only[au] at h;subst h;have s:P.fieldsOf f.type=t:=by simp[Go.Program.fieldsOf,g]
    exact uA j l m (eq_agg (d:=d+1) (by rw[s];exact g) u (by rw[s];exact eqF0xok v)) (ih p)
   simp_all
  simp_all
def eqT_ok(h:eqT P t xs b=some r)(e:aM RC xs ds)(f:aM RC b es) :
  ∃vs a,(D.agg ds).cX = some (.agg vs)/\(D.agg es).cX = some (.agg a)/\P.eqGuardType P.depth t=false/\fE P (Op.equalIn 10000 t (.agg vs) (.agg a))=some r:=by
 unfold eqT at h;split at h
 ·rename_i vs a g i j l d m;refine ⟨vs.toArray,a.toArray,?_,?_,d,?_⟩
  ·grind [D.cX,LU]
  ·grind [D.cX,LU]
  grind [Go.Program.fieldsOf,eq_agg,eqFs_ok]
 simp_all
def AP{α d:Type}{o:Option α}{f:α->Option d}{b:d}(h:o.bind f=some b):∃a,o=some a/\f a=some b:=c_.1 h
def Jz{o:BinOp}(i:o≠.eql)(e:o≠.neq)(f:o≠.shl)(g:o≠.shr)(h:Op.complexOp o .f64 a b c d=pure v):gR P o t x y (.complex .f64 a b) (.complex .f64 c d)=some v:=by
 unfold gR;rw[xH];have j:fE P (eqGuard o t x y (.complex .f64 a b) (.complex .f64 c d))=some ():=by cases o <;> first | rfl | exact absurd rfl i | exact absurd rfl e
 rw[j,aw];have:binOp o t (.complex .f64 a b) (.complex .f64 c d)=Op.complexOp o .f64 a b c d:=by cases o <;> first | rfl | exact absurd rfl i | exact absurd rfl e | exact absurd rfl f | exact absurd rfl g
 rw[this,h];rfl
def Sj(h:SD a b=some c):a.natAbs<2 ^ 52/\b.natAbs<2 ^ 52/\c=a+b:=by
 unfold SD at h
 simp_all
def Sc(h:xV a b=some c):a.natAbs<2 ^ 52/\b.natAbs<2 ^ 52/\c=a-b:=by
 unfold xV at h
 simp_all
def SY(h:xY a b=some c):0<=a/\a<=1048576/\0<=b/\b<=1048576/\c=a * b:=by
 unfold xY at h
 simp_all
theorem valO_ok(b:dD Y alD rd)(h:TX (wA rd) x=some a):(AU alD x).bind D.cX = some a:=by grind [TX,IX,rc]
theorem Sp(g:dD Y alD rd)(d:∀cs b,op≠.select cs b)(h:genV P op ty (wA rd)=some v):FQ P op ty alD=some (dH v):=by
 unfold genV at h;split at h
 ·rename_i a;rw[iK] at a;have f:∀x∈op.operands.toList,(AU alD x).bind D.cX = TX (wA rd) x:=λx e=>by
   have:=a x e;rw[yBr] at this
   grind [valO_ok]
  unfold FQ;rw[if_pos (by simp_all)];rw[execOp_congr (ρ:=λx=>(((AU alD x).bind D.cX).getD undef)) (ρ':=λx=>(TX (wA rd) x).getD undef) { dst:=none,op:=op,type:=ty,pos:="",after:=#[],guard:=none } d (λx e=>by simp_all)]
  grind
 simp_all
def conv_fl(e:P.underlying b=some (.float .f64))(hs:(P.underlying t).isSome=true):fE P (convert t b (.int d a))=some (.float .f64 (Fl.fl a)):=by obtain ⟨u,f⟩:=yBr.1 hs;unfold convert;rw[xH,zbS f,aw,xH,zbS e,aw];cases u <;> rfl
def XA(f:P.underlying d=some (.int .i64))(hs:(P.underlying t).isSome=true)(h:zC a=some b):fE P (convert t d (.float .f64 (Fl.fl a)))=some (.int .i64 b):=by
 unfold zC at h;split at h
 ·rename_i g;simp only[au] at h;subst h;obtain ⟨u,i⟩:=yBr.1 hs;unfold convert;rw[xH,zbS i,aw,xH,zbS f,aw];have e:fE P (Conv.floatToInt .f64 (Fl.fl a) .i64)=some (.int .i64 a):=by rw[Ux g];rfl
  omega
 simp_all
def Ra(e:c.callee=.builtin b)(a:∀x∈c.args.toList,((AU alD x).bind D.cX).isSome=true)
  (h:fE P (builtin b c.argTypes ty (c.args.map λ| .const _=>true | _=>false) (c.args.map λx=>((AU alD x).bind D.cX).getD undef))=some (.value v)):FQ P (.call c) ty alD=some (dH v):=by
 obtain ⟨d,args,f⟩:=c;dsimp only at e a h;subst e;have g:(Op.operands (.call ⟨.builtin b,args,f⟩)).toList=args.toList:=by simp[Op.operands,Call.operands]
 unfold FQ;rw[if_pos (by simp_all)];have:fE P (execOp (λx=>((AU alD x).bind D.cX).getD undef) { dst:=none,op:=.call ⟨.builtin b,args,f⟩,type:=ty,pos:="",after:=#[],guard:=none })=some (.value v):=h
 rw[this]
def Cc(e:c.callee=.builtin .complex)(g:c.args.toList=[x,y])(h:AU alD x=some (.c (.lit (.float .f64 a))))(i:AU alD y=some (.c (.lit (.float .f64 b)))) :
  FQ P (.call c) ty alD=some (.c (.lit (.complex .f64 a b))):=by
 have d:c.args=#[x,y]:=by grind
 refine Ra (v:=.complex .f64 a b) e (by grind [D.cX]) ?_;rw[d];have f:(#[x,y].map λx=>((AU alD x).bind D.cX).getD undef)=#[.float .f64 a,.float .f64 b]:=by grind [D.cX]
 rw[f];rfl
def Y_(e:c.callee=.builtin .real)(g:c.args.toList=[x])(h:AU alD x=some (.c (.lit (.complex .f64 a b)))) :
  FQ P (.call c) ty alD=some (.c (.lit (.float .f64 a))):=by
 have d:c.args=#[x]:=by grind
 refine Ra (v:=.float .f64 a) e (by grind [D.cX]) ?_;rw[d];have f:(#[x].map λx=>((AU alD x).bind D.cX).getD undef)=#[.complex .f64 a b]:=by grind [D.cX]
 rw[f];rfl
def WR(e:c.callee=.builtin .imag)(g:c.args.toList=[x])(h:AU alD x=some (.c (.lit (.complex .f64 a b)))) :
  FQ P (.call c) ty alD=some (.c (.lit (.float .f64 b))):=by
 have d:c.args=#[x]:=by grind
 refine Ra (v:=.float .f64 b) e (by grind [D.cX]) ?_;rw[d];have f:(#[x].map λx=>((AU alD x).bind D.cX).getD undef)=#[.complex .f64 a b]:=by grind [D.cX]
 rw[f];rfl
def Th(h:oD v=true):flat v=true:=by cases v <;> first | rfl | grind [oD]
variable{R:Type}{k:KO R}{r:R}
theorem dq.one(q:Q (.c x) Y false [])(h:ff P orc n alD σD o d σD [])(i:d=x.er)(j:GC Y x)(H:RH Y σD):dq P orc n alD Y σD o Q:=
 dq.pure h (v:=.c x) (Or.inr i) j H q
theorem dq.vt(q:Q (Es v) Y false [])(h:ff P orc n alD σD o (dH v) σD [])(i:oD v=true)(H:RH Y σD):dq P orc n alD Y σD o Q:=
 dq.pure h (SK (Y:=Y) (Th i)).1 (SK (Th i)).2 H q
def genT_ok{op:Op}{ty:TypeId}(m:dD Y alD rd)(H:RH Y σD)(h:genT P op ty rd Y k=some r):dq P orc n alD Y σD (.gen op ty) (λv Y1 rs wr=>k v Y1 rs wr=some r):=by
 unfold genT at h;split at h
 ·
  rename_i o t x y W;split at h
  ·
   rename_i X a kb b p A;obtain ⟨E,f,g,_⟩:=IX m p;obtain ⟨G,j,s,_⟩:=IX m A;rcases g with g | rfl
   ·grind
   rcases s with s | rfl
   ·grind
   split at h
   ·split at h
    ·rename_i e _;subst e;obtain ⟨v,i,l⟩:=AP h;exact dq.one l (dX f j rfl rfl (bin_quo i) rfl) rfl rfl H
    simp_all
   ·split at h
    ·rename_i e _;subst e;obtain ⟨v,i,l⟩:=AP h;exact dq.one l (dX f j rfl rfl (bin_rem i) rfl) rfl rfl H
    simp_all
   ·obtain ⟨v,i,l⟩:=AP h;exact dq.one l (dX f j rfl rfl (bin_shr i) rfl) rfl rfl H
   ·obtain ⟨v,i,l⟩:=AP h;exact dq.one l (dX f j rfl rfl (bin_shl i) rfl) rfl rfl H
   ·split at h
    ·rename_i v Z;split at h
     ·rename_i O;exact dq.vt h (dX f j rfl rfl Z rfl) O H
     simp_all
    simp_all
  ·
   rename_i xs ys p A;obtain ⟨E,f,⟨ds,rfl,a1⟩,_⟩:=IX m p;obtain ⟨G,j,⟨es,rfl,a2⟩,_⟩:=IX m A;split at h
   ·rename_i q hq;obtain ⟨vs,ws,i,l,T,U⟩:=eqT_ok hq a1 a2;split at h
    ·exact dq.one h (dX f j i l (bin_eql T U) rfl) rfl True.intro H
    ·exact dq.one h (dX f j i l (bin_neq T U) rfl) rfl True.intro H
    simp_all
   simp_all
  ·
   rename_i a b c d p A;obtain ⟨E,f,g,_⟩:=IX m p;obtain ⟨G,j,s,_⟩:=IX m A;rcases g with g | rfl
   ·grind
   rcases s with s | rfl
   ·grind
   split at h
   ·obtain ⟨u,i,h⟩:=AP h;obtain ⟨v,l,h⟩:=AP h;obtain ⟨p1,K,rfl⟩:=Sj i;obtain ⟨L,M,rfl⟩:=Sj l;exact dq.one h (dX f j rfl rfl (Jz (by simp) (by simp) (by simp) (by simp) (MC p1 L K M)) rfl) rfl True.intro H
   ·obtain ⟨u,i,h⟩:=AP h;obtain ⟨v,l,h⟩:=AP h;obtain ⟨p1,K,rfl⟩:=Sc i;obtain ⟨L,M,rfl⟩:=Sc l;exact dq.one h (dX f j rfl rfl (Jz (by simp) (by simp) (by simp) (by simp) (Mm p1 L K M)) rfl) rfl True.intro H
   ·split at h
    ·obtain ⟨u,i,h⟩:=AP h;obtain ⟨v,l,h⟩:=AP h;obtain ⟨p1,K,L,M,rfl⟩:=SY i;obtain ⟨p5,p6,_,_,rfl⟩:=SY l;exact dq.one h (dX f j rfl rfl (Jz (by simp) (by simp) (by simp) (by simp) (MK p1 p5 L K p6 M)) rfl) rfl True.intro H
    simp_all
   simp_all
  ·
   rename_i u v _ _ _ p A;obtain ⟨E,f,g,_⟩:=IX m p;obtain ⟨G,j,s,_⟩:=IX m A;split at h
   ·rename_i a b z hb;obtain ⟨i,rfl⟩:=rc z g;obtain ⟨l,rfl⟩:=rc hb s;split at h
    ·rename_i N;exact dq.one h (dX f j rfl rfl (Wn N) rfl) rfl True.intro H
    ·rename_i N;exact dq.one h (dX f j rfl rfl (WV N) rfl) rfl True.intro H
    simp_all
   ·grind [rc,dq.vt,dX]
   simp_all
  simp_all
 ·
  rename_i o t x;split at h
  ·rename_i u N;obtain ⟨E,f,g,_⟩:=IX m N;split at h
   ·rename_i e he;obtain ⟨i,rfl⟩:=rc he g;exact dq.one h (Yo f rfl rfl rfl) rfl True.intro H
   ·grind [rc,dq.vt,Yo]
   simp_all
  simp_all
 ·
  rename_i t W x;split at h
  ·rename_i X a z;obtain ⟨E,f,g,_⟩:=IX m z;rcases g with g | rfl
   ·grind
   split at h
   ·rename_i S;split at h
    ·rename_i hs;exact dq.one h (Dd f rfl (v:=.float .f64 (Fl.fl a)) (conv_fl S hs) rfl) rfl True.intro H
    simp_all
   ·split at h
    ·rename_i w hw;split at h
     ·rename_i O;exact dq.vt h (Dd f rfl hw rfl) O H
     simp_all
    simp_all
  ·rename_i a z;obtain ⟨E,f,g,_⟩:=IX m z;rcases g with g | rfl
   ·grind
   split at h
   ·rename_i S hs;obtain ⟨b,i,l⟩:=AP h;exact dq.one l (Dd f rfl (v:=.int .i64 b) (XA S hs i) rfl) rfl rfl H
   simp_all
  ·grind [IX,rc,dq.vt,Dd]
  simp_all
 ·
  rename_i c;split at h
  ·grind [dq.vt,gn,Sp]
  ·grind [dq.vt,gn,Sp]
  ·rename_i x y F z;split at h
   ·rename_i a b p A;obtain ⟨E,f,g,_⟩:=IX m p;obtain ⟨G,j,s,_⟩:=IX m A;rcases g with g | rfl
    ·grind
    rcases s with s | rfl
    ·grind
    exact dq.one h (gn (Cc F z f j)) rfl True.intro H
   ·rename_i a b p A;obtain ⟨E,f,g,_⟩:=IX m p;obtain ⟨G,j,s,_⟩:=IX m A;rcases g with g | rfl
    ·grind
    rcases s with s | rfl
    ·grind
    split at h
    ·rename_i hb;have:=dd hb;subst this;exact dq.one h (gn (Cc F z f j)) rfl True.intro H
    simp_all
   simp_all
  ·rename_i x F z;split at h
   ·rename_i a b p;obtain ⟨E,f,g,_⟩:=IX m p;rcases g with g | rfl
    ·grind
    exact dq.one h (gn (Y_ F z f)) rfl True.intro H
   simp_all
  ·rename_i x F z;split at h
   ·rename_i a b p;obtain ⟨E,f,g,_⟩:=IX m p;rcases g with g | rfl
    ·grind
    exact dq.one h (gn (WR F z f)) rfl True.intro H
   simp_all
  simp_all
 simp_all
end
end Go.Abs
end
section
namespace Go.Abs
open Go.RowKit
variable[Gl]{P:Program}
structure wF (B:Nat) (J:(Nat->Prop)->(Nat->Prop)->World->Prop):Prop where
 rel:∀F U W,J F U W->Rel [] (λ_=>none) F W
 sub:∀F U W,J F U W->∀c,F c->U c
 lt:∀F U W,J F U W->∀c,U c->c<W.heap.size
 le:∀F U W,J F U W->B<=W.heap.size
 off:∀F U W W',J F U W->W.heap.size<=W'.heap.size->(∀c:Nat,U c\/c<B->W'.heap[c]? = W.heap[c]?)->(W'.os=W.os/\W'.tape=W.tape/\W'.output=W.output)->J F U W'
 grow:∀F U W F',J F U W->(∀c,F c->F' c)->(∀c,F' c->F c\/(¬U c/\B<=c/\c<W.heap.size))->J F' (λc=>U c\/F' c) W
structure Kept (F U:Nat->Prop) (W:World) (F' U':Nat->Prop) (W':World):Prop where
 size:W.heap.size<=W'.heap.size
 off:∀c:Nat,c<W.heap.size->¬U c->W'.heap[c]? = W.heap[c]?/\¬U' c
 fz:∀c:Nat,F c->F' c/\W'.heap[c]? = W.heap[c]?
 out:W'.os=W.os/\W'.tape=W.tape/\W'.output=W.output
def Kept.trans{F U x z A E:Nat->Prop}{W G K:World}(h:Kept F U W x z G)(i:Kept x z G A E K):Kept F U W A E K:={
 size:=jk h.size i.size
 off:=λc j M=>by obtain ⟨a,b⟩:=h.off c j M;obtain ⟨s,u⟩:=i.off c (FG j h.size) b;exact ⟨s.trans a,u⟩
 fz:=λc j=>by obtain ⟨a,b⟩:=h.fz c j;obtain ⟨s,u⟩:=i.fz c a;exact ⟨s,u.trans b⟩
 out:=⟨i.out.1.trans h.out.1,i.out.2.1.trans h.out.2.1,i.out.2.2.trans h.out.2.2⟩ }
def Caps(F:Nat->Prop)(W:World)(caps:List (List C))(e:Array Value):Prop:=
 e.size=caps.length/\∀(i:Nat) b v,caps[i]? = some b->e[i]? = some v->∃c:Nat,v=.pointer (some ⟨c,0,none⟩)/\∃a T,W.heap[c]? = some (.cells a T (0,0))/\b.length<=a.size/\∀(j:Nat) d u,b[j]? = some d->a[j]? = some u->VC F W d u/\u.oneCell'=true
def Vals(F:Nat->Prop)(W:World)(ds:List D)(vs:Array Value):Prop:=
 vs.size=ds.length/\∀(k:Nat) d v,ds[k]? = some d->vs[k]? = some v->V [] (λ_=>none) F W d v
def ItOk(P:Program)(j:Nat)(caps:List (List C))(items:List (List D)):Prop:=
 ∀ (l B : Nat) (g : Array Value) (J : Nat -> (Nat -> Prop) -> (Nat -> Prop) -> World -> Prop) (f : (Nat -> Prop) -> (Nat -> Prop) -> World -> Prop) (W : World) (F U : Nat -> Prop),
  (∀i,wF B (J i))->wF B f->(∀i F U W,J i F U W->Caps F W caps g) ->
  (∀i ds F U W h,items[i]? = some ds->J i F U W->Vals F W ds h ->
   YieldAt Fence.wide 0 P l h W fun e a=>∃b d,Kept F U W b d a/\((e=.returned (.bool true)/\J (i+1) b d a)\/(e=.returned (.bool false)/\f b d a))) ->
  J 0 F U W ->
  Calls P j (#[.func (.yield l) #[] #[]]++g) W fun e a=>(∃v,e=.returned v)/\∃b d,J items.length b d a\/f b d a
def rpost(I:Nat->(Nat->Prop)->(Nat->Prop)->World->Prop)(e:Code->(Nat->Prop)->(Nat->Prop)->World->Prop)(i:Nat)(F U:Nat->Prop)(W:World):Exit->Act->World->Prop
 |.normal,_,a=>∃b d,Kept F U W b d a/\I (i+1) b d a
 |.ret,_,a=>∃b d,Kept F U W b d a/\e .ret b d a
 |.exit id,_,a=>∃b d,Kept F U W b d a/\e (.exit id) b d a
 |.goto t,_,a=>∃b d,Kept F U W b d a/\e (.goto t) b d a
 |.panic _,_,_=>False
 |.outgrown,_,_=>False
def zdM{W:World}{l:Nat}{o:Obj}{c:Nat}(h:c≠l):(W.putObj l o).heap[c]? = W.heap[c]?:=World.putObj_heap_other h
def WJ{g:Operand}{ps:Array Tmp}{assign body:Code}{Q:Exit->Act->World->Prop}{a:Act}{w:World}{gf:Nat}{lb:Array Value}{caps:List (List C)}{items:List (List D)}{F0 U0:Nat->Prop}
  (hg:a.eval g=.func (.func gf) #[] lb) (eg:∀args w,(callFunc gf args).run P w=.ok (.enter gf args) w) (it:ItOk P gf caps items) (a5:∀ds∈items,ds.length=ps.size)
  (I:Nat->(Nat->Prop)->(Nat->Prop)->World->Prop) (Ix:Code->(Nat->Prop)->(Nat->Prop)->World->Prop) (hI:∀i,wF w.heap.size (I i)) (s:∀c,wF w.heap.size (Ix c))
  (d:∀i F U W,I i F U W->Caps F W caps lb) (h0:I 0 F0 U0 w)
  (ab:∀(l i:Nat) ds F U W vs,items[i]? = some ds->I i F U W->Vals F W ds vs ->
   assign.wpIn (Fence.wide.inRound l) 0 P (Exit.then (fun a1 w1=>∃F1 U1,Kept F U W F1 U1 w1/\(∀c,U1 c->c<w1.heap.size) /\
    ∀ w2, w1.heap.size = w2.heap.size -> (∀ c : Nat, U1 c \/ c < w.heap.size -> w2.heap[c]? = w1.heap[c]?) -> (w2.os = w1.os /\ w2.tape = w1.tape /\ w2.output = w1.output) ->
     body.wpIn (Fence.wide.inRound l) 0 P (rpost I Ix i F U1 w2) a1 w2) (fun _ _ _=>False))
    { tmps:=(ps.zip vs).foldl (fun t (p,v)=>t.setIfInBounds p v) a.tmps,defers:=[] } W)
  (ad:∀(D:Nat) F U W,w.heap.size≤D->D<W.heap.size->¬U D->W.heap[D]? = some (.deferred (some []))->I items.length F U W->Q .normal { a with defers:=mark D::a.defers } W)
  (af:∀(D:Nat) c F U W,w.heap.size≤D->D<W.heap.size->¬U D->W.heap[D]? = some (.deferred (some []))->Ix c F U W->c.wp P Q { a with defers:=mark D::a.defers } W) :
  (Code.rangeFunc g ps assign body).wp P Q a w:=by
 refine (wpIn_wide (n:=0)).1 (wpIn_rangeFunc ?_)
 intro fn a6
 have a7:Fence.wide.round=none:=rfl
 rw [a7]
 obtain ⟨rec,f⟩:∃rec:LoopState->Option Code->Loop,rec=fun st pe=>{ state:=st,pending:=pe,fn,tmps:=a.tmps,params:=ps,assign,body,defers:=w.heap.size }:=⟨_,rfl⟩
 obtain ⟨Z,N⟩:∃Z,(w.alloc (.deferred (some []))).alloc (.loop (rec .ready none))=Z:=⟨_,rfl⟩
 have a8:Z.heap[w.heap.size+1]? = some (.loop (rec .ready none)):=by
  rw [←N]; have:=World.alloc_heap_new (w.alloc (.deferred (some []))) (.loop (rec .ready none)); rwa [World.size_alloc] at this
 have a9:Z.heap[w.heap.size]? = some (.deferred (some [])):=by
  rw [←N]; exact (Below.heap_alloc _ _ _ (by simp)).trans (World.alloc_heap_new w _)
 have b0:Z.heap.size=w.heap.size+2:=by rw [←N]; simp
 have bb:I 0 F0 U0 Z:=by
  refine (hI 0).off _ _ w Z h0 (by omega) (fun c d=>?_) (by rw [←N]; exact ⟨rfl,rfl,rfl⟩)
  have bc:c<w.heap.size:=d.elim ((hI 0).lt _ _ _ h0 c) id
  rw [←N,Below.heap_alloc _ _ _ (by simp; omega),Below.heap_alloc _ _ _ bc]
 have bd:¬U0 (w.heap.size+1):=fun h=>by have:=(hI 0).lt _ _ _ h0 _ h; omega
 have be:¬U0 w.heap.size:=fun h=>by have:=(hI 0).lt _ _ _ h0 _ h; omega
 obtain ⟨bk,K⟩:∃bk:(Obj->Prop)->((Nat->Prop)->(Nat->Prop)->World->Prop)->(Nat->Prop)->(Nat->Prop)->World->Prop,bk=fun o X F U W=>∃m,X F m W/\U=(fun c=>m c\/c=w.heap.size\/c=w.heap.size+1) /\
  ¬m w.heap.size/\¬m (w.heap.size+1)/\w.heap.size+1<W.heap.size/\(∃x,W.heap[w.heap.size+1]? = some x/\o x)/\W.heap[w.heap.size]? = some (.deferred (some [])):=⟨_,rfl⟩
 have bh:∀o X,wF w.heap.size X->wF w.heap.size (bk o X):=fun o X hX=>by
  subst K
  have gr:∀{F m T:Nat->Prop} {W:World},X F m W->(∀c,T c->F c\/(¬(m c\/c=w.heap.size\/c=w.heap.size+1)/\w.heap.size≤c/\c<W.heap.size))->¬m w.heap.size->¬m (w.heap.size+1)->¬T w.heap.size/\¬T (w.heap.size+1):=fun h hf A z=>
   ⟨fun b=>(hf _ b).elim (fun e=>A (hX.sub _ _ _ h _ e)) fun e=>e.1 (.inr (.inl rfl)),fun b=>(hf _ b).elim (fun e=>z (hX.sub _ _ _ h _ e)) fun e=>e.1 (.inr (.inr rfl))⟩
  refine ⟨fun F U W ⟨m,h,_⟩=>hX.rel _ _ _ h,fun F U W ⟨m,h,e,_⟩ c d=>by rw [e]; exact .inl (hX.sub _ _ _ h c d),fun F U W ⟨m,h,e,_,_,hs,_⟩ c d=>?_,fun F U W ⟨m,h,_⟩=>hX.le _ _ _ h,fun F U W W' ⟨m,h,e,A,z,h3,⟨x,h4,ak⟩,O⟩ an j aa=>?_,fun F U W T ⟨m,h,e,A,z,h3,h4,O⟩ ha hb=>?_⟩
  rotate_left
  rotate_left
  ·rw [e] at hb ⊢
   obtain ⟨g1,g2⟩:=gr h hb A z
   exact ⟨fun c=>m c\/T c,hX.grow _ _ _ _ h ha fun c d=>(hb c d).imp id fun ⟨q,r⟩=>⟨fun hu=>q (.inl hu),r⟩,funext fun c=>propext ⟨fun b=>b.elim (fun b=>b.elim (fun b=>.inl (.inl b)) .inr) fun b=>.inl (.inr b),fun b=>b.elim (fun b=>b.elim (fun b=>.inl (.inl b)) .inr) fun b=>.inl (.inr b)⟩,fun b=>b.elim A g1,fun b=>b.elim z g2,h3,h4,O⟩
  ·rw [e] at d
   rcases d with d | rfl | rfl
   ·exact hX.lt _ _ _ h c d
   ·omega
   ·omega
  ·rw [e] at j
   refine ⟨m,hX.off _ _ W W' h an (fun c d=>j c (d.imp .inl id)) aa,e,A,z,by omega,⟨x,?_,ak⟩,?_⟩
   ·rw [j _ (.inl (.inr (.inr rfl)))]; exact h4
   ·rw [j _ (.inl (.inr (.inl rfl)))]; exact O
 refine ⟨w.heap.size+1,[{ target:=.collected w.heap.size,args:=#[] }],Z,{ target:=.fn (.func gf) lb,args:=#[.func (.yield (w.heap.size+1)) #[] #[]] },Z,gf,
  #[.func (.yield (w.heap.size+1)) #[] #[]]++lb,Z,?_,?_,?_,?_,fun h=>by simp [Fence.wide] at h,?_⟩
 ·rw [←N,f]; exact run_enterLoop_outer _ _ _ _ _
 ·simp only [resolve,hg]
  simp [go_sem]
 ·intro f' b1; trivial
 ·simp [invoke,go_sem,eg]
 ·have C:=it (w.heap.size+1) w.heap.size lb (fun i=>bk (fun x=>x=.loop (rec .ready none)) (I i)) (bk (fun x=>True) fun F U W=>∃c,Ix c F U W/\W.heap[w.heap.size+1]? = some (.loop (rec .done (some c)))) Z F0 (fun c=>U0 c\/c=w.heap.size\/c=w.heap.size+1)
   (fun i=>bh _ _ (hI i)) ?_ ?_ ?_ ?_
  ·refine callsIn_wide.2 (C.mono ?_)
   rintro e W2 ⟨⟨v,rfl⟩,T,m,h | h⟩
   ·subst K
    obtain ⟨U2,hi,e,A,z,h3,⟨x,hx,rfl⟩,O⟩:=h
    refine ⟨none,_,by have:=run_endLoop (P:=P) hx (by rw [f]; simp); rw [f] at this; exact this,?_⟩
    refine ad w.heap.size T U2 _ (cP _) (by simp; omega) A ((World.putObj_heap_other (by omega)).trans O) ((hI _).off _ _ W2 _ hi (by simp) (fun c d=>zdM ?_) ⟨rfl,rfl,rfl⟩)
    rintro rfl
    exact d.elim z (by omega)
   ·subst K
    obtain ⟨U2,⟨c,hi,hx⟩,e,A,z,h3,_,O⟩:=h
    refine ⟨some c,_,by have:=run_endLoop (P:=P) hx (by rw [f]; simp); rw [f] at this; exact this,?_⟩
    refine wpIn_wide.2 (af w.heap.size c T U2 _ (cP _) (by simp; omega) A ((World.putObj_heap_other (by omega)).trans O) ((s _).off _ _ W2 _ hi (by simp) (fun c d=>zdM ?_) ⟨rfl,rfl,rfl⟩))
    rintro rfl
    exact d.elim z (by omega)
  ·
   subst K
   refine ⟨fun F U W ⟨m,⟨c,h,_⟩,_⟩=>(s c).rel _ _ _ h,fun F U W ⟨m,⟨c,h,_⟩,e,_⟩ c' d=>by rw [e]; exact .inl ((s c).sub _ _ _ h c' d),fun F U W ⟨m,⟨c,h,_⟩,e,_,_,hs,_⟩ c' d=>?_,fun F U W ⟨m,⟨c,h,_⟩,_⟩=>(s c).le _ _ _ h,
    fun F U W W' ⟨m,⟨c,h,hr⟩,e,A,z,h3,⟨x,h4,ak⟩,O⟩ an j aa=>?_,fun F U W T ⟨m,⟨c,h,hr⟩,e,A,z,h3,h4,O⟩ ha hb=>?_⟩
   rotate_left
   rotate_left
   ·rw [e] at hb ⊢
    have g1:¬T w.heap.size:=fun b=>(hb _ b).elim (fun e=>A ((s c).sub _ _ _ h _ e)) fun e=>e.1 (.inr (.inl rfl))
    have g2:¬T (w.heap.size+1):=fun b=>(hb _ b).elim (fun e=>z ((s c).sub _ _ _ h _ e)) fun e=>e.1 (.inr (.inr rfl))
    exact ⟨fun c=>m c\/T c,⟨c,(s c).grow _ _ _ _ h ha fun c d=>(hb c d).imp id fun ⟨q,r⟩=>⟨fun hu=>q (.inl hu),r⟩,hr⟩,funext fun c=>propext ⟨fun b=>b.elim (fun b=>b.elim (fun b=>.inl (.inl b)) .inr) fun b=>.inl (.inr b),fun b=>b.elim (fun b=>b.elim (fun b=>.inl (.inl b)) .inr) fun b=>.inl (.inr b)⟩,fun b=>b.elim A g1,fun b=>b.elim z g2,h3,h4,O⟩
   ·rw [e] at d
    rcases d with d | rfl | rfl
    ·exact (s c).lt _ _ _ h c' d
    ·omega
    ·omega
   ·rw [e] at j
    have av:=j _ (.inl (.inr (.inr rfl)))
    refine ⟨m,⟨c,(s c).off _ _ W W' h an (fun c d=>j c (d.imp .inl id)) aa,av.trans hr⟩,e,A,z,by omega,⟨x,av.trans h4,ak⟩,(j _ (.inl (.inr (.inl rfl)))).trans O⟩
  ·intro i F U W h
   subst K
   obtain ⟨m,h,_⟩:=h
   exact d i F m W h
  ·
   intro i ds F U W vs hi h ax
   subst K
   obtain ⟨U2,a0,e,A,z,h3,⟨x,hx,rfl⟩,O⟩:=h
   have hy:=run_yield (P:=P) (args:=vs) hx (by rw [f,ax.1]; exact a5 ds (Av hi))
   rw [f] at hy
   refine ⟨fn,_,assign,body,hy,roundIn_of_wpIn a6 (wpIn_mono (ab _ i ds F U2 W vs hi a0 ax) ?_)⟩
   intro ex a1 w1 S
   cases ex with
   | normal =>
    obtain ⟨F1,U1,k1,b2,hb⟩:=S
    obtain ⟨o1,u1⟩:=k1.off _ (by omega) z
    obtain ⟨o2,u2⟩:=k1.off _ (by omega) A
    have bi:w1.heap[w.heap.size+1]? = some (.loop (rec .ready none)):=o1.trans hx
    refine ⟨_,run_beginRound bi (by rw [f]),?_⟩
    have b3:=k1.size
    have B:=hb (w1.putObj (w.heap.size+1) (.loop { rec .ready none with state:=.busy })) (by simp) (fun c d=>zdM (by rintro rfl; exact d.elim u1 (by omega))) ⟨rfl,rfl,rfl⟩
    refine wpIn_mono B ?_
    have bl:(w1.putObj (w.heap.size+1) (.loop { rec .ready none with state:=.busy })).heap[w.heap.size+1]? = some (.loop { rec .ready none with state:=.busy }):=World.putObj_heap_same (by omega)
    have bt:(w1.putObj (w.heap.size+1) (.loop { rec .ready none with state:=.busy })).heap[w.heap.size]? = some (.deferred (some [])):=(zdM (by omega)).trans (o2.trans O)
    have fin:∀(u:Option Code) (X:(Nat->Prop)->(Nat->Prop)->World->Prop) (hX:wF w.heap.size X) E y (W3:World),Kept F U1 (w1.putObj (w.heap.size+1) (.loop { rec .ready none with state:=.busy })) E y W3->X E y W3 ->
      ∃ M, (Instr.endRound (w.heap.size + 1) u).run P W3 = .ok (.bool u.isNone) M /\ M.heap[w.heap.size + 1]? = some (.loop (rec (if u.isNone then .ready else .done) u)) /\ M.heap[w.heap.size]? = some (.deferred (some [])) /\ X E y M /\
       ¬y w.heap.size/\¬y (w.heap.size+1)/\w.heap.size+1<M.heap.size/\Kept F U W E (fun c=>y c\/c=w.heap.size\/c=w.heap.size+1) M:=fun u X hX E y W3 G bu=>by
     obtain ⟨p1,q1⟩:=G.off (w.heap.size+1) (by simp; omega) u1
     obtain ⟨p2,q2⟩:=G.off w.heap.size (by simp; omega) u2
     have bv:=p1.trans bl
     have bw:=G.size
     simp only [World.putObj_size] at bw
     have:=run_endRound (P:=P) u bv
     rw [f] at this ⊢
     refine ⟨_,this,World.putObj_heap_same (by omega),(zdM (by omega)).trans (p2.trans bt),hX.off _ _ W3 _ bu (by simp) (fun c d=>zdM (by rintro rfl; exact d.elim q1 (by omega))) ⟨rfl,rfl,rfl⟩,q2,q1,by simp; omega,?_⟩
     refine ⟨by simp; omega,fun c d hu=>?_,fun c d=>?_,⟨G.out.1.trans k1.out.1,G.out.2.1.trans k1.out.2.1,G.out.2.2.trans k1.out.2.2⟩⟩
     ·rw [e] at hu
      simp only [not_or] at hu
      obtain ⟨m1,m2⟩:=k1.off c d hu.1
      obtain ⟨m3,m4⟩:=G.off c (by simp; omega) m2
      exact ⟨by rw [zdM hu.2.2,m3,zdM hu.2.2,m1],by simp only [not_or]; exact ⟨m4,hu.2⟩⟩
     ·have a2:c≠w.heap.size+1:=by rintro rfl; exact z ((hI i).sub _ _ _ a0 _ d)
      obtain ⟨m1,m2⟩:=k1.fz c d
      obtain ⟨m3,m4⟩:=G.fz c d
      exact ⟨m3,by rw [zdM a2,m4,zdM a2,m2]⟩
    rintro ex a3 W3 S
    cases ex with
    | normal =>
     obtain ⟨E,y,G,L⟩:=S
     obtain ⟨M,r1,r2,r3,r4,r5,r6,r7,r8⟩:=fin none _ (hI (i+1)) E y W3 G L
     exact ⟨_,M,r1,E,_,r8,.inl ⟨rfl,y,r4,rfl,r5,r6,r7,⟨_,r2,rfl⟩,r3⟩⟩
    | ret =>
     obtain ⟨E,y,G,L⟩:=S
     obtain ⟨M,r1,r2,r3,r4,r5,r6,r7,r8⟩:=fin (some .ret) _ (s .ret) E y W3 G L
     exact ⟨_,M,r1,E,_,r8,.inr ⟨rfl,y,⟨.ret,r4,r2⟩,rfl,r5,r6,r7,⟨_,r2,trivial⟩,r3⟩⟩
    | exit id =>
     obtain ⟨E,y,G,L⟩:=S
     obtain ⟨M,r1,r2,r3,r4,r5,r6,r7,r8⟩:=fin (some (.exit id)) _ (s (.exit id)) E y W3 G L
     exact ⟨_,M,r1,E,_,r8,.inr ⟨rfl,y,⟨.exit id,r4,r2⟩,rfl,r5,r6,r7,⟨_,r2,trivial⟩,r3⟩⟩
    | goto t =>
     obtain ⟨E,y,G,L⟩:=S
     obtain ⟨M,r1,r2,r3,r4,r5,r6,r7,r8⟩:=fin (some (.goto t)) _ (s (.goto t)) E y W3 G L
     exact ⟨_,M,r1,E,_,r8,.inr ⟨rfl,y,⟨.goto t,r4,r2⟩,rfl,r5,r6,r7,⟨_,r2,trivial⟩,r3⟩⟩
    | panic ch=>exact S.elim
    | outgrown=>exact S.elim
   | exit id=>exact S.elim
   | goto t=>exact S.elim
   | ret=>exact S.elim
   | panic ch=>exact S.elim
   | outgrown=>exact S.elim
  ·subst K
   exact ⟨U0,bb,rfl,be,bd,by omega,⟨_,a8,rfl⟩,a9⟩
end Go.Abs
end
section
namespace Go.Abs
noncomputable section
variable[Gl][σ:Ty]
def sV:(cs:List dt)->kY cs->List D
 |[],_=>[]
 |[c],x=>[c.enc x]
 |c::d::cs,x=>c.enc x.1::sV (d::cs) x.2
def sI(cs:List dt)(x:kY cs):D:=one (sV cs x)
def bJ(P:Program)(g:Nat)(s:bE):Prop:=∀a r,s.f a=some r->Pure P g (sF s.ins a) (sI s.out r)
def YQ(P:Program)(g:Nat):bE->Prop
 | ⟨[.c (.sl i)],[.c (.sl j)],f⟩=>∀l r,f (l,())=some r->ItOk P g [[.cJ false (l.map (enc i))]] (r.map λa=>[ST (enc j a)])
 |_=>True
def fF(P:Program)(S:sq):Prop:=∀p∈S,(Nat.blt p.1 1048576=true->bJ P p.1 p.2)/\(Nat.blt p.1 1048576=false->YQ P (p.1-1048576) p.2)
theorem tsk_mem{g:Nat}{s:bE}:∀{S:sq},tsk g S=some s->(g,s)∈S:=by
 intro S;induction S with
 |nil=>grind [tsk]
 |cons p S ih=>
  intro h;obtain ⟨q,a⟩:=p;simp only[tsk] at h;split at h
  ·rename_i hb;have:=dd hb;subst this
   simp_all
  ·exact o_ _ (ih h)
def fF.iter{P:Program}{S:sq}(h:fF P S){g:Nat}{s:bE}(hs:tsk (g+1048576) S=some s):YQ P g s:=by have:=(h _ (tsk_mem hs)).2 (by show Nat.blt (g+1048576) 1048576=false;exact Bool.eq_false_iff.2 λe=>by have:=tR.mp e;omega);simpa using this
def Gx(S:sq):xE:=(S.filter λp=>Nat.blt p.1 1048576).map λp=>(p.1,spec (sF p.2.ins) (sI p.2.out) p.2.f)
theorem dt.inj{c:dt}{a b:c.dn}(h:c.enc a=c.enc b):a=b:=by
 cases c with
 |c x=>grind [dt.enc,Mg,IL]
 |st i=>exact ST_inj (λ{a b}=>IL i a b) h
 |fp i=>simp only[dt.enc,D.c.injEq,C.cD.injEq,NT] at h;grind [IL]
 |k g=>rfl
theorem MZ:∀{cs:List dt}{a b:tD cs},sF cs a=sF cs b->a=b:=by
 intro cs;induction cs with
 |nil=>simp_all
 |cons c cs ih=>grind [sF,dt.inj]
def QO{P:Program}{S:sq}(h:fF P S):rO P (Gx S):=by intro p a ds r b;simp only[Gx,iX,Gp] at a;obtain ⟨q,⟨d,hb⟩,rfl⟩:=a;exact spec_ok ((h q d).1 hb) ds r b
theorem spk_of0{g:Nat}{s:bE}(b:Nat.blt g 1048576=true):∀{S:sq},tsk g S=some s->Wa g (Gx S)=some (spec (sF s.ins) (sI s.out) s.f):=by
 intro S;induction S with
 |nil=>grind [tsk]
 |cons p S ih=>
  intro h;obtain ⟨q,f⟩:=p;simp only[tsk] at h;split at h
  ·rename_i hb;have:=dd hb;subst this;simp only[au] at h;subst h;simp only[Gx,List.filter_cons,b,if_true,rS,Wa];split
   ·rfl
   ·rename_i d;simp at d
  ·rename_i hb;have e:=ih h;cases a:Nat.blt q 1048576 with
   |false=>simpa only[Gx,List.filter_cons,a,b_,cw] using e
   |true=>simp only[Gx,List.filter_cons,a,if_true,rS,Wa];rw[hb];exact e
def YW{g:Nat}{s:bE}{S:sq}(h:ZC g S=some s):Wa g (Gx S)=some (spec (sF s.ins) (sI s.out) s.f):=by
 unfold ZC at h;split at h
 ·rename_i a;exact spk_of0 a h
 ·simp at h
def Od{i:Nat}{xs:List TC}{a:TT i}(h:Cw i (.agg xs)=some a):∃x,DS (σ.fl i) xs=some x/\a=σ.mkt i x:=by
 simp only[Cw] at h
 grind
theorem Qj{c:dt}{v:TV}{d:D}{a:c.dn}(h:qC c v=some a)(r:RT v d):CQ d=c.enc a/\d.low 0=true/\d.plain=true:=by
 cases c with
 |c x=>
  cases v with
  |c y=>
   simp only[qC,Kc] at h;obtain ⟨p,b⟩:=oK h;rcases r with r | rfl
   ·simp_all
   ·obtain ⟨q,w⟩:∃q,y.er=.c q:=by
     cases E:y.er with
     |c q=>simp_all
     |_=>grind [xk]
    rw[w] at b ⊢;exact ⟨b,rfl,rfl⟩
  |agg f=>grind [qC,Kc]
  |aV f=>grind [qC,Kc]
 |st i=>
  cases v with
  |c y=>grind [qC,Cw]
  |agg f=>
   obtain ⟨x,p,rfl⟩:=Od h;obtain ⟨b,z⟩:=Px p;obtain ⟨ds,rfl,A⟩:=r;rw[A.eq b];have j:∀(l:List D)(m:List C),l.map xk=m.map .c->D.low.cW 0 l=true/\(l.all λd=>match d with | .fn ..=>false | _=>true)=true:=by
    intro l;induction l with
    |nil=>intro m _;exact ⟨rfl,rfl⟩
    |cons d l ih=>
     intro m s;cases m with
     |nil=>grind
     |cons c m=>
      simp only[rS,yCi] at s;obtain ⟨t,u⟩:=ih m s.2;cases d with
      |c x=>grind [D.low.cW,D.low]
      |_=>grind [xk]
   obtain ⟨t,u⟩:=j _ _ z;refine ⟨?_,t,u⟩
   grind [CQ,dt.enc,uq,Ty.pm]
  |aV f=>grind [qC,Cw]
 |fp i=>
  simp only[qC] at h;unfold wx at h;split at h
  ·split at h
   ·rename_i e _;subst e;simp only[au] at h;subst h;rcases r with r | rfl
    ·simp at r
    ·exact ⟨rfl,rfl,rfl⟩
   simp_all
  simp_all
 |k g=>
  simp only[qC] at h;unfold PH at h;split at h
  ·split at h
   ·rename_i hb;have:=dd hb;subst this;rcases r with r | rfl
    ·simp at r
    ·exact ⟨rfl,rfl,rfl⟩
   simp_all
  simp_all
inductive f_:List TV->List D->Prop where
 |nil:f_ [] []
 |cons {v:TV} {d:D} {vs:List TV} {ds:List D} (h:RT v d) (r:f_ vs ds):f_ (v::vs) (d::ds)
theorem Ru:∀{cs:List dt}{vs:List TV}{ds:List D}{a:tD cs},yc cs vs=some a->f_ vs ds->ds.map CQ=sF cs a/\(ds.all λd=>d.low 0&&d.plain)=true:=by
 intro cs;induction cs with
 |nil=>
  intro vs ds a h r;cases r with
  |nil=>exact ⟨rfl,rfl⟩
  |cons _ _=>grind [yc]
 |cons c cs ih=>
  intro vs ds a h r;cases r with
  |nil=>grind [yc]
  |cons b r=>
   simp only[yc] at h
   grind [Qj,sF]
theorem dt.I_(c:dt)(a:c.dn):(c.enc a).low 0=true:=by
 cases c with
 |c x=>rfl
 |st i=>exact Yq _
 |fp i=>rfl
 |k g=>rfl
theorem Xb:∀(cs:List dt)(x:kY cs),D.low.cW 0 (sV cs x)=true:=by
 intro cs;induction cs with
 |nil=>intro x;rfl
 |cons c cs ih=>
  intro x;cases cs with
  |nil=>grind [sV,D.low.cW,dt.I_]
  |cons d cs=>simp only[sV,D.low.cW,dt.I_,yC9];simp_all
def Wr(cs:List dt)(x:kY cs):(sI cs x).low 0=true:=by
 have:=Xb cs x;unfold sI one;split
 ·rename_i d h;rw[h] at this;simp only[D.low.cW,Qm] at this;omega
 ·exact this
theorem te_ok(c:dt)(a:c.dn):RE (c.te a) (c.enc a):=by
 cases c with
 |c x=>exact ⟨_,rfl,.inr (lu x a).symm⟩
 |st i=>exact ⟨_,rfl,Tp i a⟩
 |fp i=>exact ⟨_,rfl,.inr rfl⟩
 |k g=>exact ⟨_,rfl,.inr rfl⟩
theorem outL_ok:∀(cs:List dt)(x:kY cs),aM RE (Nb cs x) (sV cs x):=by
 intro cs;induction cs with
 |nil=>intro x;exact .nil
 |cons c cs ih=>
  intro x;cases cs with
  |nil=>exact .cons (te_ok c x) .nil
  |cons d cs=>exact .cons (te_ok c x.1) (ih x.2)
theorem RI(cs:List dt)(x:kY cs):RT (outT cs x) (sI cs x):=by
 cases cs with
 |nil=>exact ⟨[],rfl,.nil⟩
 |cons c cs=>
  cases cs with
  |nil=>exact c.EA x
  |cons d cs=>refine ⟨sV (c::d::cs) x,?_,outL_ok (c::d::cs) x⟩;cases cs <;> rfl
theorem Sv{Y:TH}(c:dt)(a:c.dn):∀x∈(c.te a).2,GC Y x:=by
 cases c with
 |c x=>grind [dt.te,vL]
 |st i=>exact un i a
 |fp i=>intro y b;simp only[dt.te,zV] at b;subst b;trivial
 |k g=>intro y b;simp only[dt.te,zV] at b;subst b;rfl
theorem VK{Y:TH}:∀(cs:List dt)(x:kY cs),∀p∈Nb cs x,∀y∈p.2,GC Y y:=by
 intro cs;induction cs with
 |nil=>grind [Nb]
 |cons c cs ih=>
  intro x p a;cases cs with
  |nil=>grind [Nb,Sv]
  |cons d cs=>grind [Nb,Sv]
theorem Dt{Y:TH}(c:dt)(a:c.dn):GV Y (c.tv a):=by
 cases c with
 |c x=>exact vL x a
 |st i=>exact un i a
 |fp i=>trivial
 |k g=>rfl
theorem HP{Y:TH}(cs:List dt)(x:kY cs):GV Y (outT cs x):=by
 cases cs with
 |nil=>intro p a;grind [Nb]
 |cons c cs=>
  cases cs with
  |nil=>exact Dt c x
  |cons d cs=>exact VK (c::d::cs) x
variable{P:Program}{orc:xg}{n:Nat}{alD:AL}{Y Y1:TH}{σD σD1:ar}{o:kN}{Q:TV->TH->Bool->List Nat->Prop}{rd:aT->Option TV}
theorem Rm{c:CC}{x:TC}{a:c.dn}(h:E_ c x=some a):∃q,x.er=.c q:=by
 obtain ⟨_,b⟩:=oK h;cases d:x.er with
 |c q=>simp_all
 |_=>grind [xk]
theorem XV(H:RH Y σD){x:TC}(g:GC Y x){c:CC}{a:c.dn}(h:E_ c (CB Y x)=some a):∃q,fW σD 0 100 x.er=some q/\xk (.c q)=.c (tL enc c a):=by
 have other:CB Y x=x->∃q,fW σD 0 100 x.er=some q/\xk (.c q)=.c (tL enc c a):=λe=>by rw[e] at h;obtain ⟨_,f⟩:=oK h;obtain ⟨q,s⟩:=Rm h;rw[s] at f;exact ⟨q,by rw[s];rfl,f⟩
 cases x with
 |own i b v m=>
  have bad:∀{z:TC}{a:c.dn},z=.own i b v m->E_ c z=some a->False:=λe h=>by grind [E_]
  cases hb:Y[b]? with
  |none=>simp only[CB,hb] at h;simp_all
  |some blk=>
   cases blk with
   |row j l t u=>
    cases d:Nat.beq t v with
    |false=>simp only[CB,hb,d] at h;simp_all
    |true=>simp only[CB,hb,d] at h;have d:=dd d;obtain ⟨blk,p,f⟩:=g;rw[hb] at p;simp only[au] at p;obtain ⟨_,y⟩:=f j l t u p.symm;obtain ⟨rfl,rfl⟩:=y d.symm;refine ⟨_,DE (k:=98) (uU j) (σ.ps j) (H.row hb) rfl,?_⟩;obtain ⟨_,A⟩:=oK h;rw[<-A];rfl
   |cells w E=>simp only[CB,hb] at h;simp_all
   |mp j st l w=>simp only[CB,hb] at h;simp_all
 |_=>exact other rfl
theorem frTs_ok(H:RH Y σD):∀{cs:List CC}{xs:List TC}{a:aV cs},(∀x∈xs,GC Y x)->DS cs (xs.map (CB Y))=some a->∃b,(xs.map TC.er).mapM (fW σD 0 100)=some b/\(b.map D.c).map xk=(mR enc cs a).map .c:=by
 intro cs;induction cs with
 |nil=>
  intro xs a _ h;cases xs with
  |nil=>exact ⟨[],rfl,rfl⟩
  |cons x xs=>grind [DS]
 |cons c cs ih=>
  intro xs a g h;cases xs with
  |nil=>grind [DS]
  |cons x xs=>
   simp only[rS,DS] at h;split at h
   ·rename_i i j d e;simp only[au] at h;subst h;obtain ⟨q,l,m⟩:=XV H (g x (qY ..)) d;obtain ⟨b,p,s⟩:=ih (λy f=>g y (o_ _ f)) e;refine ⟨q::b,?_,?_⟩
    ·simp_all
    grind [mR]
   simp_all
def MQ(Y:TH):∀{cs:List CC}{xs:List TC}{a:aV cs},DS cs (xs.map (CB Y))=some a->∀y∈xs,y≠.any:=by intro cs xs a h y b e;subst e;have:=(Px h).1 (CB Y .any) (List.mem_map_of_mem b);exact this rfl
def RG{i b v m:Nat}:(∃j l,CB Y (.own i b v m)=.sl j l)\/CB Y (.own i b v m)=.own i b v m:=by grind [CB]
theorem QD(H:RH Y σD){c:dt}{v:TV}{d:D}{a:c.dn}(g:GV Y v)(r:RT v d)(h:qC c (fT Y v)=some a):∃p,nL σD 0 100 d=some p/\xe σD 0 100 d=some p/\CQ p=c.enc a:=by
 have same:fT Y v=v->(∃q,d=.c q)->∃p,nL σD 0 100 d=some p/\xe σD 0 100 d=some p/\CQ p=c.enc a:=λe ⟨q,A⟩=>by rw[e] at h;subst A;exact ⟨_,rfl,rfl,(Qj h r).1⟩
 cases v with
 |c x=>
  cases c with
  |c cc=>
   simp only[fT,qC,Kc] at h;have E:x≠.any:=λe=>by subst e;exact (oK h).1 rfl
   rcases r with r | rfl
   ·simp_all
   obtain ⟨q,t,u⟩:=XV H g h;have s:nL σD 0 100 x.er=some (.c q):=by
    cases w:x.er with
    |agg F=>grind [fW]
    |_=>grind [nL]
   refine ⟨.c q,s,?_,u⟩;cases w:x.er with
   |aV F=>grind [fW]
   |_=>rw[w] at s;exact s
  |st i=>grind [fT,qC,Cw]
  |fp i=>
   cases x with
   |fp j b off=>
    rcases r with r | rfl
    ·simp at r
    exact same rfl ⟨_,rfl⟩
   |own i b v m=>exfalso;simp only[fT,qC] at h;rcases RG (Y:=Y) (i:=i) (b:=b) (v:=v) (m:=m) with ⟨j,l,e⟩ | e <;> rw[e] at h <;> simp[wx] at h
   |_=>grind [fT,CB,qC,wx]
  |k f=>
   cases x with
   |d y=>
    rcases r with r | rfl
    ·simp at r
    refine same rfl ?_;simp only[fT,CB,qC,PH] at h
    grind
   |own i b v m=>exfalso;simp only[fT,qC] at h;rcases RG (Y:=Y) (i:=i) (b:=b) (v:=v) (m:=m) with ⟨j,l,e⟩ | e <;> rw[e] at h <;> simp[PH] at h
   |_=>grind [fT,CB,qC,PH]
 |agg G=>
  cases c with
  |st i=>
   obtain ⟨y,t,rfl⟩:=Od h;obtain ⟨ds,rfl,K⟩:=r;rw[K.eq (MQ Y t)];obtain ⟨L,u,s⟩:=frTs_ok H g t;have z:=frz_agg (Y:=σD) u;refine ⟨_,z,z,?_⟩
   grind [CQ,dt.enc,uq,Ty.pm]
  |c x=>grind [fT,qC,Kc]
  |fp i=>grind [fT,qC,wx]
  |k i=>grind [fT,qC,PH]
 |aV G=>grind [fT,qC,Cw,Kc,wx,PH]
theorem frVs_ok(H:RH Y σD):∀{cs:List dt}{vs:List TV}{ds:List D}{a:tD cs},(∀v∈vs,GV Y v)->f_ vs ds->yc cs (vs.map (fT Y))=some a->∃b,ds.mapM (xe σD 0 100)=some b/\b.map CQ=sF cs a:=by
 intro cs;induction cs with
 |nil=>
  intro vs ds a _ r h;cases r with
  |nil=>exact ⟨[],rfl,rfl⟩
  |cons _ _=>grind [yc]
 |cons c cs ih=>
  intro vs ds a g r h;cases r with
  |nil=>grind [yc]
  |cons d r=>
   simp only[rS,yc] at h;split at h
   ·rename_i x y e f;simp only[au] at h;subst h;obtain ⟨i,_,j,p⟩:=QD H (g _ (qY ..)) d e;obtain ⟨b,l,q⟩:=ih (λv m=>g v (o_ _ m)) r f;exact ⟨i::b,mapM_c j l,by grind [sF]⟩
   simp_all
def Vy{cs:List dt}(h:cs.all dt.gr=true)(x:kY cs):(sI cs x).ground=true:=by
 have cc:∀(c:CC)(a:c.dn),c.gr=true->(D.c (tL enc c a)).ground=true:=by intro c a h;cases c <;> first | rfl | grind [CC.gr]
 have b:∀(cs:List CC)(x:aV cs),cs.all CC.gr=true->D.ground.iH ((mR enc cs x).map .c)=true:=by
  intro cs;induction cs with
  |nil=>intro x _;rfl
  |cons c cs ih=>
   intro x h;simp only[SW,bG] at h
   grind [mR,D.ground.iH]
 have e:∀(c:dt)(a:c.dn),c.gr=true->(c.enc a).ground=true:=by
  intro c a h;cases c with
  |c x=>exact cc x a h
  |st i=>simp only[dt.enc,D.ground,uq];exact b _ _ h
  |fp i=>grind [dt.gr]
  |k g=>grind [dt.gr]
 have f:∀(cs:List dt)(x:kY cs),cs.all dt.gr=true->D.ground.iH (sV cs x)=true:=by
  intro cs;induction cs with
  |nil=>intro x _;rfl
  |cons c cs ih=>
   intro x h;simp only[SW,bG] at h;cases cs with
   |nil=>grind [sV,D.ground.iH]
   |cons d cs=>simp only[sV,D.ground.iH,e c x.1 h.1,yC9];simp_all
 have:=f cs x h;unfold sI one;split
 ·rename_i d h;rw[h] at this;simp only[D.ground.iH,Qm] at this;omega
 ·exact this
def spc_ok{S:sq}{g:Nat}{s:bE}{vs:List TV}{ds:List D}{a:tD s.ins}{r:kY s.out}(hs:ZC g S=some s)(d:f_ vs ds)(e:yc s.ins vs=some a)(f:s.f a=some r) :
  CW (Gx S) g ds σD=some (sI s.out r,σD,[]):=by
 obtain ⟨h,i⟩:=Ru e d;exact zN (YW hs) i h (RA (λa b=>MZ) f) (Wr s.out r)
theorem own_low{v:TV}{d:D}(h:x_ v=true)(r:RT v d):d.low 0=false:=by
 cases v with
 |c x=>
  cases x <;> simp[x_,Rs] at h
  rcases r with r | rfl
  ·simp at r
  ·simp[TC.er,D.low]
 |agg f=>
  obtain ⟨ds,rfl,g⟩:=r;simp only[x_] at h;simp only[D.low];induction g with
  |nil=>simp at h
  |cons e _ ih=>
   rename_i a b l m _;simp only[List.any_cons,gE] at h;simp only[D.low.cW];rcases h with h | h
   ·cases a <;> simp[Rs] at h
    rcases e with e | rfl
    ·grind
    ·simp[TC.er,D.low]
   simp_all
 |aV f=>grind [x_]
theorem Yl{vs:List TV}{ds:List D}(r:f_ vs ds)(h:vs.any x_=true):(ds.all λd=>d.low 0&&d.plain)=false:=by
 induction r with
 |nil=>simp at h
 |cons a _ ih=>
  simp only[List.any_cons,gE] at h;simp only[SW];rcases h with h | h
  ·grind [own_low]
  simp_all
def YB{S:sq}(H:RH Y σD){g:Nat}{s:bE}{vs:List TV}{ds:List D}{a:tD s.ins}{r:kY s.out}(hs:ZC g S=some s)(e:∀v∈vs,GV Y v)(d:f_ vs ds)(f:s.out.all dt.gr=true)(h:vs.any x_=true)
  (i:yc s.ins (vs.map (fT Y))=some a) (j:s.f a=some r):CW (Gx S) g ds σD=some (sI s.out r,σD,[]):=by
 obtain ⟨l,m,p⟩:=frVs_ok H e d i;exact JY (YW hs) (Yl d h) m p (RA (λa b=>MZ) j) (Vy f r)
end
end Go.Abs
end
section
namespace Go.Abs
noncomputable section
variable[Gl][σ:Ty]
variable{P:Program}{orc:xg}{n:Nat}{alD:AL}{Y Y1:TH}{σD σD1:ar}{o:kN}{Q:TV->TH->Bool->List Nat->Prop}{rd:aT->Option TV}
def rt0:RT (.aV []) (.aV []):=⟨[],rfl,.nil⟩
theorem DI:∀{z:List D}{m:Nat},D.low.cW 0 z=true->∀d∈z,d.low m=true:=by
 intro z;induction z with
 |nil=>simp_all
 |cons x z ih=>
  intro m h d a;simp only[D.low.cW,bG] at h;rcases gy.1 a with rfl | a
  ·exact D.eK (Qf _) h.1
  simp_all
theorem aM.ds:∀(z:List D),aM RC (z.map .d) z:=by
 intro z;induction z with
 |nil=>exact .nil
 |cons d z ih=>exact .cons (.inr rfl) ih
def IC{z:List D}(h:D.low.cW 0 z=true):∀x∈z.map TC.d,GC Y x:=by intro x a;rw[iX] at a;obtain ⟨d,b,rfl⟩:=a;exact DI h d b
def G_{z:List D}(h:D.low.cW 0 z=true)(k:Nat):∀x∈(dJ k z).map TC.d,GC Y x:=by intro x b;rw[iX] at b;obtain ⟨d,a,rfl⟩:=b;simp only[dJ,List.mem_flatten,List.mem_replicate] at a;obtain ⟨l,⟨_,rfl⟩,a⟩:=a;exact DI h d a
theorem YT:∀{cs:List CC}{xs:List TC}{a:aV cs},Rp xs=true->DS cs xs=some a->xs.map TC.er=(mR enc cs a).map .c:=by
 intro cs;induction cs with
 |nil=>
  intro xs a _ h;cases xs with
  |nil=>rfl
  |cons x xs=>grind [DS]
 |cons c cs ih=>
  intro xs a b h;cases xs with
  |nil=>grind [DS]
  |cons x xs=>grind [DS,Rp,List.cons.injEq,QA,mR]
def yC{i:Nat}{xs:List TC}{a:TT i}(h:mkT i xs=some a):xs.map TC.er=(enc i a).map .c/\∀x∈xs,x≠.any:=by grind [mkT,uq,Ty.pm,YT,Px]
theorem WQ{i:Nat}:∀{k:Nat}{xs:List TC}{l:List (TT i)}{ds:List D},Hm i k xs=some l->aM RC xs ds->ds=(l.flatMap (enc i)).map .c/\l.length=k:=by
 intro k;induction k with
 |zero=>
  intro xs l ds h r;cases xs with
  |nil=>simp only[Hm,au] at h;subst h;cases r;simp_all
  |cons x xs=>grind [Hm]
 |succ k ih=>
  intro xs l ds h r;simp only[Hm] at h;split at h
  ·rename_i a f b d;simp only[au] at h;subst h;obtain ⟨g,e⟩:=yC b;obtain ⟨j,m⟩:=ih d (r.drop (aB i));have p:=(r.take (aB i)).eq e
   grind [List.take_append_drop]
  simp_all
theorem SA{v:TV}{d:D}{q:Int}(h:lc v=some q)(r:RT v d):d=I q:=by
 unfold lc at h;split at h
 ·simp only[au] at h;subst h;rcases r with r | rfl
  ·simp at r
  ·rfl
 simp_all
theorem RT.c1{x:TC}{d:D}(i:x≠.any)(r:RT (.c x) d):d=x.er:=by
 rcases r with r | r
 ·simp_all
 omega
theorem JD{k:IntKind}:∀{xs:List TC}{l:List Int}{ds:List D},ints k xs=some l->aM RC xs ds->ds=l.map λz=>.c (.lit (.int k z)):=by
 intro xs l ds h r;induction r generalizing l with
 |nil=>grind [ints]
 |cons b _ ih=>
  simp only[ints] at h;split at h
  ·rename_i a g d f;simp only[au] at h;subst h;obtain ⟨i,_⟩:=oK d;rw[ih f,rS];congr 1;rcases b with b | rfl
   ·simp_all
   ·rcases QA d with e | e
    ·grind [E_]
    ·rw[e];rfl
  simp_all
theorem dD.c{x:aT}{y:TC}(i:dD Y alD rd)(h:rd x=some (.c y))(s:y≠.any):lx alD x=some y.er/\GC Y y:=by obtain ⟨d,u,z,j⟩:=i x _ h;exact ⟨by grind [RT.c1],j⟩
def dD.int{x:aT}{v:TV}{q:Int}(i:dD Y alD rd)(h:rd x=some v)(j:lc v=some q):lx alD x=some (I q):=by
 obtain ⟨d,s,u,_⟩:=i x _ h
 grind [SA]
theorem dD.all(i:dD Y alD rd):∀{xs:List aT}{vs:List TV},LW rd xs=some vs->∃ds,Wi alD xs=some ds/\f_ vs ds/\∀v∈vs,GV Y v:=by
 intro xs;induction xs with
 |nil=>intro vs h;simp only[LW,au] at h;subst h;exact ⟨[],rfl,.nil,by simp⟩
 |cons x xs ih=>
  intro vs h;simp only[LW] at h;split at h
  ·rename_i a b j s;simp only[au] at h;subst h;obtain ⟨d,A,u,E⟩:=i x a j;obtain ⟨ds,F,z,G⟩:=ih s;refine ⟨d::ds,by grind [Wi],.cons u z,λv K=>?_⟩
   grind
  simp_all
def castL_len{i j:Nat}{l:List (TT j)}{m:List (TT i)}(h:iB l=some m):m.length=l.length:=by grind [zdK]
def AI(H:RH Y σD){b i j a d:Nat}{l:List (TT j)}{m:List (TT i)}(hb:Y[b]? = some (.row j l a d))(h:iB l=some m):Y[b]? = some (.row i m a d):=by grind [zdK]
def JP(H:RH Y σD){i:Nat}{v:TV}{d:D}{m:List (TT i)}(h:TS i Y v=some m)(r:RT v d)(g:GV Y v):Src σD (enc i) (aB i) d m:=by
 unfold TS at h;split at h
 ·rename_i j l;obtain ⟨rfl,rfl⟩:=zdK h;rw[RT.c1 (by simp) r];exact Dp (uU j)
 ·simp only[au] at h;subst h;rw[RT.c1 (by simp) r];exact src_nil
 ·rename_i j b v q;split at h
  ·rename_i s l t u hb;split at h
   ·rename_i a;have a:=dd a;obtain ⟨blk,e,f⟩:=g;rw[hb] at e;simp only[au] at e;obtain ⟨_,p⟩:=f _ _ _ _ e.symm;obtain ⟨rfl,rfl⟩:=p a.symm;obtain ⟨rfl,rfl⟩:=zdK h;rw[RT.c1 (by simp) r];exact Sn (uU _) (H.row hb) rfl
   simp_all
  simp_all
 simp_all
def wj(H:RH Y σD){i b v q j a e:Nat}{l:List (TT j)}(g:GC Y (.own i b v q))(hb:Y[b]? = some (.row j l a e))(d:Nat.beq a v=true):j=i/\q=l.length:=by
 have d:=dd d;obtain ⟨blk,f,h⟩:=g
 grind
def Zs(H:RH Y σD){i b v q j f d off:Nat}{k:Int}{a:TT i}{l:List (TT j)}(g:GC Y (.op i b v q k a off))(hb:Y[b]? = some (.row j l f d))(e:Nat.beq d v=true):∃m:List (TT i),iB l=some m/\q=m.length/\aD m k=some a:=by
 have e:=dd e;obtain ⟨blk,h,p⟩:=g
 simp_all
def NC{m:Option Nat}{i:Nat}{a:TT i}{off:Nat}{v:TV}(h:Bq m (exp i a) off=some v):∃d,uL m ((enc i a).map .c) off=some d/\RT v d/\GV Y v:=by
 obtain ⟨d,b,e⟩:=zl h (Tp i a)
 grind [pP,un]
variable{R:Type}{k:KO R}{r:R}
theorem ZD:∀{xs:List Value}{l:List Int},Lk xs=some l->xs=l.map λz=>.int .i64 z:=by
 intro xs;induction xs with
 |nil=>grind [Lk]
 |cons x xs ih=>
  intro l h;unfold Lk at h
  grind
theorem Zc:∀{xs:List C}{l:List Int},Nx xs=some l->xs=l.map λz=>.lit (.int .i64 z):=by
 intro xs;induction xs with
 |nil=>grind [Nx]
 |cons x xs ih=>
  intro l h;unfold Nx at h
  grind
theorem Wz{S:sq}{F:Nat}{m:Option Nat}{x:aT}(G:dD Y alD rd)(H:RH Y σD)(h:gI P S F (.load m x) rd Y k=some r):dq P orc n alD Y σD (.load m x) (λv Y1 rs wr=>k v Y1 rs wr=some r):=by
 simp only[gI] at h;split at h
 ·rename_i b off sz f;obtain ⟨s,_⟩:=G.c f (by simp);split at h
  ·rename_i w M hb;obtain ⟨ds,t,u,K,_⟩:=H.cells hb;split at h
   ·rename_i v hs A;obtain ⟨d,L,E⟩:=zl A u;refine dq.pure (rk s (Qk t (by simp_all)) L) E (pP A λy U=>?_) H h;rw[iX] at U;obtain ⟨p,W,rfl⟩:=U;exact (H.hg b w M hb p W).1
   simp_all
  simp_all
 ·rename_i i a off f;obtain ⟨s,_⟩:=G.c f (by simp);split at h
  ·rename_i v A;obtain ⟨d,t,u,K⟩:=NC (Y:=Y) A;exact dq.pure (Fm s t) u K H h
  simp_all
 ·rename_i i b v q z a off f;obtain ⟨s,g⟩:=G.c f (by simp);split at h
  ·rename_i j l lv cv hb;split at h
   ·rename_i v' A N;obtain ⟨m',t,rfl,u⟩:=Zs H g hb A;have O:=AI H hb t;obtain ⟨d,K,L,E⟩:=NC (Y:=Y) N;exact dq.pure (Wv (uU i) s rfl (H.row O) rfl (Yz u) K) L E H h
   simp_all
  simp_all
 ·rename_i b off len sz i f;obtain ⟨s,g⟩:=G.c f (by simp);split at h
  ·rename_i w M hb;obtain ⟨ds,t,u,K,_⟩:=H.cells hb;split at h
   ·rename_i l hs hl;simp only[bG] at hs;obtain ⟨a,T,hk⟩:=AP h;have L:=JD hl ((u.drop off).take len);obtain ⟨X,Z,a3⟩:=nJ T;refine dq.one hk (rk s (Qk t (by simp_all)) (d:=I a) ?_) rfl rfl H;have E:((ds.drop off).take len)[i.toNat]? = some (I a):=by simp_all
    have h7:i.toNat<len:=by grind
    rw[yB3 h7,yBQ] at E;simp only[uL,Nat.mul_one];exact E
   simp_all
  simp_all
 ·rename_i M off f;obtain ⟨s,g⟩:=G.c f (by simp);split at h
  ·rename_i l hl;obtain ⟨a,T,hk⟩:=AP h;obtain ⟨X,Z,a3⟩:=nJ T;have e:=Zc hl;subst e;refine dq.one hk (Fm s (d:=I a) ?_) rfl rfl H
   grind [uL]
  simp_all
 simp_all
theorem Vr{S:sq}{N:Nat}{m:Nat}{x y:aT}(T:dD Y alD rd)(H:RH Y σD)(h:gI P S N (.store m x y) rd Y k=some r):dq P orc n alD Y σD (.store m x y) (λv Y1 rs wr=>k v Y1 rs wr=some r):=by
 simp only[gI] at h;split at h
 ·rename_i b off sz v Z hv;obtain ⟨h1,_⟩:=T.c Z (by simp);obtain ⟨d,h2,h3,h4⟩:=T _ _ hv;split at h
  ·rename_i w E f hb A;obtain ⟨ds,h5,h6,h7,aa⟩:=H.cells hb;obtain ⟨h8,h9,ab⟩:=qh A h3;split at h
   ·rename_i u;simp only[bG] at u;have c1:=dd u.1;have c2:=dd u.2.1;have c3:=CH u.2.2;have F:(sL E off (f.map λx=>(w+1,x))).length=E.length:=by
     grind [sL]
    have s:BE (.cells w E) (.cells (w+1) (sL E off (f.map λx=>(w+1,x)))):=by
     refine ⟨w+1,_,rfl,by omega,yCa F.symm,λj v x v1 x1 U W=>?_⟩;by_cases hj:j<off
     ·grind [sL]
     ·by_cases ak:j<off+f.length
      ·right;simp only[sL] at W
       grind
      ·left;simp only[sL] at W
       grind
    have L:∀w' M,TB.cells (w+1) (sL E off (f.map λx=>(w+1,x)))=.cells w' M->∀p∈M,GC Y p.2/\p.1<=w':=by
     intro w' M e p G;simp only[TB.cells.injEq] at e;obtain ⟨rfl,rfl⟩:=e;rcases MP G with G | G
     ·obtain ⟨q1,q2⟩:=H.hg b w E hb p G
      grind
     ·rw[iX] at G;obtain ⟨y,hy,rfl⟩:=G;exact ⟨vg A h4 y hy,cP _⟩
    have ad:RB (.cells (w+1) (sL E off (f.map λx=>(w+1,x)))) (.cells (put ds off (f.map TC.er))):=by unfold RB TB.er;rw[aa];simp[put,sL,Function.comp_def]
    refine ⟨_,_,_,_,.aV [],σD.set b (.cells (put ds off (f.map TC.er))),DQ h1 (Qk h5 (by omega)) h2 h8 ⟨by simp_all,c3⟩ rfl,rt0,?_,H.set hb s ad L,Ext.set hb s,λ_=>?_,λe=>by grind [xI],h⟩
    ·intro p G;grind
    ·simp only[kC,SW,List.all_nil,Qm];rw[h5,HK h5];simp only[Ob.sz,lA]
     grind [put]
   simp_all
  simp_all
 ·rename_i i b v q z a off xv Z hv;obtain ⟨h1,g⟩:=T.c Z (by simp);obtain ⟨d,h2,h3,h4⟩:=T _ _ hv;split at h
  ·rename_i j l lv cv f hb A;obtain ⟨h8,h9,ab⟩:=qh A h3;split at h
   ·rename_i X l' u ha hl;simp only[bG] at u;obtain ⟨m',U,rfl,W⟩:=Zs H g hb u.1;rw[hl] at U;simp only[au] at U;subst U;have t:=AI H hb hl;have c2:=dd u.2.1;obtain ⟨e3,e4⟩:=yC ha;have K:(sL (exp i a) off f).map TC.er=((exp i a).map TC.er).take off++f.map TC.er++((exp i a).map TC.er).drop (off+f.length):=by
     simp[sL]
    rw[e3,vj] at K;obtain ⟨O,af⟩:∃O:List C,f.map TC.er=O.map .c:=by
     have c3:=CH u.2.2;refine ⟨((enc i X).drop off).take f.length,?_⟩;rw[List.map_take,List.map_drop,K];have l1:(((enc i a).map D.c).take off).length=off:=by grind [uU]
     simp_all
    have F:O.length=f.length:=by have:=Ig List.length af;grind
    have he:enc i X=(enc i a).take off++O++(enc i a).drop (off+O.length):=by
     apply MR
     simp_all
    have s:BE (.row i l' lv cv) (.row i (l'.set z.toNat X) lv (cv+1)):=⟨_,_,_,rfl,cP _,by omega,λ_=>by simp,λe=>by omega⟩;refine ⟨_,_,_,_,.aV [],σD.set b (OB (enc i) (l'.set z.toNat X)),VA (uU i) h1 rfl (H.row t) rfl (Yz W) h2 (by simp_all) (by omega) u.2.2 he rfl rfl,rt0,?_,H.set t s rfl (λw E e=>by simp at e),Ext.set t s,λ_=>?_,λe=>by grind [xI],h⟩
    ·intro p G;grind
    ·simp only[kC,SW,List.all_nil,Qm];rw[H.row t,HK (H.row t)];simp[Ob.sz,ib (uU i)]
   simp_all
  simp_all
 simp_all
end
end Go.Abs
end
