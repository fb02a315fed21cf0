/- DfwPb, DfwPc, DfwCx, DfwPd, DfwPe, DfwPf, DfwPg -/
import Derived.Test.YtidhdalhpjapaaaGreatDoorFwC
set_option linter.all false
section
namespace Go.Abs
noncomputable section
variable[Gl][Y:Ty]
structure bz where
 ins:List cR
 out:List cR
 f:rU ins->Option (kT out)
abbrev wj:=List (Nat×bz)
def tsk(g:Nat):wj->Option bz
 |[]=>none
 |(s,f)::l=>match Nat.beq s g with | true=>some f | false=>tsk g l
def zO:(cs:List cR)->List TV->Option (rU cs)
 |[],[]=>some ()
 |c :: cs, x :: xs => match qF c x, zO cs xs with
  |some a,some b=>some (a,b)
  |_,_=>none
 |_,_=>none
def cR.te:(c:cR)->c.dn->Bool×List TC
 |.c x,a=>(false,[xf x a])
 |.st i,a=>(true,exp i a)
 |.fp i,a=>(false,[.fp i a 0])
 |.k x,_=>(false,[.d (.c (.fn (.func x) [] []))])
def JE:(cs:List cR)->kT cs->List (Bool×List TC)
 |[],_=>[]
 |[c],x=>[c.te x]
 |c::d::cs,x=>c.te x.1::JE (d::cs) x.2
def YR:(cs:List cR)->kT cs->TV
 |[c],x=>c.tv x
 |cs,x=>.aT (JE cs x)
def FE:D->TV
 |.agg ds=>.agg (ds.map .d)
 |d=>.c (.d d)
abbrev Kn:=List (Nat×Bool)
def Bb(p:Nat):Kn->Option Bool
 |[]=>none
 |(q,b)::l=>match Nat.beq q p with | true=>some b | false=>Bb p l
def PU(d:Kn)(a:Option (Nat×Bool))(p:Nat)(w:Bool):Bool:=
 match Bb p d with
 |some b=>b == w
 |none => match a with
  |some (q,e)=>Nat.beq q p&&e == w
  |none=>false
def GX(al:TA)(b:Kn)(a:Option (Nat×Bool)):aP->Option TV
 |.k d=>match d.low 0 with | true=>some (FE d) | false=>none
 |.t n => match dV n al with
  |some (.v x,_)=>some x
  |some (.g _ w p x,_)=>match PU b a p w with | true=>some x | false=>none
  |none=>none
def JI(rd:aP->Option TV):List aP->Option (List TV)
 |[]=>some []
 |x :: xs => match rd x, JI rd xs with
  |some a,some b=>some (a::b)
  |_,_=>none
def TC.scalar:TC->Bool
 |.any=>false
 |.d x=>x.scalar
 |_=>true
def fy:TV->Option (List TC)
 |.c x=>match x.scalar with | true=>some [x] | false=>none
 |.agg a=>match a.all TC.scalar with | true=>some a | false=>none
 |.aT _=>none
def ru{α:Type}(cs:List α)(off:Nat)(a:List α):List α:=cs.take off++a++cs.drop (off+a.length)
def CE(rd:aP->Option TV):List TC->List (Nat×Nat×aP)->Option (List TC)
 |a,[]=>some a
 |a, (o, n, x) :: rest=>
  match rd x with
  |some v => match fy v with
   |some b => match Nat.beq b.length n && Nat.ble (o + n) a.length with
    |true=>CE rd (ru a o b) rest
    |false=>none
   |none=>none
  |none=>none
def zw(n:Option Nat)(cs:List TC)(off:Nat):Option TV:=
 match n with
 |none=>match cs[off]? with | some x=>some (.c x) | none=>none
 |some n=>match Nat.ble (off+n) cs.length with | true=>some (.agg ((cs.drop off).take n)) | false=>none
def NJ:List TC->Bool
 |[]=>true
 |.d (.c (.lit (.slice none 0 0)))::_=>false
 |_::xs=>NJ xs
def Zi:TC->Bool
 |.any=>true
 |_=>false
def Oh:List TC->Bool
 |[]=>true
 |x::xs=>!(Zi x)&&Oh xs
def mkT(i:Nat)(cs:List TC):Option (TT i):=match NJ cs,Et (Y.fl i) cs with | true,some x=>some (Y.Za i x) | _,_=>none
def EF(i:Nat):Nat->List TC->Option (List (TT i))
 |0,[]=>some []
 |0,_::_=>none
 |k + 1, b => match mkT i (b.take (aA i)), EF i k (b.drop (aA i)) with
  |some a,some l=>some (a::l)
  |_,_=>none
def LZ:TV->Option Value
 |.c (.d (.c (.lit v)))=>some v
 |.c (.b e)=>some (.bool e)
 |_=>none
def BC:Value->TV
 |.bool e=>.c (.b e)
 |v=>.c (.d (.c (.lit v)))
inductive BX where
 |t
 |f
 |e (x:Bool)
def Ph:TV->Option BX
 |.c (.b e)=>some (.e e)
 |.c (.d (.c (.lit (.bool true))))=>some .t
 |.c (.d (.c (.lit (.bool false))))=>some .f
 |_=>none
def BX.val:BX->Bool
 |.t=>true
 |.f=>false
 |.e x=>x
def pk(c:Bool):BX->BX->Bool
 |.t,.e y=>c || y
 |.e x,.f=>c&&x
 |x,y=>bif c then x.val else y.val
def pkV(c:Bool):BX->BX->TV
 |.t,.t=>.c (.d (.c (.lit (.bool true))))
 |.f,.f=>.c (.d (.c (.lit (.bool false))))
 |x,y=>.c (.b (pk c x y))
def ints(k:IntKind):List TC->Option (List Int)
 |[]=>some []
 |x :: xs => match EC (.int k) x, ints k xs with
  |some a,some l=>some (a::l)
  |_,_=>none
def JU:List Value->Option (List Int)
 |[]=>some []
 |.int .i64 a::xs=>match JU xs with | some l=>some (a::l) | none=>none
 |_::_=>none
def IR:List C->Option (List Int)
 |[]=>some []
 |.lit (.int .i64 a)::xs=>match IR xs with | some l=>some (a::l) | none=>none
 |_::_=>none
def valC:TC->Option Value
 |.d (.c (.lit v))=>some v
 |.b e=>some (.bool e)
 |_=>none
def EP:List TC->Option (List Value)
 |[]=>some []
 |x :: xs => match valC x, EP xs with
  |some v,some a=>some (v::a)
  |_,_=>none
def T_(P:Program)(d e:Array Value):List Field->Option Bool
 |[]=>some true
 |f :: g => match f.name != "_", gu P (part f.type d f.offset), gu P (part f.type e f.offset), P.underlying f.type, T_ P d e g with
  |true,some (.int k a),some (.int h b),some (.int _),some q=>match decEq k h with | .isTrue _=>some (a == b&&q) | .isFalse _=>none
  |true,some (.bool a),some (.bool b),some .bool,some q=>some (a == b&&q)
  |_,_,_,_,_=>none
def eqT(P:Program)(t:TypeId)(a b:List TC):Option Bool:=
 match EP a,EP b,P.underlying t,P.eqGuardType P.depth t,P.stoodInHeld t with
 |some d,some e,some (.struct f),false,false=>T_ P d.toArray e.toArray f.toList
 |_,_,_,_,_=>none
def wg(a b:Int):Option Int:=if a.natAbs<2 ^ 52/\b.natAbs<2 ^ 52 then some (a+b) else none
def vW(a b:Int):Option Int:=if a.natAbs<2 ^ 52/\b.natAbs<2 ^ 52 then some (a-b) else none
def qz(a n:Int):Option Int:=if 0<=a/\a<=1048576/\0<=n/\n<=1048576 then some (a * n) else none
def yO(a:Int):Option Int:=if a.natAbs<2 ^ 53 then some a else none
variable{R:Type}
abbrev KO(R:Type):=TV->TH->Bool->List Nat->Option R
def QV(val:Operand->Option TV)(x:Operand):Option Value:=match val x with | some v=>LZ v | none=>none
def Xh(P:Program)(op:Op)(ty:TypeId)(val:Operand->Option TV):Option Value:=
 if op.operands.toList.all (λx=>(QV val x).isSome) then
  match gu P (execOp (λx=>(QV val x).getD undef) { dst:=none,op:=op,type:=ty,pos:="",after:=#[],guard:=none }) with
  |some (.value v)=>some v
  |_=>none
 else none
def ol:Value->Bool
 |.agg _ | .tuple _=>false
 |_=>true
abbrev vp(rd:aP->Option TV)(x:Operand):Option TV:=match bO x with | some o=>rd o | none=>none
def genT(P:Program)(op:Op)(ty:TypeId)(rd:aP->Option TV)(U:TH)(k:KO R):Option R:=
 match op with
 |.binOp o t x y _=>
  match vp rd x,vp rd y with
  |some (.c (.d (.c (.lit (.int f a))))), some (.c (.d (.c (.lit (.int h b)))))=>
   match o with
   |.quo => match decEq f h with
    |.isTrue _=>(P_ f a b).bind λv=>k (.c (.d (.c (.lit (.int f v))))) U false []
    |.isFalse _=>none
   |.rem => match decEq f h with
    |.isTrue _=>(rem? a b).bind λv=>k (.c (.d (.c (.lit (.int f v))))) U false []
    |.isFalse _=>none
   |.shr=>(shr? f a b).bind λv=>k (.c (.d (.c (.lit (.int f v))))) U false []
   |.shl=>(shl? f a b).bind λv=>k (.c (.d (.c (.lit (.int f v))))) U false []
   |_ => match mG P o t x y (.int f a) (.int h b) with
    |some v=>match ol v with | true=>k (BC v) U false [] | false=>none
    |none=>none
  |some (.agg xs), some (.agg i)=>
   match eqT P t xs i with
   |some r => match o with
    |.eql=>k (.c (.b r)) U false []
    |.neq=>k (.c (.b (!r))) U false []
    |_=>none
   |none=>none
  |some (.c (.cx a b)), some (.c (.cx c d))=>
   match o with
   |.add=>(wg a c).bind λu=>(wg b d).bind λv=>k (.c (.cx u v)) U false []
   |.sub=>(vW a c).bind λu=>(vW b d).bind λv=>k (.c (.cx u v)) U false []
   |.mul => match d with
    |.ofNat 0=>(qz a c).bind λu=>(qz b c).bind λv=>k (.c (.cx u v)) U false []
    |_=>none
   |_=>none
  |some u, some v=>
   match LZ u,LZ v with
   |some (.bool a), some (.bool b)=>
    match o,P.underlying t with
    |.eql,some .bool=>k (.c (.b (a == b))) U false []
    |.neq,some .bool=>k (.c (.b (!(a == b)))) U false []
    |_,_=>none
   |some a, some b => match mG P o t x y a b with
    |some v=>match ol v with | true=>k (BC v) U false [] | false=>none
    |none=>none
   |_,_=>none
  |_,_=>none
 |.unOp o _ x=>
  match vp rd x with
  |some u => match o, LZ u with
   |.not,some (.bool e)=>k (.c (.b (!e))) U false []
   |o, some a => match gu P (Op.unary o a) with
    |some v=>match ol v with | true=>k (BC v) U false [] | false=>none
    |none=>none
   |_,_=>none
  |none=>none
 |.convert t g x=>
  match vp rd x with
  |some (.c (.d (.c (.lit (.int f a)))))=>
   match P.underlying g with
   |some (.float .f64)=>match (P.underlying t).isSome with | true=>k (.c (.fl a)) U false [] | false=>none
   |_ => match gu P (convert t g (.int f a)) with
    |some v=>match ol v with | true=>k (BC v) U false [] | false=>none
    |none=>none
  |some (.c (.fl a)) => match P.underlying g, (P.underlying t).isSome with
   |some (.int .i64),true=>(yO a).bind λa=>k (.c (.d (.c (.lit (.int .i64 a))))) U false []
   |_,_=>none
  |some u => match LZ u with
   |some a => match gu P (convert t g a) with
    |some v=>match ol v with | true=>k (BC v) U false [] | false=>none
    |none=>none
   |none=>none
  |none=>none
 |.call c=>
  match c.callee,c.args.toList with
  |.builtin .min, _ => match Xh P (.call c) ty (vp rd) with
   |some v=>match ol v with | true=>k (BC v) U false [] | false=>none
   |none=>none
  |.builtin .max, _ => match Xh P (.call c) ty (vp rd) with
   |some v=>match ol v with | true=>k (BC v) U false [] | false=>none
   |none=>none
  |.builtin .complex, [x, y] => match vp rd x, vp rd y with
   |some (.c (.fl a)),some (.c (.fl b))=>k (.c (.cx a b)) U false []
   |some (.c (.fl a)), some (.c (.d (.c (.lit (.float .f64 b))))) => match Nat.beq b (Fl.fl 0) with
    |true=>k (.c (.cx a 0)) U false []
    |false=>none
   |_,_=>none
  |.builtin .real, [x] => match vp rd x with
   |some (.c (.cx a _))=>k (.c (.fl a)) U false []
   |_=>none
  |.builtin .imag, [x] => match vp rd x with
   |some (.c (.cx _ b))=>k (.c (.fl b)) U false []
   |_=>none
  |_,_=>none
 |_=>none
def AW(U:TH):TC->TC
 |.own i b v n => match U[b]? with
  |some (.row j l a _)=>match Nat.beq a v with | true=>.sl j l | false=>.own i b v n
  |_=>.own i b v n
 |x=>x
def fi(U:TH):TV->TV
 |.c x=>.c (AW U x)
 |.agg a=>.agg (a.map (AW U))
 |x=>x
def NX:TC->Bool
 |.own ..=>true
 |_=>false
def xu:TV->Bool
 |.c x=>NX x
 |.agg a=>a.any NX
 |_=>false
def CC.gr:CC->Bool
 |.sl _=>false
 |.fk _=>false
 |_=>true
def cR.gr:cR->Bool
 |.c x=>x.gr
 |.st i=>(Y.fl i).all CC.gr
 |_=>false
def CY(i:Nat)(U:TH):TV->Option (List (TT i))
 |.c (.sl _ l)=>gR l
 |.c (.d (.c (.lit (.slice none 0 0))))=>some []
 |.c (.own _ b v _) => match U[b]? with
  |some (.row _ l a _)=>match Nat.beq a v with | true=>gR l | false=>none
  |_=>none
 |_=>none
def Uz:TC->Option CV
 |.d x=>some (.d x)
 |.b e=>some (.b e)
 |.sl i l=>some (.sl i l)
 |_=>none
def cvT:CV->TC
 |.d x=>.d x
 |.b e=>.b e
 |.sl i l=>.sl i l
def ZJ:Fn->List TV->List TV->Option (FuncId×List CV)
 |.func g,[.agg xs],[]=>(xs.mapM Uz).map λa=>(g,a)
 |_,_,_=>none
def kl:TV->Option Int
 |.c (.d (.c (.lit (.int .i64 n))))=>some n
 |_=>none
def teT:TV->Bool×List TC
 |.c x=>(false,[x])
 |.agg a=>(true,a)
 |.aT _=>(false,[])
def mpV(j:Nat)(st:Bool)(a:TT j):TV:=match st with | true=>.agg (exp j a) | false=>.c ((exp j a).headD (.d (.c (.lit undef))))
def mkM(j:Nat)(st:Bool)(v:TV):Option (TT j):=match st,v with
 |true,.agg xs=>mkT j xs
 |false,.c x=>mkT j [x]
 |_,_=>none
def IV(ok:Bool)(v:TV)(e:Bool):TV:=match ok with
 |true=>.aT [teT v,(false,[.d (.c (.lit (.bool e)))])]
 |false=>v
def JV:List Nat->Nat->(Nat->Option R)->Option R
 |[],_,_=>none
 |g::gs,n,f=>cond (Nat.beq n g) (f g) (JV gs n f)
def YK:(cs:List CC)->aT cs->(List TC->Option R)->Option R
 |[],_,k=>k []
 |.fk gs::cs,x,k=>JV gs x.1 λg=>YK cs x.2 λl=>k (.d (.c (.fn (.func g) [] []))::l)
 |c::cs,x,k=>YK cs x.2 λl=>k (xf c x.1::l)
def lkS(hint j:Nat)(st:Bool)(a:TT j)(k:TV->Option R):Option R:=match Nat.beq hint 1000005,st with
 |true,true=>YK (Y.fl j) (Y.Zv j a) λb=>k (.agg b)
 |_,_=>k (mpV j st a)
def gJ(P:Program)(S:wj)(hint:Nat)(o:lg)(rd:aP->Option TV)(U:TH)(k:KO R):Option R:=
 match o with
 |.DR x=>match rd x with | some v=>k v U false [] | none=>none
 |.gen op ty=>genT P op ty rd U k
 |.box x => match rd x with
  |some v => match fy v with
   |some e=>k (.c (.d (.ptr U.length 0 e.length))) (U++[.cells 0 (e.map λc=>(0,c))]) false []
   |none=>none
  |none=>none
 |.alloc z => match D.low.cF 0 z with
  |true=>k (.c (.d (.ptr U.length 0 z.length))) (U++[.cells 0 (z.map λc=>(0,.d c))]) false []
  |false=>none
 |.build z M => match D.low.cF 0 z, CE rd (z.map .d) M with
  |true,some e=>k (.agg e) U false []
  |_,_=>none
 |.iV h len z M => match Nat.beq hint 1000001 with
  |true => match D.low.cF 0 z, CE rd ((si len z).map .d) M with
   |true, some e => match Oh e with
    |true=>k (.c (.d (.sl U.length 0 len h e.length))) (U++[.cells 0 (e.map λc=>(0,c))]) false []
    |false=>none
   |_,_=>none
  |false=>match Nat.beq h (aA hint)&&D.low.cF 0 z,CE rd ((si len z).map .d) M with
  |true, some e => match EF hint len e with
   |some l=>k (.c (.own hint U.length 0 len)) (U++[.row hint l 0 0]) false []
   |none=>none
  |_,_=>none
 |.load n a => match rd a with
  |some (.c (.d (.ptr b off sz))) => match U[b]? with
   |some (.cells _ e) => match Nat.beq e.length sz, zw n (e.map Prod.snd) off with
    |true,some v=>k v U false []
    |_,_=>none
   |_=>none
  |some (.c (.fp i x off)) => match zw n (exp i x) off with
   |some v=>k v U false []
   |none=>none
  |some (.c (.op i b v _ _ x off)) => match U[b]? with
   |some (.row _ _ _ E) => match Nat.beq E v, zw n (exp i x) off with
    |true,some v=>k v U false []
    |_,_=>none
   |_=>none
  |some (.c (.ap b off len sz i)) => match n, U[b]? with
   |none, some (.cells _ e) => match Nat.beq e.length sz && Nat.ble (off + len) sz, ints .i64 (((e.map Prod.snd).drop off).take len) with
    |true,some l=>(aL l i).bind λa=>k (.c (.d (.c (.lit (.int .i64 a))))) U false []
    |_,_=>none
   |_,_=>none
  |some (.c (.d (.c (.cA e off)))) => match n, IR e with
   |none,some l=>(aL l (off:Int)).bind λa=>k (.c (.d (.c (.lit (.int .i64 a))))) U false []
   |_,_=>none
  |_=>none
 |.store n a x => match rd a, rd x with
  |some (.c (.d (.ptr b off sz))), some v => match U[b]?, fy v with
   |some (.cells w e), some xs => match Nat.beq e.length sz && (Nat.beq xs.length n && Nat.ble (off + n) sz) with
    |true=>k (.aT []) (U.set b (.cells (w+1) (ru e off (xs.map λx=>(w+1,x))))) false [b]
    |false=>none
   |_,_=>none
  |some (.c (.op i b v _ q a off)), some x => match U[b]?, fy x with
   |some (.row j l t E), some xs => match Nat.beq E v && (Nat.beq xs.length n && Nat.ble (off + n) (aA i)), mkT i (ru (exp i a) off xs), gR (i := i) l with
    |true,some a',some l=>k (.aT []) (U.set b (.row i (l.set q.toNat a') t (E+1))) false [b]
    |_,_,_=>none
   |_,_=>none
  |_,_=>none
 |.lD x => match rd x with
  |some (.c (.d (.ptr b off sz)))=>k (.c (.d (.ptr b off sz))) U false []
  |some (.c (.d (.c (.fn (.func f) u v))))=>k (.c (.d (.c (.fn (.func f) u v)))) U false []
  |some (.c (.d (.fn (.func f) u v)))=>k (.c (.d (.fn (.func f) u v))) U false []
  |some (.c (.fp i a off))=>k (.c (.fp i a off)) U false []
  |some (.c (.op i b v n q a off))=>k (.c (.op i b v n q a off)) U false []
  |some (.c (.DQ g xs))=>k (.c (.DQ g xs)) U false []
  |_=>none
 |.iy X G x => match rd x with
  |some (.c (.d x)) => match isNil X x with
   |some true=>k (.c (.d (.c (.lit (.bool (!G)))))) U false []
   |some false=>k (.c (.d (.c (.lit (.bool G))))) U false []
   |none=>none
  |some (.c (.fp ..)) | some (.c (.op ..)) => match X with
   |0=>k (.c (.d (.c (.lit (.bool G))))) U false []
   |_=>none
  |_=>none
 |.HE off x => match rd x with
  |some (.c (.d (.ptr b o sz)))=>k (.c (.d (.ptr b (o+off) sz))) U false []
  |some (.c (.fp i a o))=>k (.c (.fp i a (o+off))) U false []
  |some (.c (.op i b v n q a o))=>k (.c (.op i b v n q a (o+off))) U false []
  |_=>none
 |.idx h none x i => match rd x, rd i with
  |some (.c (.sl j l)), some F => match kl F, Nat.beq h (aA j) with
   |some q,true=>(aL l q).bind λa=>k (.c (.fp j a 0)) U false []
   |_,_=>none
  |some (.c (.own j b v n)), some F => match kl F, Nat.beq h (aA j), U[b]? with
   |some q, true, some (.row _ l t E) => match Nat.beq t v, gR (i := j) l with
    |true,some l=>(aL l q).bind λa=>k (.c (.op j b E n q a 0)) U false []
    |_,_=>none
   |_,_,_=>none
  |some (.c (.d (.sl b off len O sz))), some F => match kl F, U[b]? with
   |some q, some (.cells _ e) => match Nat.beq e.length sz && Nat.beq h O, Af q len with
    |true,some j=>k (.c (.d (.ptr b (off+j * h) sz))) U false []
    |_,_=>none
   |_,_=>none
  |_,_=>none
 |.idx h (some len) x (.k i) => match rd x, kl (FE i) with
  |some (.c (.d (.ptr b off sz))), some q => match Af q len with
   |some j=>k (.c (.d (.ptr b (off+j * h) sz))) U false []
   |none=>none
  |_,_=>none
 |.idx h (some len) x (.t i) => match rd x, rd (.t i) with
  |some (.c (.d (.ptr b off sz))), some F => match kl F, Nat.beq h 1, U[b]? with
   |some q, true, some (.cells _ e) => match Nat.beq e.length sz && Nat.ble (off + len) sz, ints .i64 (((e.map Prod.snd).drop off).take len) with
    |true,some l=>(aL l q).bind λ_=>k (.c (.ap b off len sz q)) U false []
    |_,_=>none
   |_,_,_=>none
  |some (.c (.d (.c (.Rb g)))), some F => match kl F, Nat.beq h 1, JU (Gl.Zs g) with
   |some q, true, some (z :: l) => match Nat.beq (z :: l).length len with
    |true=>(aL (z::l) q).bind λ_=>k (.c (.d (.c (.cA ((Gl.Zs g).map .lit) (q.toNat * h))))) U false []
    |false=>none
   |_,_,_=>none
  |_,_=>none
 |.Rh h x N Z => match rd x with
  |some (.c (.sl j l))=>
   match Nat.beq h (aA j),(match N with | none=>some (.c (.d (I 0))) | some o=>rd o),(match Z with | none=>some (.c (.d (I l.length))) | some o=>rd o) with
   |true, some u, some v => match kl u, kl v with
    |some u,some v=>(slice? l u v).bind λr=>k (.c (.sl j r)) U false []
    |_,_=>none
   |_,_,_=>none
  |some (.c (.own j b v' n)) => match Nat.beq h (aA j), U[b]? with
   |true, some (.row _ l t _) => match Nat.beq t v', (match N with | none => some (.c (.d (I 0))) | some o => rd o), (match Z with | none => some (.c (.d (I l.length))) | some o => rd o) with
    |true, some u, some v => match kl u, kl v with
     |some u,some v=>(slice? l u v).bind λ_=>k (.c (.os j b v' l.length u.toNat (v.toNat-u.toNat))) U false []
     |_,_=>none
    |_,_,_=>none
   |_,_=>none
  |_=>none
 |.sx=>k (.c (.d (.mp U.length))) (U++[.mp (hint / 2) (Nat.beq (hint % 2) 1) [] 0]) false []
 |.lookup A zero m K ok => match A, rd m, rd K, zero.low 0 with
  |.int _, some (.c (.d (.mp b))), some L, true => match U[b]?, kl L with
   |some (.mp j st l _),some x=>KK (bT l x) (k (IV ok (FE zero) false) U false []) (λa=>lkS hint j st a λv=>k (IV ok v true) U false [])
   |_,_=>none
  |_,_,_,_=>none
 |.vD A m K x => match A, rd m, rd K, rd x with
  |.int _, some (.c (.d (.mp b))), some L, some v => match U[b]?, kl L with
   |some (.mp j st l QH), some i => match mkM j st v with
    |some a=>k (.aT []) (U.set b (.mp j st (dy l i a) (QH+1))) false [b]
    |none=>none
   |_,_=>none
  |_,_,_,_=>none
 |.del A m K => match A, rd m, rd K with
  |.int _, some (.c (.d (.mp b))), some L => match U[b]?, kl L with
   |some (.mp j st l QH),some i=>k (.aT []) (U.set b (.mp j st (tT l i) (QH+1))) false [b]
   |_,_=>none
  |_,_,_=>none
 |.len x => match rd x with
  |some (.c (.sl _ l))=>k (.c (.d (I l.length))) U false []
  |some (.c (.d (.c (.lit (.slice none 0 0)))))=>k (.c (.d (I 0))) U false []
  |some (.c (.own _ b v _)) => match U[b]? with
   |some (.row _ l t _)=>match Nat.beq t v with | true=>k (.c (.d (I l.length))) U false [] | false=>none
   |_=>none
  |some (.c (.d (.sl b _ len _ sz))) => match U[b]? with
   |some (.cells _ e)=>match Nat.beq e.length sz with | true=>k (.c (.d (I len))) U false [] | false=>none
   |_=>none
  |_=>none
 |.mk h p z l c => match Nat.beq h (aA hint) && (Nat.ble p 1000 && D.low.cF 0 z), mkT hint (z.map .d), rd l, rd c with
  |true, some z0, some u, some v => match kl u, kl v with
   |some u,some v=>(PJ z0 u v).bind λr=>k (.c (.own hint U.length 0 r.length)) (U++[.row hint r 0 0]) false []
   |_,_=>none
  |true, none, some (.c (.d (.c (.lit (.int .i64 (.ofNat 0)))))), some v => match kl v with
   |some v=>(SG v).bind λr=>k (.c (.own hint U.length 0 r.length)) (U++[.row hint r 0 0]) false []
   |none=>none
  |_,_,_,_=>none
 |.append h p s x => match rd s, rd x with
  |some (.c (.own i b v _)), some y => match U[b]? with
   |some (.row _ l t E) => match Nat.beq t v && (Nat.beq h (aA i) && Nat.ble p 1000), gR (i := i) l, CY i U y with
    |true,some l,some m=>(bU l m).bind λr=>k (.c (.own i b (t+1) r.length)) (U.set b (.row i r (t+1) (E+1))) true [b]
    |_,_,_=>none
   |_=>none
  |some (.c (.d (.c (.lit (.slice none 0 0))))), some (.c (.own i b v q)) => match Nat.beq h (aA i) && Nat.ble p 1000, CY i U (.c (.own i b v q)) with
   |true, some (a :: l) => match Nat.ble (a :: l).length 1000000 with
    |true=>k (.c (.own i U.length 0 (a::l).length)) (U++[.row i (a::l) 0 0]) false []
    |false=>none
   |_,_=>none
  |some (.c (.d (.c (.lit (.slice none 0 0))))), some (.c (.sl i l)) => match Nat.beq h (aA i) && Nat.ble p 1000 with
   |true=>(bU [] l).bind λr=>k (.c (.own i U.length 0 r.length)) (U++[.row i r 0 0]) false []
   |false=>none
  |_,_=>none
 |.copy h d s => match rd d, rd s with
  |some (.c (.own i b v _)), some y => match U[b]? with
   |some (.row _ l t E) => match Nat.beq t v && Nat.beq h (aA i), gR (i := i) l, CY i U y with
    |true,some l,some m=>k (.c (.d (I ((m.take l.length).length:Int)))) (U.set b (.row i (By l m 0 l.length) t (E+1))) false [b]
    |_,_,_=>none
   |_=>none
  |some (.c (.os i b v _ N len)), some y => match U[b]? with
   |some (.row _ l t E) => match Nat.beq t v && Nat.beq h (aA i), gR (i := i) l, CY i U y with
    |true,some l,some m=>k (.c (.d (I ((m.take len).length:Int)))) (U.set b (.row i (By l m N len) t (E+1))) false [b]
    |_,_,_=>none
   |_=>none
  |_,_=>none
 |.extract x i => match rd x with
  |some (.aT xs) => match xs[i]? with
   |some (true,e)=>k (.agg e) U false []
   |some (false,[c])=>k (.c c) U false []
   |_=>none
  |_=>none
 |.CR f first T => match JI rd first, JI rd T with
  |some a, some b => match ZJ f a b with
   |some (g,e)=>k (.c (.DQ g e)) U false []
   |none => match a.mapM λv => (match v with | .c (.d x) => some x | _ => none), b.mapM λv => (match v with | .c (.d x) => some x | _ => none) with
    |some a,some b=>k (.c (.d (.fn f a b))) U false []
    |_,_=>none
  |_,_=>none
 |.part off n x => match rd x with
  |some (.agg e) => match zw n e off with
   |some v=>k v U false []
   |none=>none
  |_=>none
 |.AD h len n x i => match rd x, rd i with
  |some (.agg e), some F => match i, kl F with
   |.k _, some q => match Af q len with
    |some j => match zw n e (j * h) with
     |some v=>k v U false []
     |none=>none
    |none=>none
   |.t _, some q => match n, Nat.beq h 1 && Nat.beq e.length len, ints .i64 e with
    |none,true,some l=>(aL l q).bind λa=>k (.c (.d (.c (.lit (.int .i64 a))))) U false []
    |_,_,_=>none
   |_,_=>none
  |_,_=>none
 |.call f args => match rd f, JI rd args with
  |some (.c (.d (.c (.fn (.func g) [] [])))), some W => match tsk g S with
   |some s => match zO s.ins W with
    |some a=>(s.f a).bind λr=>k (YR s.out r) U false []
    |none => match s.out.all cR.gr && W.any xu, zO s.ins (W.map (fi U)) with
     |true,some a=>(s.f a).bind λr=>k (YR s.out r) U false []
     |_,_=>none
   |none=>none
  |_,_=>none
 |_=>none
def qI:lg->Bool
 |.DR _ | .build .. | .lD _ | .iy .. | .HE .. | .len _ | .extract .. | .part ..=>true
 |.load _ _=>true
 |.gen (.binOp o ..) _=>match o with | .quo | .rem | .shr=>false | _=>true
 |.gen (.unOp ..) _=>true
 |.gen (.convert ..) _=>true
 |.gen (.call _) _=>true
 |_=>false
inductive GR where
 |PU
 |shut
 |sym (e:Bool) (p:Nat) (w:Bool)
 |spl (e:Bool) (p:Nat)
 |QQ (t:Nat) (x:TV)
 |bad
def gdB(d:Kn)(a:Bool)(p:Nat):TV->GR
 |.c (.d (.c (.lit (.bool true))))=>if a then .PU else .shut
 |.c (.d (.c (.lit (.bool false))))=>if a then .shut else .PU
 |.c (.d (.aT []))=>.shut
 |.c (.b e) => match Bb p d with
  |some b=>if b == a then .PU else .shut
  |none=>.sym e p a
 |_=>.bad
def gdC(a:Kn)(p:Nat):TV->GR
 |.c (.d (.c (.lit (.bool true))))=>.PU
 |.c (.d (.c (.lit (.bool false))))=>.shut
 |.c (.b e) => match Bb p a with
  |some true=>.PU
  |some false=>.shut
  |none=>.sym e p true
 |_=>.bad
def tGd(al:TA)(a:Kn):Option (Nat×Bool)->GR
 |none=>.PU
 |some (t, want) => match dV t al with
  |some (.v x,p)=>gdB a want p x
  |some (.g c w p x, _) => match Bb p a with
   |some b=>if b == w then .QQ t x else .shut
   |none=>.spl c p
  |none=>.bad
def VV(rd:aP->Option TV):lg->Option Nat
 |.load _ x => match rd x with
  |some (.c (.d (.ptr b _ _)))=>some b
  |some (.c (.op _ b ..))=>some b
  |some (.c (.ap b ..))=>some b
  |_=>none
 |_=>none
def hintOf(H:List (Nat×Nat)):Option Nat->Nat
 |none=>0
 |some t=>hk t H
where hk (t:Nat):List (Nat×Nat)->Nat
 |[]=>0
 |(s,i)::l=>match Nat.beq s t with | true=>i | false=>hk t l
abbrev KS(R:Type):=TA->TH->List dG->Option R
def setR(a:Option Nat)(x:RV)(al:TA):TA:=match a with | some t=>(t,x)::al | none=>al
inductive Pl where
 |r (t:Nat) (c:cR)
 |w (b i:Nat)
 |h (b j:Nat) (c:CC)
 |m (b j:Nat) (st:Bool)
@[reducible] def Pl.dn:Pl->Type
 |.r _ c=>c.dn
 |.w _ i=>List (TT i)
 |.h _ _ c=>c.dn
 |.m _ j _=>List (Int×TT j)
@[reducible] def qc:List Pl->Type
 |[]=>Unit
 |[p]=>p.dn
 |p::q::ps=>p.dn×qc (q::ps)
structure JH where
 pl:List Pl
 hs:List (Nat×Nat):=[]
 os:List (Nat×Nat):=[]
 zs:List (Nat×Nat×Nat):=[]
def Hw:List (Nat×Nat)->TA->TH->Option (TA×TH)
  |[],a,U=>some (a,U)
  |(t,i)::os,a,U=>match Nat.ble 1048576 t with
   |true=>match U[(t-1048576) / 1024]? with
    |some (.cells w b) => match b[(t - 1048576) % 1024]? with
      |some (_,.d (.c (.lit (.slice none 0 0))))=>Hw os a (U.set ((t-1048576) / 1024) (.cells (w+1) (b.set ((t-1048576) % 1024) (w+1,.own i U.length 0 0)))++[.row i [] 0 0])
      |some (_,.own ..)=>Hw os a U
      |_=>none
    |_=>none
   |false=>match OW t a with
    |some (.v (.c (.d (.c (.lit (.slice none 0 0))))))=>Hw os ((t,.v (.c (.own i U.length 0 0)))::a) (U++[.row i [] 0 0])
    |some (.v (.c (.own ..)))=>Hw os a U
    |_=>none
def Iw{i j:Nat}(l:List (Int×TT j)):Option (List (Int×TT i)):=match decEq j i with | .isTrue h=>some (h▸l) | .isFalse _=>none
def lf(a:List Pl)(b:Nat):Nat->List (Nat×TC)->List (Nat×TC)->Bool
 |_,[],[]=>true
 |j,(v,_)::xs,(w,_)::d=>(Nat.beq v w || a.any λp=>match p with | .h e f _=>Nat.beq e b&&Nat.beq f j | _=>false)&&lf a b (j+1) xs d
 |_,_,_=>false
def ym(a:List Pl)(b:Nat):TB->TB->Bool
 |.cells _ xs,.cells _ e=>lf a b 0 xs e
 |.row _ _ _ v,.row _ _ _ w=>Nat.beq v w || a.any λp=>match p with | .w d _=>Nat.beq d b | _=>false
 |.mp _ _ _ v,.mp _ _ _ w=>Nat.beq v w || a.any λp=>match p with | .m d _ _=>Nat.beq d b | _=>false
 |_,_=>false
def dI(a:List Pl):Nat->TH->TH->Bool
 |_,[],_=>true
 |b,x::xs,y::d=>ym a b x y&&dI a (b+1) xs d
 |_,_::_,[]=>false
def Jy:List (Nat×Nat×Nat)->TH->TH
 |[],U=>U
 |(b, j, r) :: zs, U => match U[b]?, U[r]? with
  |some (.cells w a),some (.row i l d _)=>Jy zs (U.set b (.cells (w+1) (a.set j (w+1,.own i r d l.length))))
  |_,_=>Jy zs U
def SP(n:Nat)(U:TH)(a:List (Nat×Nat×Nat)):Bool:=
 a.all λz=>Nat.blt z.1 n&&(Nat.blt z.2.2 n&&match U[z.1]?,U[z.2.2]? with
  |some (.cells _ b), some (.row i _ d _) => match b[z.2.1]? with
   |some (_,.own e f v _)=>Nat.beq f z.2.2&&(Nat.beq v d&&Nat.beq e i)
   |_=>false
  |_,_=>false)
def LU(a:List (Nat×Nat×Nat)):List Pl:=a.map λz=>.h z.1 z.2.1 .bool
inductive It where
 |cc (c:CC)
 |st (i:Nat)
 |fp (i:Nat)
 |ls (i:Nat)
 |ml (j:Nat)
 |cx
 deriving DecidableEq
@[reducible] def It.dn:It->Type
 |.cc c=>c.dn
 |.st i=>TT i
 |.fp i=>TT i
 |.ls i=>List (TT i)
 |.ml j=>List (Int×TT j)
 |.cx=>Int×Int
structure jU where
 it:It
 v:it.dn
@[reducible] def dT:List It->Type
 |[]=>Unit
 |[c]=>c.dn
 |c::d::a=>c.dn×dT (d::a)
def lU(c:It)(d:jU):Option c.dn:=match decEq d.it c with | .isTrue h=>some (h▸d.v) | .isFalse _=>none
def uu:(cs:List It)->List jU->Option (dT cs)
 |[],[]=>some ()
 |[c],[d]=>lU c d
 |c :: e :: cs, d :: ds => match lU c d, uu (e :: cs) ds with
  |some a,some b=>some (a,b)
  |_,_=>none
 |_,_=>none
def gL:(cs:List It)->dT cs->List jU
 |[],_=>[]
 |[c],x=>[⟨c,x⟩]
 |c::a::cs,x=>⟨c,x.1⟩::gL (a::cs) x.2
inductive CP where
 |c (c:CC)
 |cx
 |hd (b:Nat)
 |pt (b off sz:Nat)
 |mr (b:Nat)
 |k (d:D)
inductive RO where
 |v (c:cR)
 |p (p:CP)
 |ag (ps:List CP)
inductive NB where
 |cells (ps:List CP)
 |row (i:Nat)
 |mp (j:Nat) (st:Bool)
inductive PC where
 |h (b j:Nat) (p:CP)
 |w (b i:Nat)
 |m (b j:Nat) (st:Bool)
inductive CT where
 |mk (out:List RO) (pl:List PC) (nb:List NB) (H:List (Nat×Nat)) (J:List (Nat×JH)) (C:List (Nat×List CT))
def CT.out:CT->List RO | .mk o _ _ _ _ _=>o
def CT.pl:CT->List PC | .mk _ p _ _ _ _=>p
def CT.nb:CT->List NB | .mk _ _ n _ _ _=>n
def CT.H:CT->List (Nat×Nat) | .mk _ _ _ h _ _=>h
def CT.J:CT->List (Nat×JH) | .mk _ _ _ _ j _=>j
def CT.C:CT->List (Nat×List CT) | .mk _ _ _ _ _ c=>c
def ctk(k:Nat):List (Nat×List CT)->Option (List CT)
 |[]=>none
 |(q,c)::l=>match Nat.beq q k with | true=>some c | false=>ctk k l
def CP.Vu:CP->List It
 |.c y=>[.cc y]
 |.cx=>[.cx]
 |_=>[]
def cR.it:cR->List It
 |.c x=>[.cc x]
 |.st i=>[.st i]
 |.fp i=>[.fp i]
 |.k _=>[]
def RO.Vu:RO->List It
 |.v y=>y.it
 |.p y=>y.Vu
 |.ag i=>i.flatMap CP.Vu
def NB.rts:NB->List It
 |.cells _=>[]
 |.row i=>[.ls i]
 |.mp j _=>[.ml j]
def NB.Vu:NB->List It
 |.cells i=>i.flatMap CP.Vu
 |_=>[]
def PC.rts:PC->List It
 |.h ..=>[]
 |.w _ i=>[.ls i]
 |.m _ j _=>[.ml j]
def PC.Vu:PC->List It
 |.h _ _ y=>y.Vu
 |_=>[]
def CT.bN(ct:CT):List It:=ct.pl.flatMap PC.rts++(ct.nb.flatMap NB.rts++(ct.out.flatMap RO.Vu++(ct.pl.flatMap PC.Vu++ct.nb.flatMap NB.Vu)))
@[reducible] def qf:List CT->Type
 |[]=>Empty
 |[c]=>dT c.bN
 |c::d::a=>dT c.bN ⊕ qf (d::a)
def altK{R:Type}:(cs:List CT)->qf cs->((c:CT)->dT c.bN->Option R)->Option R
 |[],_,_=>none
 |[c],x,f=>f c x
 |c :: d :: cs, x, f => match x with
  |.inl a=>f c a
  |.inr b=>altK (d::cs) b f
structure MS where
 ρ:List (Nat×Nat)
 fz:List Nat
 rw:List jU
 cl:List jU
def nI(b:Nat):List (Nat×Nat)->Option Nat
 |[]=>none
 |(q,o)::l=>match Nat.beq q b with | true=>some o | false=>nI b l
def IJ(m b a:Nat)(s:MS):Option MS:=
 match Nat.blt b m with
 |true=>match Nat.beq b a with | true=>some s | false=>none
 |false => match nI b s.ρ with
  |some o=>match Nat.beq o a with | true=>some s | false=>none
  |none=>match Nat.ble m a with | true=>some { s with ρ:=(b,a)::s.ρ } | false=>none
def eqK:D->D->Bool
 |.c (.lit (.pointer none)),.c (.lit (.pointer none))=>true
 |.c (.lit (.map none)),.c (.lit (.map none))=>true
 |.c (.lit .nilFunc),.c (.lit .nilFunc)=>true
 |.c (.lit (.slice none 0 0)),.c (.lit (.slice none 0 0))=>true
 |.c (.fn (.func f) [] []),.c (.fn (.func g) [] [])=>Nat.beq f g
 |.c (.lit (.int k a)),.c (.lit (.int d b))=>decide (k=d)&&decide (a=b)
 |_,_=>false
def mCP(m:Nat)(U1:TH)(p:CP)(x:TC)(s:MS):Option MS:=
 match p,x with
 |.c c, .own i b v n => match EC c (AW U1 (.own i b v n)) with
  |some a=>some { s with fz:=b::s.fz,cl:=s.cl++[⟨.cc c,a⟩] }
  |none=>none
 |.c c, x => match EC c x with
  |some a=>some { s with cl:=s.cl++[⟨.cc c,a⟩] }
  |none=>none
 |.cx,.cx u v=>some { s with cl:=s.cl++[⟨.cx,(u,v)⟩] }
 |.hd b, .own _ e v _ => match U1[e]? with
  |some (.row _ _ h _)=>match Nat.beq h v with | true=>IJ m b e s | false=>none
  |_=>none
 |.pt b off sz,.d (.ptr e f g)=>match Nat.beq off f&&Nat.beq sz g with | true=>IJ m b e s | false=>none
 |.mr b,.d (.mp e)=>IJ m b e s
 |.k d,.d j=>match eqK d j with | true=>some s | false=>none
 |_,_=>none
def Jn(m:Nat)(U1:TH):List CP->List TC->MS->Option MS
 |[],[],s=>some s
 |p :: ps, x :: xs, s => match mCP m U1 p x s with
  |some s1=>Jn m U1 ps xs s1
  |none=>none
 |_,_,_=>none
def iE:List TC->List Nat
 |[]=>[]
 |.own _ b _ _::xs=>b::iE xs
 |_::xs=>iE xs
def Ze:TV->List Nat
 |.c x=>iE [x]
 |.agg a=>iE a
 |_=>[]
def mRO(m:Nat)(U1:TH)(p:RO)(v:TV)(s:MS):Option MS:=
 match p,v with
 |.v (.c c),v=>match qF (.c c) (fi U1 v) with | some a=>some { s with fz:=Ze v++s.fz,cl:=s.cl++[⟨.cc c,a⟩] } | none=>none
 |.v (.st i),v=>match qF (.st i) (fi U1 v) with | some a=>some { s with fz:=Ze v++s.fz,cl:=s.cl++[⟨.st i,a⟩] } | none=>none
 |.v (.fp i),v=>match qF (.fp i) (fi U1 v) with | some a=>some { s with cl:=s.cl++[⟨.fp i,a⟩] } | none=>none
 |.p p,.c x=>mCP m U1 p x s
 |.ag ps,.agg xs=>Jn m U1 ps xs s
 |_,_=>none
def HN(m:Nat)(U1:TH):List RO->List TV->MS->Option MS
 |[],[],s=>some s
 |p :: ps, x :: xs, s => match mRO m U1 p x s with
  |some s1=>HN m U1 ps xs s1
  |none=>none
 |_,_,_=>none
def Ew(m:Nat)(U U1:TH):List PC->MS->Option MS
 |[],s=>some s
 |.h b j p :: ps, s => match U1[b]?, Nat.blt b m with
  |some (.cells _ e), true => match e[j]? with
   |some x => match mCP m U1 p x.2 s with
    |some s1=>Ew m U U1 ps s1
    |none=>none
   |none=>none
  |_,_=>none
 |.w b i :: ps, s => match U1[b]?, Nat.blt b m with
  |some (.row _ l _ _), true => match gR (i := i) l with
   |some a=>Ew m U U1 ps { s with rw:=s.rw++[⟨.ls i,a⟩] }
   |none=>none
  |_,_=>none
 |.m b j st :: ps, s => match U1[b]?, Nat.blt b m with
  |some (.mp _ d l _), true => match st == d, Iw (i := j) l with
   |true,some a=>Ew m U U1 ps { s with rw:=s.rw++[⟨.ml j,a⟩] }
   |_,_=>none
  |_,_=>none
def DD(m:Nat)(U1:TH):Nat->List NB->MS->Option MS
 |_,[],s=>some s
 |b, .cells ps :: d, s => match nI b s.ρ with
  |some e => match U1[e]? with
   |some (.cells _ g) => match Jn m U1 ps (g.map Prod.snd) s with
    |some s1=>DD m U1 (b+1) d s1
    |none=>none
   |_=>none
  |none=>none
 |b, .row i :: d, s => match nI b s.ρ with
  |some e => match U1[e]? with
   |some (.row _ l _ _) => match gR (i := i) l with
    |some a=>DD m U1 (b+1) d { s with rw:=s.rw++[⟨.ls i,a⟩] }
    |none=>none
   |_=>none
  |none=>none
 |b, .mp j st :: d, s => match nI b s.ρ with
  |some e => match U1[e]? with
   |some (.mp _ f l _) => match st == f, Iw (i := j) l with
    |true,some a=>DD m U1 (b+1) d { s with rw:=s.rw++[⟨.ml j,a⟩] }
    |_,_=>none
   |_=>none
  |none=>none
def PC.pl:PC->Pl
 |.h b j _=>.h b j .bool
 |.w b i=>.w b i
 |.m b j st=>.m b j st
def wP:List Nat->Bool
 |[]=>true
 |x::xs=>!(xs.any (Nat.beq x))&&wP xs
def UZ(ct:CT)(U U1:TH)(rs:List TV):Option (dT ct.bN):=
 match dI (ct.pl.map PC.pl) 0 U U1 with
 |false=>none
 |true => match HN U.length U1 ct.out rs ⟨[], [], [], []⟩ with
  |none=>none
  |some s1 => match Ew U.length U U1 ct.pl s1 with
   |none=>none
   |some a => match DD U.length U1 U.length ct.nb a with
    |none=>none
    |some s => match wP (s.ρ.map Prod.snd) && (s.fz.all (λb => Nat.ble U.length b && !((s.ρ.map Prod.snd).any (Nat.beq b))) && s.ρ.all λp => Nat.blt p.1 (U.length + ct.nb.length)) with
     |true=>uu ct.bN (s.rw++s.cl)
     |false=>none
def PA(U U1:TH)(rs:List TV):(cs:List CT)->Option (qf cs)
 |[]=>none
 |[c]=>UZ c U U1 rs
 |c :: d :: cs => match UZ c U U1 rs with
  |some a=>some (.inl a)
  |none => match PA U U1 rs (d :: cs) with
   |some b=>some (.inr b)
   |none=>none
def cd(U:TH):List PC->List jU->Option (TH×List jU)
 |[],ds=>some (U,ds)
 |.h ..::ps,ds=>cd U ps ds
 |.w b i :: ps, d :: ds => match lU (.ls i) d, U[b]? with
  |some l, some (.row j _ a e) => match Nat.beq j i with
   |true=>cd (U.set b (.row i l (a+1) (e+1))) ps ds
   |false=>none
  |_,_=>none
 |.m b j st :: ps, d :: ds => match lU (.ml j) d, U[b]? with
  |some l,some (.mp _ _ _ v)=>cd (U.set b (.mp j st l (v+1))) ps ds
  |_,_=>none
 |_,[]=>none
def dA:List NB->List jU->Option (TH×List jU)
 |[],ds=>some ([],ds)
 |.cells _::b,ds=>match dA b ds with | some (l,r)=>some (.cells 0 []::l,r) | none=>none
 |.row i::b,d::ds=>match lU (.ls i) d,dA b ds with | some a,some (l,r)=>some (.row i a 0 0::l,r) | _,_=>none
 |.mp j st::b,d::ds=>match lU (.ml j) d,dA b ds with | some a,some (l,r)=>some (.mp j st a 0::l,r) | _,_=>none
 |_,[]=>none
def Ag(e:TH)(p:CP)(ds:List jU):Option (TC×List jU):=
 match p,ds with
 |.c c,d::ds=>match lU (.cc c) d with | some a=>some (xf c a,ds) | none=>none
 |.cx,d::ds=>match lU .cx d with | some a=>some (.cx a.1 a.2,ds) | none=>none
 |.hd b,ds=>match e[b]? with | some (.row i l f _)=>some (.own i b f l.length,ds) | _=>none
 |.pt b off sz,ds=>match Nat.blt b e.length with | true=>some (.d (.ptr b off sz),ds) | false=>none
 |.mr b,ds=>match Nat.blt b e.length with | true=>some (.d (.mp b),ds) | false=>none
 |.k d,ds=>match d.low 0 with | true=>some (.d d,ds) | false=>none
 |_,_=>none
def yN(a:TH):List CP->List jU->Option (List TC×List jU)
 |[],ds=>some ([],ds)
 |p :: ps, ds => match Ag a p ds with
  |some (x, b) => match yN a ps b with
   |some (xs,r)=>some (x::xs,r)
   |none=>none
  |none=>none
def AU(b:TH)(p:RO)(ds:List jU):Option (TV×List jU):=
 match p,ds with
 |.v (.c c),d::ds=>match lU (.cc c) d with | some a=>some (.c (xf c a),ds) | none=>none
 |.v (.st i),d::ds=>match lU (.st i) d with | some a=>some (.agg (exp i a),ds) | none=>none
 |.v (.fp i),d::ds=>match lU (.fp i) d with | some a=>some (.c (.fp i a 0),ds) | none=>none
 |.p p,ds=>match Ag b p ds with | some (x,r)=>some (.c x,r) | none=>none
 |.ag ps,ds=>match yN b ps ds with | some (xs,r)=>some (.agg xs,r) | none=>none
 |_,_=>none
def qg(a:TH):List RO->List jU->Option (List TV×List jU)
 |[],ds=>some ([],ds)
 |p :: ps, ds => match AU a p ds with
  |some (x, b) => match qg a ps b with
   |some (xs,r)=>some (x::xs,r)
   |none=>none
  |none=>none
def fA(a:TH):List PC->TH->List jU->Option (TH×List jU)
 |[],U,ds=>some (U,ds)
 |.h b j p :: ps, U, ds => match Ag a p ds, U[b]? with
  |some (x,r),some (.cells w d)=>fA a ps (U.set b (.cells (w+1) (d.set j (w+1,x)))) r
  |_,_=>none
 |_::ps,U,ds=>fA a ps U ds
def dX(a:TH):List NB->TH->List jU->Option TH
 |[],_,_=>some []
 |.cells ps :: d, _ :: bs, ds => match yN a ps ds with
  |some (xs, r) => match dX a d bs r with
   |some l=>some (.cells 0 (xs.map λx=>(0,x))::l)
   |none=>none
  |none=>none
 |_ :: d, b :: bs, ds => match dX a d bs ds with
  |some l=>some (b::l)
  |none=>none
 |_,_,_=>none
def sH(ct:CT)(U:TH)(x:dT ct.bN):Option (List TV×TH):=
 match cd U ct.pl (gL ct.bN x) with
 |none=>none
 |some (ib, d1) => match dA ct.nb d1 with
  |none=>none
  |some (nb, d2) => match qg (ib ++ nb) ct.out d2 with
   |none=>none
   |some (a, d3) => match fA (ib ++ nb) ct.pl ib d3 with
    |none=>none
    |some (U2, d4) => match dX (ib ++ nb) ct.nb nb d4 with
     |some l=>some (a,U2++l)
     |none=>none
def yM:List TV->TV
 |[v]=>v
 |a=>.aT (a.map teT)
def fnT:TV->Option (FuncId×List TV×List TV)
 |.c (.d (.c (.fn (.func g) a b)))=>some (g,a.map (λx=>FE (.c x)),b.map λx=>FE (.c x))
 |.c (.d (.fn (.func g) a b))=>some (g,a.map FE,b.map FE)
 |.c (.DQ g xs)=>some (g,[.agg (xs.map cvT)],[])
 |_=>none
def PC.blk:PC->Nat
 |.h b _ _=>b
 |.w b _=>b
 |.m b _ _=>b
def PC.rs:PC->Bool
 |.w ..=>true
 |_=>false
def okT(al:TA):lg->Bool
 |.load _ (.t a)=>(dV a al).isSome
 |_=>true
structure KQ where
 P:Program
 S:wj
 H:List (Nat×Nat)
 J:List (Nat×JH)
 C:List (Nat×List CT)
 n:Nat
 N:Nat
 inl:(cs:List CT)->FuncId->List TV->TH->Option (qf cs)
 exa:CT->FuncId->List TV->TH->Option (List TV×TH)
 rs:List CT->FuncId->List TV->TH->List CT
def exOf:List CT->Option CT
 |[a] => match a.H with
  |(k,_)::_=>match Nat.beq k 1000002 with | true=>some a | false=>none
  |_=>none
 |_=>none
def iu(g:KQ)(q:Nat)(o:aM):Option (List CT):=
 match g.C with
 |[]=>none
 |C => match o.op, o.dst with
  |.call _ _,some t=>ctk (q * 65536+t) C
  |_,_=>none
def altOf(g:KQ)(q:Nat)(o:aM)(n b:Nat)(cs:List CT):List CT:=
 match o.dst with
 |some t => match ctk (q * 65536 + t + 1099511627776 * (n + 1)) g.C with
  |some a=>a
  |none => match ctk (q * 65536 + t + 1208925819614629174706176 * (b + 1)) g.C with
   |some a=>a
   |none=>cs
 |none=>cs
def Oz(o o':aM):Bool:=match o.dst,o'.dst with | some a,some b=>Nat.beq a b | _,_=>false
def xO(g:KQ)(q:Nat):List aM->Bool
 |[]=>true
 |o :: os => (match iu g q o with
  |some _=>!(os.any (Oz o))
  |none=>!(os.any λa=>Oz o a&&(iu g q a).isSome))&&xO g q os
def TX(g:KQ)(q:Nat)(a:List aM):Bool:=match g.C with | []=>true | _=>xO g q a
def kg(g:KQ)(q:Nat):Nat->Nat->List aM->Kn->TA->TH->KS R->Option R
  |0,_,_,_,_,_,_=>none
  |_+1,_,[],_,h,U,K=>K h U []
  |l + 1, k, o :: os, kn, h, U, K=>
    match (match o.dst with | some t=>Nat.blt t g.n | none=>true) with
    |false=>none
    |true=>
    match tGd h kn o.g with
    |.bad=>none
    |.QQ t x=>kg g q l k (o::os) kn ((t,.v x)::h) U K
    |.spl e p=>if e=true then kg g q l k (o::os) ((p,true)::kn) h U K else kg g q l k (o::os) ((p,false)::kn) h U K
    |.shut => match o.dst with
      |none=>none
      |some t => match okT h o.op with
        |false=>none
        |true=>kg g q l (k-1) os kn ((t,.v (.c (.d (.aT []))))::h) U λd i j=>K d i (Eb o 0 none [] U.length U.length::j)
    |.sym e p w=>
      match qI o.op,o.dst with
      |true, some t=>
        match gJ (R:=TV) g.P g.S 0 o.op (GX h kn (some (p,w))) U λv _ _ _=>some v with
        |some v=>kg g q l (k-1) os kn ((t,.g e w p v)::h) U λd i j=>K d i (Eb o (cat o.op) (VV (GX h kn (some (p,w))) o.op) [] U.length U.length::j)
        |none=>none
      |_,_=>if e=true then kg g q l k (o::os) ((p,true)::kn) h U K else kg g q l k (o::os) ((p,false)::kn) h U K
    |.PU=>
      match iu g q o with
      |some m=>
        match o.op with
        |.call f args => match GX h kn none f, JI (GX h kn none) args with
          |some fv, some A => match fnT fv with
            |some (z,a,b)=>match g.rs (altOf g q o U.length z m) z (a++A++b) U with
             |m=>match exOf m with
              |some s=>(g.exa s z (a++A++b) U).bind λp=>kg g q l (k-1) os kn (setR o.dst (.v (yM p.1)) h) p.2 λd i j=>K d i (Eb o (cat o.op) none [] U.length p.2.length::j)
              |none=>(g.inl m z (a++A++b) U).bind λx=>altK m x λs x=>match sH s U x with
              |some (E, U1) => match Nat.beq k 0 || !(s.pl.any PC.rs) with
                |true=>kg g q l (k-1) os kn (setR o.dst (.v (yM E)) h) U1 λd i j=>K d i (Eb o (cat o.op) none (s.pl.map PC.blk) U.length U1.length::j)
                |false=>none
              |none=>none
            |none=>none
          |_,_=>none
        |_=>none
      |none=>
      match o.op,o.dst with
      |.pick (.t c) x y, some t=>
        match dV c h with
        |some (.v F, p)=>
          match gdC kn p F with
          |.PU => match GX h ((p, true) :: kn) none x with
            |some v=>kg g q l (k-1) os kn ((t,.v v)::h) U λd i j=>K d i (Eb o (cat o.op) none [] U.length U.length::j)
            |none=>none
          |.shut => match GX h ((p, false) :: kn) none y with
            |some v=>kg g q l (k-1) os kn ((t,.v v)::h) U λd i j=>K d i (Eb o (cat o.op) none [] U.length U.length::j)
            |none=>none
          |.sym e p _ => match GX h kn (some (p, true)) x, GX h kn (some (p, false)) y with
            |some u, some v => match Ph u, Ph v with
              |some u,some v=>kg g q l (k-1) os kn ((t,.v (pkV e u v))::h) U λd i j=>K d i (Eb o (cat o.op) none [] U.length U.length::j)
              |_,_=>none
            |_,_=>none
          |_=>none
        |_=>none
      |op,dst=>gJ g.P g.S (hintOf g.H dst) op (GX h kn none) U λv U1 rs wr=>
          match Nat.beq k 0 || !rs with
          |true=>kg g q l (k-1) os kn (setR dst (.v v) h) U1 λd i j=>K d i (Eb o (cat op) (VV (GX h kn none) op) wr U.length U1.length::j)
          |false=>none
def Rk(al:TA)(U:TH):(p:Pl)->Option p.dn
 |.r t c => match OW t al with
  |some (.v x)=>qF c x
  |_=>none
 |.w b _ => match U[b]? with
  |some (.row _ l _ _)=>gR l
  |_=>none
 |.h b j c => match U[b]? with
  |some (.cells _ d) => match d[j]? with
   |some x=>EC c x.2
   |none=>none
  |_=>none
 |.m b _ st => match U[b]? with
  |some (.mp _ a l _)=>match st == a with | true=>Iw l | false=>none
  |_=>none
def Jh(al:TA)(U:TH):(d:List Pl)->Option (qc d)
 |[]=>some ()
 |[p]=>Rk al U p
 |p :: q :: d => match Rk al U p, Jh al U (q :: d) with
  |some a,some b=>some (a,b)
  |_,_=>none
def Sx(p:Pl)(x:p.dn)(al:TA):TA:=
 match p,x with
 |.r t c,x=>(t,.v (c.tv x))::al
 |_,_=>al
def FJ:(b:List Pl)->qc b->TA->TA
 |[],_,a=>a
 |[p],x,a=>Sx p x a
 |p::q::b,x,a=>Sx p x.1 (FJ (q::b) x.2 a)
def PI(p:Pl)(x:p.dn)(U:TH):TH:=
 match p,x with
 |.w b i, x => match U[b]? with
  |some (.row _ _ a d)=>U.set b (.row i x (a+1) (d+1))
  |_=>U
 |.h b j c, x => match U[b]? with
  |some (.cells w e)=>U.set b (.cells (w+1) (e.set j (w+1,xf c x)))
  |_=>U
 |.m b j st, x => match U[b]? with
  |some (.mp _ _ _ v)=>U.set b (.mp j st x (v+1))
  |_=>U
 |_,_=>U
def qy:(a:List Pl)->qc a->TH->TH
 |[],_,U=>U
 |[p],x,U=>PI p x U
 |p::q::a,x,U=>PI p x.1 (qy (q::a) x.2 U)
def Lr(U:TH):List (Nat×Nat)->TA->TA
 |[],a=>a
 |(t, b) :: hs, a => match U[b]? with
  |some (.row i l d _)=>(t,.v (.c (.own i b d l.length)))::Lr U hs a
  |_=>Lr U hs a
def EG(md:List Nat)(al:TA):TA:=(md.filter λt=>(OW t al).isSome).map (λt=>(t,.v (.c .any)))++al
def cB:br->List Nat
 |.MK d=>d.filterMap (·.dst)
 |.FA d _ _ _=>d.filterMap (·.dst)
 |.seq a b=>cB a++cB b
 |.cond _ a b=>cB a++cB b
 |.block _ b=>cB b
 |.loop b=>cB b
 |.QY _ a r=>cB a++cB r
 |_=>[]
def UU(al:TA)(U:TH)(hs:List (Nat×Nat)):Bool:=
 hs.all λ(t,b)=>match OW t al,U[b]? with
  |some (.v (.c (.own i a v _))),some (.row j _ d _)=>Nat.beq a b&&(Nat.beq v d&&Nat.beq i j)
  |_,_=>false
def rowAt(U:TH)(b:Nat):Bool:=match U[b]? with | some (.row ..)=>true | _=>false
def Gv(hs:List (Nat×Nat))(md:List Nat)(al:TA)(U:TH)(a:TA):Bool:=(a.take (a.length-al.length)).all λp=>md.any (Nat.beq p.1) || hs.any λz=>Nat.beq z.1 p.1&&rowAt U z.2
def KT(h:JH)(md:List Nat)(al:TA)(U:TH)(a:TA)(U1:TH):Option (qc h.pl):=
 match Gv h.hs md al U a&&(dI (h.pl++LU h.zs) 0 U U1&&(UU a U1 h.hs&&SP U.length U1 h.zs)) with
 |true=>Jh a U1 h.pl
 |false=>none
def AN(m:Nat)(U:TH):TC->TC
 |.own i b v n => match Nat.blt b m with
  |true=>.own i b v n
  |false => match U[b]? with
   |some (.row j l e _)=>match Nat.beq e v with | true=>.sl j l | false=>.any
   |_=>.any
 |.op i b v n k a o=>match Nat.blt b m with | true=>.op i b v n k a o | false=>.any
 |.ap b off len sz k=>match Nat.blt b m with | true=>.ap b off len sz k | false=>.any
 |.os i b v n f len=>match Nat.blt b m with | true=>.os i b v n f len | false=>.any
 |.d x=>match x.low m with | true=>.d x | false=>.any
 |.DQ g d=>match d.all (CV.low m) with | true=>.DQ g d | false=>.any
 |x=>x
def AH(m:Nat)(U:TH):RV->RV
 |.v (.c x)=>.v (.c (AN m U x))
 |.v (.agg xs)=>.v (.agg (xs.map (AN m U)))
 |_=>.v (.c .any)
def WD(m:Nat)(U:TH):Nat->TA->TA
 |0,a=>a
 |_+1,[]=>[]
 |k+1,(t,x)::a=>(t,AH m U x)::WD m U k a
def okC(m:Nat):TC->Bool
 |.own _ b _ _=>Nat.blt b m
 |.op _ b _ _ _ _ _=>Nat.blt b m
 |.ap b _ _ _ _=>Nat.blt b m
 |.os _ b _ _ _ _=>Nat.blt b m
 |.d x=>x.low m
 |.DQ _ a=>a.all (CV.low m)
 |_=>true
def okB(m:Nat):TB->Bool
 |.cells _ a=>a.all λp=>okC m p.2
 |_=>true
def Eg(h:JH)(md:List Nat)(al:TA)(U:TH)(a:TA)(U1:TH):Option (qc h.pl):=
 match (U1.take U.length).all (okB U.length) with
 |true=>KT h md al U (WD U.length U1 (a.length-al.length) a) (U1.take U.length)
 |false=>KT h md al U a U1
def cH(h:JH)(md:List Nat)(al:TA)(U:TH)(x:qc h.pl):TH:=Jy h.zs (qy h.pl x U)
def fx(h:JH)(md:List Nat)(al:TA)(U:TH)(x:qc h.pl):TA:=FJ h.pl x (Lr (qy h.pl x U) h.hs (EG md al))
def Zn(t:Nat):TC->Bool
 |.own _ b _ _=>!Nat.beq b t
 |.op _ b _ _ _ _ _=>!Nat.beq b t
 |.ap b _ _ _ _=>!Nat.beq b t
 |.os _ b _ _ _ _=>!Nat.beq b t
 |.d x=>x.low t
 |.DQ _ a=>a.all (CV.low t)
 |_=>true
def nrV(t:Nat):TV->Bool
 |.c x=>Zn t x
 |.agg a=>a.all (Zn t)
 |.aT a=>a.all λp=>p.2.all (Zn t)
def nrR(t:Nat):RV->Bool
 |.v x=>nrV t x
 |.g _ _ _ x=>nrV t x
def Mm(t:Nat)(x:TC):TC:=match Zn t x with | true=>x | false=>.any
def Eu(t:Nat):RV->RV
 |.v (.c x)=>.v (.c (Mm t x))
 |.v (.agg xs)=>.v (.agg (xs.map (Mm t)))
 |_=>.v (.c .any)
def D_(t w:Nat)(p:Nat×TC):Nat×TC:=match Zn t p.2 with | true=>p | false=>(w+1,.any)
def vF(t:Nat):TB->TB
 |.cells w a=>.cells (w+1) (a.map (D_ t w))
 |x=>x
def dflC:(c:CC)->c.dn
 |.int _=>(0:Int)
 |.bool=>false
 |.str=>ByteArray.empty
 |.sl _=>[]
 |.fk _=>0
def dflT:(cs:List CC)->aT cs
 |[]=>()
 |c::cs=>(dflC c,dflT cs)
def dfl(i:Nat):TT i:=Y.Za i (dflT (Y.fl i))
def mvA(n t b j:Nat)(al:TA)(U:TH):Option (TA×TH):=
 match U[b]? with
 |some (.cells w a) => match a[j]? with
  |some (_, .own _ r v _) => match Nat.beq r t with
   |true=>some (al,U)
   |false => match U[r]?, U[t]? with
    |some (.row i1 l d e), some (.row i2 _ lt f) => match Nat.beq v d && (Nat.beq i2 i1 && (al.drop n).all λp => nrR t p.2) with
     |true => some ((al.take n).map (λp => (p.1, Eu t p.2)) ++ al.drop n,
      (((U.map (vF t)).set t (.row i1 l (lt+1) (f+1))).set r (.row i1 (l++[dfl i1]) (d+1) (e+1))).set b (.cells (w+2) ((a.map (D_ t w)).set j (w+2,.own i1 t (lt+1) l.length))))
     |false=>none
    |_,_=>none
  |_=>none
 |_=>none
def mvL(n:Nat):List (Nat×Nat×Nat)->TA->TH->Option (TA×TH)
 |[],a,U=>some (a,U)
 |(b, j, t) :: zs, a, U => match mvA n t b j a U with
  |some (a,U)=>mvL n zs a U
  |none=>none
def mvE:List (Nat×Nat×Nat)->TA->TH->Option (TA×TH)
 |[],a,U=>some (a,U)
 |(b, j, t) :: zs, a, U => match Nat.beq t U.length, U[b]? with
  |true, some (.cells _ d) => match d[j]? with
   |some (_, .own i _ _ _) => match mvA 0 t b j a (U ++ [.row i [] 0 0]) with
    |some (a,U)=>mvE zs a U
    |none=>none
   |_=>none
  |_,_=>none
def mvs(m:Nat)(a:List (Nat×Nat×Nat)):List (Nat×Nat×Nat):=a.filter λz=>Nat.ble m z.2.2
def jn{X:Type}(r:X->Option R)(b:(X->Option R)->Option R):Option R:=b r
def ca{X:Type}(b:(X->Option R)->X->Option R):Nat->X->Option R
 |0,_=>none
 |n+1,x=>b (ca b n) x
def jhk(p:Nat):List (Nat×JH)->Option JH
 |[]=>none
 |(q,h)::l=>match Nat.beq q p with | true=>some h | false=>jhk p l
def jhl(p n:Nat)(J:List (Nat×JH)):Option JH:=match jhk (p+1099511627776 * (n+1)) J with
 |some h=>some h
 |none=>jhk p J
abbrev KC(R:Type):=qd->TA->TH->Option R
def isApp(a:List aM):Bool:=(a.any λo=>match o.op with | .append ..=>true | _=>false)&&a.any λo=>match o.op with | .vD ..=>true | _=>false
def rsCall(g:KQ)(q:Nat)(b:List aM):Bool:=match g.C with
 |[]=>false
 |_ => b.any λo => match iu g q o with
  |some d=>d.any λa=>a.pl.any PC.rs || a.H.any λp=>Nat.beq p.1 1000005
  |none=>false
def lpU{X:Type}(b:(TA->TH->Option X)->TA->TH->Option X):Nat->TA->TH->Option X
 |0,_,_=>none
 |n+1,a,U=>b (lpU b n) a U
def unrOf(h:JH):Option Nat:=match h.os with
 |[(k,n)]=>match Nat.beq k 1000003 with | true=>some n | false=>none
 |_=>none
def tC(g:KQ):br->Nat->TA->TH->KC R->Option R
 |.skip,_,f,U,K=>K .normal f U
 |.MK os, q, f, U, K => match TX g q os with
  |true=>kg g q 1000 0 os [] f U λm t _=>K .normal m t
  |false=>none
 |.FA os s k p, q, f, U, K=>
  match TX g q os with
  |false=>none
  |true=>
  match isApp os with
  |true=>kg g q 1000 os.length os [] f U λm t u=>match dR s u&&nA s p os.length os.length&&Nat.ble p os.length with | true=>K .normal m t | false=>none
  |false => match NH os s with
   |some (pi, _, E) => match TX g q (mT pi os) with
    |true=>kg g q 1000 E (mT pi os) [] f U λm t u=>match Ly s pi u with | true=>K .normal m t | false=>none
    |false=>none
   |none=>match rsCall g q os with
   |true=>kg g q 1000 (dH os) os [] f U λm t u=>match dR s u&&nA s p (dH os) os.length&&Nat.ble p (dH os) with | true=>K .normal m t | false=>none
   |false=>kg g q 1000 k os [] f U λm t u=>match dR s u&&nA s p k os.length&&Nat.ble p k with | true=>K .normal m t | false=>none
 |.seq a b, q, f, U, K=>
  match jhl q U.length g.J with
  |none => tC g a (2 * q) f U λx d U1 => match x with
   |.normal=>tC g b (2 * q+1) d U1 K
   |x=>K x d U1
  |some h => match Hw h.os f U with
   |none=>none
   |some (f, U) => jn (λx => tC g b (2 * q + 1) (fx h (cB a) f U x) (cH h (cB a) f U x) K) λj=>
    tC g a (2 * q) f U λx d U1=>match x with
     |.normal=>match Eg h (cB a) f U d U1 with | some x=>j x | none=>none
     |x=>K x d U1
 |.cond c a b, q, f, U, K=>
  match GX f [] none c with
  |some (.c (.d (.c (.lit (.bool true)))))=>tC g a (2 * q) f U K
  |some (.c (.d (.c (.lit (.bool false)))))=>tC g b (2 * q+1) f U K
  |some (.c (.b e))=>if e=true then tC g a (2 * q) f U K else tC g b (2 * q+1) f U K
  |_=>none
 |.block id b, q, f, U, K => tC g b (2 * q) f U λx d U1 => match x with
  |.exit i=>match Nat.beq i id with | true=>K .normal d U1 | false=>K (.exit i) d U1
  |x=>K x d U1
 |.loop b, q, f, U, K=>
  match jhl q U.length g.J with
  |none=>none
  |some h => match unrOf h with
   |some n => lpU (λrec f U => tC g b (2 * q) f U λex d U1 => match ex with
    |.normal=>rec d U1
    |ex=>K ex d U1) n f U
   |none=>match Hw h.os f U with
   |none=>none
   |some (f,U)=>match mvs U.length h.zs with
   |z :: zs => (match mvE (z :: zs) f U with
    |none=>none
    |some (f, U) => match KT h (cB b) f U f U with
     |none=>none
     |some v => ca (λrec x=>
      tC g b (2 * q) (fx h (cB b) f U x) (cH h (cB b) f U x) λex d U1=>match ex with
       |.normal => match mvL (d.length - (fx h (cB b) f U x).length) (z :: zs) d U1 with
        |none=>none
        |some (d,U1)=>match Eg h (cB b) (fx h (cB b) f U x) (cH h (cB b) f U x) d U1 with | some w=>rec w | none=>none
       |ex=>K ex d U1) g.N v)
   |[]=>match KT h (cB b) f U f U with
   |none=>none
   |some v => ca (λrec x=>
    tC g b (2 * q) (fx h (cB b) f U x) (cH h (cB b) f U x) λex d U1=>match ex with
     |.normal=>match Eg h (cB b) (fx h (cB b) f U x) (cH h (cB b) f U x) d U1 with | some w=>rec w | none=>none
     |ex=>K ex d U1) g.N v
 |.exit id,_,f,U,K=>K (.exit id) f U
 |.ret,_,f,U,K=>K .ret f U
 |.VF _,_,f,U,K=>K .normal f U
 |.QY l a r, q, f, U, K=>
  match jhl q U.length g.J with
  |none => tC g a (2 * q) f U λex d U1 => match ex with
   |.exit i => match Nat.beq i (2 * l + 1) with
    |true => tC g r (2 * q + 1) d U1 λex y A => match ex with
     |.exit i=>match Nat.beq (i % 2) 0 with | true=>K (.exit i) y A | false=>none
     |ex=>K ex y A
    |false=>match Nat.beq (i % 2) 0 with | true=>K (.exit i) d U1 | false=>none
   |ex=>K ex d U1
  |some h => tC g a (2 * q) f U λex d U1 => match ex with
   |.exit i => match Nat.beq i (2 * l + 1) with
    |true => match Eg h (cB a ++ cB r) f U d U1 with
     |none=>none
     |some v => ca (λrec x => tC g r (2 * q + 1) (fx h (cB a ++ cB r) f U x) (cH h (cB a ++ cB r) f U x) λex d U1 => match ex with
      |.exit i => match Nat.beq i (2 * l + 1) with
       |true=>match Eg h (cB a++cB r) (fx h (cB a++cB r) f U x) (cH h (cB a++cB r) f U x) d U1 with | some w=>rec w | none=>none
       |false=>match Nat.beq (i % 2) 0 with | true=>K (.exit i) d U1 | false=>none
      |ex=>K ex d U1) g.N v
    |false=>match Nat.beq (i % 2) 0 with | true=>K (.exit i) d U1 | false=>none
   |ex=>K ex d U1
 |.stuck,_,_,_,_=>none
def zF:Nat->List TV->TA
 |_,[]=>[]
 |i,d::ds=>(i,.v d)::zF (i+1) ds
def DX(al:TA)(U:TH):Nat×Option (Option Nat)->Option TV
 |(t,none)=>match OW t al with | some (.v x)=>some x | _=>none
 |(t, some n) => match OW t al with
  |some (.v (.c (.d (.ptr b off sz)))) => match U[b]? with
   |some (.cells _ a)=>match Nat.beq a.length sz with | true=>zw n (a.map Prod.snd) off | false=>none
   |_=>none
  |_=>none
def wh(U:TH):(cs:List cR)->List TV->Option (kT cs)
 |[],[]=>some ()
 |[c],[x]=>qF c (fi U x)
 |c :: d :: cs, x :: xs => match qF c (fi U x), wh U (d :: cs) xs with
  |some a,some b=>some (a,b)
  |_,_=>none
 |_,_=>none
def Eo{α d:Type}(f:α->Option d):List α->Option (List d)
 |[]=>some []
 |x :: xs => match f x, Eo f xs with
  |some a,some b=>some (a::b)
  |_,_=>none
structure cW where
 CO:CT
 VG:List CT
 f:dT CO.bN->Option (qf VG)
abbrev KF:=List (Nat×cW)
def absS(a:CT)(U:TH)(vs:List TV):Option (List (Nat×Nat)×dT a.bN):=
 match HN 0 U a.out vs ⟨[],[],[],[]⟩ with
 |none=>none
 |some s1 => match DD 0 U 0 a.nb s1 with
  |none=>none
  |some s => match wP (s.ρ.map Prod.snd) && (s.fz.isEmpty && (a.pl.isEmpty && s.ρ.all λp => Nat.blt p.1 (0 + a.nb.length))) with
   |true => match uu a.bN (s.rw ++ s.cl) with
    |some x=>some (s.ρ,x)
    |none=>none
   |false=>none
def wX:TC->Bool
 |.d (.c (.lit (.slice none 0 0)))=>true
 |_=>false
def Sm(U:TH)(ρ:List (Nat×Nat)):Nat->TH->Bool
 |_,[]=>true
 |i, .cells _ a :: bs => (match U[(nI i ρ).getD 0]? with
  |some (.cells _ xs)=>exC xs a
  |_=>false)&&Sm U ρ (i+1) bs
 |i,_::bs=>Sm U ρ (i+1) bs
where exC:List (Nat×TC)->List (Nat×TC)->Bool
 |(_,x)::xs,(_,y)::a=>(!(wX x) || wX y)&&exC xs a
 |_,_=>true
def TI(n m:Nat)(ρ:List (Nat×Nat))(i:Nat):Nat:=match Nat.blt i n with | true=>(nI i ρ).getD 0 | false=>m+(i-n)
def eqVC:cR->cR->Bool
 |.c x,.c y=>decide (x=y)
 |.st i,.st j=>Nat.beq i j
 |.fp i,.fp j=>Nat.beq i j
 |.k g,.k h=>Nat.beq g h
 |_,_=>false
def rCP(ρ:Nat->Nat)(n:Nat):CP->CP->Bool
 |.c a,.c b=>decide (a=b)
 |.cx,.cx=>true
 |.hd b,.hd e=>Nat.beq (ρ b) e&&Nat.blt b n
 |.pt b o s,.pt e f g=>Nat.beq (ρ b) e&&(Nat.blt b n&&(Nat.beq o f&&Nat.beq s g))
 |.mr b,.mr e=>Nat.beq (ρ b) e&&Nat.blt b n
 |.k d,.k h=>eqK d h
 |_,_=>false
def MR(ρ:Nat->Nat)(n:Nat):List CP->List CP->Bool
 |[],[]=>true
 |p::ps,q::a=>rCP ρ n p q&&MR ρ n ps a
 |_,_=>false
def rRO(ρ:Nat->Nat)(n:Nat):RO->RO->Bool
 |.v a,.v b=>eqVC a b
 |.p a,.p b=>rCP ρ n a b
 |.ag a,.ag b=>MR ρ n a b
 |_,_=>false
def QA(ρ:Nat->Nat)(n:Nat):List RO->List RO->Bool
 |[],[]=>true
 |p::ps,q::a=>rRO ρ n p q&&QA ρ n ps a
 |_,_=>false
def rPC(ρ:Nat->Nat)(m0 n:Nat):PC->PC->Bool
 |.h b j p,.h a d f=>Nat.beq (ρ b) a&&(Nat.blt b m0&&(Nat.beq j d&&rCP ρ n p f))
 |.w b i,.w a g=>Nat.beq (ρ b) a&&(Nat.blt b m0&&Nat.beq i g)
 |.m b j st,.m a d e=>Nat.beq (ρ b) a&&(Nat.blt b m0&&(Nat.beq j d&&st == e))
 |_,_=>false
def zI(ρ:Nat->Nat)(m0 n:Nat):List PC->List PC->Bool
 |[],[]=>true
 |p::ps,q::a=>rPC ρ m0 n p q&&zI ρ m0 n ps a
 |_,_=>false
def rNB(ρ:Nat->Nat)(n:Nat):NB->NB->Bool
 |.cells a,.cells b=>MR ρ n a b
 |.row i,.row j=>Nat.beq i j
 |.mp j st,.mp e d=>Nat.beq j e&&st == d
 |_,_=>false
def yb(ρ:Nat->Nat)(n:Nat):List NB->List NB->Bool
 |[],[]=>true
 |p::ps,q::a=>rNB ρ n p q&&yb ρ n ps a
 |_,_=>false
def rCT(ρ:Nat->Nat)(m0:Nat)(a b:CT):Bool:=
 QA ρ (m0+a.nb.length) a.out b.out&&(zI ρ m0 (m0+a.nb.length) a.pl b.pl&&yb ρ (m0+a.nb.length) a.nb b.nb)
def XX(ρ:Nat->Nat)(m0:Nat):List CT->List CT->Bool
 |[],[]=>true
 |a::as,b::bs=>rCT ρ m0 a b&&XX ρ m0 as bs
 |_,_=>false
theorem He:∀{a b:List CT},a.map CT.bN=b.map CT.bN->qf a=qf b:=by
 intro a;induction a with
 |nil=>simp_all
 |cons x a ih=>
  intro b h;cases b with
  |nil=>simp at h
  |cons y b=>
   simp only[oK,List.cons.injEq] at h;cases a with
   |nil => cases b with
    |nil=>grind
    |cons _ _=>simp at h
   |cons d a => cases b with
    |nil=>simp at h
    |cons e b=>grind
def inlS(O:KF)(cs:List CT)(b:FuncId)(vs:List TV)(U:TH):Option (qf cs):=
 match cs with
 |[]=>none
 |a :: cs => match a.H with
  |[(_, k)] => match O[k]? with
   |some (g, s) => match Nat.beq g b, absS s.CO U vs with
    |true, some (ρ, x) => match sH s.CO [] x with
     |some (_, d) => match Sm U ρ 0 d && XX (TI s.CO.nb.length U.length ρ) s.CO.nb.length s.VG (a :: cs) with
      |true => match decEq (s.VG.map CT.bN) ((a :: cs).map CT.bN) with
       |.isTrue h=>cast (Ts Option (He h)) (s.f x)
       |.isFalse _=>none
      |false=>none
     |none=>none
    |_,_=>none
   |none=>none
  |_=>none
abbrev BT:=List CT->FuncId->List TV->TH->List CT
abbrev cL:=(a:List CT)->FuncId->List TV->TH->Option (qf a)
def Np(ρ:Nat->Nat):CP->CP
 |.hd b=>.hd (ρ b)
 |.pt b o s=>.pt (ρ b) o s
 |.mr b=>.mr (ρ b)
 |p=>p
def renRO(ρ:Nat->Nat):RO->RO
 |.p p=>.p (Np ρ p)
 |.ag a=>.ag (a.map (Np ρ))
 |o=>o
def renPC(ρ:Nat->Nat):PC->PC
 |.h b j p=>.h (ρ b) j (Np ρ p)
 |.w b i=>.w (ρ b) i
 |.m b j st=>.m (ρ b) j st
def renNB(ρ:Nat->Nat):NB->NB
 |.cells a=>.cells (a.map (Np ρ))
 |n=>n
def renCT(ρ:Nat->Nat)(H:List (Nat×Nat))(c:CT):CT:=.mk (c.out.map (renRO ρ)) (c.pl.map (renPC ρ)) (c.nb.map (renNB ρ)) H [] []
def resK(O:KF)(a:FuncId)(vs:List TV)(U:TH):List (Nat×Nat)->List CT
 |[]=>[]
 |(q, k) :: H => match Nat.beq q 1000000, O[k]? with
  |true, some (g, s) => match Nat.beq g a, absS s.CO U vs with
   |true,some (ρ,_)=>s.VG.map (renCT (TI s.CO.nb.length U.length ρ) [(1000000,k)])
   |_,_=>resK O a vs U H
  |_,_=>resK O a vs U H
def resO(O:KF):BT:=λa b d U=>match a with
 |[.mk [] [] [] (p :: H) [] []] => match Nat.beq p.1 1000000 with
  |true=>resK O b d U (p::H)
  |false=>a
 |a=>a
def isOS(ct:CT):Bool:=match ct.H with
 |[(k,_)]=>Nat.beq k 1000000
 |_=>false
abbrev KM:=CT->FuncId->List TV->TH->Option (List TV×TH)
def Ut(n:Nat):TC->Bool
 |.d x=>x.low n
 |.b _=>true
 |.sl _ _=>true
 |.fp _ _ _=>true
 |.fl _=>true
 |.cx _ _=>true
 |_=>false
def Vy(n:Nat):TV->Bool
 |.c x=>Ut n x
 |.agg a=>a.all (Ut n)
 |.aT _=>false
def sBlk(n:Nat):TB->Bool
 |.cells w a=>a.all λp=>Ut n p.2&&Nat.ble p.1 w
 |_=>false
def inl1(P:Program)(S:wj)(N:Nat)(B:cL)(i:BT)(I:cL)(X:KM):cL:=λb g e U=>
 match b with
 |[]=>none
 |a :: b=>
  match isOS a with
  |true=>B (a::b) g e U
  |false=>
  match P.funcs[g]? with
  |some f => match jI P f true with
   |some d => match bq P g && Nat.ble e.length d.ntmps with
    |true => tC ⟨P, S, a.H, a.J, a.C, d.ntmps, N, I, X, i⟩ d.body 1 (zF 0 e) U λx h U1 => match x with
     |.exit _=>none
     |_ => match Eo (DX h U1) d.results with
      |some rs=>PA U U1 rs (a::b)
      |none=>none
    |false=>none
   |none=>none
  |none=>none
def ex1(P:Program)(S:wj)(N:Nat)(h:BT)(I:cL)(X:KM):KM:=λb g e U=>
 match P.funcs[g]? with
 |some f => match jI P f true with
  |some a => match bq P g && Nat.ble e.length a.ntmps with
   |true => (tC (R := List TV × TH) ⟨P, S, b.H, b.J, b.C, a.ntmps, N, I, X, h⟩ a.body 1 (zF 0 e) U λx d U1 => match x with
    |.exit _=>none
    |_ => match Eo (DX d U1) a.results with
     |some rs=>some (rs,U1)
     |none => none).bind λp => match p.1.all (Vy p.2.length) && (dI [] 0 U p.2 && (p.2.drop U.length).all (sBlk p.2.length)) with
      |true=>some (p.1,U++p.2.drop U.length)
      |false=>none
   |false=>none
  |none=>none
 |none=>none
def Nh(P:Program)(S:wj)(N:Nat)(B:cL)(a:BT):Nat->cL×KM
 |0=>(λ_ _ _ _=>none,λ_ _ _ _=>none)
 |d+1=>(inl1 P S N B a (Nh P S N B a d).1 (Nh P S N B a d).2,ex1 P S N a (Nh P S N B a d).1 (Nh P S N B a d).2)
def tF(P:Program)(S:wj)(B:cL)(d:BT)(H:List (Nat×Nat))(J:List (Nat×JH))(C:List (Nat×List CT))(e:Nat)(f:mR)(b out:List cR)(N:Nat)(a:rU b):Option (kT out):=
 tC ⟨P,S,H,J,C,f.ntmps,N,(Nh P S N B d e).1,(Nh P S N B d e).2,d⟩ f.body 1 (zF 0 (tvV b a)) [] λx g U=>
  match x with
  |.exit _=>none
  |_ => match Eo (DX g U) f.results with
   |some rs=>wh U out rs
   |none=>none
end
end Go.Abs
end
section
namespace Go.Abs
section
variable[Gl][Y:Ty]
def GC(U:TH):TC->Prop
 |.own i c v n=>∃blk,U[c]? = some blk/\∀j l b d,blk=.row j l b d->v<=b/\(v=b->j=i/\n=l.length)
 |.op i c v n k a _=>∃blk,U[c]? = some blk/\∀j l b d,blk=.row j l b d->v<=d/\(v=d->∃m:List (TT i),gR l=some m/\n=m.length/\aL m k=some a)
 |.ap c _ _ _ _=>c<U.length
 |.os i c v n e len=>∃blk,U[c]? = some blk/\∀j l b d,blk=.row j l b d->v<=b/\(v=b->j=i/\n=l.length/\e+len<=n)
 |.d x=>x.low U.length=true
 |.DQ _ f=>f.all (CV.low U.length)=true
 |_=>True
def GV(U:TH):TV->Prop
 |.c x=>GC U x
 |.agg a=>∀x∈a,GC U x
 |.aT a=>∀p∈a,∀x∈p.2,GC U x
structure RH (U:TH) (σD:aq):Prop where
 len:σD.length=U.length
 hp:∀(b:Nat) blk,U[b]? = some blk->∃ob,σD[b]? = some ob/\RB blk ob
 hg:∀(b:Nat) w cs,U[b]? = some (.cells w cs)->∀p∈cs,GC U p.2/\p.1<=w
def BE:TB->TB->Prop
 |.cells w p,a=>∃w1 d,a=.cells w1 d/\w<=w1/\d.length=p.length/\∀(j:Nat) v x e q,p[j]? = some (v,x)->d[j]? = some (e,q)->(e=v/\q=x)∨w<e
 |.row i l h s,a=>∃g b f,a=.row i g b f/\h<=b/\s<=f/\(h=b->g.length=l.length)/\(s=f->g=l/\b=h)
 |.mp j st l v,a=>∃t m g e,a=.mp t m g e/\v<=e/\(v=e->a=.mp j st l v)
def Ext(U U1:TH):Prop:=∀(b:Nat) blk,U[b]? = some blk->∃a,U1[b]? = some a/\BE blk a
theorem BE.refl(blk:TB):BE blk blk:=by
 cases blk with
 |cells w s=>exact ⟨w,s,rfl,cT _,rfl,λj v x A E h F=>.inl (by simp_all)⟩
 |row i l u z=>exact ⟨l,u,z,rfl,cT _,cT _,λ_=>rfl,λ_=>⟨rfl,rfl⟩⟩
 |mp j st l v=>exact ⟨j,st,l,v,rfl,cT _,λ_=>rfl⟩
theorem Ext.refl(U:TH):Ext U U:=λ_ blk h=>⟨blk,h,BE.refl blk⟩
theorem BE.trans{a b c:TB}(u:BE a b)(s:BE b c)(ha:∀w cs,a=.cells w cs->∀p∈cs,p.1<=w):BE a c:=by
 cases a with
 |cells w cs=>
  obtain ⟨w1,L,rfl,hw,hl,hc⟩:=u;obtain ⟨w2,z,rfl,M,O,W⟩:=s;refine ⟨w2,z,rfl,by omega,by omega,λj v x K x2 h s=>?_⟩
  grind
 |row i l lv cv=>
  obtain ⟨X,Z,ad,rfl,h3,h4,h5,h6⟩:=u;obtain ⟨A,E,F,rfl,h7,h8,h9,af⟩:=s;refine ⟨A,E,F,rfl,by omega,by omega,λe=>?_,λe=>?_⟩
  ·omega
  grind
 |mp j st l v=>
  obtain ⟨j1,ak,X,v1,rfl,h3,h4⟩:=u;obtain ⟨j2,G,A,K,rfl,h5,h6⟩:=s;refine ⟨j2,G,A,K,rfl,by omega,λe=>?_⟩
  grind
theorem RH.QH{U:TH}{σD:aq}(H:RH U σD){b:Nat}{blk:TB}(h:U[b]? = some blk):∀w cs,blk=.cells w cs->∀p∈cs,p.1<=w:=λw cs e p i=>by subst e;exact (H.hg b w cs h p i).2
theorem Ext.trans{U U1 s:TH}{σD:aq}(H:RH U σD)(u:Ext U U1)(x:Ext U1 s):Ext U s:=λb blk h=>by obtain ⟨i,z,A⟩:=u b blk h;obtain ⟨j,E,F⟩:=x b i z;exact ⟨j,E,A.trans F (H.QH h)⟩
theorem Ext.len{U U1:TH}(h:Ext U U1):U.length<=U1.length:=by
 rcases uS U1.length U.length with i | j
 ·obtain ⟨blk,s,_⟩:=h U1.length _ (dB i)
  simp_all
 omega
theorem D.dJ{m m':Nat}(u:m<=m'){d:D}(h:d.low m=true):d.low m'=true:=by
 have i:∀(k:Nat)(d:D),SizeOf.sizeOf d<k->d.low m=true->d.low m'=true:=by
  intro k;induction k with
  |zero=>omega
  |succ k ih=>
   have cF:∀(ds:List D),SizeOf.sizeOf ds<k+1->D.low.cF m ds=true->D.low.cF m' ds=true:=by
    intro ds;induction ds with
    |nil=>intro _ _;rfl
    |cons x ds j=>
     intro hs h;simp only[D.low.cF,bJ,List.cons.sizeOf_spec] at h hs ⊢
     grind
   intro d hs h;cases d with
   |c x=>rfl
   |any=>rfl
   |ptr b o s=>simp only[D.low,bb] at h ⊢;omega
   |sl b o l e s=>simp only[D.low,bb] at h ⊢;omega
   |mp b=>simp only[D.low,bb] at h ⊢;omega
   |fn f a b=>
    simp only[D.low,bJ,D.fn.sizeOf_spec] at h hs ⊢
    grind
   |agg ds=>grind [D.low]
   |aT ds=>grind [D.low]
 exact i (SizeOf.sizeOf d+1) d (Nat.lt_succ_self _) h
theorem CV.dJ{m m':Nat}(s:m<=m'){j:List CV}(h:j.all (CV.low m)=true):j.all (CV.low m')=true:=by
 rw[gH] at h ⊢;intro x u;have:=h x u;cases x with
 |d x=>exact D.dJ s this
 |b e=>rfl
 |sl i l=>rfl
theorem yx{m g:Nat}{a:List CV}(h:a.all (CV.low m)=true):(TC.DQ g a).er.low m=true:=by
 have:D.low.cF m (a.map CV.er)=true:=by
  induction a with
  |nil=>rfl
  |cons x a ih=>
   simp only[List.all_cons,bJ] at h;simp only[oK,D.low.cF,bJ];refine ⟨?_,ih h.2⟩;cases x with
   |d x=>exact h.1
   |b e=>rfl
   |sl i l=>rfl
 grind [TC.er,D.low,D.low.cF]
theorem GC.mono{U U1:TH}(h:Ext U U1){x:TC}(z:GC U x):GC U1 x:=by
 cases x with
 |own i c v n=>
  obtain ⟨blk,A,X⟩:=z;obtain ⟨s,E,u⟩:=h c blk A;refine ⟨s,E,λj l Z cv e=>?_⟩;subst e;cases blk with
  |cells w cs=>obtain ⟨w1,F,e,_⟩:=u;simp at e
  |mp j st l v=>obtain ⟨j1,G,K,v1,e,_⟩:=u;simp at e
  |row j0 l0 L M=>
   obtain ⟨K,O,W,e,h5,h6,h7,h8⟩:=u
   grind
 |os i c v n lo len=>
  obtain ⟨blk,A,X⟩:=z;obtain ⟨s,E,u⟩:=h c blk A;refine ⟨s,E,λj l Z cv e=>?_⟩;subst e;cases blk with
  |cells w cs=>obtain ⟨w1,F,e,_⟩:=u;simp at e
  |mp j st l v=>obtain ⟨j1,G,K,v1,e,_⟩:=u;simp at e
  |row j0 l0 L M=>
   obtain ⟨K,O,W,e,h5,h6,h7,h8⟩:=u
   grind
 |op i c v n k a off=>
  obtain ⟨blk,A,X⟩:=z;obtain ⟨s,E,u⟩:=h c blk A;refine ⟨s,E,λj l Z cv e=>?_⟩;subst e;cases blk with
  |cells w cs=>obtain ⟨w1,F,e,_⟩:=u;simp at e
  |mp j st l v=>obtain ⟨j1,G,K,v1,e,_⟩:=u;simp at e
  |row j0 l0 L M=>
   obtain ⟨K,O,W,e,h5,h6,h7,h8⟩:=u
   grind
 |ap c off len sz k=>exact EM z h.len
 |d x=>exact D.dJ h.len z
 |DQ g xs=>exact CV.dJ h.len z
 |_=>trivial
theorem GV.mono{U U1:TH}(h:Ext U U1){x:TV}(i:GV U x):GV U1 x:=by
 cases x with
 |c x=>exact GC.mono h i
 |agg s=>exact λx j=>GC.mono h (i x j)
 |aT s=>exact λp u x j=>GC.mono h (i p u x j)
theorem Ext.push(U:TH)(blk:TB):Ext U (U++[blk]):=λb i h=>⟨i,by grind,BE.refl _⟩
theorem RH.push{U:TH}{σD:aq}(H:RH U σD){blk:TB}{ob:Ob}(h:RB blk ob)(hg:∀w cs,blk=.cells w cs->∀p∈cs,GC U p.2/\p.1<=w):RH (U++[blk]) (σD++[ob]):={
 len:=by simp[H.len]
 hp:=λb s i=>by
  rcases uS b U.length with j | u
  ·rw[Ie j] at i;rw[Ie (by grind [RH.len])];exact H.hp b s i
  grind [RH.len]
 hg:=λb w cs i p hp=>by
  rcases uS b U.length with j | u
  ·rw[Ie j] at i;obtain ⟨x,z⟩:=H.hg b w cs i p hp;exact ⟨x.mono (Ext.push U blk),z⟩
  ·rw[Pv u] at i;have:b-U.length=0:=by grind
   rw[this] at i;simp only[List.getElem?_cons_zero,aw] at i;obtain ⟨x,z⟩:=hg w cs i p hp;exact ⟨x.mono (Ext.push U blk),z⟩ }
theorem RN{α:Type}{l:List α}{b a:Nat}{x y z:α}(h:l[b]? = some x)(d:(l.set b y)[a]? = some z):(a=b/\z=y)∨(a≠b/\l[a]? = some z):=by grind
theorem Gu{α:Type}{l:List α}{b:Nat}{x y:α}(h:l[b]? = some x):(l.set b y)[b]? = some y:=by grind
theorem Vz{α:Type}{l:List α}{b a:Nat}{y:α}(h:a≠b):(l.set b y)[a]? = l[a]?:=by grind
theorem Ext.set{U:TH}{b:Nat}{blk i:TB}(h:U[b]? = some blk)(s:BE blk i):Ext U (U.set b i):=λu j x=>by grind [BE.refl]
theorem RH.set{U:TH}{σD:aq}(H:RH U σD){b:Nat}{blk i:TB}{ob:Ob}(s:U[b]? = some blk)(G:BE blk i)(h:RB i ob)(hg:∀w cs,i=.cells w cs->∀p∈cs,GC U p.2/\p.1<=w):RH (U.set b i) (σD.set b ob):={
 len:=by simp[H.len]
 hp:=λz u j=>by
  obtain ⟨K,L,_⟩:=H.hp b blk s;rcases RN s j with ⟨rfl,rfl⟩ | ⟨x,A⟩
  ·grind
  ·rw[Vz x];exact H.hp z u A
 hg:=λz w cs j p hp=>by
  rcases RN s j with ⟨rfl,e⟩ | ⟨x,A⟩
  ·obtain ⟨E,F⟩:=hg w cs e.symm p hp;exact ⟨E.mono (Ext.set s G),F⟩
  ·obtain ⟨E,F⟩:=H.hg z w cs A p hp;exact ⟨E.mono (Ext.set s G),F⟩ }
def cV(U:TH)(alD:AL)(rd:aP->Option TV):Prop:=∀x v,rd x=some v->∃d,lx alD x=some d/\RT v d/\GV U v
def cN(P:Program)(orc:uE)(n:Nat)(alD:AL)(U:TH)(σD:aq)(o:lg)(Q:TV->TH->Bool->List Nat->Prop):Prop:=
 ∃v U1 rs wr d σD1,dQ P orc n alD σD o d σD1 wr/\RT v d/\GV U1 v/\RH U1 σD1/\Ext U U1/\(rs=false->jZ σD σD1 wr=true)/\(qI o=true->U1=U/\σD1=σD/\wr=[])/\Q v U1 rs wr
variable{P:Program}{orc:uE}{n:Nat}{alD:AL}{U U1:TH}{σD σD1:aq}{o:lg}{Q:TV->TH->Bool->List Nat->Prop}
theorem cN.pure{v:TV}{d:D}(h:dQ P orc n alD σD o d σD [])(i:RT v d)(j:GV U v)(H:RH U σD)(q:Q v U false []):cN P orc n alD U σD o Q:=
 ⟨v,U,false,[],d,σD,h,i,j,H,Ext.refl U,λ_=>rfl,λ_=>⟨rfl,rfl,rfl⟩,q⟩
theorem cN.new{v:TV}{d:D}{blk:TB}{ob:Ob}(h:dQ P orc n alD σD o d (σD++[ob]) [])(i:RT v d)(j:GV (U++[blk]) v)(H:RH U σD)(s:RB blk ob)(u:∀w cs,blk=.cells w cs->∀p∈cs,GC U p.2/\p.1<=w)
  (q:Q v (U++[blk]) false []) (x:qI o=false:=by rfl):cN P orc n alD U σD o Q:=
 ⟨v,U++[blk],false,[],d,σD++[ob],h,i,j,H.push s u,Ext.push U blk,λ_=>rfl,λh=>by simp_all,q⟩
theorem RH.cells(H:RH U σD){b w:Nat}{cs:List (Nat×TC)}(h:U[b]? = some (.cells w cs)):∃ds,σD[b]? = some (.cells ds)/\aH RC (cs.map Prod.snd) ds/\ds.length=cs.length/\ds=cs.map λp=>p.2.er:=by obtain ⟨j,i,rfl⟩:=H.hp b _ h;refine ⟨_,i,?_,by simp,rfl⟩;have:=aH.er (cs.map Prod.snd);rw[Uc] at this;exact this
theorem RH.row(H:RH U σD){b i j s:Nat}{l:List (TT i)}(h:U[b]? = some (.row i l j s)):σD[b]? = some (OB (enc i) l):=by obtain ⟨z,u,x⟩:=H.hp b _ h;rw[u];exact Ts some x
theorem Y_{b sz:Nat}{ds:List D}(h:σD[b]? = some (.cells ds))(hs:ds.length=sz):nl σD b sz=some ds:=by grind [nl]
theorem yg{m:Option Nat}{cs:List TC}{ds:List D}{off:Nat}{v:TV}(h:zw m cs off=some v)(a:aH RC cs ds):∃d,xI m ds off=some d/\RT v d:=by
 cases m with
 |none=>
  simp only[zw] at h;split at h
  ·rename_i x b;simp only[aw] at h;subst h;obtain ⟨d,e,f⟩:=a.get _ _ b;exact ⟨d,e,f⟩
  simp_all
 |some m=>
  simp only[zw] at h;split at h
  ·rename_i g;simp only[aw] at h;subst h;have i:=DM g;refine ⟨.agg ((ds.drop off).take m),?_,_,rfl,(a.drop off).take m⟩;simp only[xI];rw[if_pos (by grind [aH.len])]
  simp_all
theorem oS{m:Option Nat}{cs:List TC}{off:Nat}{v:TV}(h:zw m cs off=some v)(b:∀x∈cs,GC U x):GV U v:=by
 cases m with
 |none=>
  simp only[zw] at h;split at h
  ·rename_i x a;simp only[aw] at h;subst h;exact b x (yl a)
  simp_all
 |some m=>
  simp only[zw] at h;split at h
  ·simp only[aw] at h;subst h;exact λx a=>b x (List.mem_of_mem_drop (WV a))
  simp_all
theorem uO(c:CC)(a:c.dn):GC U (xf c a):=by cases c <;> first | exact True.intro | rfl
theorem QW:∀(cs:List CC)(x:aT cs),∀y∈zh cs x,GC U y:=by
 intro cs;induction cs with
 |nil=>grind [zh]
 |cons c cs ih=>grind [zh,uO]
theorem tu(i:Nat)(a:TT i):∀y∈exp i a,GC U y:=QW _ _
theorem Ns(i:Nat)(a:TT i):aH RC (exp i a) ((enc i a).map .c):=by rw[<-zx];exact aH.er _
theorem EI{x:TC}{d:D}(h:x.scalar=true)(r:RC x d):d.scalar=true/\d=x.er:=by
 rcases r with rfl | rfl
 ·grind [TC.scalar]
 ·refine ⟨?_,rfl⟩;cases x with
  |any=>grind [TC.scalar]
  |d x=>exact h
  |_=>rfl
theorem uR{v:TV}{d:D}{a:List TC}(h:fy v=some a)(r:RT v d):d.cells? = some (a.map TC.er)/\aH RC a (a.map TC.er)/\∀x∈a,x≠.any:=by
 refine ⟨?_,aH.er _,?_⟩
 ·cases v with
  |c x=>
   simp only[fy] at h;split at h
   ·rename_i hs;simp only[aw] at h;subst h;obtain ⟨l,rfl⟩:=EI hs r;cases i:x.er with
    |agg m=>grind [D.scalar]
    |_=>grind [D.cells?]
   simp_all
  |agg b=>
   simp only[fy] at h;split at h
   ·rename_i hs;simp only[aw] at h;subst h;obtain ⟨ds,rfl,j⟩:=r;rw[gH] at hs;have f:∀y∈b,y≠.any:=λy g e=>by grind [TC.scalar]
    rw[j.eq f];simp only[D.cells?];rw[if_pos];rw[gH];intro d hd;rw[jJ] at hd;obtain ⟨y,g,rfl⟩:=hd;exact (EI (hs y g) (.inr rfl)).1
   simp_all
  |aT b=>grind [fy]
 ·intro x i e;subst e;cases v with
  |c y=>grind [fy,TC.scalar]
  |agg b=>grind [fy,TC.scalar]
  |aT b=>grind [fy]
theorem tm{v:TV}{a:List TC}(h:fy v=some a)(g:GV U v):∀x∈a,GC U x:=by
 cases v with
 |c x=>
  simp only[fy] at h;split at h
  ·simp only[aw] at h;subst h;intro y b;simp only[Kz] at b;subst b;exact g
  simp_all
 |agg d=>
  simp only[fy] at h;split at h
  ·simp only[aw] at h;subst h;exact g
  simp_all
 |aT d=>grind [fy]
theorem aH.put{α j:Type}{R:α->j->Prop}{cs s:List α}{ds i:List j}(h:aH R cs ds)(u:aH R s i)(off:Nat):aH R (ru cs off s) (ds.take off++i++ds.drop (off+i.length)):=by unfold ru;rw[u.len];exact ((h.take off).SD u).SD (h.drop _)
theorem JF{α:Type}{cs a:List α}{off:Nat}{x:α}(h:x∈ru cs off a):x∈cs∨x∈a:=by grind [ru]
theorem De{rd:aP->Option TV}(l:cV U alD rd):∀{e:List (Nat×Nat×aP)}{cs a:List TC}{ds:List D},CE rd cs e=some a->aH RC cs ds->(∀x∈cs,GC U x)->∃b,As alD ds e=some b/\aH RC a b/\∀x∈a,GC U x:=by
 intro e;induction e with
 |nil=>intro cs a ds h f j;simp only[CE,aw] at h;subst h;exact ⟨ds,rfl,f,j⟩
 |cons p e ih=>
  intro cs a ds h f j;obtain ⟨o,m,x⟩:=p;simp only[CE] at h;split at h
  ·rename_i v q;split at h
   ·rename_i E g;split at h
    ·rename_i i;obtain ⟨d,s,t,F⟩:=l x v q;obtain ⟨u,w,G⟩:=uR g t;simp only[bJ] at i;have K:=cY i.1;have L:=DM i.2;obtain ⟨b,z,A⟩:=ih h (f.put w o) λy M=>by
      grind [JF,tm]
     refine ⟨b,?_,A⟩;simp only[As,s,Option.bind_some,u];rw[if_neg (by grind [aH.len])];exact z
    simp_all
   simp_all
  simp_all
end
end Go.Abs
end
section
namespace Go.Abs
open Go.Fl
theorem EQ{a b:Int}(d:a.natAbs<2 ^ 52)(f:b.natAbs<2 ^ 52):Op.Complex.arith .add .f64 (fl a) (fl b)=pure (fl (a+b)):=by
 have h:FloatKind.f64.format.add (fl a) (fl b)=some (fl (a+b)):=fl_add d f;have e:Op.floatArith .add .f64 (fl a) (fl b)=pure (.float .f64 (fl (a+b))):=by show (match FloatKind.f64.format.add (fl a) (fl b) with | some r=>(pure (.float .f64 r):Go.Sem Value) | none=>_)=_;rw[h]
 grind [Go.Op.Complex.arith]
theorem FI{a b:Int}(d:a.natAbs<2 ^ 52)(f:b.natAbs<2 ^ 52):Op.Complex.arith .sub .f64 (fl a) (fl b)=pure (fl (a-b)):=by
 have h:FloatKind.f64.format.sub (fl a) (fl b)=some (fl (a-b)):=fl_sub d f;have e:Op.floatArith .sub .f64 (fl a) (fl b)=pure (.float .f64 (fl (a-b))):=by show (match FloatKind.f64.format.sub (fl a) (fl b) with | some r=>(pure (.float .f64 r):Go.Sem Value) | none=>_)=_;rw[h]
 grind [Go.Op.Complex.arith]
theorem uN{a b:Int}(d:0<=a)(f:0<=b)(g:a.natAbs<2 ^ 53)(i:b.natAbs<2 ^ 53)(j:(a * b).natAbs<2 ^ 53):Op.Complex.arith .mul .f64 (fl a) (fl b)=pure (fl (a * b)):=by
 have h:FloatKind.f64.format.mul (fl a) (fl b)=some (fl (a * b)):=fl_mul d f g i j;have e:Op.floatArith .mul .f64 (fl a) (fl b)=pure (.float .f64 (fl (a * b))):=by show (match FloatKind.f64.format.mul (fl a) (fl b) with | some r=>(pure (.float .f64 r):Go.Sem Value) | none=>_)=_;rw[h]
 grind [Go.Op.Complex.arith]
theorem Kx{a b c d:Int}(e:a.natAbs<2 ^ 52)(f:b.natAbs<2 ^ 52)(g:c.natAbs<2 ^ 52)(hd:d.natAbs<2 ^ 52) :
  Op.complexOp .add .f64 (fl a) (fl b) (fl c) (fl d)=pure (.complex .f64 (fl (a+c)) (fl (b+d))):=by
 grind [Go.Op.complexOp,EQ]
theorem IB{a b c d:Int}(e:a.natAbs<2 ^ 52)(f:b.natAbs<2 ^ 52)(g:c.natAbs<2 ^ 52)(hd:d.natAbs<2 ^ 52) :
  Op.complexOp .sub .f64 (fl a) (fl b) (fl c) (fl d)=pure (.complex .f64 (fl (a-c)) (fl (b-d))):=by
 grind [Go.Op.complexOp,FI]
theorem YE{a b d e A B z:Nat}(p1:Op.Complex.arith .mul .f64 a d=pure A)(f:Op.Complex.arith .mul .f64 b e=pure z)(g:Op.Complex.arith .mul .f64 a e=pure z)(h:Op.Complex.arith .mul .f64 b d=pure B)
  (i:Op.Complex.arith .sub .f64 A z=pure A) (j:Op.Complex.arith .add .f64 z B=pure B):Op.Complex.product a b d e=pure (A,B):=by
 unfold Op.Complex.product Op.Complex.mul Op.Complex.sub Op.Complex.add
 simp_all
theorem cop_of{a b d g A B:Nat}(h:Op.Complex.product a b d g=pure (A,B)):Op.complexOp .mul .f64 a b d g=pure (.complex .f64 A B):=by unfold Op.complexOp;show (do let (e,f) <-Op.Complex.product a b d g;pure (.complex .f64 (<-Op.Complex.conv .f64 e .f64) (<-Op.Complex.conv .f64 f .f64)):Go.Sem Value)=_;rw[h];rfl
theorem Ja{a b n:Int}(e:0<=a)(f:0<=b)(d:0<=n)(j:a<=1048576)(l:b<=1048576)(g:n<=1048576) :
  Op.complexOp .mul .f64 (fl a) (fl b) (fl n) (fl 0)=pure (.complex .f64 (fl (a * n)) (fl (b * n))):=by
 have m1:0<=a * n/\a * n<=1048576 * 1048576:=⟨yBV e d,Int.mul_le_mul j g d (by omega)⟩;have m:0<=b * n/\b * n<=1048576 * 1048576:=⟨yBV f d,Int.mul_le_mul l g d (by omega)⟩;have z:(0:Int).natAbs<2 ^ 53:=by omega
 have i:(0:Int).natAbs<2 ^ 52:=by omega
 refine cop_of (YE (z:=fl 0) ?_ ?_ ?_ ?_ ?_ ?_)
 ·grind [uN]
 ·have h:=uN (a:=b) (b:=0) f (yBY _) (by omega) z (by omega)
  simp_all
 ·have h:=uN (a:=a) (b:=0) e (yBY _) (by omega) z (by omega)
  simp_all
 ·grind [uN]
 ·have h:=FI (a:=a * n) (b:=0) (by omega) i
  simp_all
 ·have h:=EQ (a:=0) (b:=b * n) i (by omega)
  simp_all
theorem Qn{n:Int}(h:n.natAbs<2 ^ 53):Conv.floatToInt .f64 (fl n) .i64=pure (.int .i64 n):=by
 unfold Conv.floatToInt;have e:(FloatKind.f64.decode (fl n)).toInt .zero=some n:=ZX h;simp only[e];have a:IntKind.i64.min=-9223372036854775808:=rfl;have b:IntKind.i64.max=9223372036854775807:=rfl
 grind
end Go.Abs
end
section
namespace Go.Abs
section
variable[Gl][Y:Ty]
variable{P:Program}{orc:uE}{n:Nat}{alD:AL}{U U1:TH}{σD σD1:aq}{o:lg}{Q:TV->TH->Bool->List Nat->Prop}{rd:aP->Option TV}
theorem FX(a:cV U alD rd){x:Operand}{v:TV}(h:vp rd x=some v):∃d,yZ alD x=some d/\RT v d/\GV U v:=by
 unfold vp at h;split at h
 ·rename_i o b;obtain ⟨d,e,f⟩:=a o v h
  grind [yZ]
 simp_all
theorem qw{v:TV}{d:D}{a:Value}(h:LZ v=some a)(r:RT v d):d.cD = some a/\d=.c (.lit a):=by
 unfold LZ at h;split at h
 ·simp only[aw] at h;subst h;rcases r with r | rfl
  ·simp at r
  ·exact ⟨rfl,rfl⟩
 ·simp only[aw] at h;subst h;rcases r with r | rfl
  ·simp at r
  ·exact ⟨rfl,rfl⟩
 simp_all
def flat:Value->Bool
 |.agg _ | .tuple _=>false
 |_=>true
theorem OT{v:Value}(h:flat v=true):RT (BC v) (de v)/\GV U (BC v):=by
 unfold BC;split
 ·exact ⟨.inr rfl,True.intro⟩
 ·refine ⟨.inr ?_,rfl⟩;cases v <;> first | rfl | grind [flat]
theorem Xk{x:TC}{d:D}{a:Value}(h:valC x=some a)(r:RC x d):gZ d=some a:=by
 unfold valC at h;split at h
 ·simp only[aw] at h;subst h;rcases r with r | rfl
  ·simp at r
  ·rfl
 ·simp only[aw] at h;subst h;rcases r with r | rfl
  ·simp at r
  ·rfl
 simp_all
theorem IY:∀{a:List TC}{ds:List D}{vs:List Value},EP a=some vs->aH RC a ds->ds.mapM gZ=some vs:=by
 intro a ds vs h r;induction r generalizing vs with
 |nil=>grind [EP]
 |cons b _ ih=>grind [EP,Xk]
theorem Xs{g i:Array Value}{d:Nat}:∀{e:List Field}{r:Bool},T_ P g i e=some r->gu P (Op.eqFields (d+1) g i e)=some r:=by
 intro e;induction e with
 |nil=>intro r h;simp only[T_,aw] at h;subst h;rfl
 |cons f e ih=>
  intro r h;simp only[T_] at h;split at h
  ·rename_i k a j b l q m p s t u;split at h
   ·grind [Iu,eq_int]
   simp_all
  ·grind [Iu,Gg]
  simp_all
theorem eqT_ok{t:TypeId}{b d:List TC}{ds es:List D}{r:Bool}(h:eqT P t b d=some r)(f:aH RC b ds)(g:aH RC d es) :
  ∃vs a,(D.agg ds).cD = some (.agg vs)/\(D.agg es).cD = some (.agg a)/\P.eqGuardType P.depth t=false/\gu P (Op.equalIn 10000 t (.agg vs) (.agg a))=some r:=by
 unfold eqT at h;split at h
 ·rename_i vs a i j l m e p;refine ⟨vs.toArray,a.toArray,?_,?_,e,?_⟩
  ·grind [D.cD,IY]
  ·grind [D.cD,IY]
  grind [Go.Program.fieldsOf,eq_agg,Xs]
 simp_all
theorem zb{α d:Type}{o:Option α}{f:α->Option d}{b:d}(h:o.bind f=some b):∃a,o=some a/\f a=some b:=cr.1 h
theorem GO{o:BinOp}{t:TypeId}{x y:Operand}{a b c d:Nat}{v:Value}(i:o≠.eql)(e:o≠.neq)(f:o≠.shl)(g:o≠.shr)(h:Op.complexOp o .f64 a b c d=pure v):mG P o t x y (.complex .f64 a b) (.complex .f64 c d)=some v:=by
 unfold mG;rw[we];have j:gu P (eqGuard o t x y (.complex .f64 a b) (.complex .f64 c d))=some ():=by cases o <;> first | rfl | exact absurd rfl i | exact absurd rfl e
 rw[j,aE];have:binOp o t (.complex .f64 a b) (.complex .f64 c d)=Op.complexOp o .f64 a b c d:=by cases o <;> first | rfl | exact absurd rfl i | exact absurd rfl e | exact absurd rfl f | exact absurd rfl g
 rw[this,h];rfl
theorem OA{a b c:Int}(h:wg a b=some c):a.natAbs<2 ^ 52/\b.natAbs<2 ^ 52/\c=a+b:=by
 unfold wg at h
 simp_all
theorem NZ{a b c:Int}(h:vW a b=some c):a.natAbs<2 ^ 52/\b.natAbs<2 ^ 52/\c=a-b:=by
 unfold vW at h
 simp_all
theorem Of{a b c:Int}(h:qz a b=some c):0<=a/\a<=1048576/\0<=b/\b<=1048576/\c=a * b:=by
 unfold qz at h
 simp_all
theorem Yj(b:cV U alD rd){x:Operand}{a:Value}(h:QV (vp rd) x=some a):(yZ alD x).bind D.cD = some a:=by grind [QV,FX,qw]
theorem NI(g:cV U alD rd){op:Op}{ty:TypeId}{v:Value}(d:∀cs b,op≠.select cs b)(h:Xh P op ty (vp rd)=some v):Ey P op ty alD=some (de v):=by
 unfold Xh at h;split at h
 ·rename_i a;rw[gH] at a;have f:∀x∈op.operands.toList,(yZ alD x).bind D.cD = QV (vp rd) x:=λx e=>by
   have:=a x e;rw[ZV] at this
   grind [Yj]
  unfold Ey;rw[if_pos (by simp_all)];rw[execOp_congr (ρ:=λx=>(((yZ alD x).bind D.cD).getD undef)) (ρ':=λx=>(QV (vp rd) x).getD undef) { dst:=none,op:=op,type:=ty,pos:="",after:=#[],guard:=none } d (λx e=>by simp_all)]
  grind
 simp_all
theorem WR{t b:TypeId}{d:IntKind}{a:Int}(e:P.underlying b=some (.float .f64))(hs:(P.underlying t).isSome=true):gu P (convert t b (.int d a))=some (.float .f64 (Fl.fl a)):=by obtain ⟨u,f⟩:=ZV.1 hs;unfold convert;rw[we,zbR f,aE,we,zbR e,aE];cases u <;> rfl
theorem SL{t d:TypeId}{a b:Int}(f:P.underlying d=some (.int .i64))(hs:(P.underlying t).isSome=true)(h:yO a=some b):gu P (convert t d (.float .f64 (Fl.fl a)))=some (.int .i64 b):=by
 unfold yO at h;split at h
 ·rename_i g;simp only[aw] at h;subst h;obtain ⟨u,i⟩:=ZV.1 hs;unfold convert;rw[we,zbR i,aE,we,zbR f,aE];have e:gu P (Conv.floatToInt .f64 (Fl.fl a) .i64)=some (.int .i64 a):=by rw[Qn g];rfl
  omega
 simp_all
theorem MU{c:Call}{ty:TypeId}{b:Builtin}{v:Value}(e:c.callee=.builtin b)(a:∀x∈c.args.toList,((yZ alD x).bind D.cD).isSome=true)
  (h:gu P (builtin b c.argTypes ty (c.args.map λ| .const _=>true | _=>false) (c.args.map λx=>((yZ alD x).bind D.cD).getD undef))=some (.value v)):Ey P (.call c) ty alD=some (de v):=by
 obtain ⟨d,args,f⟩:=c;dsimp only at e a h;subst e;have g:(Op.operands (.call ⟨.builtin b,args,f⟩)).toList=args.toList:=by simp[Op.operands,Call.operands]
 unfold Ey;rw[if_pos (by simp_all)];have:gu P (execOp (λx=>((yZ alD x).bind D.cD).getD undef) { dst:=none,op:=.call ⟨.builtin b,args,f⟩,type:=ty,pos:="",after:=#[],guard:=none })=some (.value v):=h
 rw[this]
theorem Aq{c:Call}{ty:TypeId}{x y:Operand}{a b:Nat}(e:c.callee=.builtin .complex)(g:c.args.toList=[x,y])(h:yZ alD x=some (.c (.lit (.float .f64 a))))(i:yZ alD y=some (.c (.lit (.float .f64 b)))) :
  Ey P (.call c) ty alD=some (.c (.lit (.complex .f64 a b))):=by
 have d:c.args=#[x,y]:=by grind
 refine MU (v:=.complex .f64 a b) e (by grind [D.cD]) ?_;rw[d];have f:(#[x,y].map λx=>((yZ alD x).bind D.cD).getD undef)=#[.float .f64 a,.float .f64 b]:=by grind [D.cD]
 rw[f];rfl
theorem Up{c:Call}{ty:TypeId}{x:Operand}{a b:Nat}(e:c.callee=.builtin .real)(g:c.args.toList=[x])(h:yZ alD x=some (.c (.lit (.complex .f64 a b)))) :
  Ey P (.call c) ty alD=some (.c (.lit (.float .f64 a))):=by
 have d:c.args=#[x]:=by grind
 refine MU (v:=.float .f64 a) e (by grind [D.cD]) ?_;rw[d];have f:(#[x].map λx=>((yZ alD x).bind D.cD).getD undef)=#[.complex .f64 a b]:=by grind [D.cD]
 rw[f];rfl
theorem TG{c:Call}{ty:TypeId}{x:Operand}{a b:Nat}(e:c.callee=.builtin .imag)(g:c.args.toList=[x])(h:yZ alD x=some (.c (.lit (.complex .f64 a b)))) :
  Ey P (.call c) ty alD=some (.c (.lit (.float .f64 b))):=by
 have d:c.args=#[x]:=by grind
 refine MU (v:=.float .f64 b) e (by grind [D.cD]) ?_;rw[d];have f:(#[x].map λx=>((yZ alD x).bind D.cD).getD undef)=#[.complex .f64 a b]:=by grind [D.cD]
 rw[f];rfl
theorem Nl{v:Value}(h:ol v=true):flat v=true:=by cases v <;> first | rfl | grind [ol]
variable{R:Type}{k:KO R}{r:R}
theorem cN.one{x:TC}{d:D}(q:Q (.c x) U false [])(h:dQ P orc n alD σD o d σD [])(hd:d=x.er)(i:GC U x)(H:RH U σD):cN P orc n alD U σD o Q:=
 cN.pure h (v:=.c x) (Or.inr hd) i H q
theorem cN.vt{v:Value}(q:Q (BC v) U false [])(h:dQ P orc n alD σD o (de v) σD [])(i:ol v=true)(H:RH U σD):cN P orc n alD U σD o Q:=
 cN.pure h (OT (U:=U) (Nl i)).1 (OT (Nl i)).2 H q
theorem Wx{op:Op}{ty:TypeId}(m:cV U alD rd)(H:RH U σD)(h:genT P op ty rd U k=some r):cN P orc n alD U σD (.gen op ty) (λv U1 rs wr=>k v U1 rs wr=some r):=by
 unfold genT at h;split at h
 ·
  rename_i o t x y t';split at h
  ·
   rename_i ka a kb b p A;obtain ⟨E,f,g,_⟩:=FX m p;obtain ⟨G,j,s,_⟩:=FX m A;rcases g with g | rfl
   ·grind
   rcases s with s | rfl
   ·grind
   split at h
   ·split at h
    ·rename_i e _;subst e;obtain ⟨v,i,l⟩:=zb h;exact cN.one l (iL f j rfl rfl (XJ i) rfl) rfl rfl H
    simp_all
   ·split at h
    ·rename_i e _;subst e;obtain ⟨v,i,l⟩:=zb h;exact cN.one l (iL f j rfl rfl (Yf i) rfl) rfl rfl H
    simp_all
   ·obtain ⟨v,i,l⟩:=zb h;exact cN.one l (iL f j rfl rfl (WH i) rfl) rfl rfl H
   ·obtain ⟨v,i,l⟩:=zb h;exact cN.one l (iL f j rfl rfl (Wg i) rfl) rfl rfl H
   ·split at h
    ·rename_i v hv;split at h
     ·rename_i O;exact cN.vt h (iL f j rfl rfl hv rfl) O H
     simp_all
    simp_all
  ·
   rename_i xs ys p A;obtain ⟨E,f,⟨ds,rfl,a1⟩,_⟩:=FX m p;obtain ⟨G,j,⟨es,rfl,a2⟩,_⟩:=FX m A;split at h
   ·rename_i q hq;obtain ⟨vs,ws,i,l,X,Z⟩:=eqT_ok hq a1 a2;split at h
    ·exact cN.one h (iL f j i l (Wl X Z) rfl) rfl True.intro H
    ·exact cN.one h (iL f j i l (VR X Z) rfl) rfl True.intro H
    simp_all
   simp_all
  ·
   rename_i a b c d p A;obtain ⟨E,f,g,_⟩:=FX m p;obtain ⟨G,j,s,_⟩:=FX m A;rcases g with g | rfl
   ·grind
   rcases s with s | rfl
   ·grind
   split at h
   ·obtain ⟨u,i,h⟩:=zb h;obtain ⟨v,l,h⟩:=zb h;obtain ⟨p1,K,rfl⟩:=OA i;obtain ⟨L,M,rfl⟩:=OA l;exact cN.one h (iL f j rfl rfl (GO (by simp) (by simp) (by simp) (by simp) (Kx p1 L K M)) rfl) rfl True.intro H
   ·obtain ⟨u,i,h⟩:=zb h;obtain ⟨v,l,h⟩:=zb h;obtain ⟨p1,K,rfl⟩:=NZ i;obtain ⟨L,M,rfl⟩:=NZ l;exact cN.one h (iL f j rfl rfl (GO (by simp) (by simp) (by simp) (by simp) (IB p1 L K M)) rfl) rfl True.intro H
   ·split at h
    ·obtain ⟨u,i,h⟩:=zb h;obtain ⟨v,l,h⟩:=zb h;obtain ⟨p1,K,L,M,rfl⟩:=Of i;obtain ⟨p5,p6,_,_,rfl⟩:=Of l;exact cN.one h (iL f j rfl rfl (GO (by simp) (by simp) (by simp) (by simp) (Ja p1 p5 L K p6 M)) rfl) rfl True.intro H
    simp_all
   simp_all
  ·
   rename_i u v _ _ _ p A;obtain ⟨E,f,g,_⟩:=FX m p;obtain ⟨G,j,s,_⟩:=FX m A;split at h
   ·rename_i a b z T;obtain ⟨i,rfl⟩:=qw z g;obtain ⟨l,rfl⟩:=qw T s;split at h
    ·rename_i N;exact cN.one h (iL f j rfl rfl (Ug N) rfl) rfl True.intro H
    ·rename_i N;exact cN.one h (iL f j rfl rfl (UK N) rfl) rfl True.intro H
    simp_all
   ·grind [qw,cN.vt,iL]
   simp_all
  simp_all
 ·
  rename_i o t x;split at h
  ·rename_i u N;obtain ⟨E,f,g,_⟩:=FX m N;split at h
   ·rename_i e he;obtain ⟨i,rfl⟩:=qw he g;exact cN.one h (Zg f rfl rfl rfl) rfl True.intro H
   ·grind [qw,cN.vt,Zg]
   simp_all
  simp_all
 ·
  rename_i t t' x;split at h
  ·rename_i ka a z;obtain ⟨E,f,g,_⟩:=FX m z;rcases g with g | rfl
   ·grind
   split at h
   ·rename_i W;split at h
    ·rename_i hs;exact cN.one h (Bl f rfl (v:=.float .f64 (Fl.fl a)) (WR W hs) rfl) rfl True.intro H
    simp_all
   ·split at h
    ·rename_i w hw;split at h
     ·rename_i O;exact cN.vt h (Bl f rfl hw rfl) O H
     simp_all
    simp_all
  ·rename_i a z;obtain ⟨E,f,g,_⟩:=FX m z;rcases g with g | rfl
   ·grind
   split at h
   ·rename_i W hs;obtain ⟨b,i,l⟩:=zb h;exact cN.one l (Bl f rfl (v:=.int .i64 b) (SL W hs i) rfl) rfl rfl H
   simp_all
  ·grind [FX,qw,cN.vt,Bl]
  simp_all
 ·
  rename_i c;split at h
  ·grind [cN.vt,fL,NI]
  ·grind [cN.vt,fL,NI]
  ·rename_i x y F z;split at h
   ·rename_i a b p A;obtain ⟨E,f,g,_⟩:=FX m p;obtain ⟨G,j,s,_⟩:=FX m A;rcases g with g | rfl
    ·grind
    rcases s with s | rfl
    ·grind
    exact cN.one h (fL (Aq F z f j)) rfl True.intro H
   ·rename_i a b p A;obtain ⟨E,f,g,_⟩:=FX m p;obtain ⟨G,j,s,_⟩:=FX m A;rcases g with g | rfl
    ·grind
    rcases s with s | rfl
    ·grind
    split at h
    ·rename_i T;have:=cY T;subst this;exact cN.one h (fL (Aq F z f j)) rfl True.intro H
    simp_all
   simp_all
  ·rename_i x F z;split at h
   ·rename_i a b p;obtain ⟨E,f,g,_⟩:=FX m p;rcases g with g | rfl
    ·grind
    exact cN.one h (fL (Up F z f)) rfl True.intro H
   simp_all
  ·rename_i x F z;split at h
   ·rename_i a b p;obtain ⟨E,f,g,_⟩:=FX m p;rcases g with g | rfl
    ·grind
    exact cN.one h (fL (TG F z f)) rfl True.intro H
   simp_all
  simp_all
 simp_all
end
end Go.Abs
end
section
namespace Go.Abs
noncomputable section
variable[Gl][Y:Ty]
def rB:(cs:List cR)->kT cs->List D
 |[],_=>[]
 |[c],x=>[c.enc x]
 |c::d::cs,x=>c.enc x.1::rB (d::cs) x.2
def tA(cs:List cR)(x:kT cs):D:=one (rB cs x)
def bB(P:Program)(g:Nat)(s:bz):Prop:=∀a r,s.f a=some r->Pure P g (tn s.ins a) (tA s.out r)
def mb(P:Program)(S:wj):Prop:=∀p∈S,bB P p.1 p.2
def JK(S:wj):yY:=S.map λp=>(p.1,spec (tn p.2.ins) (tA p.2.out) p.2.f)
theorem cR.inj{c:cR}{a b:c.dn}(h:c.enc a=c.enc b):a=b:=by
 cases c with
 |c x=>grind [cR.enc,Kv,GK]
 |st i=>exact ST_inj (λ{a b}=>GK i a b) h
 |fp i=>simp only[cR.enc,D.c.injEq,C.cA.injEq,Qa] at h;grind [GK]
 |k g=>rfl
theorem Jk:∀{cs:List cR}{a b:rU cs},tn cs a=tn cs b->a=b:=by
 intro cs;induction cs with
 |nil=>simp_all
 |cons c cs ih=>grind [tn,cR.inj]
theorem wB{P:Program}{S:wj}(h:mb P S):qk P (JK S):=by intro p a ds r b;simp only[JK,jJ] at a;obtain ⟨q,d,rfl⟩:=a;exact Wd (h q d) ds r b
theorem Uu{g:Nat}{s:bz}:∀{S:wj},tsk g S=some s->YG g (JK S)=some (spec (tn s.ins) (tA s.out) s.f):=by
 intro S;induction S with
 |nil=>grind [tsk]
 |cons p S ih=>
  intro h;obtain ⟨q,b⟩:=p;simp only[tsk] at h;simp only[JK,oK,YG];split at h
  ·grind
  ·rename_i a
   try rw[a]
   exact ih h
theorem JX{i:Nat}{b:List TC}{a:TT i}(h:Ee i (.agg b)=some a):∃x,Et (Y.fl i) b=some x/\a=Y.Za i x:=by
 simp only[Ee] at h
 grind
theorem MJ{c:cR}{v:TV}{d:D}{a:c.dn}(h:qF c v=some a)(r:RT v d):Bi d=c.enc a/\d.low 0=true/\d.plain=true:=by
 cases c with
 |c x=>
  cases v with
  |c y=>
   simp only[qF,Gr] at h;obtain ⟨p,b⟩:=nZ h;rcases r with r | rfl
   ·simp_all
   ·obtain ⟨q,w⟩:∃q,y.er=.c q:=by
     cases F:y.er with
     |c q=>simp_all
     |_=>grind [vM]
    rw[w] at b ⊢;exact ⟨b,rfl,rfl⟩
  |agg f=>grind [qF,Gr]
  |aT f=>grind [qF,Gr]
 |st i=>
  cases v with
  |c y=>grind [qF,Ee]
  |agg f=>
   obtain ⟨x,p,rfl⟩:=JX h;obtain ⟨b,z⟩:=MV p;obtain ⟨ds,rfl,A⟩:=r;rw[A.eq b];have j:∀(l:List D)(m:List C),l.map vM=m.map .c->D.low.cF 0 l=true/\(l.all λd=>match d with | .fn ..=>false | _=>true)=true:=by
    intro l;induction l with
    |nil=>intro m _;exact ⟨rfl,rfl⟩
    |cons d l ih=>
     intro m s;cases m with
     |nil=>grind
     |cons c m=>
      simp only[oK,List.cons.injEq] at s;obtain ⟨t,u⟩:=ih m s.2;cases d with
      |c x=>grind [D.low.cF,D.low]
      |_=>grind [vM]
   obtain ⟨t,u⟩:=j _ _ z;refine ⟨?_,t,u⟩
   grind [Bi,cR.enc,tt,Ty.pm]
  |aT f=>grind [qF,Ee]
 |fp i=>
  simp only[qF] at h;unfold AO at h;split at h
  ·split at h
   ·rename_i e _;subst e;simp only[aw] at h;subst h;rcases r with r | rfl
    ·simp at r
    ·exact ⟨rfl,rfl,rfl⟩
   simp_all
  simp_all
 |k g=>
  simp only[qF] at h;unfold MP at h;split at h
  ·split at h
   ·rename_i E;have:=cY E;subst this;rcases r with r | rfl
    ·simp at r
    ·exact ⟨rfl,rfl,rfl⟩
   simp_all
  simp_all
inductive fo:List TV->List D->Prop where
 |nil:fo [] []
 |cons {v:TV} {d:D} {vs:List TV} {ds:List D} (h:RT v d) (r:fo vs ds):fo (v::vs) (d::ds)
theorem Xo:∀{cs:List cR}{vs:List TV}{ds:List D}{a:rU cs},zO cs vs=some a->fo vs ds->ds.map Bi=tn cs a/\(ds.all λd=>d.low 0&&d.plain)=true:=by
 intro cs;induction cs with
 |nil=>
  intro vs ds a h r;cases r with
  |nil=>exact ⟨rfl,rfl⟩
  |cons _ _=>grind [zO]
 |cons c cs ih=>
  intro vs ds a h r;cases r with
  |nil=>grind [zO]
  |cons b r=>
   simp only[zO] at h
   grind [MJ,tn]
theorem cR.Hy(c:cR)(a:c.dn):(c.enc a).low 0=true:=by
 cases c with
 |c x=>rfl
 |st i=>exact Sp _
 |fp i=>rfl
 |k g=>rfl
theorem RI:∀(cs:List cR)(x:kT cs),D.low.cF 0 (rB cs x)=true:=by
 intro cs;induction cs with
 |nil=>intro x;rfl
 |cons c cs ih=>
  intro x;cases cs with
  |nil=>grind [rB,D.low.cF,cR.Hy]
  |cons d cs=>simp only[rB,D.low.cF,cR.Hy,Bool.true_and];simp_all
theorem SV(cs:List cR)(x:kT cs):(tA cs x).low 0=true:=by
 have:=RI cs x;unfold tA one;split
 ·rename_i d h;rw[h] at this;simp only[D.low.cF,IM] at this;omega
 ·exact this
theorem ZE(c:cR)(a:c.dn):RE (c.te a) (c.enc a):=by
 cases c with
 |c x=>exact ⟨_,rfl,.inr (kU x a).symm⟩
 |st i=>exact ⟨_,rfl,Ns i a⟩
 |fp i=>exact ⟨_,rfl,.inr rfl⟩
 |k g=>exact ⟨_,rfl,.inr rfl⟩
theorem Wj:∀(cs:List cR)(x:kT cs),aH RE (JE cs x) (rB cs x):=by
 intro cs;induction cs with
 |nil=>intro x;exact .nil
 |cons c cs ih=>
  intro x;cases cs with
  |nil=>exact .cons (ZE c x) .nil
  |cons d cs=>exact .cons (ZE c x.1) (ih x.2)
theorem ON(cs:List cR)(x:kT cs):RT (YR cs x) (tA cs x):=by
 cases cs with
 |nil=>exact ⟨[],rfl,.nil⟩
 |cons c cs=>
  cases cs with
  |nil=>exact c.Tv x
  |cons d cs=>refine ⟨rB (c::d::cs) x,?_,Wj (c::d::cs) x⟩;cases cs <;> rfl
theorem OM{U:TH}(c:cR)(a:c.dn):∀x∈(c.te a).2,GC U x:=by
 cases c with
 |c x=>grind [cR.te,uO]
 |st i=>exact tu i a
 |fp i=>intro y b;simp only[cR.te,Kz] at b;subst b;trivial
 |k g=>intro y b;simp only[cR.te,Kz] at b;subst b;rfl
theorem QG{U:TH}:∀(cs:List cR)(x:kT cs),∀p∈JE cs x,∀y∈p.2,GC U y:=by
 intro cs;induction cs with
 |nil=>grind [JE]
 |cons c cs ih=>
  intro x p a;cases cs with
  |nil=>grind [JE,OM]
  |cons d cs=>grind [JE,OM]
theorem Ho{U:TH}(c:cR)(a:c.dn):GV U (c.tv a):=by
 cases c with
 |c x=>exact uO x a
 |st i=>exact tu i a
 |fp i=>trivial
 |k g=>rfl
theorem EK{U:TH}(cs:List cR)(x:kT cs):GV U (YR cs x):=by
 cases cs with
 |nil=>intro p a;grind [JE]
 |cons c cs=>
  cases cs with
  |nil=>exact Ho c x
  |cons d cs=>exact QG (c::d::cs) x
variable{P:Program}{orc:uE}{n:Nat}{alD:AL}{U U1:TH}{σD σD1:aq}{o:lg}{Q:TV->TH->Bool->List Nat->Prop}{rd:aP->Option TV}
theorem LQ{c:CC}{x:TC}{a:c.dn}(h:EC c x=some a):∃q,x.er=.c q:=by
 obtain ⟨_,b⟩:=nZ h;cases d:x.er with
 |c q=>simp_all
 |_=>grind [vM]
theorem US(H:RH U σD){x:TC}(g:GC U x){c:CC}{a:c.dn}(h:EC c (AW U x)=some a):∃q,fj σD 0 100 x.er=some q/\vM (.c q)=.c (qS enc c a):=by
 have other:AW U x=x->∃q,fj σD 0 100 x.er=some q/\vM (.c q)=.c (qS enc c a):=λe=>by rw[e] at h;obtain ⟨_,p⟩:=nZ h;obtain ⟨q,t⟩:=LQ h;rw[t] at p;exact ⟨q,by rw[t];rfl,p⟩
 cases x with
 |own i b v m=>
  have bad:∀{z:TC}{a:c.dn},z=.own i b v m->EC c z=some a->False:=λe h=>by grind [EC]
  cases d:U[b]? with
  |none=>simp only[AW,d] at h;simp_all
  |some blk=>
   cases blk with
   |row j l u y=>
    cases f:Nat.beq u v with
    |false=>simp only[AW,d,f] at h;simp_all
    |true=>simp only[AW,d,f] at h;have f:=cY f;obtain ⟨blk,s,p⟩:=g;rw[d] at s;simp only[aw] at s;obtain ⟨_,A⟩:=p j l u y s.symm;obtain ⟨rfl,rfl⟩:=A f.symm;refine ⟨_,C_ (k:=98) (uG j) (Y.ps j) (H.row d) rfl,?_⟩;obtain ⟨_,E⟩:=nZ h;rw[<-E];rfl
   |cells w F=>simp only[AW,d] at h;simp_all
   |mp j st l w=>simp only[AW,d] at h;simp_all
 |_=>exact other rfl
theorem Wn(H:RH U σD):∀{cs:List CC}{b:List TC}{a:aT cs},(∀x∈b,GC U x)->Et cs (b.map (AW U))=some a->∃d,(b.map TC.er).mapM (fj σD 0 100)=some d/\(d.map D.c).map vM=(lN enc cs a).map .c:=by
 intro cs;induction cs with
 |nil=>
  intro b a _ h;cases b with
  |nil=>exact ⟨[],rfl,rfl⟩
  |cons x b=>grind [Et]
 |cons c cs ih=>
  intro b a g h;cases b with
  |nil=>grind [Et]
  |cons x b=>
   simp only[oK,Et] at h;split at h
   ·rename_i j l e f;simp only[aw] at h;subst h;obtain ⟨q,m,p⟩:=US H (g x (pe ..)) e;obtain ⟨d,s,t⟩:=ih (λy i=>g y (pG _ i)) f;refine ⟨q::d,?_,?_⟩
    ·simp_all
    grind [lN]
   simp_all
theorem IE(U:TH):∀{cs:List CC}{b:List TC}{a:aT cs},Et cs (b.map (AW U))=some a->∀y∈b,y≠.any:=by intro cs b a h y d e;subst e;have:=(MV h).1 (AW U .any) (List.mem_map_of_mem d);exact this rfl
theorem Nm{i b v m:Nat}:(∃j l,AW U (.own i b v m)=.sl j l)∨AW U (.own i b v m)=.own i b v m:=by grind [AW]
theorem LH(H:RH U σD){c:cR}{v:TV}{d:D}{a:c.dn}(g:GV U v)(r:RT v d)(h:qF c (fi U v)=some a):∃p,mM σD 0 100 d=some p/\vP σD 0 100 d=some p/\Bi p=c.enc a:=by
 have same:fi U v=v->(∃q,d=.c q)->∃p,mM σD 0 100 d=some p/\vP σD 0 100 d=some p/\Bi p=c.enc a:=λe ⟨q,A⟩=>by rw[e] at h;subst A;exact ⟨_,rfl,rfl,(MJ h r).1⟩
 cases v with
 |c x=>
  cases c with
  |c cc=>
   simp only[fi,qF,Gr] at h;have E:x≠.any:=λe=>by subst e;exact (nZ h).1 rfl
   rcases r with r | rfl
   ·simp_all
   obtain ⟨q,t,u⟩:=US H g h;have s:mM σD 0 100 x.er=some (.c q):=by
    cases w:x.er with
    |agg F=>grind [fj]
    |_=>grind [mM]
   refine ⟨.c q,s,?_,u⟩;cases w:x.er with
   |aT F=>grind [fj]
   |_=>rw[w] at s;exact s
  |st i=>grind [fi,qF,Ee]
  |fp i=>
   cases x with
   |fp j b off=>
    rcases r with r | rfl
    ·simp at r
    exact same rfl ⟨_,rfl⟩
   |own i b v m=>exfalso;simp only[fi,qF] at h;rcases Nm (U:=U) (i:=i) (b:=b) (v:=v) (m:=m) with ⟨j,l,e⟩ | e <;> rw[e] at h <;> simp[AO] at h
   |_=>grind [fi,AW,qF,AO]
  |k f=>
   cases x with
   |d y=>
    rcases r with r | rfl
    ·simp at r
    refine same rfl ?_;simp only[fi,AW,qF,MP] at h
    grind
   |own i b v m=>exfalso;simp only[fi,qF] at h;rcases Nm (U:=U) (i:=i) (b:=b) (v:=v) (m:=m) with ⟨j,l,e⟩ | e <;> rw[e] at h <;> simp[MP] at h
   |_=>grind [fi,AW,qF,MP]
 |agg G=>
  cases c with
  |st i=>
   obtain ⟨y,t,rfl⟩:=JX h;obtain ⟨ds,rfl,K⟩:=r;rw[K.eq (IE U t)];obtain ⟨L,u,s⟩:=Wn H g t;have z:=YB (U:=σD) u;refine ⟨_,z,z,?_⟩
   grind [Bi,cR.enc,tt,Ty.pm]
  |c x=>grind [fi,qF,Gr]
  |fp i=>grind [fi,qF,AO]
  |k i=>grind [fi,qF,MP]
 |aT G=>grind [fi,qF,Ee,Gr,AO,MP]
theorem Xf(H:RH U σD):∀{cs:List cR}{vs:List TV}{ds:List D}{a:rU cs},(∀v∈vs,GV U v)->fo vs ds->zO cs (vs.map (fi U))=some a->∃b,ds.mapM (vP σD 0 100)=some b/\b.map Bi=tn cs a:=by
 intro cs;induction cs with
 |nil=>
  intro vs ds a _ r h;cases r with
  |nil=>exact ⟨[],rfl,rfl⟩
  |cons _ _=>grind [zO]
 |cons c cs ih=>
  intro vs ds a g r h;cases r with
  |nil=>grind [zO]
  |cons d r=>
   simp only[oK,zO] at h;split at h
   ·rename_i x y e f;simp only[aw] at h;subst h;obtain ⟨i,_,j,p⟩:=LH H (g _ (pe ..)) d e;obtain ⟨b,l,q⟩:=ih (λv m=>g v (pG _ m)) r f;exact ⟨i::b,ZS j l,by grind [tn]⟩
   simp_all
theorem QT{cs:List cR}(h:cs.all cR.gr=true)(x:kT cs):(tA cs x).ground=true:=by
 have cc:∀(c:CC)(a:c.dn),c.gr=true->(D.c (qS enc c a)).ground=true:=by intro c a h;cases c <;> first | rfl | grind [CC.gr]
 have b:∀(cs:List CC)(x:aT cs),cs.all CC.gr=true->D.ground.gX ((lN enc cs x).map .c)=true:=by
  intro cs;induction cs with
  |nil=>intro x _;rfl
  |cons c cs ih=>
   intro x h;simp only[List.all_cons,bJ] at h
   grind [lN,D.ground.gX]
 have e:∀(c:cR)(a:c.dn),c.gr=true->(c.enc a).ground=true:=by
  intro c a h;cases c with
  |c x=>exact cc x a h
  |st i=>simp only[cR.enc,D.ground,tt];exact b _ _ h
  |fp i=>grind [cR.gr]
  |k g=>grind [cR.gr]
 have f:∀(cs:List cR)(x:kT cs),cs.all cR.gr=true->D.ground.gX (rB cs x)=true:=by
  intro cs;induction cs with
  |nil=>intro x _;rfl
  |cons c cs ih=>
   intro x h;simp only[List.all_cons,bJ] at h;cases cs with
   |nil=>grind [rB,D.ground.gX]
   |cons d cs=>simp only[rB,D.ground.gX,e c x.1 h.1,Bool.true_and];simp_all
 have:=f cs x h;unfold tA one;split
 ·rename_i d h;rw[h] at this;simp only[D.ground.gX,IM] at this;omega
 ·exact this
theorem spc_ok{S:wj}{g:Nat}{s:bz}{vs:List TV}{ds:List D}{a:rU s.ins}{r:kT s.out}(hs:tsk g S=some s)(d:fo vs ds)(e:zO s.ins vs=some a)(f:s.f a=some r) :
  Gz (JK S) g ds σD=some (tA s.out r,σD,[]):=by
 obtain ⟨h,i⟩:=Xo e d;exact Gf (Uu hs) i h (NS (λa b=>Jk) f) (SV s.out r)
theorem WQ{v:TV}{d:D}(h:xu v=true)(r:RT v d):d.low 0=false:=by
 cases v with
 |c x=>
  cases x <;> simp[xu,NX] at h
  rcases r with r | rfl
  ·simp at r
  ·simp[TC.er,D.low]
 |agg f=>
  obtain ⟨ds,rfl,g⟩:=r;simp only[xu] at h;simp only[D.low];induction g with
  |nil=>simp at h
  |cons e _ ih=>
   rename_i a b l m _;simp only[List.any_cons,dW] at h;simp only[D.low.cF];rcases h with h | h
   ·cases a <;> simp[NX] at h
    rcases e with e | rfl
    ·grind
    ·simp[TC.er,D.low]
   simp_all
 |aT f=>grind [xu]
theorem RL{vs:List TV}{ds:List D}(r:fo vs ds)(h:vs.any xu=true):(ds.all λd=>d.low 0&&d.plain)=false:=by
 induction r with
 |nil=>simp at h
 |cons a _ ih=>
  simp only[List.any_cons,dW] at h;simp only[List.all_cons];rcases h with h | h
  ·grind [WQ]
  simp_all
theorem TZ{S:wj}(H:RH U σD){g:Nat}{s:bz}{vs:List TV}{ds:List D}{a:rU s.ins}{r:kT s.out}(hs:tsk g S=some s)(e:∀v∈vs,GV U v)(d:fo vs ds)(f:s.out.all cR.gr=true)(h:vs.any xu=true)
  (i:zO s.ins (vs.map (fi U))=some a) (j:s.f a=some r):Gz (JK S) g ds σD=some (tA s.out r,σD,[]):=by
 obtain ⟨l,m,p⟩:=Xf H e d i;exact HW (Uu hs) (RL d h) m p (NS (λa b=>Jk) j) (QT f r)
end
end Go.Abs
end
section
namespace Go.Abs
noncomputable section
variable[Gl][Y:Ty]
variable{P:Program}{orc:uE}{n:Nat}{alD:AL}{U U1:TH}{σD σD1:aq}{o:lg}{Q:TV->TH->Bool->List Nat->Prop}{rd:aP->Option TV}
theorem rt0:RT (.aT []) (.aT []):=⟨[],rfl,.nil⟩
theorem Du:∀{z:List D}{m:Nat},D.low.cF 0 z=true->∀d∈z,d.low m=true:=by
 intro z;induction z with
 |nil=>simp_all
 |cons x z ih=>
  intro m h d hd;simp only[D.low.cF,bJ] at h;rcases me.1 hd with rfl | hd
  ·exact D.dJ (OL _) h.1
  simp_all
theorem aH.ds:∀(z:List D),aH RC (z.map .d) z:=by
 intro z;induction z with
 |nil=>exact .nil
 |cons d z ih=>exact .cons (.inr rfl) ih
theorem Ha{z:List D}(h:D.low.cF 0 z=true):∀x∈z.map TC.d,GC U x:=by intro x a;rw[jJ] at a;obtain ⟨d,hd,rfl⟩:=a;exact Du h d hd
theorem ER{z:List D}(h:D.low.cF 0 z=true)(k:Nat):∀x∈(si k z).map TC.d,GC U x:=by intro x a;rw[jJ] at a;obtain ⟨d,hd,rfl⟩:=a;simp only[si,List.mem_flatten,List.mem_replicate] at hd;obtain ⟨l,⟨_,rfl⟩,hd⟩:=hd;exact Du h d hd
theorem Uj:∀{cs:List CC}{b:List TC}{a:aT cs},NJ b=true->Et cs b=some a->b.map TC.er=(lN enc cs a).map .c:=by
 intro cs;induction cs with
 |nil=>
  intro b a _ h;cases b with
  |nil=>rfl
  |cons x b=>grind [Et]
 |cons c cs ih=>
  intro b a d h;cases b with
  |nil=>grind [Et]
  |cons x b=>grind [Et,NJ,List.cons.injEq,Lg,lN]
theorem DH{i:Nat}{b:List TC}{a:TT i}(h:mkT i b=some a):b.map TC.er=(enc i a).map .c/\∀x∈b,x≠.any:=by grind [mkT,tt,Ty.pm,Uj,MV]
theorem Rz{i:Nat}:∀{k:Nat}{b:List TC}{l:List (TT i)}{ds:List D},EF i k b=some l->aH RC b ds->ds=(l.flatMap (enc i)).map .c/\l.length=k:=by
 intro k;induction k with
 |zero=>
  intro b l ds h r;cases b with
  |nil=>simp only[EF,aw] at h;subst h;cases r;simp_all
  |cons x b=>grind [EF]
 |succ k ih=>
  intro b l ds h r;simp only[EF] at h;split at h
  ·rename_i a g d e;simp only[aw] at h;subst h;obtain ⟨j,f⟩:=DH d;obtain ⟨m,p⟩:=ih e (r.drop (aA i));have q:=(r.take (aA i)).eq f
   grind [List.take_append_drop]
  simp_all
theorem Nw{v:TV}{d:D}{q:Int}(h:kl v=some q)(r:RT v d):d=I q:=by
 unfold kl at h;split at h
 ·simp only[aw] at h;subst h;rcases r with r | rfl
  ·simp at r
  ·rfl
 simp_all
theorem RT.c1{x:TC}{d:D}(i:x≠.any)(r:RT (.c x) d):d=x.er:=by
 rcases r with r | r
 ·simp_all
 omega
theorem GZ{k:IntKind}:∀{b:List TC}{l:List Int}{ds:List D},ints k b=some l->aH RC b ds->ds=l.map λz=>.c (.lit (.int k z)):=by
 intro b l ds h r;induction r generalizing l with
 |nil=>grind [ints]
 |cons d _ ih=>
  simp only[ints] at h;split at h
  ·rename_i a i e g;simp only[aw] at h;subst h;obtain ⟨j,_⟩:=nZ e;rw[ih g,oK];congr 1;rcases d with d | rfl
   ·simp_all
   ·rcases Lg e with f | f
    ·grind [EC]
    ·rw[f];rfl
  simp_all
theorem cV.c{x:aP}{y:TC}(i:cV U alD rd)(h:rd x=some (.c y))(s:y≠.any):lx alD x=some y.er/\GC U y:=by obtain ⟨d,u,z,j⟩:=i x _ h;exact ⟨by grind [RT.c1],j⟩
theorem cV.int{x:aP}{v:TV}{q:Int}(i:cV U alD rd)(h:rd x=some v)(j:kl v=some q):lx alD x=some (I q):=by
 obtain ⟨d,s,u,_⟩:=i x _ h
 grind [Nw]
theorem cV.all(j:cV U alD rd):∀{i:List aP}{vs:List TV},JI rd i=some vs->∃ds,Ri alD i=some ds/\fo vs ds/\∀v∈vs,GV U v:=by
 intro i;induction i with
 |nil=>intro vs h;simp only[JI,aw] at h;subst h;exact ⟨[],rfl,.nil,by simp⟩
 |cons x i ih=>
  intro vs h;simp only[JI] at h;split at h
  ·rename_i a b s u;simp only[aw] at h;subst h;obtain ⟨d,E,z,F⟩:=j x a s;obtain ⟨ds,G,A,K⟩:=ih u;refine ⟨d::ds,by grind [Ri],.cons z A,λv L=>?_⟩
   grind
  simp_all
theorem castL_len{i j:Nat}{l:List (TT j)}{m:List (TT i)}(h:gR l=some m):m.length=l.length:=by grind [OX]
theorem yD(H:RH U σD){b i j a d:Nat}{l:List (TT j)}{m:List (TT i)}(e:U[b]? = some (.row j l a d))(h:gR l=some m):U[b]? = some (.row i m a d):=by grind [OX]
theorem FQ(H:RH U σD){i:Nat}{v:TV}{d:D}{m:List (TT i)}(h:CY i U v=some m)(r:RT v d)(g:GV U v):Src σD (enc i) (aA i) d m:=by
 unfold CY at h;split at h
 ·rename_i j l;obtain ⟨rfl,rfl⟩:=OX h;rw[RT.c1 (by simp) r];exact Bo (uG j)
 ·simp only[aw] at h;subst h;rw[RT.c1 (by simp) r];exact Wa
 ·rename_i j b v q;split at h
  ·rename_i t l u w f;split at h
   ·rename_i a;have a:=cY a;obtain ⟨blk,e,p⟩:=g;rw[f] at e;simp only[aw] at e;obtain ⟨_,s⟩:=p _ _ _ _ e.symm;obtain ⟨rfl,rfl⟩:=s a.symm;obtain ⟨rfl,rfl⟩:=OX h;rw[RT.c1 (by simp) r];exact Nt (uG _) (H.row f) rfl
   simp_all
  simp_all
 simp_all
theorem XD(H:RH U σD){i:Nat}{v:TV}{d:D}{m:List (TT i)}(h:CY i U v=some m)(r:RT v d)(g:GV U v):Sw σD (enc i) (aA i) d m:=by
 unfold CY at h;split at h
 ·rename_i j l;obtain ⟨rfl,rfl⟩:=OX h;rw[RT.c1 (by simp) r];exact UE (uG j)
 ·simp only[aw] at h;subst h;rw[RT.c1 (by simp) r];exact Rw
 ·rename_i j b v q;split at h
  ·rename_i t l u w f;split at h
   ·rename_i a;have a:=cY a;obtain ⟨blk,e,p⟩:=g;rw[f] at e;simp only[aw] at e;obtain ⟨_,s⟩:=p _ _ _ _ e.symm;obtain ⟨rfl,rfl⟩:=s a.symm;obtain ⟨rfl,rfl⟩:=OX h;rw[RT.c1 (by simp) r];exact SZ (uG _) (H.row f) rfl
   simp_all
  simp_all
 simp_all
theorem os_row(H:RH U σD){i b v q lo len j a e:Nat}{l:List (TT j)}(g:GC U (.os i b v q lo len))(f:U[b]? = some (.row j l a e))(d:Nat.beq a v=true):j=i/\q=l.length/\lo+len<=q:=by
 have d:=cY d;obtain ⟨blk,h,m⟩:=g
 grind
theorem mZ(H:RH U σD){i b v q j a e:Nat}{l:List (TT j)}(g:GC U (.own i b v q))(f:U[b]? = some (.row j l a e))(d:Nat.beq a v=true):j=i/\q=l.length:=by
 have d:=cY d;obtain ⟨blk,h,m⟩:=g
 grind
theorem Tf(H:RH U σD){i b v q j f d off:Nat}{k:Int}{a:TT i}{l:List (TT j)}(g:GC U (.op i b v q k a off))(h:U[b]? = some (.row j l f d))(e:Nat.beq d v=true):∃m:List (TT i),gR l=some m/\q=m.length/\aL m k=some a:=by
 have e:=cY e;obtain ⟨blk,p,s⟩:=g
 simp_all
theorem Ky{m:Option Nat}{i:Nat}{a:TT i}{off:Nat}{v:TV}(h:zw m (exp i a) off=some v):∃d,xI m ((enc i a).map .c) off=some d/\RT v d/\GV U v:=by
 obtain ⟨d,b,e⟩:=yg h (Ns i a)
 grind [oS,tu]
variable{R:Type}{k:KO R}{r:R}
theorem Uy:∀{a:List Value}{l:List Int},JU a=some l->a=l.map λz=>.int .i64 z:=by
 intro a;induction a with
 |nil=>grind [JU]
 |cons x a ih=>
  intro l h;unfold JU at h
  grind
theorem Tl:∀{a:List C}{l:List Int},IR a=some l->a=l.map λz=>.lit (.int .i64 z):=by
 intro a;induction a with
 |nil=>grind [IR]
 |cons x a ih=>
  intro l h;unfold IR at h
  grind
theorem UQ{S:wj}{hint:Nat}{m:Option Nat}{x:aP}(G:cV U alD rd)(H:RH U σD)(h:gJ P S hint (.load m x) rd U k=some r):cN P orc n alD U σD (.load m x) (λv U1 rs wr=>k v U1 rs wr=some r):=by
 simp only[gJ] at h;split at h
 ·rename_i b off sz f;obtain ⟨s,_⟩:=G.c f (by simp);split at h
  ·rename_i w M t;obtain ⟨ds,u,A,K,_⟩:=H.cells t;split at h
   ·rename_i v hs E;obtain ⟨d,L,F⟩:=yg E A;refine cN.pure (Gy s (Y_ u (by simp_all)) L) F (oS E λy X=>?_) H h;rw[jJ] at X;obtain ⟨p,Z,rfl⟩:=X;exact (H.hg b w M t p Z).1
   simp_all
  simp_all
 ·rename_i i a off f;obtain ⟨s,_⟩:=G.c f (by simp);split at h
  ·rename_i v E;obtain ⟨d,u,A,K⟩:=Ky (U:=U) E;exact cN.pure (IC s u) A K H h
  simp_all
 ·rename_i i b v q z a off f;obtain ⟨s,g⟩:=G.c f (by simp);split at h
  ·rename_i j l lv cv t;split at h
   ·rename_i v' E N;obtain ⟨m',u,rfl,A⟩:=Tf H g t E;have O:=yD H t u;obtain ⟨d,K,L,F⟩:=Ky (U:=U) N;exact cN.pure (Rl (uG i) s rfl (H.row O) rfl (TW A) K) L F H h
   simp_all
  simp_all
 ·rename_i b off len sz i f;obtain ⟨s,g⟩:=G.c f (by simp);split at h
  ·rename_i w M t;obtain ⟨ds,u,A,K,_⟩:=H.cells t;split at h
   ·rename_i l hs T;simp only[bJ] at hs;obtain ⟨a,W,hk⟩:=zb h;have L:=GZ T ((A.drop off).take len);obtain ⟨a1,a2,a3⟩:=nj W;refine cN.one hk (Gy s (Y_ u (by simp_all)) (d:=I a) ?_) rfl rfl H;have F:((ds.drop off).take len)[i.toNat]? = some (I a):=by simp_all
    have h7:i.toNat<len:=by grind
    rw[yBq h7,xAi] at F;simp only[xI,Nat.mul_one];exact F
   simp_all
  simp_all
 ·rename_i M off f;obtain ⟨s,g⟩:=G.c f (by simp);split at h
  ·rename_i l T;obtain ⟨a,W,hk⟩:=zb h;obtain ⟨a1,a2,a3⟩:=nj W;have e:=Tl T;subst e;refine cN.one hk (IC s (d:=I a) ?_) rfl rfl H
   grind [xI]
  simp_all
 simp_all
theorem Pb{S:wj}{hint:Nat}{m:Nat}{x y:aP}(T:cV U alD rd)(H:RH U σD)(h:gJ P S hint (.store m x y) rd U k=some r):cN P orc n alD U σD (.store m x y) (λv U1 rs wr=>k v U1 rs wr=some r):=by
 simp only[gJ] at h;split at h
 ·rename_i b off sz v hx hv;obtain ⟨h1,_⟩:=T.c hx (by simp);obtain ⟨d,h2,h3,h4⟩:=T _ _ hv;split at h
  ·rename_i w E f L A;obtain ⟨ds,h5,h6,h7,ad⟩:=H.cells L;obtain ⟨h8,h9,af⟩:=uR A h3;split at h
   ·rename_i u;simp only[bJ] at u;have c1:=cY u.1;have c2:=cY u.2.1;have c3:=DM u.2.2;have F:(ru E off (f.map λx=>(w+1,x))).length=E.length:=by
     grind [ru]
    have s:BE (.cells w E) (.cells (w+1) (ru E off (f.map λx=>(w+1,x)))):=by
     refine ⟨w+1,_,rfl,by omega,F,λj v x v1 x1 W X=>?_⟩;by_cases hj:j<off
     ·grind [ru]
     ·by_cases ax:j<off+f.length
      ·right;simp only[ru] at X
       grind
      ·left;simp only[ru] at X
       grind
    have M:∀w' N,TB.cells (w+1) (ru E off (f.map λx=>(w+1,x)))=.cells w' N->∀p∈N,GC U p.2/\p.1<=w':=by
     intro w' N e p G;simp only[TB.cells.injEq] at e;obtain ⟨rfl,rfl⟩:=e;rcases JF G with G | G
     ·obtain ⟨q1,q2⟩:=H.hg b w E L p G
      grind
     ·rw[jJ] at G;obtain ⟨y,hy,rfl⟩:=G;exact ⟨tm A h4 y hy,cT _⟩
    have ak:RB (.cells (w+1) (ru E off (f.map λx=>(w+1,x)))) (.cells (put ds off (f.map TC.er))):=by unfold RB TB.er;rw[ad];simp[put,ru,Function.comp_def]
    refine ⟨_,_,_,_,.aT [],σD.set b (.cells (put ds off (f.map TC.er))),JQ h1 (Y_ h5 (by omega)) h2 h8 ⟨by simp_all,c3⟩ rfl,rt0,?_,H.set L s ak M,Ext.set L s,λ_=>?_,λe=>by grind [qI],h⟩
    ·intro p G;grind
    ·simp only[jZ,List.all_cons,List.all_nil,IM];rw[h5,Gu h5];simp only[Ob.sz,lm]
     grind [put]
   simp_all
  simp_all
 ·rename_i i b v q z a off xv hx hv;obtain ⟨h1,g⟩:=T.c hx (by simp);obtain ⟨d,h2,h3,h4⟩:=T _ _ hv;split at h
  ·rename_i j l lv cv f L A;obtain ⟨h8,h9,af⟩:=uR A h3;split at h
   ·rename_i Z l' u ha hl;simp only[bJ] at u;obtain ⟨m',W,rfl,X⟩:=Tf H g L u.1;rw[hl] at W;simp only[aw] at W;subst W;have t:=yD H L hl;have c2:=cY u.2.1;obtain ⟨e3,e4⟩:=DH ha;have K:(ru (exp i a) off f).map TC.er=((exp i a).map TC.er).take off++f.map TC.er++((exp i a).map TC.er).drop (off+f.length):=by
     simp[ru]
    rw[e3,zx] at K;obtain ⟨O,av⟩:∃O:List C,f.map TC.er=O.map .c:=by
     have c3:=DM u.2.2;refine ⟨((enc i Z).drop off).take f.length,?_⟩;rw[List.map_take,List.map_drop,K];have l1:(((enc i a).map D.c).take off).length=off:=by grind [uG]
     simp_all
    have F:O.length=f.length:=by have:=Ts List.length av;grind
    have he:enc i Z=(enc i a).take off++O++(enc i a).drop (off+O.length):=by
     apply IA
     simp_all
    have s:BE (.row i l' lv cv) (.row i (l'.set z.toNat Z) lv (cv+1)):=⟨_,_,_,rfl,cT _,by omega,λ_=>by simp,λe=>by omega⟩;refine ⟨_,_,_,_,.aT [],σD.set b (OB (enc i) (l'.set z.toNat Z)),QC (uG i) h1 rfl (H.row t) rfl (TW X) h2 (by simp_all) (by omega) u.2.2 he rfl rfl,rt0,?_,H.set t s rfl (λw E e=>by simp at e),Ext.set t s,λ_=>?_,λe=>by grind [qI],h⟩
    ·intro p G;grind
    ·simp only[jZ,List.all_cons,List.all_nil,IM];rw[H.row t,Gu (H.row t)];simp[Ob.sz,jr (uG i)]
   simp_all
  simp_all
 simp_all
end
end Go.Abs
end
section
namespace Go.Abs
noncomputable section
variable[Gl][Y:Ty]
variable{P:Program}{n:Nat}{alD:AL}{U U1:TH}{σD σD1:aq}{o:lg}{Q:TV->TH->Bool->List Nat->Prop}{rd:aP->Option TV}{S:wj}{hint:Nat}{R:Type}{k:KO R}{r:R}{orc:uE}
abbrev kC(P:Program)(orc:uE)(n:Nat)(alD:AL)(U:TH)(σD:aq)(o:lg)(k:KO R)(r:R):Prop:=cN P orc n alD U σD o (λv U1 rs wr=>k v U1 rs wr=some r)
theorem zn{cs:List TC}{ds:List D}(h:ds=cs.map TC.er):RB (.cells 0 (cs.map λc=>(0,c))) (.cells ds):=by grind [RB,TB.er,Function.comp_def]
theorem CH{cs:List TC}(g:∀x∈cs,GC U x):∀w a,TB.cells 0 (cs.map λc=>(0,c))=.cells w a->∀p∈a,GC U p.2/\p.1<=w:=by simp_all
theorem XH{x:aP}(e:cV U alD rd)(H:RH U σD)(h:gJ P S hint (.box x) rd U k=some r):kC P orc n alD U σD (.box x) k r:=by
 simp only[gJ] at h;split at h
 ·rename_i v f;obtain ⟨d,g,i,j⟩:=e _ _ f;split at h
  ·rename_i b a;obtain ⟨l,m,_⟩:=uR a i;refine cN.new (v:=.c (.d (.ptr U.length 0 b.length))) (d:=.ptr U.length 0 b.length) (ob:=.cells (b.map TC.er)) (op_box g l (by rw[H.len,A_]) rfl) (Or.inr rfl) ?_ H (zn rfl) (CH (tm a j)) h;show D.low _ _=true;simp[D.low]
  simp_all
 simp_all
theorem PD{z:List D}(H:RH U σD)(h:gJ P S hint (.alloc z) rd U k=some r):kC P orc n alD U σD (.alloc z) k r:=by
 simp only[gJ] at h;split at h
 ·rename_i a;have e:(z.map λc=>((0:Nat),TC.d c))=(z.map TC.d).map λc=>(0,c):=by simp
  rw[e] at h;refine cN.new (v:=.c (.d (.ptr U.length 0 z.length))) (d:=.ptr U.length 0 z.length) (ob:=.cells z) (SX (by rw[H.len]) rfl) (Or.inr rfl) ?_ H (zn (by simp[TC.er,Function.comp_def])) (CH (Ha a)) h;show D.low _ _=true;simp[D.low]
 simp_all
theorem Qu{z:List D}{b:List (Nat×Nat×aP)}(d:cV U alD rd)(H:RH U σD)(h:gJ P S hint (.build z b) rd U k=some r):kC P orc n alD U σD (.build z b) k r:=by
 simp only[gJ] at h;split at h
 ·rename_i e f a;obtain ⟨ds,g,i,j⟩:=De d a (aH.ds z) (Ha f);exact cN.pure (v:=.agg e) (RA g) ⟨ds,rfl,i⟩ j H h
 simp_all
theorem pg{i b m:Nat}{l:List (TT i)}(a:m=l.length):GC (U++[TB.row i l 0 0]) (.own i U.length 0 m):=by
 refine ⟨_,by rw[Pv (cT _),Nat.sub_self];rfl,λj d f g e=>?_⟩
 grind
theorem UA:∀{cs:List TC},Oh cs=true->∀y∈cs,y≠.any:=by
 intro cs;induction cs with
 |nil=>simp_all
 |cons x cs ih=>
  intro h y a;simp only[Oh,bJ,ic] at h
  grind [Zi]
theorem Me{es len:Nat}{z:List D}{q:List (Nat×Nat×aP)}(s:cV U alD rd)(H:RH U σD)(h:gJ P S hint (.iV es len z q) rd U k=some r):kC P orc n alD U σD (.iV es len z q) k r:=by
 simp only[gJ] at h;split at h
 ·split at h
  ·rename_i f g a;obtain ⟨ds,j,m,t⟩:=De s a (aH.ds (si len z)) (ER g len);split at h
   rotate_left
   ·simp at h
   rename_i p;have e:ds=f.map TC.er:=m.eq (UA p);refine cN.new (v:=.c (.d (.sl U.length 0 len es f.length))) (d:=.sl U.length 0 len es ds.length) (blk:=.cells 0 (f.map λc=>(0,c))) (ob:=.cells ds) (FD j (by rw[H.len]) rfl) (Or.inr ?_) ?_ H (zn e) (CH t) h
   ·rw[e,A_];rfl
   ·show D.low _ _=true;simp[D.low]
  simp_all
 split at h
 ·rename_i f g a;simp only[bJ] at g;have x:=cY g.1;subst x;split at h
  ·rename_i l i;obtain ⟨ds,j,m,t⟩:=De s a (aH.ds (si len z)) (ER g.2 len);obtain ⟨y,u⟩:=Rz i m;refine cN.new (v:=.c (.own hint U.length 0 len)) (d:=OS (aA hint) U.length len) (ob:=OB (enc hint) l) (jc j y u (uG hint) rfl (by rw[H.len]) rfl) (Or.inr rfl) (pg (b:=0) u.symm) H rfl (λw f e=>by simp at e) h
  simp_all
 simp_all
theorem Px{x:aP}(d:cV U alD rd)(H:RH U σD)(h:gJ P S hint (.lD x) rd U k=some r):kC P orc n alD U σD (.lD x) k r:=by
 simp only[gJ] at h;split at h
 ·rename_i a;obtain ⟨b,g⟩:=d.c a (by simp);exact cN.one h (Iz b) rfl g H
 ·rename_i a;obtain ⟨b,g⟩:=d.c a (by simp);exact cN.one h (PE b) rfl g H
 ·rename_i a;obtain ⟨b,g⟩:=d.c a (by simp);exact cN.one h (Fx b) rfl g H
 ·rename_i a;obtain ⟨b,g⟩:=d.c a (by simp);exact cN.one h (QF b) rfl g H
 ·rename_i a;obtain ⟨b,g⟩:=d.c a (by simp);exact cN.one h (Iz b) rfl g H
 ·rename_i a;obtain ⟨b,g⟩:=d.c a (by simp);exact cN.one h (Fx b) rfl g H
 simp_all
theorem PM{i:Nat}{neg:Bool}{x:aP}(e:cV U alD rd)(H:RH U σD)(h:gJ P S hint (.iy i neg x) rd U k=some r):kC P orc n alD U σD (.iy i neg x) k r:=by
 simp only[gJ] at h;split at h
 ·rename_i y d;obtain ⟨a,g⟩:=e.c d (by simp);split at h
  ·rename_i f;exact cN.one h (eG a f) (by cases neg <;> rfl) rfl H
  ·rename_i f;exact cN.one h (eG a f) (by cases neg <;> rfl) rfl H
  simp_all
 ·rename_i d;obtain ⟨a,g⟩:=e.c d (by simp);split at h
  ·exact cN.one h (eG (b:=false) a rfl) (by cases neg <;> rfl) rfl H
  simp_all
 ·rename_i d;obtain ⟨a,g⟩:=e.c d (by simp);split at h
  ·exact cN.one h (eG (b:=false) a rfl) (by cases neg <;> rfl) rfl H
  simp_all
 simp_all
theorem WN{off:Nat}{x:aP}(d:cV U alD rd)(H:RH U σD)(h:gJ P S hint (.HE off x) rd U k=some r):kC P orc n alD U σD (.HE off x) k r:=by
 simp only[gJ] at h;split at h
 ·rename_i a;obtain ⟨b,g⟩:=d.c a (by simp);exact cN.one h (SE b) rfl g H
 ·rename_i a;obtain ⟨b,g⟩:=d.c a (by simp);exact cN.one h (VX b) rfl True.intro H
 ·rename_i a;obtain ⟨b,g⟩:=d.c a (by simp);exact cN.one h (SE b) (by grind [TC.er]) g H
 simp_all
theorem Yt{len j es b off sz:Nat}{x i:aP}{q:Int}(h:lx alD x=some (.ptr b off sz))(a:lx alD i=some (I q))(hk:Af q len=some j):dQ P orc n alD σD (.idx es (some len) x i) (.ptr b (off+j * es) sz) σD []:=λe d=>by grind [bg,sc,dY]
theorem XA{i b v q:Nat}{k:Int}{a:TT i}{l:List (TT i)}{f d:Nat}(g:U[b]? = some (.row i l f d))(h:aL l k=some a):GC U (.op i b d l.length k a 0):=by
 refine ⟨_,g,λj t m p e=>?_⟩;simp only[TB.row.injEq] at e;obtain ⟨rfl,s,rfl,rfl⟩:=e;cases s;refine ⟨cT _,λ_=>⟨l,?_,rfl,h⟩⟩;unfold gR;split
 ·rfl
 omega
theorem Xr{g len es:Nat}{x i:aP}{q z a:Int}{l:List Int}(h:lx alD x=some (.c (.Rb g)))(d:lx alD i=some (I q))(b:aL (z::l) q=some a)(f:Gl.Zs g=(z::l).map λz=>.int .i64 z)(j:(z::l).length=len) :
  dQ P orc n alD σD (.idx es (some len) x i) (.c (.cA ((Gl.Zs g).map .lit) (q.toNat * es))) σD []:=λe m=>by
 obtain ⟨p,s,t⟩:=nj b;have u:Af q len=some q.toNat:=by unfold Af;simp_all
 grind [bg,sc,dY]
theorem Wz{es:Nat}{len:Option Nat}{x i:aP}(s:cV U alD rd)(H:RH U σD)(h:gJ P S hint (.idx es len x i) rd U k=some r):kC P orc n alD U σD (.idx es len x i) k r:=by
 cases len with
 |none=>
  simp only[gJ] at h;split at h
  ·rename_i j l M u y;obtain ⟨A,g⟩:=s.c u (by simp);split at h
   ·rename_i q p f;have f:=cY f;subst f;obtain ⟨a,F,hk⟩:=zb h;exact cN.one hk (op_idx A (s.int y p) F (uG j a)) rfl True.intro H
   simp_all
  ·rename_i j b v m M u y;obtain ⟨A,g⟩:=s.c u (by simp);split at h
   ·rename_i q j' l lv cv p f E;have f:=cY f;subst f;split at h
    ·rename_i l' X K;obtain ⟨a,F,hk⟩:=zb h;obtain ⟨rfl,rfl⟩:=mZ H g E X;have G:=yD H E K;rw[E] at G;simp only[aw,TB.row.injEq,heq_eq_eq,true_and,Qa] at G;subst G;exact cN.one hk (Mu (uG _) A (H.row E) rfl (s.int y p) F) rfl (XA (v:=0) (q:=0) E F) H
    simp_all
   simp_all
  ·rename_i b off ln Z sz M u y;obtain ⟨A,g⟩:=s.c u (by simp);split at h
   ·rename_i q w cs p E;obtain ⟨ds,T,W,h4,_⟩:=H.cells E;split at h
    ·rename_i j N O;simp only[bJ] at N;have e1:=cY N.1;have e2:=cY N.2;subst e2;exact cN.one h (WZ (cs:=ds) A (s.int y p) (Y_ T (by omega)) O rfl) rfl g H
    simp_all
   simp_all
  simp_all
 |some len=>
  cases i with
  |k i=>
   simp only[gJ] at h;split at h
   ·rename_i b off sz q u p;obtain ⟨A,g⟩:=s.c u (by simp);split at h
    ·rename_i j O;have y:lx alD (.k i)=some (I q):=by
      have:=Nw (d:=i) p (by
       unfold FE at p ⊢;split at p
       ·grind [kl]
       ·exact Or.inr rfl)
      grind [lx]
     exact cN.one h (Yt A y O) rfl g H
    simp_all
   simp_all
  |t i=>
   simp only[gJ] at h;split at h
   ·rename_i b off sz M u y;obtain ⟨A,g⟩:=s.c u (by simp);split at h
    ·rename_i q w cs p f E;have f:=cY f;subst f;obtain ⟨ds,T,W,h4,_⟩:=H.cells E;split at h
     ·rename_i l hs K;simp only[bJ] at hs;obtain ⟨a,F,hk⟩:=zb h;have h5:=GZ K ((W.drop off).take len);have e:l.length=len:=by
       have:=Ts List.length h5;have q1:=cY hs.1;have q2:=DM hs.2
       grind
      have L:b<U.length:=(jy.1 E).1;exact cN.one hk (YT A (s.int y p) F e rfl) rfl L H
     simp_all
    simp_all
   ·rename_i g M u y;obtain ⟨A,_⟩:=s.c u (by simp);split at h
    ·rename_i q z l p f K;have f:=cY f;subst f;split at h
     ·rename_i e;have e:=cY e;obtain ⟨a,F,hk⟩:=zb h;exact cN.one hk (Xr A (s.int y p) F (Uy K) e) rfl rfl H
     simp_all
    simp_all
   simp_all
theorem Wh{α:Type}{f:α->List C}{aA:Nat}{x:aP}{lo p:Option aP}{b:Nat}{l r:List α}{i j:Int}(y:∀a,(f a).length=aA)(h:lx alD x=some (OS aA b l.length))(t:σD[b]? = some (OB f l))(d:(match lo with | none=>some (I 0) | some o=>lx alD o)=some (I i))
  (g:(match p with | none=>some (I l.length) | some o=>lx alD o)=some (I j)) (q:slice? l i j=some r):dQ P orc n alD σD (.Rh aA x lo p) (.sl b (0+i.toNat * aA) (j.toNat-i.toNat) aA (l.length * aA)) σD []:=λe s=>by
 unfold slice? at q;split at q
 ·rename_i u;have m:nl σD b (l.length * aA)=some ((l.flatMap f).map .c):=Y_ t (by
   rw[A_];clear t h d g q u;induction l with
   |nil=>simp
   |cons a l ih=>grind)
  have v:m_ e l.length l.length p=some j.toNat:=by
   cases p with
   |none=>simp only[aw,I,D.c.injEq,C.lit.injEq,Value.int.injEq,true_and] at g;grind [m_]
   |some o=>
    simp only at g;simp only[m_,dY s g,sc,Option.bind_some,Od]
    grind
  have w:m_ e 0 j.toNat lo=some i.toNat:=by
   cases lo with
   |none=>simp only[aw,I,D.c.injEq,C.lit.injEq,Value.int.injEq,true_and] at d;grind [m_]
   |some o=>
    simp only at d;simp only[m_,dY s d,sc,Option.bind_some,Od]
    grind
  simp only[bg,dY s h,m,v,w,Option.bind_eq_bind,Option.bind_some,if_true,Option.orElse]
 simp_all
theorem VW{es:Nat}{x:aP}{lo t:Option aP}(p:cV U alD rd)(H:RH U σD)(h:gJ P S hint (.Rh es x lo t) rd U k=some r):kC P orc n alD U σD (.Rh es x lo t) k r:=by
 simp only[gJ] at h;split at h
 ·rename_i j l z;obtain ⟨A,g⟩:=p.c z (by simp);split at h
  ·rename_i u v d E F;have d:=cY d;subst d;split at h
   ·rename_i q w f m;obtain ⟨a,y,hk⟩:=zb h;refine cN.one hk (op_slc (i:=q) (j:=w) (uG j) A ?_ ?_ y) rfl True.intro H
    ·cases lo with
     |none=>grind [kl]
     |some o=>exact p.int E f
    ·cases t with
     |none=>grind [kl]
     |some o=>exact p.int F m
   simp_all
  simp_all
 ·rename_i j b N n z;obtain ⟨A,g⟩:=p.c z (by simp);split at h
  ·rename_i M l X Z d G;have d:=cY d;subst d;split at h
   ·rename_i u v s E F;obtain ⟨rfl,rfl⟩:=mZ H g G s;split at h
    ·rename_i q w f m;obtain ⟨a,y,hk⟩:=zb h;have K:=H.row G;refine ⟨.c (.os M b N l.length q.toNat (w.toNat-q.toNat)),U,false,[],_,σD,Wh (l:=l) (i:=q) (j:=w) (uG M) A K ?_ ?_ y,.inr rfl,?_,H,Ext.refl U,λ_=>rfl,λ_=>⟨rfl,rfl,rfl⟩,hk⟩
     ·cases lo with
      |none=>grind [kl]
      |some o=>exact p.int E f
     ·cases t with
      |none=>grind [kl]
      |some o=>exact p.int F m
     ·refine ⟨_,G,λj l' O T e=>?_⟩;simp only[TB.row.injEq] at e;obtain ⟨rfl,L,rfl,rfl⟩:=e;cases L;have W:=cY s;unfold slice? at y
      grind
    simp_all
   simp_all
  simp_all
 simp_all
theorem Pg(H:RH U σD)(h:gJ P S hint .sx rd U k=some r):kC P orc n alD U σD .sx k r:=by simp only[gJ] at h;exact cN.new (v:=.c (.d (.mp U.length))) (d:=.mp U.length) (blk:=.mp (hint / 2) (Nat.beq (hint % 2) 1) [] 0) (ob:=MB (Jx (hint / 2) (Nat.beq (hint % 2) 1)) []) (UF (g:=Jx (hint / 2) (Nat.beq (hint % 2) 1)) (by rw[H.len]) rfl) (Or.inr rfl) (by show D.low _ _=true;simp[D.low]) H rfl (λw a e=>by simp at e) h
theorem Su(j:Nat)(a:TT j):((exp j a).headD (.d (.c (.lit undef)))).er=.c ((enc j a).headD (.lit undef)):=by
 have h:=zx j a;cases b:exp j a with
 |nil=>
  rw[b] at h;cases d:enc j a with
  |nil=>rfl
  |cons c e=>simp_all
 |cons x f=>
  rw[b] at h;cases d:enc j a with
  |nil=>simp_all
  |cons c e=>simp_all
theorem mpV_ok(j:Nat)(st:Bool)(a:TT j):RT (mpV j st a) (Jx j st a)/\GV U (mpV j st a):=by
 cases st with
 |true=>exact ⟨⟨_,rfl,by rw[<-zx];exact aH.er _⟩,tu j a⟩
 |false=>
  refine ⟨.inr ?_,?_⟩
  ·rw[Su];rfl
  ·show GC U ((exp j a).headD (.d (.c (.lit undef))));cases e:exp j a with
   |nil=>rfl
   |cons x b=>grind [tu]
theorem Kp{ok e:Bool}{v:TV}{d:D}(h:RT v d)(g:GV U v)(i:∀f,v≠.aT f):RT (IV ok v e) (if ok then .aT [d,B e] else d)/\GV U (IV ok v e):=by
 cases ok with
 |false=>exact ⟨h,g⟩
 |true=>
  cases v with
  |aT f=>simp_all
  |c x => exact ⟨⟨_, rfl, .cons ⟨x, rfl, h⟩ (.cons ⟨_, rfl, .inr rfl⟩ .nil)⟩, λp a y b => by
    rcases me.1 a with rfl | a
    ·rcases me.1 b with rfl | b
     ·exact g
     simp_all
    ·rcases me.1 a with rfl | a
     ·rcases me.1 b with rfl | b
      ·rfl
      simp_all
     simp_all⟩
  |agg f=>exact ⟨⟨_,rfl,.cons h (.cons ⟨_,rfl,.inr rfl⟩ .nil)⟩,λp a y b=>by
    rcases me.1 a with rfl | a
    ·exact g y b
    ·rcases me.1 a with rfl | a
     ·rcases me.1 b with rfl | b
      ·rfl
      simp_all
     simp_all⟩
theorem mpV_nt(j:Nat)(st:Bool)(a:TT j):∀b,mpV j st a≠.aT b:=by intro b h;cases st <;> simp[mpV] at h
theorem ofD_nt(d:D):∀a,FE d≠.aT a:=by intro a h;cases d <;> simp[FE] at h
theorem Xi{d:D}(h:d.low 0=true):RT (FE d) d/\GV U (FE d):=by
 have one:∀d:D,d.low 0=true->RT (.c (.d d)) d/\GV U (.c (.d d)):=λd h=>⟨.inr rfl,D.dJ (OL _) h⟩;cases d with
 |agg ds=>simp only[D.low] at h;refine ⟨⟨ds,rfl,aH.ds ds⟩,λx a=>?_⟩;rw[jJ] at a;obtain ⟨y,b,rfl⟩:=a;exact Du h y b
 |_=>exact one _ h
theorem RW{R:Type}{r:R}:∀{a:List Nat}{n:Nat}{f:Nat->Option R},JV a n f=some r->f n=some r:=by
 intro a;induction a with
 |nil=>intro n f h;simp[JV] at h
 |cons g a ih=>
  intro n f h;simp only[JV] at h;cases e:Nat.beq n g with
  |true=>rw[e] at h;rw[cY e];exact h
  |false=>rw[e] at h;exact ih h
theorem VU{R:Type}{r:R}:∀{cs:List CC}{x:aT cs}{k:List TC->Option R},YK cs x k=some r->k (zh cs x)=some r:=by
 intro cs;induction cs with
 |nil=>intro x k h;exact h
 |cons c cs ih=>
  intro x k h;cases c with
  |fk a=>exact ih (RW h)
  |_=>exact ih h
theorem lkS_ok{R:Type}{r:R}{hint j:Nat}{st:Bool}{a:TT j}{k:TV->Option R}(h:lkS hint j st a k=some r):k (mpV j st a)=some r:=by
 unfold lkS at h;split at h
 ·exact VU h
 ·exact h
theorem Nf{kind:TypeDesc}{zero:D}{m u:aP}{ok:Bool}(f:cV U alD rd)(H:RH U σD)(h:gJ P S hint (.lookup kind zero m u ok) rd U k=some r):kC P orc n alD U σD (.lookup kind zero m u ok) k r:=by
 simp only[gJ] at h;split at h
 ·rename_i K b L A hk E;obtain ⟨w,g⟩:=f.c A (by simp);split at h
  ·rename_i j st l v x F y;obtain ⟨G,z,i⟩:=H.hp b _ F;have i:G=MB (Jx j st) l:=i;subst i;cases d:bT l x with
   |none=>rw[d] at h;obtain ⟨p,q⟩:=Xi (U:=U) E;obtain ⟨s,t⟩:=Kp (ok:=ok) (e:=false) p q (ofD_nt zero);exact cN.pure (Sr w z (f.int hk y) d rfl) s t H h
   |some a=>rw[d] at h;obtain ⟨p,q⟩:=mpV_ok (U:=U) j st a;obtain ⟨s,t⟩:=Kp (ok:=ok) (e:=true) p q (mpV_nt j st a);exact cN.pure (Wr w z (f.int hk y) d rfl) s t H (lkS_ok (k:=λv=>k (IV ok v true) U false []) h)
  ·simp at h
 ·simp at h
theorem mkM_ok{j:Nat}{st:Bool}{v:TV}{d:D}{a:TT j}(h:mkM j st v=some a)(r:RT v d):d=Jx j st a:=by
 unfold mkM at h;split at h
 ·rename_i g;obtain ⟨ds,rfl,hd⟩:=r;obtain ⟨f,b⟩:=DH h;rw[hd.eq b,f];rfl
 ·rename_i x;obtain ⟨f,b⟩:=DH h;have:=RT.c1 (b x (pe ..)) r;subst this;cases e:enc j a with
  |nil=>simp_all
  |cons c i=>grind [Jx]
 simp_all
theorem Ym{kind:TypeDesc}{m y x:aP}(q:cV U alD rd)(H:RH U σD)(h:gJ P S hint (.vD kind m y x) rd U k=some r):kC P orc n alD U σD (.vD kind m y x) k r:=by
 simp only[gJ] at h;split at h
 ·rename_i N b O v z hk A;obtain ⟨E,g⟩:=q.c z (by simp);obtain ⟨d,F,G,T⟩:=q _ _ A;split at h
  ·rename_i j st l QH i s K;obtain ⟨L,t,u⟩:=H.hp b _ s;have u:L=MB (Jx j st) l:=u;subst u;split at h
   ·rename_i a M;have:=mkM_ok M G;subst this;have f:BE (.mp j st l QH) (.mp j st (dy l i a) (QH+1)):=⟨_,_,_,_,rfl,by omega,λe=>by omega⟩;refine ⟨_,_,_,_,.aT [],σD.set b (MB (Jx j st) (dy l i a)),op_upd E t (q.int hk K) F rfl,rt0,?_,H.set s f rfl (λw W e=>by simp at e),Ext.set s f,λ_=>?_,λe=>by grind [qI],h⟩
    ·intro p X;grind
    ·simp only[jZ,List.all_cons,List.all_nil,IM];rw[t,Gu t];rfl
   simp_all
  simp_all
 simp_all
theorem XE{kind:TypeDesc}{m s:aP}(t:cV U alD rd)(H:RH U σD)(h:gJ P S hint (.del kind m s) rd U k=some r):kC P orc n alD U σD (.del kind m s) k r:=by
 simp only[gJ] at h;split at h
 ·rename_i z b A u hk;obtain ⟨v,g⟩:=t.c u (by simp);split at h
  ·rename_i j st l QH i d x;obtain ⟨y,f,q⟩:=H.hp b _ d;have q:y=MB (Jx j st) l:=q;subst q;have a:BE (.mp j st l QH) (.mp j st (tT l i) (QH+1)):=⟨_,_,_,_,rfl,by omega,λe=>by omega⟩;refine ⟨_,_,_,_,.aT [],σD.set b (MB (Jx j st) (tT l i)),op_del v f (t.int hk x) rfl,rt0,?_,H.set d a rfl (λw E e=>by simp at e),Ext.set d a,λ_=>?_,λe=>by grind [qI],h⟩
   ·intro p F;grind
   ·simp only[jZ,List.all_cons,List.all_nil,IM];rw[f,Gu f];rfl
  simp_all
 simp_all
theorem XQ{x:aP}(e:cV U alD rd)(H:RH U σD)(h:gJ P S hint (.len x) rd U k=some r):kC P orc n alD U σD (.len x) k r:=by
 simp only[gJ] at h;split at h
 ·rename_i i l a;obtain ⟨d,g⟩:=e.c a (by simp);exact cN.one h (op_len d) rfl rfl H
 ·rename_i a;obtain ⟨d,g⟩:=e.c a (by simp);exact cN.one h (WB d) rfl rfl H
 ·rename_i i b v q a;obtain ⟨d,g⟩:=e.c a (by simp);split at h
  ·rename_i j l t u f;split at h
   ·rename_i m;obtain ⟨rfl,rfl⟩:=mZ H g f m;exact cN.one h (MT (uG _) d (H.row f) rfl) rfl rfl H
   simp_all
  simp_all
 ·rename_i b off y z sz a;obtain ⟨d,g⟩:=e.c a (by simp);split at h
  ·rename_i w cs f;obtain ⟨ds,p,A,E,_⟩:=H.cells f;split at h
   ·rename_i s;have F:=cY s;exact cN.one h (XW (cs:=ds) d (Y_ p (by omega)) rfl) rfl rfl H
   simp_all
  simp_all
 simp_all
theorem tmk_ok{es a:Nat}{z:List D}{x y:aP}(i:cV U alD rd)(H:RH U σD)(h:gJ P S hint (.mk es a z x y) rd U k=some r):kC P orc n alD U σD (.mk es a z x y) k r:=by
 simp only[gJ] at h;split at h
 ·rename_i E u v f A j m;simp only[bJ] at f;have p:=cY f.1;subst p;split at h
  ·rename_i L F q g;obtain ⟨l,s,hk⟩:=zb h;obtain ⟨G,_⟩:=DH A;have t:z=(enc hint E).map .c:=by rw[<-G];simp[TC.er,Function.comp_def]
   refine cN.new (v:=.c (.own hint U.length 0 l.length)) (d:=OS (aA hint) U.length l.length) (ob:=OB (enc hint) l) (op_mk (i.int j q) (i.int m g) t s f.2.1 (by rw[H.len]) rfl) (Or.inr rfl) (pg (b:=0) rfl) H rfl (λw K e=>by simp at e) hk
  simp_all
 ·rename_i v f A j m;simp only[bJ] at f;have p:=cY f.1;subst p;split at h
  ·rename_i F g;obtain ⟨l,s,hk⟩:=zb h;refine cN.new (v:=.c (.own hint U.length 0 l.length)) (d:=OS (aA hint) U.length l.length) (ob:=OB (enc hint) l) (op_mk0 (i.int j rfl) (i.int m g) s f.2.1 (by rw[H.len]) rfl) (Or.inr rfl) (pg (b:=0) rfl) H rfl (λw K e=>by simp at e) hk
  simp_all
 simp_all
theorem WJ{es p:Nat}{s x:aP}(z:cV U alD rd)(H:RH U σD)(h:gJ P S hint (.append es p s x) rd U k=some r):kC P orc n alD U σD (.append es p s x) k r:=by
 simp only[gJ] at h;split at h
 ·rename_i i b v q y hs A;obtain ⟨E,g⟩:=z.c hs (by simp);obtain ⟨d,F,G,K⟩:=z _ _ A;split at h
  ·rename_i j l X cv t;split at h
   ·rename_i l' m f hl L;simp only[bJ] at f;have M:=cY f.2.1;subst M;obtain ⟨rfl,rfl⟩:=mZ H g t f.1;have u:=yD H t hl;rw[t] at u;simp only[aw,TB.row.injEq,heq_eq_eq,true_and,Qa] at u;subst u;obtain ⟨W,Z,hk⟩:=zb h;have N:BE (.row j l X cv) (.row j W (X+1) (cv+1)):=⟨_,_,_,rfl,by omega,by omega,λe=>by omega,λe=>by omega⟩;refine ⟨.c (.own j b (X+1) W.length),_,true,[b],OS (aA j) b W.length,_,uA (uG j) E (H.row t) rfl F (FQ H L G K) Z f.2.2 rfl rfl,Or.inr rfl,?_,H.set t N rfl (λw cs e=>by simp at e),Ext.set t N,λe=>by simp at e,λe=>by grind [qI],hk⟩;refine ⟨_,Gu t,λj' l' ad af e=>?_⟩
    grind
   simp_all
  simp_all
 ·rename_i i b v q hs A;obtain ⟨E,_⟩:=z.c hs (by simp);obtain ⟨d,F,G,K⟩:=z _ _ A;split at h
  ·rename_i a l f L;simp only[bJ] at f;have M:=cY f.1;subst M;split at h
   ·rename_i O;exact cN.new (v:=.c (.own i U.length 0 (a::l).length)) (d:=OS (aA i) U.length (a::l).length) (ob:=OB (enc i) (a::l)) (Cf E F (FQ H L G K) O f.2 (by rw[H.len]) rfl) (Or.inr rfl) (pg (b:=0) rfl) H rfl (λw cs e=>by simp at e) h
   simp_all
  simp_all
 ·rename_i i T hs A;obtain ⟨E,_⟩:=z.c hs (by simp);obtain ⟨d,F,G,K⟩:=z _ _ A;split at h
  ·rename_i f;simp only[bJ] at f;have M:=cY f.1;subst M;rw[cr] at h;obtain ⟨W,Z,h⟩:=h;obtain ⟨O,e⟩:=su Z;rw[e] at h;have L:CY i U (.c (.sl i T))=some ([]++T):=by
    simp only[CY,gR,List.nil_append];split
    ·rfl
    omega
   exact cN.new (v:=.c (.own i U.length 0 ([]++T).length)) (d:=OS (aA i) U.length ([]++T).length) (ob:=OB (enc i) ([]++T)) (Cf E F (FQ H L G K) (Nat.ble_eq.mpr (by simp_all)) f.2 (by rw[H.len]) rfl) (Or.inr rfl) (pg (b:=0) rfl) H rfl (λw cs e=>by simp at e) h
  simp_all
 simp_all
theorem EU{es:Nat}{d s:aP}{y:TV}{i b lo len:Nat}{l:List (TT i)}{m:List (TT i)}{j p:Nat}(q:cV U alD rd)(H:RH U σD)(t:lx alD d=some (.sl b (0+lo * aA i) len (aA i) (l.length * aA i)))(u:rd s=some y)(v:CY i U y=some m)
  (a:U[b]? = some (.row i l j p)) (f:lo+len<=l.length) (x:es=aA i) (h:k (.c (.d (I ((m.take len).length:Int)))) (U.set b (.row i (By l m lo len) j (p+1))) false [b]=some r):kC P orc n alD U σD (.copy es d s) k r:=by
 subst x;obtain ⟨F,z,A,E⟩:=q _ _ u;have g:BE (.row i l j p) (.row i (By l m lo len) j (p+1)):=⟨_,_,_,rfl,cT _,by omega,λ_=>Nz f,λe=>by omega⟩;refine ⟨.c (.d (I ((m.take len).length:Int))),_,false,[b],_,_,Yh (uG i) t (H.row a) f z (XD H v A E) rfl,.inr rfl,rfl,H.set a g rfl (λw G e=>by simp at e),Ext.set a g,λ_=>?_,λe=>by grind [qI],h⟩;simp only[jZ,List.all_cons,List.all_nil,IM];rw[H.row a,Gu (H.row a)]
 grind [Ob.sz,jr,uG,Nz]
theorem TL{es:Nat}{d s:aP}(f:cV U alD rd)(H:RH U σD)(h:gJ P S hint (.copy es d s) rd U k=some r):kC P orc n alD U σD (.copy es d s) k r:=by
 simp only[gJ] at h;split at h
 ·rename_i i b v q y hd p;obtain ⟨t,g⟩:=f.c hd (by simp);split at h
  ·rename_i j l A E e;split at h
   ·rename_i z m a u w;simp only[bJ] at a;obtain ⟨rfl,rfl⟩:=mZ H g e a.1;obtain ⟨_,rfl⟩:=OX u;exact EU (lo:=0) (len:=z.length) f H (by simpa[TC.er,OS] using t) p w e (by omega) (cY a.2) h
   simp_all
  simp_all
 ·rename_i i b v q lo len y hd p;obtain ⟨t,g⟩:=f.c hd (by simp);split at h
  ·rename_i j l A E e;split at h
   ·rename_i z m a u w;simp only[bJ] at a;obtain ⟨rfl,rfl,x⟩:=os_row H g e a.1;obtain ⟨_,rfl⟩:=OX u;exact EU f H t p w e x (cY a.2) h
   simp_all
  simp_all
 simp_all
theorem IN{x:aP}{i:Nat}(m:cV U alD rd)(H:RH U σD)(h:gJ P S hint (.extract x i) rd U k=some r):kC P orc n alD U σD (.extract x i) k r:=by
 simp only[gJ] at h;split at h
 ·rename_i t p;obtain ⟨d,g,⟨ds,rfl,j⟩,l⟩:=m _ _ p;split at h
  ·rename_i q a;obtain ⟨d,b,s,rfl,f⟩:=j.get _ _ a;exact cN.pure (v:=.agg q) (CW g b) ⟨s,rfl,f⟩ (l _ (yl a)) H h
  ·rename_i c a;obtain ⟨d,b,y,e,f⟩:=j.get _ _ a;simp only[List.cons.injEq,Qa] at e;subst e;exact cN.pure (v:=.c c) (CW g b) f (l _ (yl a) c (by simp)) H h
  simp_all
 simp_all
theorem TY:∀{vs:List TV}{a:List D}{ds:List D},vs.mapM (λv=>(match v with | .c (.d x)=>some x | _=>none))=some a->fo vs ds->(∀v∈vs,GV U v)->ds=a/\D.low.cF U.length a=true:=by
 intro vs;induction vs with
 |nil=>intro a ds h r _;simp only[List.mapM_nil] at h;cases h;cases r;exact ⟨rfl,rfl⟩
 |cons v vs ih=>
  intro a ds h r g;cases r with
  |cons d r=>
   rw[Qf] at h;split at h
   ·rename_i x;cases b:vs.mapM (λv=>(match v with | .c (.d x)=>some x | _=>none)) with
    |none=>simp_all
    |some l=>rw[b] at h;cases h;obtain ⟨e,f⟩:=ih b r λv i=>g v (pG _ i);have j:=RT.c1 (by simp) d;subst e j;refine ⟨rfl,?_⟩;simp only[D.low.cF,f,IM];exact g _ (pe ..)
   simp_all
theorem YM{U:TH}{a:List TC}{cs:List CV}{ds:List D}(h:a.mapM Uz=some cs)(r:aH RC a ds)(g:∀x∈a,GC U x):ds=cs.map CV.er/\cs.all (CV.low U.length)=true:=by
 induction r generalizing cs with
 |nil=>simp_all
 | @cons x d a ds h1 r ih=>
  rw[Qf] at h;cases b:Uz x with
  |none=>simp_all
  |some c=>
   cases hs:a.mapM Uz with
   |none=>simp_all
   |some i=>
    rw[b,hs] at h;cases h;obtain ⟨e,f⟩:=ih hs λy j=>g y (pG _ j);have l:=g x (pe ..);unfold Uz at b;split at b <;> cases b
    ·have:=RT.c1 (x:=.d _) (by simp) h1;subst this;exact ⟨by rw[e];rfl,by simp only[List.all_cons,f,IM];exact l⟩
    ·have:=RT.c1 (x:=.b _) (by simp) h1;subst this;exact ⟨by rw[e];rfl,by simp only[List.all_cons,f,IM];rfl⟩
    ·have:=RT.c1 (x:=.sl _ _) (by simp) h1;subst this;exact ⟨by rw[e];rfl,by simp only[List.all_cons,f,IM];rfl⟩
theorem Ud{f:Fn}{first cap:List aP}(l:cV U alD rd)(H:RH U σD)(h:gJ P S hint (.CR f first cap) rd U k=some r):kC P orc n alD U σD (.CR f first cap) k r:=by
 simp only[gJ] at h;split at h
 ·rename_i a b u v;obtain ⟨ds,m,p,q⟩:=l.all u;obtain ⟨L,s,t,w⟩:=l.all v;split at h
  ·rename_i g M d;unfold ZJ at d;split at d
   rotate_left
   ·grind
   rename_i N O;rw[cu] at d;obtain ⟨x,y,e⟩:=d;simp only[ba] at e;obtain ⟨rfl,rfl⟩:=e;cases p with
   |cons z A=>cases A;cases t;obtain ⟨E,rfl,F⟩:=z;obtain ⟨G,K⟩:=YM y F (q _ (pe ..));subst G;exact cN.one h (OG m s) rfl K H
  split at h
  ·rename_i T W i j;obtain ⟨rfl,X⟩:=TY i p q;obtain ⟨rfl,Z⟩:=TY j t w;refine cN.one h (OG m s) rfl ?_ H;show D.low _ _=true
   grind [D.low]
  simp_all
 simp_all
theorem UC{off:Nat}{m:Option Nat}{x:aP}(b:cV U alD rd)(H:RH U σD)(h:gJ P S hint (.part off m x) rd U k=some r):kC P orc n alD U σD (.part off m x) k r:=by
 simp only[gJ] at h;split at h
 ·rename_i p e;obtain ⟨d,f,⟨ds,rfl,g⟩,i⟩:=b _ _ e;split at h
  ·rename_i v a;obtain ⟨d,j,l⟩:=yg a g;exact cN.pure (VY f j) l (oS a i) H h
  simp_all
 simp_all
theorem TS{len j es:Nat}{m:Option Nat}{x i:aP}{q:Int}{cs:List D}{d:D}(h:lx alD x=some (.agg cs))(b:lx alD i=some (I q))(hk:Af q len=some j)(f:xI m cs (j * es)=some d):dQ P orc n alD σD (.AD es len m x i) d σD []:=λe a=>by simp[bg,dY a h,dY a b,sc,hk,f]
theorem Rs{es len:Nat}{m:Option Nat}{x i:aP}(e:cV U alD rd)(H:RH U σD)(h:gJ P S hint (.AD es len m x i) rd U k=some r):kC P orc n alD U σD (.AD es len m x i) k r:=by
 simp only[gJ] at h;split at h
 ·rename_i M N y s;obtain ⟨d,t,⟨ds,rfl,u⟩,A⟩:=e _ _ y;split at h
  ·rename_i q g;split at h
   ·rename_i j E;split at h
    ·rename_i v w;obtain ⟨d,F,p⟩:=yg w u;exact cN.pure (TS t (e.int s g) E F) p (oS w A) H h
    simp_all
   simp_all
  ·rename_i q g;split at h
   ·rename_i l hs G;simp only[bJ] at hs;have K:=cY hs.1;have O:=cY hs.2;subst K;obtain ⟨a,L,hk⟩:=zb h;have p:=GZ G u;have b:l.length=len:=by grind [aH.len,List.length_map]
    exact cN.one hk (Yq (f:=λz=>.c (.lit (.int .i64 z))) t (e.int s g) L p b) rfl rfl H
   simp_all
  simp_all
 simp_all
theorem SC{f:aP}{args:List aP}(j:cV U alD rd)(H:RH U σD)(h:gJ P S hint (.call f args) rd U k=some r):kC P (Gz (JK S)) n alD U σD (.call f args) k r:=by
 simp only[gJ] at h;split at h
 ·rename_i g v t b;obtain ⟨l,_⟩:=j.c t (by simp);obtain ⟨ds,m,p,u⟩:=j.all b;split at h
  ·rename_i s hs;split at h
   ·rename_i a d;obtain ⟨q,e,hk⟩:=zb h;exact cN.pure (Ot l m (spc_ok hs p d e)) (ON s.out q) (EK s.out q) H hk
   ·split at h
    ·rename_i a i d;simp only[bJ] at i;obtain ⟨q,e,hk⟩:=zb h;exact cN.pure (Ot l m (TZ H hs u p i.1 i.2 d e)) (ON s.out q) (EK s.out q) H hk
    simp_all
  simp_all
 simp_all
theorem TO(l:cV U alD rd)(H:RH U σD)(h:gJ P S hint o rd U k=some r):kC P (Gz (JK S)) n alD U σD o k r:=by
 cases o with
 |DR x=>
  simp only[gJ] at h;split at h
  ·rename_i v q;obtain ⟨d,t,u,w⟩:=l _ _ q;exact cN.pure (DK t) u w H h
  simp_all
 |gen op ty=>exact Wx l H h
 |box x=>grind [XH]
 |alloc z=>exact PD H h
 |build z A=>grind [Qu]
 |iV j len z A=>grind [Me]
 |load m x=>grind [UQ]
 |store m x y=>grind [Pb]
 |lD x=>grind [Px]
 |iy F E x=>grind [PM]
 |HE off x=>grind [WN]
 |idx j len x i=>grind [Wz]
 |Rh j x G K=>grind [VW]
 |sx=>exact Pg H h
 |lookup e zero m p ok=>grind [Nf]
 |vD e m p x=>grind [Ym]
 |del e m p=>grind [XE]
 |len x=>grind [XQ]
 |mk j g z x y=>grind [tmk_ok]
 |append j g s x=>grind [WJ]
 |copy j d s=>grind [TL]
 |extract x i=>grind [IN]
 |CR f a b=>grind [Ud]
 |part off m x=>grind [UC]
 |AD j len m x i=>grind [Rs]
 |call f args=>grind [SC]
 |_=>simp[gJ] at h
end
end Go.Abs
end
