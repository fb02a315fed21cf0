/- Lemmas. -/
import Derived.Test.YtcndmfkgdaipaaaGreatFwC
import Derived.Test.YtcndmfkgdaipaaaGreatFwB
import Derived.RangeFuncStops
import Derived.ControlIn
set_option linter.all false
section
namespace Go.Abs
noncomputable section
variable[Gl][Y:Ty]
structure bJ where
 ins:List dr
 out:List dr
 f:rS ins->Option (lB out)
abbrev sC:=List (Nat×bJ)
def ZI(g:Nat):sC->Option bJ
 |[]=>none
 |(s,f)::l=>match Nat.beq s g with | true=>some f | false=>ZI g l
def Yi(g:Nat)(S:sC):Option bJ:=match Nat.blt g 1048576 with | true=>ZI g S | false=>none
def yy:(cs:List dr)->List TV->Option (rS cs)
 |[],[]=>some ()
 |c :: cs, x :: xs => match qp c x, yy cs xs with
  |some a,some b=>some (a,b)
  |_,_=>none
 |_,_=>none
def dr.te:(c:dr)->c.dn->Bool×List TC
 |.c x,a=>(false,[rZ x a])
 |.st i,a=>(true,exp i a)
 |.fp i,a=>(false,[.fp i a 0])
 |.k x,_=>(false,[.d (.c (.fn (.func x) [] []))])
def Nk:(cs:List dr)->lB cs->List (Bool×List TC)
 |[],_=>[]
 |[c],x=>[c.te x]
 |c::d::cs,x=>c.te x.1::Nk (d::cs) x.2
def outT:(cs:List dr)->lB cs->TV
 |[c],x=>c.tv x
 |cs,x=>.aT (Nk cs x)
def Hf:D->TV
 |.agg ds=>.agg (ds.map .d)
 |d=>.c (.d d)
abbrev Kn:=List (Nat×Bool)
def zV(p:Nat):Kn->Option Bool
 |[]=>none
 |(q,b)::l=>match Nat.beq q p with | true=>some b | false=>zV p l
def TL(d:Kn)(a:Option (Nat×Bool))(p:Nat)(w:Bool):Bool:=
 match zV p d with
 |some b=>b == w
 |none => match a with
  |some (q,e)=>Nat.beq q p&&e == w
  |none=>false
def Fu(al:TA)(b:Kn)(a:Option (Nat×Bool)):aQ->Option TV
 |.k d=>match d.low 0 with | true=>some (Hf d) | false=>none
 |.t n => match iC n al with
  |some (.v x,_)=>some x
  |some (.g _ w p x,_)=>match TL b a p w with | true=>some x | false=>none
  |none=>none
def Ml(rd:aQ->Option TV):List aQ->Option (List TV)
 |[]=>some []
 |x :: xs => match rd x, Ml rd xs with
  |some a,some b=>some (a::b)
  |_,_=>none
def TC.scalar:TC->Bool
 |.any=>false
 |.d x=>x.scalar
 |_=>true
def eX:TV->Option (List TC)
 |.c x=>match x.scalar with | true=>some [x] | false=>none
 |.agg a=>match a.all TC.scalar with | true=>some a | false=>none
 |.aT _=>none
def rP{α:Type}(cs:List α)(off:Nat)(xs:List α):List α:=cs.take off++xs++cs.drop (off+xs.length)
def Ea(rd:aQ->Option TV):List TC->List (Nat×Nat×aQ)->Option (List TC)
 |a,[]=>some a
 |a, (o, n, x) :: rest=>
  match rd x with
  |some v => match eX v with
   |some b => match Nat.beq b.length n && Nat.ble (o + n) a.length with
    |true=>Ea rd (rP a o b) rest
    |false=>none
   |none=>none
  |none=>none
def An(n:Option Nat)(cs:List TC)(off:Nat):Option TV:=
 match n with
 |none=>match cs[off]? with | some x=>some (.c x) | none=>none
 |some n=>match Nat.ble (off+n) cs.length with | true=>some (.agg ((cs.drop off).take n)) | false=>none
def Sa:List TC->Bool
 |[]=>true
 |.d (.c (.lit (.slice none 0 0)))::_=>false
 |_::xs=>Sa xs
def isAny:TC->Bool
 |.any=>true
 |_=>false
def Sp:List TC->Bool
 |[]=>true
 |x::xs=>!(isAny x)&&Sp xs
def mkT(i:Nat)(cs:List TC):Option (TT i):=match Sa cs,DZ (Y.fl i) cs with | true,some x=>some (Y.mkt i x) | _,_=>none
def Zl(i:Nat):List TC->Option (List (TT i))
 |[]=>some []
 |c :: b => match mkT i [c], Zl i b with
  |some a,some l=>some (a::l)
  |_,_=>none
def GJ(i:Nat):Nat->List TC->Option (List (TT i))
 |0,[]=>some []
 |0,_::_=>none
 |k + 1, b => match mkT i (b.take (aA i)), GJ i k (b.drop (aA i)) with
  |some a,some l=>some (a::l)
  |_,_=>none
def Oz:TV->Option Value
 |.c (.d (.c (.lit v)))=>some v
 |.c (.b e)=>some (.bool e)
 |_=>none
def Dc:Value->TV
 |.bool e=>.c (.b e)
 |v=>.c (.d (.c (.lit v)))
inductive BX where
 |t
 |f
 |e (x:Bool)
def SK:TV->Option BX
 |.c (.b e)=>some (.e e)
 |.c (.d (.c (.lit (.bool true))))=>some .t
 |.c (.d (.c (.lit (.bool false))))=>some .f
 |_=>none
def BX.val:BX->Bool
 |.t=>true
 |.f=>false
 |.e x=>x
def pk(c:Bool):BX->BX->Bool
 |.t,.e y=>c || y
 |.e x,.f=>c&&x
 |x,y=>bif c then x.val else y.val
def pkV(c:Bool):BX->BX->TV
 |.t,.t=>.c (.d (.c (.lit (.bool true))))
 |.f,.f=>.c (.d (.c (.lit (.bool false))))
 |x,y=>.c (.b (pk c x y))
def ints(k:IntKind):List TC->Option (List Int)
 |[]=>some []
 |x :: xs => match Ew (.int k) x, ints k xs with
  |some a,some l=>some (a::l)
  |_,_=>none
def Kt:List Value->Option (List Int)
 |[]=>some []
 |.int .i64 a::xs=>match Kt xs with | some l=>some (a::l) | none=>none
 |_::_=>none
def LC:List C->Option (List Int)
 |[]=>some []
 |.lit (.int .i64 a)::xs=>match LC xs with | some l=>some (a::l) | none=>none
 |_::_=>none
def valC:TC->Option Value
 |.d (.c (.lit v))=>some v
 |.b e=>some (.bool e)
 |_=>none
def Hd:List TC->Option (List Value)
 |[]=>some []
 |x :: xs => match valC x, Hd xs with
  |some v,some a=>some (v::a)
  |_,_=>none
def WF(P:Program)(xs d:Array Value):List Field->Option Bool
 |[]=>some true
 |f :: e => match f.name != "_", fq P (part f.type xs f.offset), fq P (part f.type d f.offset), P.underlying f.type, WF P xs d e with
  |true,some (.int k a),some (.int g b),some (.int _),some q=>match decEq k g with | .isTrue _=>some (a == b&&q) | .isFalse _=>none
  |true,some (.bool a),some (.bool b),some .bool,some q=>some (a == b&&q)
  |_,_,_,_,_=>none
def Wp(P:Program)(xs d:Array Value):List Field->Option Bool
 |[]=>some true
 |f :: e => match f.name != "_", fq P (part f.type xs f.offset), fq P (part f.type d f.offset), P.underlying f.type, Wp P xs d e with
  |true,some (.int k a),some (.int g b),some (.int _),some q=>match decEq k g with | .isTrue _=>some (a == b&&q) | .isFalse _=>none
  |true,some (.bool a),some (.bool b),some .bool,some q=>some (a == b&&q)
  |true, some (.agg a), some (.agg b), some (.struct gs), some q => match P.stoodInHeld f.type, WF P a b gs.toList with
   |false,some r=>some (r&&q)
   |_,_=>none
  |_,_,_,_,_=>none
def eqT(P:Program)(t:TypeId)(xs a:List TC):Option Bool:=
 match Hd xs,Hd a,P.underlying t,P.eqGuardType P.depth t,P.stoodInHeld t with
 |some b,some d,some (.struct e),false,false=>Wp P b.toArray d.toArray e.toList
 |_,_,_,_,_=>none
def QA(a b:Int):Option Int:=if a.natAbs<2 ^ 52/\b.natAbs<2 ^ 52 then some (a+b) else none
def w_(a b:Int):Option Int:=if a.natAbs<2 ^ 52/\b.natAbs<2 ^ 52 then some (a-b) else none
def xq(a n:Int):Option Int:=if 0<=a/\a<=1048576/\0<=n/\n<=1048576 then some (a * n) else none
def yD(a:Int):Option Int:=if a.natAbs<2 ^ 53 then some a else none
variable{R:Type}
abbrev KO(R:Type):=TV->TH->Bool->List Nat->Option R
def UH(val:Operand->Option TV)(x:Operand):Option Value:=match val x with | some v=>Oz v | none=>none
def genV(P:Program)(op:Op)(ty:TypeId)(val:Operand->Option TV):Option Value:=
 if op.operands.toList.all (λx=>(UH val x).isSome) then
  match fq P (execOp (λx=>(UH val x).getD undef) { dst:=none,op:=op,type:=ty,pos:="",after:=#[],guard:=none }) with
  |some (.value v)=>some v
  |_=>none
 else none
def oE:Value->Bool
 |.agg _ | .tuple _=>false
 |_=>true
abbrev wC(rd:aQ->Option TV)(x:Operand):Option TV:=match ce x with | some o=>rd o | none=>none
def genT(P:Program)(op:Op)(ty:TypeId)(rd:aQ->Option TV)(σ:TH)(k:KO R):Option R:=
 match op with
 |.binOp o t x y _=>
  match wC rd x,wC rd y with
  |some (.c (.d (.c (.lit (.int f a))))), some (.c (.d (.c (.lit (.int h b)))))=>
   match o with
   |.quo => match decEq f h with
    |.isTrue _=>(MW f a b).bind λv=>k (.c (.d (.c (.lit (.int f v))))) σ false []
    |.isFalse _=>none
   |.rem => match decEq f h with
    |.isTrue _=>(rem? a b).bind λv=>k (.c (.d (.c (.lit (.int f v))))) σ false []
    |.isFalse _=>none
   |.shr=>(shr? f a b).bind λv=>k (.c (.d (.c (.lit (.int f v))))) σ false []
   |.shl=>(shl? f a b).bind λv=>k (.c (.d (.c (.lit (.int f v))))) σ false []
   |_ => match iw P o t x y (.int f a) (.int h b) with
    |some v=>match oE v with | true=>k (Dc v) σ false [] | false=>none
    |none=>none
  |some (.agg xs), some (.agg i)=>
   match eqT P t xs i with
   |some r => match o with
    |.eql=>k (.c (.b r)) σ false []
    |.neq=>k (.c (.b (!r))) σ false []
    |_=>none
   |none=>none
  |some (.c (.cx a b)), some (.c (.cx c d))=>
   match o with
   |.add=>(QA a c).bind λu=>(QA b d).bind λv=>k (.c (.cx u v)) σ false []
   |.sub=>(w_ a c).bind λu=>(w_ b d).bind λv=>k (.c (.cx u v)) σ false []
   |.mul => match d with
    |.ofNat 0=>(xq a c).bind λu=>(xq b c).bind λv=>k (.c (.cx u v)) σ false []
    |_=>none
   |_=>none
  |some u, some v=>
   match Oz u,Oz v with
   |some (.bool a), some (.bool b)=>
    match o,P.underlying t with
    |.eql,some .bool=>k (.c (.b (a == b))) σ false []
    |.neq,some .bool=>k (.c (.b (!(a == b)))) σ false []
    |_,_=>none
   |some a, some b => match iw P o t x y a b with
    |some v=>match oE v with | true=>k (Dc v) σ false [] | false=>none
    |none=>none
   |_,_=>none
  |_,_=>none
 |.unOp o _ x=>
  match wC rd x with
  |some u => match o, Oz u with
   |.not,some (.bool e)=>k (.c (.b (!e))) σ false []
   |o, some a => match fq P (Op.unary o a) with
    |some v=>match oE v with | true=>k (Dc v) σ false [] | false=>none
    |none=>none
   |_,_=>none
  |none=>none
 |.convert t g x=>
  match wC rd x with
  |some (.c (.d (.c (.lit (.int f a)))))=>
   match P.underlying g with
   |some (.float .f64)=>match (P.underlying t).isSome with | true=>k (.c (.fl a)) σ false [] | false=>none
   |_ => match fq P (convert t g (.int f a)) with
    |some v=>match oE v with | true=>k (Dc v) σ false [] | false=>none
    |none=>none
  |some (.c (.fl a)) => match P.underlying g, (P.underlying t).isSome with
   |some (.int .i64),true=>(yD a).bind λa=>k (.c (.d (.c (.lit (.int .i64 a))))) σ false []
   |_,_=>none
  |some u => match Oz u with
   |some a => match fq P (convert t g a) with
    |some v=>match oE v with | true=>k (Dc v) σ false [] | false=>none
    |none=>none
   |none=>none
  |none=>none
 |.call c=>
  match c.callee,c.args.toList with
  |.builtin .min, _ => match genV P (.call c) ty (wC rd) with
   |some v=>match oE v with | true=>k (Dc v) σ false [] | false=>none
   |none=>none
  |.builtin .max, _ => match genV P (.call c) ty (wC rd) with
   |some v=>match oE v with | true=>k (Dc v) σ false [] | false=>none
   |none=>none
  |.builtin .complex, [x, y] => match wC rd x, wC rd y with
   |some (.c (.fl a)),some (.c (.fl b))=>k (.c (.cx a b)) σ false []
   |some (.c (.fl a)), some (.c (.d (.c (.lit (.float .f64 b))))) => match Nat.beq b (Fl.fl 0) with
    |true=>k (.c (.cx a 0)) σ false []
    |false=>none
   |_,_=>none
  |.builtin .real, [x] => match wC rd x with
   |some (.c (.cx a _))=>k (.c (.fl a)) σ false []
   |_=>none
  |.builtin .imag, [x] => match wC rd x with
   |some (.c (.cx _ b))=>k (.c (.fl b)) σ false []
   |_=>none
  |_,_=>none
 |_=>none
def BQ(σ:TH):TC->TC
 |.own i b v n => match σ[b]? with
  |some (.row j l a _)=>match Nat.beq a v with | true=>.sl j l | false=>.own i b v n
  |_=>.own i b v n
 |x=>x
def fN(σ:TH):TV->TV
 |.c x=>.c (BQ σ x)
 |.agg a=>.agg (a.map (BQ σ))
 |x=>x
def Qq:TC->Bool
 |.own ..=>true
 |_=>false
def xJ:TV->Bool
 |.c x=>Qq x
 |.agg a=>a.any Qq
 |_=>false
def CC.gr:CC->Bool
 |.sl _=>false
 |.fk _=>false
 |_=>true
def dr.gr:dr->Bool
 |.c x=>x.gr
 |.st i=>(Y.fl i).all CC.gr
 |_=>false
def Uu(i:Nat)(σ:TH):TV->Option (List (TT i))
 |.c (.sl _ l)=>iy l
 |.c (.d (.c (.lit (.slice none 0 0))))=>some []
 |.c (.own _ b v _) => match σ[b]? with
  |some (.row _ l a _)=>match Nat.beq a v with | true=>iy l | false=>none
  |_=>none
 |_=>none
def Yo:TC->Option CV
 |.d x=>some (.d x)
 |.b e=>some (.b e)
 |.sl i l=>some (.sl i l)
 |_=>none
def cvT:CV->TC
 |.d x=>.d x
 |.b e=>.b e
 |.sl i l=>.sl i l
def fnaOf:Fn->List TV->List TV->Option (FuncId×List CV)
 |.func g,[.agg xs],[]=>(xs.mapM Yo).map λa=>(g,a)
 |_,_,_=>none
def lz:TV->Option Int
 |.c (.d (.c (.lit (.int .i64 n))))=>some n
 |_=>none
def teT:TV->Bool×List TC
 |.c x=>(false,[x])
 |.agg a=>(true,a)
 |.aT _=>(false,[])
def mpV(j:Nat)(st:Bool)(a:TT j):TV:=match st with | true=>.agg (exp j a) | false=>.c ((exp j a).headD (.d (.c (.lit undef))))
def mkM(j:Nat)(st:Bool)(v:TV):Option (TT j):=match st,v with
 |true,.agg xs=>mkT j xs
 |false,.c x=>mkT j [x]
 |_,_=>none
def MG(ok:Bool)(v:TV)(e:Bool):TV:=match ok with
 |true=>.aT [teT v,(false,[.d (.c (.lit (.bool e)))])]
 |false=>v
def Ku:List Nat->Nat->(Nat->Option R)->Option R
 |[],_,_=>none
 |g::gs,n,f=>cond (Nat.beq n g) (f g) (Ku gs n f)
def splC:(cs:List CC)->aT cs->(List TC->Option R)->Option R
 |[],_,k=>k []
 |.fk gs::cs,x,k=>Ku gs x.1 λg=>splC cs x.2 λl=>k (.d (.c (.fn (.func g) [] []))::l)
 |c::cs,x,k=>splC cs x.2 λl=>k (rZ c x.1::l)
def lkS(b j:Nat)(st:Bool)(a:TT j)(k:TV->Option R):Option R:=match Nat.beq b 1000005,st with
 |true,true=>splC (Y.fl j) (Y.prj j a) λd=>k (.agg d)
 |_,_=>k (mpV j st a)
def h_(P:Program)(S:sC)(d:Nat)(o:kE)(rd:aQ->Option TV)(σ:TH)(k:KO R):Option R:=
 match o with
 |.Ag x=>match rd x with | some v=>k v σ false [] | none=>none
 |.gen op ty=>genT P op ty rd σ k
 |.box x => match rd x with
  |some v => match eX v with
   |some e=>k (.c (.d (.ptr σ.length 0 e.length))) (σ++[.cells 0 (e.map λc=>(0,c))]) false []
   |none=>none
  |none=>none
 |.alloc z => match D.low.cU 0 z with
  |true=>k (.c (.d (.ptr σ.length 0 z.length))) (σ++[.cells 0 (z.map λc=>(0,.d c))]) false []
  |false=>none
 |.build z K => match D.low.cU 0 z, Ea rd (z.map .d) K with
  |true,some e=>k (.agg e) σ false []
  |_,_=>none
 |.jf h len z K => match Nat.beq d 1000001 with
  |true => match D.low.cU 0 z, Ea rd ((dG len z).map .d) K with
   |true, some e => match Sp e with
    |true=>k (.c (.d (.sl σ.length 0 len h e.length))) (σ++[.cells 0 (e.map λc=>(0,c))]) false []
    |false=>none
   |_,_=>none
  |false=>match Nat.beq h (aA d)&&D.low.cU 0 z,Ea rd ((dG len z).map .d) K with
  |true, some e => match GJ d len e with
   |some l=>k (.c (.own d σ.length 0 len)) (σ++[.row d l 0 0]) false []
   |none=>none
  |_,_=>none
 |.load n a => match rd a with
  |some (.c (.d (.ptr b off sz))) => match σ[b]? with
   |some (.cells _ e) => match Nat.beq e.length sz, An n (e.map Prod.snd) off with
    |true,some v=>k v σ false []
    |_,_=>none
   |_=>none
  |some (.c (.fp i x off)) => match An n (exp i x) off with
   |some v=>k v σ false []
   |none=>none
  |some (.c (.op i b v _ _ x off)) => match σ[b]? with
   |some (.row _ _ _ F) => match Nat.beq F v, An n (exp i x) off with
    |true,some v=>k v σ false []
    |_,_=>none
   |_=>none
  |some (.c (.ap b off len sz i)) => match n, σ[b]? with
   |none, some (.cells _ e) => match Nat.beq e.length sz && Nat.ble (off + len) sz, ints .i64 (((e.map Prod.snd).drop off).take len) with
    |true,some l=>(aE l i).bind λa=>k (.c (.d (.c (.lit (.int .i64 a))))) σ false []
    |_,_=>none
   |_,_=>none
  |some (.c (.d (.c (.cz e off)))) => match n, LC e with
   |none,some l=>(aE l (off:Int)).bind λa=>k (.c (.d (.c (.lit (.int .i64 a))))) σ false []
   |_,_=>none
  |_=>none
 |.store n a x => match rd a, rd x with
  |some (.c (.d (.ptr b off sz))), some v => match σ[b]?, eX v with
   |some (.cells w e), some xs => match Nat.beq e.length sz && (Nat.beq xs.length n && Nat.ble (off + n) sz) with
    |true=>k (.aT []) (σ.set b (.cells (w+1) (rP e off (xs.map λx=>(w+1,x))))) false [b]
    |false=>none
   |_,_=>none
  |some (.c (.op i b v _ q a off)), some x => match σ[b]?, eX x with
   |some (.row j l t F), some xs => match Nat.beq F v && (Nat.beq xs.length n && Nat.ble (off + n) (aA i)), mkT i (rP (exp i a) off xs), iy (i := i) l with
    |true,some X,some l=>k (.aT []) (σ.set b (.row i (l.set q.toNat X) t (F+1))) false [b]
    |_,_,_=>none
   |_,_=>none
  |_,_=>none
 |.me x => match rd x with
  |some (.c (.d (.ptr b off sz)))=>k (.c (.d (.ptr b off sz))) σ false []
  |some (.c (.d (.c (.fn (.func f) u v))))=>k (.c (.d (.c (.fn (.func f) u v)))) σ false []
  |some (.c (.d (.fn (.func f) u v)))=>k (.c (.d (.fn (.func f) u v))) σ false []
  |some (.c (.fp i a off))=>k (.c (.fp i a off)) σ false []
  |some (.c (.op i b v n q a off))=>k (.c (.op i b v n q a off)) σ false []
  |some (.c (.Fx g xs))=>k (.c (.Fx g xs)) σ false []
  |_=>none
 |.iR T G x => match rd x with
  |some (.c (.d x)) => match isNil T x with
   |some true=>k (.c (.d (.c (.lit (.bool (!G)))))) σ false []
   |some false=>k (.c (.d (.c (.lit (.bool G))))) σ false []
   |none=>none
  |some (.c (.fp ..)) | some (.c (.op ..)) => match T with
   |0=>k (.c (.d (.c (.lit (.bool G))))) σ false []
   |_=>none
  |_=>none
 |.Gz off x => match rd x with
  |some (.c (.d (.ptr b o sz)))=>k (.c (.d (.ptr b (o+off) sz))) σ false []
  |some (.c (.fp i a o))=>k (.c (.fp i a (o+off))) σ false []
  |some (.c (.op i b v n q a o))=>k (.c (.op i b v n q a (o+off))) σ false []
  |_=>none
 |.idx h none x i => match rd x, rd i with
  |some (.c (.sl j l)), some A => match lz A, Nat.beq h (aA j) with
   |some q,true=>(aE l q).bind λa=>k (.c (.fp j a 0)) σ false []
   |_,_=>none
  |some (.c (.own j b v n)), some A => match lz A, Nat.beq h (aA j), σ[b]? with
   |some q, true, some (.row _ l t F) => match Nat.beq t v, iy (i := j) l with
    |true,some l=>(aE l q).bind λa=>k (.c (.op j b F n q a 0)) σ false []
    |_,_=>none
   |_,_,_=>none
  |some (.c (.d (.sl b off len L sz))), some A => match lz A, σ[b]? with
   |some q, some (.cells _ e) => match Nat.beq e.length sz && Nat.beq h L, BH q len with
    |true,some j=>k (.c (.d (.ptr b (off+j * h) sz))) σ false []
    |_,_=>none
   |_,_=>none
  |_,_=>none
 |.idx h (some len) x (.k i) => match rd x, lz (Hf i) with
  |some (.c (.d (.ptr b off sz))), some q => match BH q len with
   |some j=>k (.c (.d (.ptr b (off+j * h) sz))) σ false []
   |none=>none
  |_,_=>none
 |.idx h (some len) x (.t i) => match rd x, rd (.t i) with
  |some (.c (.d (.ptr b off sz))), some A => match lz A, Nat.beq h 1, σ[b]? with
   |some q, true, some (.cells _ e) => match Nat.beq e.length sz && Nat.ble (off + len) sz, ints .i64 (((e.map Prod.snd).drop off).take len) with
    |true,some l=>(aE l q).bind λ_=>k (.c (.ap b off len sz q)) σ false []
    |_,_=>none
   |_,_,_=>none
  |some (.c (.d (.c (.Vp g)))), some A => match lz A, Nat.beq h 1, Kt (Gl.tab g) with
   |some q, true, some (z :: l) => match Nat.beq (z :: l).length len with
    |true=>(aE (z::l) q).bind λ_=>k (.c (.d (.c (.cz ((Gl.tab g).map .lit) (q.toNat * h))))) σ false []
    |false=>none
   |_,_,_=>none
  |_,_=>none
 |.UX h x U hi => match rd x with
  |some (.c (.sl j l))=>
   match Nat.beq h (aA j),(match U with | none=>some (.c (.d (I 0))) | some o=>rd o),(match hi with | none=>some (.c (.d (I l.length))) | some o=>rd o) with
   |true, some u, some v => match lz u, lz v with
    |some u,some v=>(slice? l u v).bind λr=>k (.c (.sl j r)) σ false []
    |_,_=>none
   |_,_,_=>none
  |some (.c (.own j b W n)) => match Nat.beq h (aA j), σ[b]? with
   |true, some (.row _ l t _) => match Nat.beq t W, (match U with | none => some (.c (.d (I 0))) | some o => rd o), (match hi with | none => some (.c (.d (I l.length))) | some o => rd o) with
    |true, some u, some v => match lz u, lz v with
     |some u,some v=>(slice? l u v).bind λ_=>k (.c (.os j b W l.length u.toNat (v.toNat-u.toNat))) σ false []
     |_,_=>none
    |_,_,_=>none
   |_,_=>none
  |_=>none
 |.Do m x => match rd x with
  |some (.c (.fp i a off)) => match Nat.ble (off + m) (aA i), Zl d (((exp i a).drop off).take m) with
   |true,some l=>k (.c (.sl d l)) σ false []
   |_,_=>none
  |_=>none
 |.uy=>k (.c (.d (.mp σ.length))) (σ++[.mp (d / 2) (Nat.beq (d % 2) 1) [] 0]) false []
 |.lookup E zero m M ok => match E, rd m, rd M, zero.low 0 with
  |.int _, some (.c (.d (.mp b))), some N, true => match σ[b]?, lz N with
   |some (.mp j st l _),some x=>oel (dq l x) (k (MG ok (Hf zero) false) σ false []) (λa=>lkS d j st a λv=>k (MG ok v true) σ false [])
   |_,_=>none
  |_,_,_,_=>none
 |.xy E m M x => match E, rd m, rd M, rd x with
  |.int _, some (.c (.d (.mp b))), some N, some v => match σ[b]?, lz N with
   |some (.mp j st l ver), some i => match mkM j st v with
    |some a=>k (.aT []) (σ.set b (.mp j st (kr l i a) (ver+1))) false [b]
    |none=>none
   |_,_=>none
  |_,_,_,_=>none
 |.len x => match rd x with
  |some (.c (.sl _ l))=>k (.c (.d (I l.length))) σ false []
  |some (.c (.d (.c (.lit (.slice none 0 0)))))=>k (.c (.d (I 0))) σ false []
  |some (.c (.own _ b v _)) => match σ[b]? with
   |some (.row _ l t _)=>match Nat.beq t v with | true=>k (.c (.d (I l.length))) σ false [] | false=>none
   |_=>none
  |some (.c (.d (.sl b _ len _ sz))) => match σ[b]? with
   |some (.cells _ e)=>match Nat.beq e.length sz with | true=>k (.c (.d (I len))) σ false [] | false=>none
   |_=>none
  |_=>none
 |.mk h p z l c => match Nat.beq h (aA d) && (Nat.ble p 1000 && D.low.cU 0 z), mkT d (z.map .d), rd l, rd c with
  |true, some z0, some u, some v => match lz u, lz v with
   |some u,some v=>(EW z0 u v).bind λr=>k (.c (.own d σ.length 0 r.length)) (σ++[.row d r 0 0]) false []
   |_,_=>none
  |true, none, some (.c (.d (.c (.lit (.int .i64 (.ofNat 0)))))), some v => match lz v with
   |some v=>(mk0? v).bind λr=>k (.c (.own d σ.length 0 r.length)) (σ++[.row d r 0 0]) false []
   |none=>none
  |_,_,_,_=>none
 |.append h p s x => match rd s, rd x with
  |some (.c (.own i b v _)), some y => match σ[b]? with
   |some (.row _ l t F) => match Nat.beq t v && (Nat.beq h (aA i) && Nat.ble p 1000), iy (i := i) l, Uu i σ y with
    |true,some l,some m=>(cB l m).bind λr=>k (.c (.own i b (t+1) r.length)) (σ.set b (.row i r (t+1) (F+1))) true [b]
    |_,_,_=>none
   |_=>none
  |some (.c (.d (.c (.lit (.slice none 0 0))))), some (.c (.own i b v q)) => match Nat.beq h (aA i) && Nat.ble p 1000, Uu i σ (.c (.own i b v q)) with
   |true, some (a :: l) => match Nat.ble (a :: l).length 1000000 with
    |true=>k (.c (.own i σ.length 0 (a::l).length)) (σ++[.row i (a::l) 0 0]) false []
    |false=>none
   |_,_=>none
  |some (.c (.d (.c (.lit (.slice none 0 0))))), some (.c (.sl i l)) => match Nat.beq h (aA i) && Nat.ble p 1000 with
   |true=>(cB [] l).bind λr=>k (.c (.own i σ.length 0 r.length)) (σ++[.row i r 0 0]) false []
   |false=>none
  |_,_=>none
 |.extract x i => match rd x with
  |some (.aT xs) => match xs[i]? with
   |some (true,e)=>k (.agg e) σ false []
   |some (false,[c])=>k (.c c) σ false []
   |_=>none
  |_=>none
 |.DN f first cap => match Ml rd first, Ml rd cap with
  |some a, some b => match fnaOf f a b with
   |some (g,e)=>k (.c (.Fx g e)) σ false []
   |none => match a.mapM λv => (match v with | .c (.d x) => some x | _ => none), b.mapM λv => (match v with | .c (.d x) => some x | _ => none) with
    |some a,some b=>k (.c (.d (.fn f a b))) σ false []
    |_,_=>none
  |_,_=>none
 |.part off n x => match rd x with
  |some (.agg e) => match An n e off with
   |some v=>k v σ false []
   |none=>none
  |_=>none
 |.Ce h len n x i => match rd x, rd i with
  |some (.agg e), some A => match i, lz A with
   |.k _, some q => match BH q len with
    |some j => match An n e (j * h) with
     |some v=>k v σ false []
     |none=>none
    |none=>none
   |.t _, some q => match n, Nat.beq h 1 && Nat.beq e.length len, ints .i64 e with
    |none,true,some l=>(aE l q).bind λa=>k (.c (.d (.c (.lit (.int .i64 a))))) σ false []
    |_,_,_=>none
   |_,_=>none
  |_,_=>none
 |.call f args => match rd f, Ml rd args with
  |some (.c (.d (.c (.fn (.func g) [] [])))), some O => match Yi g S with
   |some s => match yy s.ins O with
    |some a=>(s.f a).bind λr=>k (outT s.out r) σ false []
    |none => match s.out.all dr.gr && O.any xJ, yy s.ins (O.map (fN σ)) with
     |true,some a=>(s.f a).bind λr=>k (outT s.out r) σ false []
     |_,_=>none
   |none=>none
  |_,_=>none
 |_=>none
def xc:kE->Bool
 |.Ag _ | .build .. | .me _ | .iR .. | .Gz .. | .len _ | .extract .. | .part ..=>true
 |.load _ _=>true
 |.gen (.binOp o ..) _=>match o with | .quo | .rem | .shr=>false | _=>true
 |.gen (.unOp ..) _=>true
 |.gen (.convert ..) _=>true
 |.gen (.call _) _=>true
 |_=>false
inductive GR where
 |TL
 |shut
 |sym (e:Bool) (p:Nat) (w:Bool)
 |spl (e:Bool) (p:Nat)
 |Tx (t:Nat) (x:TV)
 |bad
def gdB(d:Kn)(a:Bool)(p:Nat):TV->GR
 |.c (.d (.c (.lit (.bool true))))=>if a then .TL else .shut
 |.c (.d (.c (.lit (.bool false))))=>if a then .shut else .TL
 |.c (.d (.aT []))=>.shut
 |.c (.b e) => match zV p d with
  |some b=>if b == a then .TL else .shut
  |none=>.sym e p a
 |_=>.bad
def gdC(a:Kn)(p:Nat):TV->GR
 |.c (.d (.c (.lit (.bool true))))=>.TL
 |.c (.d (.c (.lit (.bool false))))=>.shut
 |.c (.b e) => match zV p a with
  |some true=>.TL
  |some false=>.shut
  |none=>.sym e p true
 |_=>.bad
def tGd(al:TA)(a:Kn):Option (Nat×Bool)->GR
 |none=>.TL
 |some (t, want) => match iC t al with
  |some (.v x,p)=>gdB a want p x
  |some (.g c w p x, _) => match zV p a with
   |some b=>if b == w then .Tx t x else .shut
   |none=>.spl c p
  |none=>.bad
def blkT(rd:aQ->Option TV):kE->Option Nat
 |.load _ x => match rd x with
  |some (.c (.d (.ptr b _ _)))=>some b
  |some (.c (.op _ b ..))=>some b
  |some (.c (.ap b ..))=>some b
  |_=>none
 |_=>none
def hintOf(H:List (Nat×Nat)):Option Nat->Nat
 |none=>0
 |some t=>hk t H
where hk (t:Nat):List (Nat×Nat)->Nat
 |[]=>0
 |(s,i)::l=>match Nat.beq s t with | true=>i | false=>hk t l
abbrev KS(R:Type):=TA->TH->List dZ->Option R
def YD(a:Option Nat)(x:RV)(al:TA):TA:=match a with | some t=>(t,x)::al | none=>al
inductive It where
 |cc (c:CC)
 |st (i:Nat)
 |fp (i:Nat)
 |ls (i:Nat)
 |ml (j:Nat)
 |cx
 deriving DecidableEq
@[reducible] def It.dn:It->Type
 |.cc c=>c.dn
 |.st i=>TT i
 |.fp i=>TT i
 |.ls i=>List (TT i)
 |.ml j=>List (Int×TT j)
 |.cx=>Int×Int
def rdI:(c:It)->TC->Option c.dn
 |.cc c,x=>Ew c x
 |.fp i,x=>vG i (.c x)
 |_,_=>none
def XL:(c:It)->c.dn->TC
 |.cc c,a=>rZ c a
 |.fp i,a=>.fp i a 0
 |_,_=>.any
inductive Pl where
 |r (t:Nat) (c:dr)
 |w (b i:Nat)
 |h (b j:Nat) (c:It)
 |m (b j:Nat) (st:Bool)
@[reducible] def Pl.dn:Pl->Type
 |.r _ c=>c.dn
 |.w _ i=>List (TT i)
 |.h _ _ c=>c.dn
 |.m _ j _=>List (Int×TT j)
@[reducible] def qI:List Pl->Type
 |[]=>Unit
 |[p]=>p.dn
 |p::q::ps=>p.dn×qI (q::ps)
structure JH where
 pl:List Pl
 hs:List (Nat×Nat):=[]
 os:List (Nat×Nat):=[]
 zs:List (Nat×Nat×Nat):=[]
def Fh:List (Nat×Nat)->TA->TH->Option (TA×TH)
  |[],a,σ=>some (a,σ)
  |(t,i)::os,a,σ=>match Nat.ble 1048576 t with
   |true=>match σ[(t-1048576) / 1024]? with
    |some (.cells w b) => match b[(t - 1048576) % 1024]? with
      |some (_,.d (.c (.lit (.slice none 0 0))))=>Fh os a (σ.set ((t-1048576) / 1024) (.cells (w+1) (b.set ((t-1048576) % 1024) (w+1,.own i σ.length 0 0)))++[.row i [] 0 0])
      |some (_,.own ..)=>Fh os a σ
      |_=>none
    |_=>none
   |false=>match NH t a with
    |some (.v (.c (.d (.c (.lit (.slice none 0 0))))))=>Fh os ((t,.v (.c (.own i σ.length 0 0)))::a) (σ++[.row i [] 0 0])
    |some (.v (.c (.own ..)))=>Fh os a σ
    |_=>none
def MR{i j:Nat}(l:List (Int×TT j)):Option (List (Int×TT i)):=match decEq j i with | .isTrue h=>some (h▸l) | .isFalse _=>none
def lM(ps:List Pl)(b:Nat):Nat->List (Nat×TC)->List (Nat×TC)->Bool
 |_,[],[]=>true
 |j,(v,_)::xs,(w,_)::a=>(Nat.beq v w || ps.any λp=>match p with | .h d e _=>Nat.beq d b&&Nat.beq e j | _=>false)&&lM ps b (j+1) xs a
 |_,_,_=>false
def zQ(ps:List Pl)(b:Nat):TB->TB->Bool
 |.cells _ xs,.cells _ d=>lM ps b 0 xs d
 |.row _ _ _ v,.row _ _ _ w=>Nat.beq v w || ps.any λp=>match p with | .w a _=>Nat.beq a b | _=>false
 |.mp _ _ _ v,.mp _ _ _ w=>Nat.beq v w || ps.any λp=>match p with | .m a _ _=>Nat.beq a b | _=>false
 |_,_=>false
def ed(ps:List Pl):Nat->TH->TH->Bool
 |_,[],_=>true
 |b,x::xs,y::a=>zQ ps b x y&&ed ps (b+1) xs a
 |_,_::_,[]=>false
def Nv:List (Nat×Nat×Nat)->TH->TH
 |[],σ=>σ
 |(b, j, r) :: zs, σ => match σ[b]?, σ[r]? with
  |some (.cells w a),some (.row i l d _)=>Nv zs (σ.set b (.cells (w+1) (a.set j (w+1,.own i r d l.length))))
  |_,_=>Nv zs σ
def Wl(n:Nat)(σ:TH)(zs:List (Nat×Nat×Nat)):Bool:=
 zs.all λz=>Nat.blt z.1 n&&(Nat.blt z.2.2 n&&match σ[z.1]?,σ[z.2.2]? with
  |some (.cells _ a), some (.row i _ b _) => match a[z.2.1]? with
   |some (_,.own d e v _)=>Nat.beq e z.2.2&&(Nat.beq v b&&Nat.beq d i)
   |_=>false
  |_,_=>false)
def KR(zs:List (Nat×Nat×Nat)):List Pl:=zs.map λz=>.h z.1 z.2.1 (.cc .bool)
structure kl where
 it:It
 v:it.dn
@[reducible] def dB:List It->Type
 |[]=>Unit
 |[c]=>c.dn
 |c::d::a=>c.dn×dB (d::a)
def kI(c:It)(d:kl):Option c.dn:=match decEq d.it c with | .isTrue h=>some (h▸d.v) | .isFalse _=>none
def ui:(cs:List It)->List kl->Option (dB cs)
 |[],[]=>some ()
 |[c],[d]=>kI c d
 |c :: e :: cs, d :: ds => match kI c d, ui (e :: cs) ds with
  |some a,some b=>some (a,b)
  |_,_=>none
 |_,_=>none
def dO:(cs:List It)->dB cs->List kl
 |[],_=>[]
 |[c],x=>[⟨c,x⟩]
 |c::a::cs,x=>⟨c,x.1⟩::dO (a::cs) x.2
inductive CP where
 |c (c:CC)
 |cx
 |hd (b:Nat)
 |pt (b off sz:Nat)
 |mr (b:Nat)
 |fb (f b sz:Nat)
 |fp (i:Nat)
 |k (d:D)
inductive RO where
 |v (c:dr)
 |p (p:CP)
 |ag (ps:List CP)
inductive NB where
 |cells (ps:List CP)
 |row (i:Nat)
 |mp (j:Nat) (st:Bool)
inductive PC where
 |h (b j:Nat) (p:CP)
 |w (b i:Nat)
 |m (b j:Nat) (st:Bool)
inductive CT where
 |mk (out:List RO) (pl:List PC) (nb:List NB) (H:List (Nat×Nat)) (J:List (Nat×JH)) (C:List (Nat×List CT))
def CT.out:CT->List RO | .mk o _ _ _ _ _=>o
def CT.pl:CT->List PC | .mk _ p _ _ _ _=>p
def CT.nb:CT->List NB | .mk _ _ n _ _ _=>n
def CT.H:CT->List (Nat×Nat) | .mk _ _ _ h _ _=>h
def CT.J:CT->List (Nat×JH) | .mk _ _ _ _ j _=>j
def CT.C:CT->List (Nat×List CT) | .mk _ _ _ _ _ c=>c
def ctk(k:Nat):List (Nat×List CT)->Option (List CT)
 |[]=>none
 |(q,c)::l=>match Nat.beq q k with | true=>some c | false=>ctk k l
def CP.ZW:CP->List It
 |.c y=>[.cc y]
 |.cx=>[.cx]
 |.fp i=>[.fp i]
 |_=>[]
def dr.it:dr->List It
 |.c x=>[.cc x]
 |.st i=>[.st i]
 |.fp i=>[.fp i]
 |.k _=>[]
def RO.ZW:RO->List It
 |.v y=>y.it
 |.p y=>y.ZW
 |.ag i=>i.flatMap CP.ZW
def NB.rts:NB->List It
 |.cells _=>[]
 |.row i=>[.ls i]
 |.mp j _=>[.ml j]
def NB.ZW:NB->List It
 |.cells i=>i.flatMap CP.ZW
 |_=>[]
def PC.rts:PC->List It
 |.h ..=>[]
 |.w _ i=>[.ls i]
 |.m _ j _=>[.ml j]
def PC.ZW:PC->List It
 |.h _ _ y=>y.ZW
 |_=>[]
def CT.items(ct:CT):List It:=ct.pl.flatMap PC.rts++(ct.nb.flatMap NB.rts++(ct.out.flatMap RO.ZW++(ct.pl.flatMap PC.ZW++ct.nb.flatMap NB.ZW)))
@[reducible] def pS:List CT->Type
 |[]=>Empty
 |[c]=>dB c.items
 |c::d::a=>dB c.items ⊕ pS (d::a)
def altK{R:Type}:(cs:List CT)->pS cs->((c:CT)->dB c.items->Option R)->Option R
 |[],_,_=>none
 |[c],x,f=>f c x
 |c :: d :: cs, x, f => match x with
  |.inl a=>f c a
  |.inr b=>altK (d::cs) b f
structure MS where
 ρ:List (Nat×Nat)
 fz:List Nat
 rw:List kl
 cl:List kl
def pj(b:Nat):List (Nat×Nat)->Option Nat
 |[]=>none
 |(q,o)::l=>match Nat.beq q b with | true=>some o | false=>pj b l
def Gx(m b a:Nat)(s:MS):Option MS:=
 match Nat.blt b m with
 |true=>match Nat.beq b a with | true=>some s | false=>none
 |false => match pj b s.ρ with
  |some o=>match Nat.beq o a with | true=>some s | false=>none
  |none=>match Nat.ble m a with | true=>some { s with ρ:=(b,a)::s.ρ } | false=>none
def eqK:D->D->Bool
 |.c (.lit (.pointer none)),.c (.lit (.pointer none))=>true
 |.c (.lit (.map none)),.c (.lit (.map none))=>true
 |.c (.lit .nilFunc),.c (.lit .nilFunc)=>true
 |.c (.lit (.slice none 0 0)),.c (.lit (.slice none 0 0))=>true
 |.c (.fn (.func f) [] []),.c (.fn (.func g) [] [])=>Nat.beq f g
 |.c (.lit (.int k a)),.c (.lit (.int d b))=>decide (k=d)&&decide (a=b)
 |_,_=>false
def mCP(m:Nat)(σ1:TH)(p:CP)(x:TC)(s:MS):Option MS:=
 match p,x with
 |.c c, .own i b v n => match Ew c (BQ σ1 (.own i b v n)) with
  |some a=>some { s with fz:=b::s.fz,cl:=s.cl++[⟨.cc c,a⟩] }
  |none=>none
 |.c c, x => match Ew c x with
  |some a=>some { s with cl:=s.cl++[⟨.cc c,a⟩] }
  |none=>none
 |.cx,.cx u v=>some { s with cl:=s.cl++[⟨.cx,(u,v)⟩] }
 |.fp i,x=>match vG i (.c x) with | some a=>some { s with cl:=s.cl++[⟨.fp i,a⟩] } | none=>none
 |.hd b, .own _ e v _ => match σ1[e]? with
  |some (.row _ _ j _)=>match Nat.beq j v with | true=>Gx m b e s | false=>none
  |_=>none
 |.pt b off sz,.d (.ptr e h g)=>match Nat.beq off h&&Nat.beq sz g with | true=>Gx m b e s | false=>none
 |.mr b,.d (.mp e)=>Gx m b e s
 |.fb f b sz,.d (.fn (.func l) [] [.ptr e 0 g])=>match Nat.beq f l&&Nat.beq sz g with | true=>Gx m b e s | false=>none
 |.k d,.d q=>match eqK d q with | true=>some s | false=>none
 |_,_=>none
def Mr(m:Nat)(σ1:TH):List CP->List TC->MS->Option MS
 |[],[],s=>some s
 |p :: ps, x :: xs, s => match mCP m σ1 p x s with
  |some s1=>Mr m σ1 ps xs s1
  |none=>none
 |_,_,_=>none
def iI:List TC->List Nat
 |[]=>[]
 |.own _ b _ _::xs=>b::iI xs
 |_::xs=>iI xs
def ownsV:TV->List Nat
 |.c x=>iI [x]
 |.agg a=>iI a
 |_=>[]
def mRO(m:Nat)(σ1:TH)(p:RO)(v:TV)(s:MS):Option MS:=
 match p,v with
 |.v (.c c),v=>match qp (.c c) (fN σ1 v) with | some a=>some { s with fz:=ownsV v++s.fz,cl:=s.cl++[⟨.cc c,a⟩] } | none=>none
 |.v (.st i),v=>match qp (.st i) (fN σ1 v) with | some a=>some { s with fz:=ownsV v++s.fz,cl:=s.cl++[⟨.st i,a⟩] } | none=>none
 |.v (.fp i),v=>match qp (.fp i) (fN σ1 v) with | some a=>some { s with cl:=s.cl++[⟨.fp i,a⟩] } | none=>none
 |.p p,.c x=>mCP m σ1 p x s
 |.ag ps,.agg xs=>Mr m σ1 ps xs s
 |_,_=>none
def Jq(m:Nat)(σ1:TH):List RO->List TV->MS->Option MS
 |[],[],s=>some s
 |p :: ps, x :: xs, s => match mRO m σ1 p x s with
  |some s1=>Jq m σ1 ps xs s1
  |none=>none
 |_,_,_=>none
def Fw(m:Nat)(σ σ1:TH):List PC->MS->Option MS
 |[],s=>some s
 |.h b j p :: ps, s => match σ1[b]?, Nat.blt b m with
  |some (.cells _ e), true => match e[j]? with
   |some x => match mCP m σ1 p x.2 s with
    |some s1=>Fw m σ σ1 ps s1
    |none=>none
   |none=>none
  |_,_=>none
 |.w b i :: ps, s => match σ1[b]?, Nat.blt b m with
  |some (.row _ l _ _), true => match iy (i := i) l with
   |some a=>Fw m σ σ1 ps { s with rw:=s.rw++[⟨.ls i,a⟩] }
   |none=>none
  |_,_=>none
 |.m b j st :: ps, s => match σ1[b]?, Nat.blt b m with
  |some (.mp _ d l _), true => match st == d, MR (i := j) l with
   |true,some a=>Fw m σ σ1 ps { s with rw:=s.rw++[⟨.ml j,a⟩] }
   |_,_=>none
  |_,_=>none
def CZ(m:Nat)(σ1:TH):Nat->List NB->MS->Option MS
 |_,[],s=>some s
 |b, .cells ps :: d, s => match pj b s.ρ with
  |some e => match σ1[e]? with
   |some (.cells _ g) => match Mr m σ1 ps (g.map Prod.snd) s with
    |some s1=>CZ m σ1 (b+1) d s1
    |none=>none
   |_=>none
  |none=>none
 |b, .row i :: d, s => match pj b s.ρ with
  |some e => match σ1[e]? with
   |some (.row _ l _ _) => match iy (i := i) l with
    |some a=>CZ m σ1 (b+1) d { s with rw:=s.rw++[⟨.ls i,a⟩] }
    |none=>none
   |_=>none
  |none=>none
 |b, .mp j st :: d, s => match pj b s.ρ with
  |some e => match σ1[e]? with
   |some (.mp _ f l _) => match st == f, MR (i := j) l with
    |true,some a=>CZ m σ1 (b+1) d { s with rw:=s.rw++[⟨.ml j,a⟩] }
    |_,_=>none
   |_=>none
  |none=>none
def PC.pl:PC->Pl
 |.h b j _=>.h b j (.cc .bool)
 |.w b i=>.w b i
 |.m b j st=>.m b j st
def yg:List Nat->Bool
 |[]=>true
 |x::xs=>!(xs.any (Nat.beq x))&&yg xs
def Xl(ct:CT)(σ σ1:TH)(rs:List TV):Option (dB ct.items):=
 match ed (ct.pl.map PC.pl) 0 σ σ1 with
 |false=>none
 |true => match Jq σ.length σ1 ct.out rs ⟨[], [], [], []⟩ with
  |none=>none
  |some s1 => match Fw σ.length σ σ1 ct.pl s1 with
   |none=>none
   |some a => match CZ σ.length σ1 σ.length ct.nb a with
    |none=>none
    |some s => match yg (s.ρ.map Prod.snd) && (s.fz.all (λb => Nat.ble σ.length b && !((s.ρ.map Prod.snd).any (Nat.beq b))) && s.ρ.all λp => Nat.blt p.1 (σ.length + ct.nb.length)) with
     |true=>ui ct.items (s.rw++s.cl)
     |false=>none
def TX(σ σ1:TH)(rs:List TV):(cs:List CT)->Option (pS cs)
 |[]=>none
 |[c]=>Xl c σ σ1 rs
 |c :: d :: cs => match Xl c σ σ1 rs with
  |some a=>some (.inl a)
  |none => match TX σ σ1 rs (d :: cs) with
   |some b=>some (.inr b)
   |none=>none
def b_(σ:TH):List PC->List kl->Option (TH×List kl)
 |[],ds=>some (σ,ds)
 |.h ..::ps,ds=>b_ σ ps ds
 |.w b i :: ps, d :: ds => match kI (.ls i) d, σ[b]? with
  |some l, some (.row j _ a e) => match Nat.beq j i with
   |true=>b_ (σ.set b (.row i l (a+1) (e+1))) ps ds
   |false=>none
  |_,_=>none
 |.m b j st :: ps, d :: ds => match kI (.ml j) d, σ[b]? with
  |some l,some (.mp _ _ _ v)=>b_ (σ.set b (.mp j st l (v+1))) ps ds
  |_,_=>none
 |_,[]=>none
def dv:List NB->List kl->Option (TH×List kl)
 |[],ds=>some ([],ds)
 |.cells _::b,ds=>match dv b ds with | some (l,r)=>some (.cells 0 []::l,r) | none=>none
 |.row i::b,d::ds=>match kI (.ls i) d,dv b ds with | some a,some (l,r)=>some (.row i a 0 0::l,r) | _,_=>none
 |.mp j st::b,d::ds=>match kI (.ml j) d,dv b ds with | some a,some (l,r)=>some (.mp j st a 0::l,r) | _,_=>none
 |_,[]=>none
def s_(e:TH)(p:CP)(ds:List kl):Option (TC×List kl):=
 match p,ds with
 |.c c,d::ds=>match kI (.cc c) d with | some a=>some (rZ c a,ds) | none=>none
 |.cx,d::ds=>match kI .cx d with | some a=>some (.cx a.1 a.2,ds) | none=>none
 |.fp i,d::ds=>match kI (.fp i) d with | some a=>some (.fp i a 0,ds) | none=>none
 |.hd b,ds=>match e[b]? with | some (.row i l g _)=>some (.own i b g l.length,ds) | _=>none
 |.pt b off sz,ds=>match Nat.blt b e.length with | true=>some (.d (.ptr b off sz),ds) | false=>none
 |.mr b,ds=>match Nat.blt b e.length with | true=>some (.d (.mp b),ds) | false=>none
 |.fb f b sz,ds=>match Nat.blt b e.length with | true=>some (.d (.fn (.func f) [] [.ptr b 0 sz]),ds) | false=>none
 |.k d,ds=>match d.low 0 with | true=>some (.d d,ds) | false=>none
 |_,_=>none
def yT(a:TH):List CP->List kl->Option (List TC×List kl)
 |[],ds=>some ([],ds)
 |p :: ps, ds => match s_ a p ds with
  |some (x, b) => match yT a ps b with
   |some (xs,r)=>some (x::xs,r)
   |none=>none
  |none=>none
def yz(b:TH)(p:RO)(ds:List kl):Option (TV×List kl):=
 match p,ds with
 |.v (.c c),d::ds=>match kI (.cc c) d with | some a=>some (.c (rZ c a),ds) | none=>none
 |.v (.st i),d::ds=>match kI (.st i) d with | some a=>some (.agg (exp i a),ds) | none=>none
 |.v (.fp i),d::ds=>match kI (.fp i) d with | some a=>some (.c (.fp i a 0),ds) | none=>none
 |.p p,ds=>match s_ b p ds with | some (x,r)=>some (.c x,r) | none=>none
 |.ag ps,ds=>match yT b ps ds with | some (xs,r)=>some (.agg xs,r) | none=>none
 |_,_=>none
def ky(a:TH):List RO->List kl->Option (List TV×List kl)
 |[],ds=>some ([],ds)
 |p :: ps, ds => match yz a p ds with
  |some (x, b) => match ky a ps b with
   |some (xs,r)=>some (x::xs,r)
   |none=>none
  |none=>none
def dP(a:TH):List PC->TH->List kl->Option (TH×List kl)
 |[],σ,ds=>some (σ,ds)
 |.h b j p :: ps, σ, ds => match s_ a p ds, σ[b]? with
  |some (x,r),some (.cells w d)=>dP a ps (σ.set b (.cells (w+1) (d.set j (w+1,x)))) r
  |_,_=>none
 |_::ps,σ,ds=>dP a ps σ ds
def dK(a:TH):List NB->TH->List kl->Option TH
 |[],_,_=>some []
 |.cells ps :: d, _ :: bs, ds => match yT a ps ds with
  |some (xs, r) => match dK a d bs r with
   |some l=>some (.cells 0 (xs.map λx=>(0,x))::l)
   |none=>none
  |none=>none
 |_ :: d, b :: bs, ds => match dK a d bs ds with
  |some l=>some (b::l)
  |none=>none
 |_,_,_=>none
def mc(ct:CT)(σ:TH)(x:dB ct.items):Option (List TV×TH):=
 match b_ σ ct.pl (dO ct.items x) with
 |none=>none
 |some (iF, d1) => match dv ct.nb d1 with
  |none=>none
  |some (nb, d2) => match ky (iF ++ nb) ct.out d2 with
   |none=>none
   |some (a, d3) => match dP (iF ++ nb) ct.pl iF d3 with
    |none=>none
    |some (aC, d4) => match dK (iF ++ nb) ct.nb nb d4 with
     |some l=>some (a,aC++l)
     |none=>none
def vI:List TV->TV
 |[v]=>v
 |a=>.aT (a.map teT)
def fnT:TV->Option (FuncId×List TV×List TV)
 |.c (.d (.c (.fn (.func g) a b)))=>some (g,a.map (λx=>Hf (.c x)),b.map λx=>Hf (.c x))
 |.c (.d (.fn (.func g) a b))=>some (g,a.map Hf,b.map Hf)
 |.c (.Fx g xs)=>some (g,[.agg (xs.map cvT)],[])
 |_=>none
def PC.blk:PC->Nat
 |.h b _ _=>b
 |.w b _=>b
 |.m b _ _=>b
def PC.rs:PC->Bool
 |.w ..=>true
 |_=>false
def okT(al:TA):kE->Bool
 |.load _ (.t a)=>(iC a al).isSome
 |_=>true
structure Hm where
 P:Program
 S:sC
 H:List (Nat×Nat)
 J:List (Nat×JH)
 C:List (Nat×List CT)
 n:Nat
 N:Nat
 inl:(cs:List CT)->FuncId->List TV->TH->Option (pS cs)
 exa:CT->FuncId->List TV->TH->Option (List TV×TH)
 rs:List CT->FuncId->List TV->TH->List CT
def exOf:List CT->Option CT
 |[a] => match a.H with
  |(k,_)::_=>match Nat.beq k 1000002 with | true=>some a | false=>none
  |_=>none
 |_=>none
def iH(g:Hm)(q:Nat)(o:aG):Option (List CT):=
 match g.C with
 |[]=>none
 |C => match o.op, o.dst with
  |.call _ _,some t=>ctk (q * 65536+t) C
  |_,_=>none
def altOf(g:Hm)(q:Nat)(o:aG)(n b:Nat)(cs:List CT):List CT:=
 match o.dst with
 |some t => match ctk (q * 65536 + t + 1099511627776 * (n + 1)) g.C with
  |some a=>a
  |none => match ctk (q * 65536 + t + 1208925819614629174706176 * (b + 1)) g.C with
   |some a=>a
   |none=>cs
 |none=>cs
def QD(o o':aG):Bool:=match o.dst,o'.dst with | some a,some b=>Nat.beq a b | _,_=>false
def kR(g:Hm)(q:Nat):List aG->Bool
 |[]=>true
 |o :: os => (match iH g q o with
  |some _=>!(os.any (QD o))
  |none=>!(os.any λa=>QD o a&&(iH g q a).isSome))&&kR g q os
def Tb(g:Hm)(q:Nat)(os:List aG):Bool:=match g.C with | []=>true | _=>kR g q os
def Bq(a b:Nat)(k:Option R):Option R:=match Nat.beq a b with | true=>k | false=>none
def Dr:TB->TB->Option R->Option R
 |.cells _ xs,.cells _ a,k=>Bq xs.length a.length k
 |.row i l _ _,.row j m _ _,k=>match Nat.beq i j with | true=>Bq l.length m.length k | false=>none
 |.mp ..,.mp ..,k=>k
 |_,_,_=>none
def Ru(σ σ1:TH):List Nat->Option R->Option R
 |[],k=>k
 |b::bs,k=>match σ[b]?,σ1[b]? with | some x,some y=>Dr x y (Ru σ σ1 bs k) | _,_=>none
def gE(g:Hm)(q:Nat):Nat->Nat->List aG->Kn->TA->TH->KS R->Option R
  |0,_,_,_,_,_,_=>none
  |_+1,_,[],_,i,σ,K=>K i σ []
  |l + 1, k, o :: os, kn, i, σ, K=>
    match (match o.dst with | some t=>Nat.blt t g.n | none=>true) with
    |false=>none
    |true=>
    match tGd i kn o.g with
    |.bad=>none
    |.Tx t x=>gE g q l k (o::os) kn ((t,.v x)::i) σ K
    |.spl e p=>if e=true then gE g q l k (o::os) ((p,true)::kn) i σ K else gE g q l k (o::os) ((p,false)::kn) i σ K
    |.shut => match o.dst with
      |none=>none
      |some t => match okT i o.op with
        |false=>none
        |true=>gE g q l (k-1) os kn ((t,.v (.c (.d (.aT []))))::i) σ λd h j=>K d h (Di o 0 none [] σ.length σ.length::j)
    |.sym e p w=>
      match xc o.op,o.dst with
      |true, some t=>
        match h_ (R:=TV) g.P g.S 0 o.op (Fu i kn (some (p,w))) σ λv _ _ _=>some v with
        |some v=>gE g q l (k-1) os kn ((t,.g e w p v)::i) σ λd h j=>K d h (Di o (cat o.op) (blkT (Fu i kn (some (p,w))) o.op) [] σ.length σ.length::j)
        |none=>none
      |_,_=>if e=true then gE g q l k (o::os) ((p,true)::kn) i σ K else gE g q l k (o::os) ((p,false)::kn) i σ K
    |.TL=>
      match iH g q o with
      |some s=>
        match o.op with
        |.call f args => match Fu i kn none f, Ml (Fu i kn none) args with
          |some F, some A => match fnT F with
            |some (z,a,b)=>match g.rs (altOf g q o σ.length z s) z (a++A++b) σ with
             |s=>match exOf s with
              |some m=>(g.exa m z (a++A++b) σ).bind λp=>gE g q l (k-1) os kn (YD o.dst (.v (vI p.1)) i) p.2 λd h j=>K d h (Di o (cat o.op) none [] σ.length p.2.length::j)
              |none=>(g.inl s z (a++A++b) σ).bind λx=>altK s x λm x=>match mc m σ x with
              |some (E, σ1) => match Nat.beq k 0 || !(m.pl.any PC.rs) with
                |true=>gE g q l (k-1) os kn (YD o.dst (.v (vI E)) i) σ1 λd h j=>K d h (Di o (cat o.op) none (m.pl.map PC.blk) σ.length σ1.length::j)
                |false=>Ru σ σ1 (m.pl.map PC.blk) (gE g q l (k-1) os kn (YD o.dst (.v (vI E)) i) σ1 λd h j=>K d h (Di o (cat o.op) none (m.pl.map PC.blk) σ.length σ1.length::j))
              |none=>none
            |none=>none
          |_,_=>none
        |_=>none
      |none=>
      match o.op,o.dst with
      |.pick (.t c) x y, some t=>
        match iC c i with
        |some (.v G, p)=>
          match gdC kn p G with
          |.TL => match Fu i ((p, true) :: kn) none x with
            |some v=>gE g q l (k-1) os kn ((t,.v v)::i) σ λd h j=>K d h (Di o (cat o.op) none [] σ.length σ.length::j)
            |none=>none
          |.shut => match Fu i ((p, false) :: kn) none y with
            |some v=>gE g q l (k-1) os kn ((t,.v v)::i) σ λd h j=>K d h (Di o (cat o.op) none [] σ.length σ.length::j)
            |none=>none
          |.sym e p _ => match Fu i kn (some (p, true)) x, Fu i kn (some (p, false)) y with
            |some u, some v => match SK u, SK v with
              |some u,some v=>gE g q l (k-1) os kn ((t,.v (pkV e u v))::i) σ λd h j=>K d h (Di o (cat o.op) none [] σ.length σ.length::j)
              |_,_=>none
            |_,_=>none
          |_=>none
        |_=>none
      |op,dst=>h_ g.P g.S (hintOf g.H dst) op (Fu i kn none) σ λv σ1 rs wr=>
          match Nat.beq k 0 || !rs with
          |true=>gE g q l (k-1) os kn (YD dst (.v v) i) σ1 λd h j=>K d h (Di o (cat op) (blkT (Fu i kn none) op) wr σ.length σ1.length::j)
          |false=>none
def Vh(al:TA)(σ:TH):(p:Pl)->Option p.dn
 |.r t c => match NH t al with
  |some (.v x)=>qp c x
  |_=>none
 |.w b _ => match σ[b]? with
  |some (.row _ l _ _)=>iy l
  |_=>none
 |.h b j c => match σ[b]? with
  |some (.cells _ d) => match d[j]? with
   |some x=>rdI c x.2
   |none=>none
  |_=>none
 |.m b _ st => match σ[b]? with
  |some (.mp _ a l _)=>match st == a with | true=>MR l | false=>none
  |_=>none
def LW(al:TA)(σ:TH):(ps:List Pl)->Option (qI ps)
 |[]=>some ()
 |[p]=>Vh al σ p
 |p :: q :: ps => match Vh al σ p, LW al σ (q :: ps) with
  |some a,some b=>some (a,b)
  |_,_=>none
def YA(p:Pl)(x:p.dn)(al:TA):TA:=
 match p,x with
 |.r t c,x=>(t,.v (c.tv x))::al
 |_,_=>al
def HC:(ps:List Pl)->qI ps->TA->TA
 |[],_,a=>a
 |[p],x,a=>YA p x a
 |p::q::ps,x,a=>YA p x.1 (HC (q::ps) x.2 a)
def UV(p:Pl)(x:p.dn)(σ:TH):TH:=
 match p,x with
 |.w b i, x => match σ[b]? with
  |some (.row _ _ a d)=>σ.set b (.row i x (a+1) (d+1))
  |_=>σ
 |.h b j c, x => match σ[b]? with
  |some (.cells w e)=>σ.set b (.cells (w+1) (e.set j (w+1,XL c x)))
  |_=>σ
 |.m b j st, x => match σ[b]? with
  |some (.mp _ _ _ v)=>σ.set b (.mp j st x (v+1))
  |_=>σ
 |_,_=>σ
def rK:(ps:List Pl)->qI ps->TH->TH
 |[],_,σ=>σ
 |[p],x,σ=>UV p x σ
 |p::q::ps,x,σ=>UV p x.1 (rK (q::ps) x.2 σ)
def Pp(σ:TH):List (Nat×Nat)->TA->TA
 |[],a=>a
 |(t, b) :: hs, a => match σ[b]? with
  |some (.row i l d _)=>(t,.v (.c (.own i b d l.length)))::Pp σ hs a
  |_=>Pp σ hs a
def GF(md:List Nat)(al:TA):TA:=(md.filter λt=>(NH t al).isSome).map (λt=>(t,.v (.c .any)))++al
def dN:aP->List Nat
 |.Bc d=>d.filterMap (·.dst)
 |.Hb d _ _ _=>d.filterMap (·.dst)
 |.seq a b=>dN a++dN b
 |.cond _ a b=>dN a++dN b
 |.block _ b=>dN b
 |.loop b=>dN b
 |.Va _ a r=>dN a++dN r
 |_=>[]
def YG(al:TA)(σ:TH)(hs:List (Nat×Nat)):Bool:=
 hs.all λ(t,b)=>match NH t al,σ[b]? with
  |some (.v (.c (.own i a v _))),some (.row j _ d _)=>Nat.beq a b&&(Nat.beq v d&&Nat.beq i j)
  |_,_=>false
def rowAt(σ:TH)(b:Nat):Bool:=match σ[b]? with | some (.row ..)=>true | _=>false
def Jz(hs:List (Nat×Nat))(md:List Nat)(al:TA)(σ:TH)(a:TA):Bool:=(a.take (a.length-al.length)).all λp=>md.any (Nat.beq p.1) || hs.any λz=>Nat.beq z.1 p.1&&rowAt σ z.2
def NT(h:JH)(md:List Nat)(al:TA)(σ:TH)(a:TA)(σ1:TH):Option (qI h.pl):=
 match Jz h.hs md al σ a&&(ed (h.pl++KR h.zs) 0 σ σ1&&(YG a σ1 h.hs&&Wl σ.length σ1 h.zs)) with
 |true=>LW a σ1 h.pl
 |false=>none
def Co(m:Nat)(σ:TH):TC->TC
 |.own i b v n => match Nat.blt b m with
  |true=>.own i b v n
  |false => match σ[b]? with
   |some (.row j l e _)=>match Nat.beq e v with | true=>.sl j l | false=>.any
   |_=>.any
 |.op i b v n k a o=>match Nat.blt b m with | true=>.op i b v n k a o | false=>.any
 |.ap b off len sz k=>match Nat.blt b m with | true=>.ap b off len sz k | false=>.any
 |.os i b v n f len=>match Nat.blt b m with | true=>.os i b v n f len | false=>.any
 |.d x=>match x.low m with | true=>.d x | false=>.any
 |.Fx g d=>match d.all (CV.low m) with | true=>.Fx g d | false=>.any
 |x=>x
def BU(m:Nat)(σ:TH):RV->RV
 |.v (.c x)=>.v (.c (Co m σ x))
 |.v (.agg xs)=>.v (.agg (xs.map (Co m σ)))
 |_=>.v (.c .any)
def frzA(m:Nat)(σ:TH):Nat->TA->TA
 |0,a=>a
 |_+1,[]=>[]
 |k+1,(t,x)::a=>(t,BU m σ x)::frzA m σ k a
def okC(m:Nat):TC->Bool
 |.own _ b _ _=>Nat.blt b m
 |.op _ b _ _ _ _ _=>Nat.blt b m
 |.ap b _ _ _ _=>Nat.blt b m
 |.os _ b _ _ _ _=>Nat.blt b m
 |.d x=>x.low m
 |.Fx _ a=>a.all (CV.low m)
 |_=>true
def okB(m:Nat):TB->Bool
 |.cells _ a=>a.all λp=>okC m p.2
 |_=>true
def FM(h:JH)(md:List Nat)(al:TA)(σ:TH)(a:TA)(σ1:TH):Option (qI h.pl):=
 match (σ1.take σ.length).all (okB σ.length) with
 |true=>NT h md al σ (frzA σ.length σ1 (a.length-al.length) a) (σ1.take σ.length)
 |false=>NT h md al σ a σ1
def cP(h:JH)(md:List Nat)(al:TA)(σ:TH)(x:qI h.pl):TH:=Nv h.zs (rK h.pl x σ)
def dU(h:JH)(md:List Nat)(al:TA)(σ:TH)(x:qI h.pl):TA:=HC h.pl x (Pp (rK h.pl x σ) h.hs (GF md al))
def nrC(t:Nat):TC->Bool
 |.own _ b _ _=>!Nat.beq b t
 |.op _ b _ _ _ _ _=>!Nat.beq b t
 |.ap b _ _ _ _=>!Nat.beq b t
 |.os _ b _ _ _ _=>!Nat.beq b t
 |.d x=>x.low t
 |.Fx _ a=>a.all (CV.low t)
 |_=>true
def nrV(t:Nat):TV->Bool
 |.c x=>nrC t x
 |.agg a=>a.all (nrC t)
 |.aT a=>a.all λp=>p.2.all (nrC t)
def nrR(t:Nat):RV->Bool
 |.v x=>nrV t x
 |.g _ _ _ x=>nrV t x
def cutC(t:Nat)(x:TC):TC:=match nrC t x with | true=>x | false=>.any
def cutR(t:Nat):RV->RV
 |.v (.c x)=>.v (.c (cutC t x))
 |.v (.agg xs)=>.v (.agg (xs.map (cutC t)))
 |_=>.v (.c .any)
def cutP(t w:Nat)(p:Nat×TC):Nat×TC:=match nrC t p.2 with | true=>p | false=>(w+1,.any)
def cutB(t:Nat):TB->TB
 |.cells w a=>.cells (w+1) (a.map (cutP t w))
 |x=>x
def dflC:(c:CC)->c.dn
 |.int _=>(0:Int)
 |.bool=>false
 |.str=>ByteArray.empty
 |.sl _=>[]
 |.fk _=>0
def dflT:(cs:List CC)->aT cs
 |[]=>()
 |c::cs=>(dflC c,dflT cs)
def dfl(i:Nat):TT i:=Y.mkt i (dflT (Y.fl i))
def mvA(n t b j:Nat)(al:TA)(σ:TH):Option (TA×TH):=
 match σ[b]? with
 |some (.cells w a) => match a[j]? with
  |some (_, .own _ r v _) => match Nat.beq r t with
   |true=>some (al,σ)
   |false => match σ[r]?, σ[t]? with
    |some (.row i1 l d e), some (.row i2 _ lt f) => match Nat.beq v d && (Nat.beq i2 i1 && (al.drop n).all λp => nrR t p.2) with
     |true => some ((al.take n).map (λp => (p.1, cutR t p.2)) ++ al.drop n,
      (((σ.map (cutB t)).set t (.row i1 l (lt+1) (f+1))).set r (.row i1 (l++[dfl i1]) (d+1) (e+1))).set b (.cells (w+2) ((a.map (cutP t w)).set j (w+2,.own i1 t (lt+1) l.length))))
     |false=>none
    |_,_=>none
  |_=>none
 |_=>none
def mvL(n:Nat):List (Nat×Nat×Nat)->TA->TH->Option (TA×TH)
 |[],a,σ=>some (a,σ)
 |(b, j, t) :: zs, a, σ => match mvA n t b j a σ with
  |some (a,σ)=>mvL n zs a σ
  |none=>none
def mvs(m:Nat)(zs:List (Nat×Nat×Nat)):List (Nat×Nat×Nat):=zs.filter λz=>Nat.ble m z.2.2
def jn{X:Type}(r:X->Option R)(b:(X->Option R)->Option R):Option R:=b r
def bF{X:Type}(b:(X->Option R)->X->Option R):Nat->X->Option R
 |0,_=>none
 |n+1,x=>b (bF b n) x
def jhk(p:Nat):List (Nat×JH)->Option JH
 |[]=>none
 |(q,h)::l=>match Nat.beq q p with | true=>some h | false=>jhk p l
def jhl(p n:Nat)(J:List (Nat×JH)):Option JH:=match jhk (p+1099511627776 * (n+1)) J with
 |some h=>some h
 |none=>jhk p J
abbrev KC(R:Type):=ni->TA->TH->Option R
def isApp(os:List aG):Bool:=(os.any λo=>match o.op with | .append ..=>true | _=>false)&&os.any λo=>match o.op with | .xy ..=>true | _=>false
def rsCall(g:Hm)(q:Nat)(os:List aG):Bool:=match g.C with
 |[]=>false
 |_ => os.any λo => match iH g q o with
  |some b=>b.any λa=>a.pl.any PC.rs || a.H.any λp=>Nat.beq p.1 1000005
  |none=>false
def lpU{X:Type}(b:(TA->TH->Option X)->TA->TH->Option X):Nat->TA->TH->Option X
 |0,_,_=>none
 |n+1,a,σ=>b (lpU b n) a σ
def capOk(a:Nat)(ps:List Pl):Bool:=ps.all λp=>match p with | .h b _ _=>!Nat.beq b a | _=>true
def itF{X:Type}(i:Nat)(l:List (TT i))(s:bJ)(k:(j:Nat)->List (TT j)->Option X):Option X:=match s with
 | ⟨[.c (.sl a)], [.c (.sl j)], f⟩ => match iy (i := a) l with
  |some l=>(f (l,())).bind λr=>k j r
  |none=>none
 |_=>none
def ZZ{T X:Type}(b:T->X->(X->Option R)->Option R)(k:X->Option R):List T->X->Option R
 |[],x=>k x
 |a::l,x=>b a x (ZZ b k l)
def XD(t:Nat)(al:TA)(σ:TH):Option TC:=match Nat.ble 1048576 t with
 |true => match σ[(t - 1048576) / 1024]? with
  |some (.cells _ a)=>match a[(t-1048576) % 1024]? with | some (_,x)=>some x | none=>none
  |_=>none
 |false=>match NH t al with | some (.v (.c x))=>some x | _=>none
def setL(t:Nat)(x:TC)(al:TA)(σ:TH):TA×TH:=match Nat.ble 1048576 t with
 |true => match σ[(t - 1048576) / 1024]? with
  |some (.cells w a)=>(al,σ.set ((t-1048576) / 1024) (.cells (w+1) (a.set ((t-1048576) % 1024) (w+1,x))))
  |_=>(al,σ)
 |false=>((t,.v (.c x))::al,σ)
def HI(t b:Nat):Bool:=match Nat.ble 1048576 t with | true=>!Nat.beq ((t-1048576) / 1024) b | false=>true
def Nc:List (Nat×Nat)->TA->TH->Option (TA×TH)
 |[],d,σ=>some (d,σ)
 |(t, i) :: os, d, σ => match XD t d σ with
  |some (.own _ b v _) => match σ[b]? with
   |some (.row j l f g) => match Nat.beq f v && HI t b with
    |true=>match setL t (.sl j l) d (σ.set b (.row j (l++[dfl j]) (f+1) (g+1))) with | (d,σ)=>Nc os d σ
    |false=>none
   |_=>none
  |some (.d (.ptr b 0 sz)) => match σ[b]? with
   |some (.cells w e) => match Nat.beq e.length sz && HI t b, mkT i (e.map Prod.snd) with
    |true,some a=>match setL t (.fp i a 0) d (σ.set b (.cells (w+1) (e++[(w+1,.any)]))) with | (d,σ)=>Nc os d σ
    |_,_=>none
   |_=>none
  |_=>none
def VL(g:Hm)(q:Nat):List (Nat×Nat×Nat)->List aG->TA->TH->(TA->TH->Option R)->Option R
 |[],os,d,σ,K=>gE g q 1000 0 os [] d σ λa b _=>K a b
 |(k, t, i) :: zs, os, d, σ, K => gE g q 1000 0 (os.take k) [] d σ λa b _ => match Nc [(t, i)] a b with
  |some (e,aC)=>VL g q zs (os.drop k) e aC K
  |none=>none
def Xi:List (Nat×Nat)->TA->TH->(TA->Option R)->Option R
 |[],a,_,k=>k a
 |(t, _) :: hs, a, σ, k => match NH t a with
  |some (.v (.c (.own i b _ n))) => match σ[b]? with
   |some (.row j l d _) => match Nat.beq j i with
    |true=>Bq n l.length (Xi hs ((t,.v (.c (.own j b d l.length)))::a) σ k)
    |false=>none
   |_=>none
  |_=>none
def unrOf(h:JH):Option Nat:=match h.os with
 |[(k,n)]=>match Nat.beq k 1000003 with | true=>some n | false=>none
 |_=>none
def tC(g:Hm):aP->Nat->TA->TH->KC R->Option R
 |.skip,_,d,σ,K=>K .normal d σ
 |.Bc os, q, d, σ, K => match jhl q σ.length g.J with
  |none => match Tb g q os with
   |true=>gE g q 1000 0 os [] d σ λm t _=>K .normal m t
   |false=>none
  |some h => match Nc h.os d σ, Tb g q os with
   |some (d,σ),true=>VL g q h.zs os d σ λm t=>Xi h.hs m t λm=>K .normal m t
   |_,_=>none
 |.Hb os u k p, q, d, σ, K=>
  match Tb g q os with
  |false=>none
  |true=>
  match isApp os with
  |true=>gE g q 1000 os.length os [] d σ λm t v=>match eH u v&&mU u p os.length os.length&&Nat.ble p os.length with | true=>K .normal m t | false=>none
  |false => match RP os u with
   |some (pi, _, G) => match Tb g q (oa pi os) with
    |true=>gE g q 1000 G (oa pi os) [] d σ λm t v=>match Ph u pi v with | true=>K .normal m t | false=>none
    |false=>none
   |none=>match rsCall g q os&&mU u p (Ve os) os.length with
   |true=>gE g q 1000 (Ve os) os [] d σ λm t v=>match eH u v&&mU u p (Ve os) os.length&&Nat.ble p (Ve os) with | true=>K .normal m t | false=>none
   |false=>gE g q 1000 k os [] d σ λm t v=>match eH u v&&mU u p k os.length&&Nat.ble p k with | true=>K .normal m t | false=>none
 |.seq a b, q, d, σ, K=>
  match jhl q σ.length g.J with
  |none => tC g a (2 * q) d σ λx f σ1 => match x with
   |.normal=>tC g b (2 * q+1) f σ1 K
   |x=>K x f σ1
  |some h => match Fh h.os d σ with
   |none=>none
   |some (d, σ) => jn (λx => tC g b (2 * q + 1) (dU h (dN a) d σ x) (cP h (dN a) d σ x) K) λj=>
    tC g a (2 * q) d σ λx f σ1=>match x with
     |.normal=>match FM h (dN a) d σ f σ1 with | some x=>j x | none=>none
     |x=>K x f σ1
 |.cond c a b, q, d, σ, K=>
  match Fu d [] none c with
  |some (.c (.d (.c (.lit (.bool true)))))=>tC g a (2 * q) d σ K
  |some (.c (.d (.c (.lit (.bool false)))))=>tC g b (2 * q+1) d σ K
  |some (.c (.b e))=>if e=true then tC g a (2 * q) d σ K else tC g b (2 * q+1) d σ K
  |_=>none
 |.block id b, q, d, σ, K => tC g b (2 * q) d σ λx f σ1 => match x with
  |.exit i=>match Nat.beq i id with | true=>K .normal f σ1 | false=>K (.exit i) f σ1
  |x=>K x f σ1
 |.loop b, q, d, σ, K=>
  match jhl q σ.length g.J with
  |none=>none
  |some h => match unrOf h with
   |some n => lpU (λrec d σ => tC g b (2 * q) d σ λex f σ1 => match ex with
    |.normal=>rec f σ1
    |ex=>K ex f σ1) n d σ
   |none=>match Fh h.os d σ with
   |none=>none
   |some (d,σ)=>match mvs σ.length h.zs with
   |_::_=>none
   |[]=>match NT h (dN b) d σ d σ with
   |none=>none
   |some w => bF (λrec x=>
    tC g b (2 * q) (dU h (dN b) d σ x) (cP h (dN b) d σ x) λex f σ1=>match ex with
     |.normal=>match FM h (dN b) (dU h (dN b) d σ x) (cP h (dN b) d σ x) f σ1 with | some z=>rec z | none=>none
     |ex=>K ex f σ1) g.N w
 |.exit id,_,d,σ,K=>K (.exit id) d σ
 |.ret,_,d,σ,K=>K .ret d σ
 |.ZO _,_,d,σ,K=>K .normal d σ
 |.Va l a r, q, d, σ, K=>
  match jhl q σ.length g.J with
  |none => tC g a (2 * q) d σ λex f σ1 => match ex with
   |.exit i => match Nat.beq i (2 * l + 1) with
    |true => tC g r (2 * q + 1) f σ1 λex A E => match ex with
     |.exit i=>match Nat.beq (i % 2) 0 with | true=>K (.exit i) A E | false=>none
     |ex=>K ex A E
    |false=>match Nat.beq (i % 2) 0 with | true=>K (.exit i) f σ1 | false=>none
   |ex=>K ex f σ1
  |some h => tC g a (2 * q) d σ λex f σ1 => match ex with
   |.exit i => match Nat.beq i (2 * l + 1) with
    |true => match FM h (dN a ++ dN r) d σ f σ1 with
     |none=>none
     |some w => bF (λrec x => tC g r (2 * q + 1) (dU h (dN a ++ dN r) d σ x) (cP h (dN a ++ dN r) d σ x) λex f σ1 => match ex with
      |.exit i => match Nat.beq i (2 * l + 1) with
       |true=>match FM h (dN a++dN r) (dU h (dN a++dN r) d σ x) (cP h (dN a++dN r) d σ x) f σ1 with | some z=>rec z | none=>none
       |false=>match Nat.beq (i % 2) 0 with | true=>K (.exit i) f σ1 | false=>none
      |ex=>K ex f σ1) g.N w
    |false=>match Nat.beq (i % 2) 0 with | true=>K (.exit i) f σ1 | false=>none
   |ex=>K ex f σ1
 |.Vj o ps a b, q, d, σ, K=>
  match jhl q σ.length g.J with
  |none=>none
  |some h => match Fh h.os d σ with
   |none=>none
   |some (d, σ) => match NT h [] d σ d σ, ps with
    |some w, [p] => match Fu (dU h [] d σ w) [] none o with
     |some (.c (.d (.fn (.func gf) [] [.ptr F 0 1]))) => match σ[F]?, ZI (gf + 1048576) g.S, Nat.blt p g.n && (aU g.P gf && capOk F (h.pl ++ KR h.zs)) with
      |some (.cells _ [(_,.sl i l)]),some s,true=>itF i l s λj items=>ZZ (λy x rec=>tC g a (2 * q) ((p,.v (.agg (exp j y)))::dU h [] d σ x) (cP h [] d σ x) λex f σ1=>match ex with
        |.normal => tC g b (2 * q + 1) f σ1 λex _ E => match ex with
         |.normal=>match FM h [] (dU h [] d σ x) (cP h [] d σ x) (dU h [] d σ x) E with | some z=>rec z | none=>none
         |ex=>K ex (dU h [] d σ x) E
        |_=>none) (λx=>K .normal (dU h [] d σ x) (cP h [] d σ x)) items w
      |_,_,_=>none
     |_=>none
    |_,_=>none
 |.stuck,_,_,_,_=>none
def AU:Nat->List TV->TA
 |_,[]=>[]
 |i,d::ds=>(i,.v d)::AU (i+1) ds
def Fy(al:TA)(σ:TH):Nat×Option (Option Nat)->Option TV
 |(t,none)=>match NH t al with | some (.v x)=>some x | _=>none
 |(t, some n) => match NH t al with
  |some (.v (.c (.d (.ptr b off sz)))) => match σ[b]? with
   |some (.cells _ a)=>match Nat.beq a.length sz with | true=>An n (a.map Prod.snd) off | false=>none
   |_=>none
  |_=>none
def wT(σ:TH):(cs:List dr)->List TV->Option (lB cs)
 |[],[]=>some ()
 |[c],[x]=>qp c (fN σ x)
 |c :: d :: cs, x :: xs => match qp c (fN σ x), wT σ (d :: cs) xs with
  |some a,some b=>some (a,b)
  |_,_=>none
 |_,_=>none
def FI{α d:Type}(f:α->Option d):List α->Option (List d)
 |[]=>some []
 |x :: xs => match f x, FI f xs with
  |some a,some b=>some (a::b)
  |_,_=>none
structure dz where
 Af:CT
 On:List CT
 f:dB Af.items->Option (pS On)
abbrev NC:=List (Nat×dz)
def absS(a:CT)(σ:TH)(vs:List TV):Option (List (Nat×Nat)×dB a.items):=
 match Jq 0 σ a.out vs ⟨[],[],[],[]⟩ with
 |none=>none
 |some s1 => match CZ 0 σ 0 a.nb s1 with
  |none=>none
  |some s => match yg (s.ρ.map Prod.snd) && (s.fz.isEmpty && (a.pl.isEmpty && s.ρ.all λp => Nat.blt p.1 (0 + a.nb.length))) with
   |true => match ui a.items (s.rw ++ s.cl) with
    |some x=>some (s.ρ,x)
    |none=>none
   |false=>none
def xD:TC->Bool
 |.d (.c (.lit (.slice none 0 0)))=>true
 |_=>false
def Xa(σ:TH)(ρ:List (Nat×Nat)):Nat->TH->Bool
 |_,[]=>true
 |i, .cells _ a :: bs => (match σ[(pj i ρ).getD 0]? with
  |some (.cells _ xs)=>exC xs a
  |_=>false)&&Xa σ ρ (i+1) bs
 |i,_::bs=>Xa σ ρ (i+1) bs
where exC:List (Nat×TC)->List (Nat×TC)->Bool
 |(_,x)::xs,(_,y)::a=>(!(xD x) || xD y)&&exC xs a
 |_,_=>true
def Wv(n m:Nat)(ρ:List (Nat×Nat))(i:Nat):Nat:=match Nat.blt i n with | true=>(pj i ρ).getD 0 | false=>m+(i-n)
def eqVC:dr->dr->Bool
 |.c x,.c y=>decide (x=y)
 |.st i,.st j=>Nat.beq i j
 |.fp i,.fp j=>Nat.beq i j
 |.k g,.k h=>Nat.beq g h
 |_,_=>false
def rCP(ρ:Nat->Nat)(n:Nat):CP->CP->Bool
 |.c a,.c b=>decide (a=b)
 |.cx,.cx=>true
 |.fp a,.fp b=>Nat.beq a b
 |.hd b,.hd e=>Nat.beq (ρ b) e&&Nat.blt b n
 |.pt b o s,.pt e h g=>Nat.beq (ρ b) e&&(Nat.blt b n&&(Nat.beq o h&&Nat.beq s g))
 |.mr b,.mr e=>Nat.beq (ρ b) e&&Nat.blt b n
 |.fb f b s,.fb i e g=>Nat.beq (ρ b) e&&(Nat.blt b n&&(Nat.beq f i&&Nat.beq s g))
 |.k d,.k j=>eqK d j
 |_,_=>false
def PD(ρ:Nat->Nat)(n:Nat):List CP->List CP->Bool
 |[],[]=>true
 |p::ps,q::qs=>rCP ρ n p q&&PD ρ n ps qs
 |_,_=>false
def rRO(ρ:Nat->Nat)(n:Nat):RO->RO->Bool
 |.v a,.v b=>eqVC a b
 |.p a,.p b=>rCP ρ n a b
 |.ag a,.ag b=>PD ρ n a b
 |_,_=>false
def Tc(ρ:Nat->Nat)(n:Nat):List RO->List RO->Bool
 |[],[]=>true
 |p::ps,q::qs=>rRO ρ n p q&&Tc ρ n ps qs
 |_,_=>false
def rPC(ρ:Nat->Nat)(m0 n:Nat):PC->PC->Bool
 |.h b j p,.h a d f=>Nat.beq (ρ b) a&&(Nat.blt b m0&&(Nat.beq j d&&rCP ρ n p f))
 |.w b i,.w a g=>Nat.beq (ρ b) a&&(Nat.blt b m0&&Nat.beq i g)
 |.m b j st,.m a d e=>Nat.beq (ρ b) a&&(Nat.blt b m0&&(Nat.beq j d&&st == e))
 |_,_=>false
def AF(ρ:Nat->Nat)(m0 n:Nat):List PC->List PC->Bool
 |[],[]=>true
 |p::ps,q::qs=>rPC ρ m0 n p q&&AF ρ m0 n ps qs
 |_,_=>false
def rNB(ρ:Nat->Nat)(n:Nat):NB->NB->Bool
 |.cells a,.cells b=>PD ρ n a b
 |.row i,.row j=>Nat.beq i j
 |.mp j st,.mp e d=>Nat.beq j e&&st == d
 |_,_=>false
def zP(ρ:Nat->Nat)(n:Nat):List NB->List NB->Bool
 |[],[]=>true
 |p::ps,q::qs=>rNB ρ n p q&&zP ρ n ps qs
 |_,_=>false
def rCT(ρ:Nat->Nat)(m0:Nat)(a b:CT):Bool:=
 Tc ρ (m0+a.nb.length) a.out b.out&&(AF ρ m0 (m0+a.nb.length) a.pl b.pl&&zP ρ (m0+a.nb.length) a.nb b.nb)
def aae(ρ:Nat->Nat)(m0:Nat):List CT->List CT->Bool
 |[],[]=>true
 |a::as,b::bs=>rCT ρ m0 a b&&aae ρ m0 as bs
 |_,_=>false
theorem IG:∀{a b:List CT},a.map CT.items=b.map CT.items->pS a=pS b:=by
 intro a;induction a with
 |nil=>simp_all
 |cons x a ih=>
  intro b h;cases b with
  |nil=>simp at h
  |cons y b=>
   simp only[ql,yCe] at h;cases a with
   |nil => cases b with
    |nil=>grind
    |cons _ _=>simp at h
   |cons d a => cases b with
    |nil=>simp at h
    |cons e b=>grind
def inlS(O:NC)(cs:List CT)(d:FuncId)(vs:List TV)(σ:TH):Option (pS cs):=
 match cs with
 |[]=>none
 |a :: cs => match a.H with
  |[(_, k)] => match O[k]? with
   |some (g, s) => match Nat.beq g d, absS s.Af σ vs with
    |true, some (ρ, x) => match mc s.Af [] x with
     |some (_, b) => match Xa σ ρ 0 b && aae (Wv s.Af.nb.length σ.length ρ) s.Af.nb.length s.On (a :: cs) with
      |true => match decEq (s.On.map CT.items) ((a :: cs).map CT.items) with
       |.isTrue h=>cast (HE Option (IG h)) (s.f x)
       |.isFalse _=>none
      |false=>none
     |none=>none
    |_,_=>none
   |none=>none
  |_=>none
abbrev DL:=List CT->FuncId->List TV->TH->List CT
abbrev dh:=(a:List CT)->FuncId->List TV->TH->Option (pS a)
def QJ(ρ:Nat->Nat):CP->CP
 |.hd b=>.hd (ρ b)
 |.pt b o s=>.pt (ρ b) o s
 |.mr b=>.mr (ρ b)
 |.fb f b s=>.fb f (ρ b) s
 |p=>p
def renRO(ρ:Nat->Nat):RO->RO
 |.p p=>.p (QJ ρ p)
 |.ag a=>.ag (a.map (QJ ρ))
 |o=>o
def renPC(ρ:Nat->Nat):PC->PC
 |.h b j p=>.h (ρ b) j (QJ ρ p)
 |.w b i=>.w (ρ b) i
 |.m b j st=>.m (ρ b) j st
def renNB(ρ:Nat->Nat):NB->NB
 |.cells a=>.cells (a.map (QJ ρ))
 |n=>n
def renCT(ρ:Nat->Nat)(H:List (Nat×Nat))(c:CT):CT:=.mk (c.out.map (renRO ρ)) (c.pl.map (renPC ρ)) (c.nb.map (renNB ρ)) H [] []
def resK(O:NC)(a:FuncId)(vs:List TV)(σ:TH):List (Nat×Nat)->List CT
 |[]=>[]
 |(q, k) :: H => match Nat.beq q 1000000, O[k]? with
  |true, some (g, s) => match Nat.beq g a, absS s.Af σ vs with
   |true,some (ρ,_)=>s.On.map (renCT (Wv s.Af.nb.length σ.length ρ) [(1000000,k)])
   |_,_=>resK O a vs σ H
  |_,_=>resK O a vs σ H
def resO(O:NC):DL:=λa b d σ=>match a with
 |[.mk [] [] [] (p :: H) [] []] => match Nat.beq p.1 1000000 with
  |true=>resK O b d σ (p::H)
  |false=>a
 |a=>a
def isOS(ct:CT):Bool:=match ct.H with
 |[(k,_)]=>Nat.beq k 1000000
 |_=>false
abbrev NE:=CT->FuncId->List TV->TH->Option (List TV×TH)
def Yp(n:Nat):TC->Bool
 |.d x=>x.low n
 |.b _=>true
 |.sl _ _=>true
 |.fp _ _ _=>true
 |.fl _=>true
 |.cx _ _=>true
 |_=>false
def ZN(n:Nat):TV->Bool
 |.c x=>Yp n x
 |.agg a=>a.all (Yp n)
 |.aT _=>false
def sBlk(n:Nat):TB->Bool
 |.cells w a=>a.all λp=>Yp n p.2&&Nat.ble p.1 w
 |_=>false
def inl1(P:Program)(S:sC)(N:Nat)(B:dh)(i:DL)(I:dh)(X:NE):dh:=λb g e σ=>
 match b with
 |[]=>none
 |a :: b=>
  match isOS a with
  |true=>B (a::b) g e σ
  |false=>
  match P.funcs[g]? with
  |some f => match il P f true with
   |some d => match aU P g && Nat.ble e.length d.ntmps with
    |true => tC ⟨P, S, a.H, a.J, a.C, d.ntmps, N, I, X, i⟩ d.body 1 (AU 0 e) σ λx h σ1 => match x with
     |.exit _=>none
     |_ => match FI (Fy h σ1) d.results with
      |some rs=>TX σ σ1 rs (a::b)
      |none=>none
    |false=>none
   |none=>none
  |none=>none
def ex1(P:Program)(S:sC)(N:Nat)(h:DL)(I:dh)(X:NE):NE:=λb g e σ=>
 match P.funcs[g]? with
 |some f => match il P f true with
  |some a => match aU P g && Nat.ble e.length a.ntmps with
   |true => (tC (R := List TV × TH) ⟨P, S, b.H, b.J, b.C, a.ntmps, N, I, X, h⟩ a.body 1 (AU 0 e) σ λx d σ1 => match x with
    |.exit _=>none
    |_ => match FI (Fy d σ1) a.results with
     |some rs=>some (rs,σ1)
     |none => none).bind λp => match p.1.all (ZN p.2.length) && (ed [] 0 σ p.2 && (p.2.drop σ.length).all (sBlk p.2.length)) with
      |true=>some (p.1,σ++p.2.drop σ.length)
      |false=>none
   |false=>none
  |none=>none
 |none=>none
def PL(P:Program)(S:sC)(N:Nat)(B:dh)(a:DL):Nat->dh×NE
 |0=>(λ_ _ _ _=>none,λ_ _ _ _=>none)
 |d+1=>(inl1 P S N B a (PL P S N B a d).1 (PL P S N B a d).2,ex1 P S N a (PL P S N B a d).1 (PL P S N B a d).2)
def tF(P:Program)(S:sC)(B:dh)(d:DL)(H:List (Nat×Nat))(J:List (Nat×JH))(C:List (Nat×List CT))(e:Nat)(f:kN)(b out:List dr)(N:Nat)(a:rS b):Option (lB out):=
 tC ⟨P,S,H,J,C,f.ntmps,N,(PL P S N B d e).1,(PL P S N B d e).2,d⟩ f.body 1 (AU 0 (tvV b a)) [] λx g σ=>
  match x with
  |.exit _=>none
  |_ => match FI (Fy g σ) f.results with
   |some rs=>wT σ out rs
   |none=>none
end
end Go.Abs
end
section
namespace Go.Abs
section
variable[Gl][Y:Ty]
def GC(σ:TH):TC->Prop
 |.own i c v n=>∃blk,σ[c]? = some blk/\∀j l b d,blk=.row j l b d->v<=b/\(v=b->j=i/\n=l.length)
 |.op i c v n k a _=>∃blk,σ[c]? = some blk/\∀j l b d,blk=.row j l b d->v<=d/\(v=d->∃m:List (TT i),iy l=some m/\n=m.length/\aE m k=some a)
 |.ap c _ _ _ _=>c<σ.length
 |.os i c v n e len=>∃blk,σ[c]? = some blk/\∀j l b d,blk=.row j l b d->v<=b/\(v=b->j=i/\n=l.length/\e+len<=n)
 |.d x=>x.low σ.length=true
 |.Fx _ f=>f.all (CV.low σ.length)=true
 |_=>True
def GV(σ:TH):TV->Prop
 |.c x=>GC σ x
 |.agg a=>∀x∈a,GC σ x
 |.aT a=>∀p∈a,∀x∈p.2,GC σ x
structure RH (σ:TH) (σD:ar):Prop where
 len:σD.length=σ.length
 hp:∀(b:Nat) blk,σ[b]? = some blk->∃ob,σD[b]? = some ob/\RB blk ob
 hg:∀(b:Nat) w cs,σ[b]? = some (.cells w cs)->∀p∈cs,GC σ p.2/\p.1<=w
def BE:TB->TB->Prop
 |.cells w p,a=>∃w1 d,a=.cells w1 d/\w<=w1/\p.length<=d.length/\∀(j:Nat) v x e q,p[j]? = some (v,x)->d[j]? = some (e,q)->(e=v/\q=x)\/w<e
 |.row i l h s,a=>∃g b f,a=.row i g b f/\h<=b/\s<=f/\(h=b->g.length=l.length)/\(s=f->g=l/\b=h)
 |.mp j st l v,a=>∃t m g e,a=.mp t m g e/\v<=e/\(v=e->a=.mp j st l v)
def Ext(σ σ1:TH):Prop:=∀(b:Nat) blk,σ[b]? = some blk->∃a,σ1[b]? = some a/\BE blk a
theorem BE.refl(blk:TB):BE blk blk:=by
 cases blk with
 |cells w s=>exact ⟨w,s,rfl,cO _,cO _,λj v x A E h F=>.inl (by simp_all)⟩
 |row i l u z=>exact ⟨l,u,z,rfl,cO _,cO _,λ_=>rfl,λ_=>⟨rfl,rfl⟩⟩
 |mp j st l v=>exact ⟨j,st,l,v,rfl,cO _,λ_=>rfl⟩
theorem Ext.refl(σ:TH):Ext σ σ:=λ_ blk h=>⟨blk,h,BE.refl blk⟩
theorem BE.trans{a b c:TB}(u:BE a b)(s:BE b c)(ha:∀w cs,a=.cells w cs->∀p∈cs,p.1<=w):BE a c:=by
 cases a with
 |cells w cs=>
  obtain ⟨w1,M,rfl,hw,hl,hc⟩:=u;obtain ⟨w2,z,rfl,O,U,W⟩:=s;refine ⟨w2,z,rfl,by omega,by omega,λj v x K x2 h s=>?_⟩
  grind
 |row i l lv cv=>
  obtain ⟨X,Z,aa,rfl,h3,h4,h5,h6⟩:=u;obtain ⟨A,E,F,rfl,h7,h8,h9,ab⟩:=s;refine ⟨A,E,F,rfl,by omega,by omega,λe=>?_,λe=>?_⟩
  ·omega
  grind
 |mp j st l v=>
  obtain ⟨j1,ad,X,v1,rfl,h3,h4⟩:=u;obtain ⟨j2,G,A,K,rfl,h5,h6⟩:=s;refine ⟨j2,G,A,K,rfl,by omega,λe=>?_⟩
  grind
theorem RH.ver{σ:TH}{σD:ar}(H:RH σ σD){b:Nat}{blk:TB}(h:σ[b]? = some blk):∀w cs,blk=.cells w cs->∀p∈cs,p.1<=w:=λw cs e p i=>by subst e;exact (H.hg b w cs h p i).2
theorem Ext.trans{σ σ1 s:TH}{σD:ar}(H:RH σ σD)(u:Ext σ σ1)(x:Ext σ1 s):Ext σ s:=λb blk h=>by obtain ⟨i,z,A⟩:=u b blk h;obtain ⟨j,E,F⟩:=x b i z;exact ⟨j,E,A.trans F (H.ver h)⟩
theorem Ext.len{σ σ1:TH}(h:Ext σ σ1):σ.length<=σ1.length:=by
 rcases rE σ1.length σ.length with i | j
 ·obtain ⟨blk,s,_⟩:=h σ1.length _ (eK i)
  simp_all
 omega
theorem D.eE{m m':Nat}(hm:m<=m'){d:D}(h:d.low m=true):d.low m'=true:=by
 have i:∀(k:Nat)(d:D),SizeOf.sizeOf d<k->d.low m=true->d.low m'=true:=by
  intro k;induction k with
  |zero=>omega
  |succ k ih=>
   have cU:∀(ds:List D),SizeOf.sizeOf ds<k+1->D.low.cU m ds=true->D.low.cU m' ds=true:=by
    intro ds;induction ds with
    |nil=>intro _ _;rfl
    |cons x ds j=>
     intro hs h;simp only[D.low.cU,bI,List.cons.sizeOf_spec] at h hs ⊢
     grind
   intro d hs h;cases d with
   |c x=>rfl
   |any=>rfl
   |ptr b o s=>simp only[D.low,bz] at h ⊢;omega
   |sl b o l e s=>simp only[D.low,bz] at h ⊢;omega
   |mp b=>simp only[D.low,bz] at h ⊢;omega
   |fn f a b=>
    simp only[D.low,bI,D.fn.sizeOf_spec] at h hs ⊢
    grind
   |agg ds=>grind [D.low]
   |aT ds=>grind [D.low]
 exact i (SizeOf.sizeOf d+1) d (Nat.lt_succ_self _) h
theorem CV.eE{m m':Nat}(hm:m<=m'){xs:List CV}(h:xs.all (CV.low m)=true):xs.all (CV.low m')=true:=by
 rw[iE] at h ⊢;intro x j;have:=h x j;cases x with
 |d x=>exact D.eE hm this
 |b e=>rfl
 |sl i l=>rfl
theorem CJ{m g:Nat}{xs:List CV}(h:xs.all (CV.low m)=true):(TC.Fx g xs).er.low m=true:=by
 have:D.low.cU m (xs.map CV.er)=true:=by
  induction xs with
  |nil=>rfl
  |cons x xs ih=>
   simp only[Rv,bI] at h;simp only[ql,D.low.cU,bI];refine ⟨?_,ih h.2⟩;cases x with
   |d x=>exact h.1
   |b e=>rfl
   |sl i l=>rfl
 grind [TC.er,D.low,D.low.cU]
theorem GC.mono{σ σ1:TH}(h:Ext σ σ1){x:TC}(z:GC σ x):GC σ1 x:=by
 cases x with
 |own i c v n=>
  obtain ⟨blk,A,X⟩:=z;obtain ⟨s,E,u⟩:=h c blk A;refine ⟨s,E,λj l Z cv e=>?_⟩;subst e;cases blk with
  |cells w cs=>obtain ⟨w1,F,e,_⟩:=u;simp at e
  |mp j st l v=>obtain ⟨j1,G,K,v1,e,_⟩:=u;simp at e
  |row j0 l0 M O=>
   obtain ⟨K,U,W,e,h5,h6,h7,h8⟩:=u
   grind
 |os i c v n lo len=>
  obtain ⟨blk,A,X⟩:=z;obtain ⟨s,E,u⟩:=h c blk A;refine ⟨s,E,λj l Z cv e=>?_⟩;subst e;cases blk with
  |cells w cs=>obtain ⟨w1,F,e,_⟩:=u;simp at e
  |mp j st l v=>obtain ⟨j1,G,K,v1,e,_⟩:=u;simp at e
  |row j0 l0 M O=>
   obtain ⟨K,U,W,e,h5,h6,h7,h8⟩:=u
   grind
 |op i c v n k a off=>
  obtain ⟨blk,A,X⟩:=z;obtain ⟨s,E,u⟩:=h c blk A;refine ⟨s,E,λj l Z cv e=>?_⟩;subst e;cases blk with
  |cells w cs=>obtain ⟨w1,F,e,_⟩:=u;simp at e
  |mp j st l v=>obtain ⟨j1,G,K,v1,e,_⟩:=u;simp at e
  |row j0 l0 M O=>
   obtain ⟨K,U,W,e,h5,h6,h7,h8⟩:=u
   grind
 |ap c off len sz k=>exact EY z h.len
 |d x=>exact D.eE h.len z
 |Fx g xs=>exact CV.eE h.len z
 |_=>trivial
theorem GV.mono{σ σ1:TH}(h:Ext σ σ1){x:TV}(i:GV σ x):GV σ1 x:=by
 cases x with
 |c x=>exact GC.mono h i
 |agg s=>exact λx j=>GC.mono h (i x j)
 |aT s=>exact λp u x j=>GC.mono h (i p u x j)
theorem Ext.push(σ:TH)(blk:TB):Ext σ (σ++[blk]):=λb i h=>⟨i,by grind,BE.refl _⟩
theorem RH.push{σ:TH}{σD:ar}(H:RH σ σD){blk:TB}{ob:Ob}(h:RB blk ob)(hg:∀w cs,blk=.cells w cs->∀p∈cs,GC σ p.2/\p.1<=w):RH (σ++[blk]) (σD++[ob]):={
 len:=by simp[H.len]
 hp:=λb j hb=>by
  rcases rE b σ.length with i | s
  ·rw[EZ i] at hb;rw[EZ (by grind [RH.len])];exact H.hp b j hb
  grind [RH.len]
 hg:=λb w cs hb p hp=>by
  rcases rE b σ.length with i | s
  ·rw[EZ i] at hb;obtain ⟨u,x⟩:=H.hg b w cs hb p hp;exact ⟨u.mono (Ext.push σ blk),x⟩
  ·rw[KP s] at hb;have:b-σ.length=0:=by grind
   rw[this] at hb;simp only[wR,au] at hb;obtain ⟨u,x⟩:=hg w cs hb p hp;exact ⟨u.mono (Ext.push σ blk),x⟩ }
theorem WH{α:Type}{l:List α}{b a:Nat}{x y z:α}(h:l[b]? = some x)(d:(l.set b y)[a]? = some z):(a=b/\z=y)\/(a≠b/\l[a]? = some z):=by grind
theorem FV{α:Type}{l:List α}{b:Nat}{x y:α}(h:l[b]? = some x):(l.set b y)[b]? = some y:=by grind
theorem TR{α:Type}{l:List α}{b a:Nat}{y:α}(h:a≠b):(l.set b y)[a]? = l[a]?:=by grind
theorem Ext.set{σ:TH}{b:Nat}{blk i:TB}(h:σ[b]? = some blk)(s:BE blk i):Ext σ (σ.set b i):=λu j x=>by grind [BE.refl]
theorem RH.set{σ:TH}{σD:ar}(H:RH σ σD){b:Nat}{blk i:TB}{ob:Ob}(hb:σ[b]? = some blk)(F:BE blk i)(h:RB i ob)(hg:∀w cs,i=.cells w cs->∀p∈cs,GC σ p.2/\p.1<=w):RH (σ.set b i) (σD.set b ob):={
 len:=by simp[H.len]
 hp:=λx s j=>by
  obtain ⟨G,K,_⟩:=H.hp b blk hb;rcases WH hb j with ⟨rfl,rfl⟩ | ⟨u,z⟩
  ·grind
  ·rw[TR u];exact H.hp x s z
 hg:=λx w cs j p hp=>by
  rcases WH hb j with ⟨rfl,e⟩ | ⟨u,z⟩
  ·obtain ⟨A,E⟩:=hg w cs e.symm p hp;exact ⟨A.mono (Ext.set hb F),E⟩
  ·obtain ⟨A,E⟩:=H.hg x w cs z p hp;exact ⟨A.mono (Ext.set hb F),E⟩ }
def dC(σ:TH)(alD:AL)(rd:aQ->Option TV):Prop:=∀x v,rd x=some v->∃d,lx alD x=some d/\RT v d/\GV σ v
def dt(P:Program)(orc:wx)(n:Nat)(alD:AL)(σ:TH)(σD:ar)(o:kE)(Q:TV->TH->Bool->List Nat->Prop):Prop:=
 ∃v σ1 rs wr d σD1,eT P orc n alD σD o d σD1 wr/\RT v d/\GV σ1 v/\RH σ1 σD1/\Ext σ σ1/\(rs=false->ko σD σD1 wr=true)/\(xc o=true->σ1=σ/\σD1=σD/\wr=[])/\Q v σ1 rs wr
variable{P:Program}{orc:wx}{n:Nat}{alD:AL}{σ σ1:TH}{σD σD1:ar}{o:kE}{Q:TV->TH->Bool->List Nat->Prop}
theorem dt.pure{v:TV}{d:D}(h:eT P orc n alD σD o d σD [])(i:RT v d)(j:GV σ v)(H:RH σ σD)(q:Q v σ false []):dt P orc n alD σ σD o Q:=
 ⟨v,σ,false,[],d,σD,h,i,j,H,Ext.refl σ,λ_=>rfl,λ_=>⟨rfl,rfl,rfl⟩,q⟩
theorem dt.new{v:TV}{d:D}{blk:TB}{ob:Ob}(h:eT P orc n alD σD o d (σD++[ob]) [])(i:RT v d)(j:GV (σ++[blk]) v)(H:RH σ σD)(hb:RB blk ob)(s:∀w cs,blk=.cells w cs->∀p∈cs,GC σ p.2/\p.1<=w)
  (q:Q v (σ++[blk]) false []) (u:xc o=false:=by rfl):dt P orc n alD σ σD o Q:=
 ⟨v,σ++[blk],false,[],d,σD++[ob],h,i,j,H.push hb s,Ext.push σ blk,λ_=>rfl,λh=>by simp_all,q⟩
theorem RH.cells(H:RH σ σD){b w:Nat}{cs:List (Nat×TC)}(h:σ[b]? = some (.cells w cs)):∃ds,σD[b]? = some (.cells ds)/\aK RC (cs.map Prod.snd) ds/\ds.length=cs.length/\ds=cs.map λp=>p.2.er:=by obtain ⟨j,i,rfl⟩:=H.hp b _ h;refine ⟨_,i,?_,by simp,rfl⟩;have:=aK.er (cs.map Prod.snd);rw[TY] at this;exact this
theorem RH.row(H:RH σ σD){b i j s:Nat}{l:List (TT i)}(h:σ[b]? = some (.row i l j s)):σD[b]? = some (OB (enc i) l):=by obtain ⟨z,u,x⟩:=H.hp b _ h;rw[u];exact HE some x
theorem OK{b sz:Nat}{ds:List D}(h:σD[b]? = some (.cells ds))(hs:ds.length=sz):nQ σD b sz=some ds:=by grind [nQ]
theorem zB{m:Option Nat}{cs:List TC}{ds:List D}{off:Nat}{v:TV}(h:An m cs off=some v)(a:aK RC cs ds):∃d,uM m ds off=some d/\RT v d:=by
 cases m with
 |none=>
  simp only[An] at h;split at h
  ·rename_i x b;simp only[au] at h;subst h;obtain ⟨d,e,f⟩:=a.get _ _ b;exact ⟨d,e,f⟩
  simp_all
 |some m=>
  simp only[An] at h;split at h
  ·rename_i hb;simp only[au] at h;subst h;have g:=BW hb;refine ⟨.agg ((ds.drop off).take m),?_,_,rfl,(a.drop off).take m⟩;simp only[uM];rw[if_pos (by grind [aK.len])]
  simp_all
theorem p_{m:Option Nat}{cs:List TC}{off:Nat}{v:TV}(h:An m cs off=some v)(b:∀x∈cs,GC σ x):GV σ v:=by
 cases m with
 |none=>
  simp only[An] at h;split at h
  ·rename_i x a;simp only[au] at h;subst h;exact b x (yP a)
  simp_all
 |some m=>
  simp only[An] at h;split at h
  ·simp only[au] at h;subst h;exact λx a=>b x (ZS (Ky a))
  simp_all
theorem vy(c:CC)(a:c.dn):GC σ (rZ c a):=by cases c <;> first | exact True.intro | rfl
theorem Ta(c:It)(a:c.dn):GC σ (XL c a):=by cases c <;> first | exact vy _ _ | exact True.intro
theorem GU{i:Nat}{x:TC}{a:TT i}(h:vG i (.c x)=some a):x=.fp i a 0:=by
 unfold vG at h;split at h
 ·rename_i e;simp only[TV.c.injEq] at e;subst e;split at h
  ·rename_i e _;subst e;simp only[au] at h;subst h;rfl
  ·simp at h
 ·simp at h
theorem Ub:∀(cs:List CC)(x:aT cs),∀y∈uw cs x,GC σ y:=by
 intro cs;induction cs with
 |nil=>grind [uw]
 |cons c cs ih=>grind [uw,vy]
theorem uV(i:Nat)(a:TT i):∀y∈exp i a,GC σ y:=Ub _ _
theorem Ry(i:Nat)(a:TT i):aK RC (exp i a) ((enc i a).map .c):=by rw[<-tn];exact aK.er _
theorem GN{x:TC}{d:D}(h:x.scalar=true)(r:RC x d):d.scalar=true/\d=x.er:=by
 rcases r with rfl | rfl
 ·grind [TC.scalar]
 ·refine ⟨?_,rfl⟩;cases x with
  |any=>grind [TC.scalar]
  |d x=>exact h
  |_=>rfl
theorem qg{v:TV}{d:D}{xs:List TC}(h:eX v=some xs)(r:RT v d):d.cells? = some (xs.map TC.er)/\aK RC xs (xs.map TC.er)/\∀x∈xs,x≠.any:=by
 refine ⟨?_,aK.er _,?_⟩
 ·cases v with
  |c x=>
   simp only[eX] at h;split at h
   ·rename_i hs;simp only[au] at h;subst h;obtain ⟨l,rfl⟩:=GN hs r;cases i:x.er with
    |agg m=>grind [D.scalar]
    |_=>grind [D.cells?]
   simp_all
  |agg a=>
   simp only[eX] at h;split at h
   ·rename_i hs;simp only[au] at h;subst h;obtain ⟨ds,rfl,j⟩:=r;rw[iE] at hs;have b:∀y∈a,y≠.any:=λy f e=>by grind [TC.scalar]
    rw[j.eq b];simp only[D.cells?];rw[if_pos];rw[iE];intro d g;rw[iP] at g;obtain ⟨y,f,rfl⟩:=g;exact (GN (hs y f) (.inr rfl)).1
   simp_all
  |aT a=>grind [eX]
 ·intro x i e;subst e;cases v with
  |c y=>grind [eX,TC.scalar]
  |agg a=>grind [eX,TC.scalar]
  |aT a=>grind [eX]
theorem uX{v:TV}{xs:List TC}(h:eX v=some xs)(g:GV σ v):∀x∈xs,GC σ x:=by
 cases v with
 |c x=>
  simp only[eX] at h;split at h
  ·simp only[au] at h;subst h;intro y a;simp only[zK] at a;subst a;exact g
  simp_all
 |agg b=>
  simp only[eX] at h;split at h
  ·simp only[au] at h;subst h;exact g
  simp_all
 |aT b=>grind [eX]
theorem aK.put{α j:Type}{R:α->j->Prop}{cs xs:List α}{ds i:List j}(h:aK R cs ds)(s:aK R xs i)(off:Nat):aK R (rP cs off xs) (ds.take off++i++ds.drop (off+i.length)):=by unfold rP;rw[s.len];exact ((h.take off).UL s).UL (h.drop _)
theorem Mg{α:Type}{cs xs:List α}{off:Nat}{x:α}(h:x∈rP cs off xs):x∈cs\/x∈xs:=by grind [rP]
theorem EO{rd:aQ->Option TV}(i:dC σ alD rd):∀{ps:List (Nat×Nat×aQ)}{cs a:List TC}{ds:List D},Ea rd cs ps=some a->aK RC cs ds->(∀x∈cs,GC σ x)->∃b,Bv alD ds ps=some b/\aK RC a b/\∀x∈a,GC σ x:=by
 intro ps;induction ps with
 |nil=>intro cs a ds h e g;simp only[Ea,au] at h;subst h;exact ⟨ds,rfl,e,g⟩
 |cons p ps ih=>
  intro cs a ds h e g;obtain ⟨o,m,x⟩:=p;simp only[Ea] at h;split at h
  ·rename_i v j;split at h
   ·rename_i z f;split at h
    ·rename_i hb;obtain ⟨d,l,q,A⟩:=i x v j;obtain ⟨s,t,E⟩:=qg f q;simp only[bI] at hb;have F:=dd hb.1;have G:=BW hb.2;obtain ⟨b,u,w⟩:=ih h (e.put t o) λy K=>by
      grind [Mg,uX]
     refine ⟨b,?_,w⟩;simp only[Bv,l,aw,s];rw[if_neg (by grind [aK.len])];exact u
    simp_all
   simp_all
  simp_all
end
end Go.Abs
end
section
namespace Go.Abs
open Go.Fl
theorem Gi{a b:Int}(d:a.natAbs<2 ^ 52)(hb:b.natAbs<2 ^ 52):Op.Complex.arith .add .f64 (fl a) (fl b)=pure (fl (a+b)):=by
 have h:FloatKind.f64.format.add (fl a) (fl b)=some (fl (a+b)):=fl_add d hb;have e:Op.floatArith .add .f64 (fl a) (fl b)=pure (.float .f64 (fl (a+b))):=by show (match FloatKind.f64.format.add (fl a) (fl b) with | some r=>(pure (.float .f64 r):Go.Sem Value) | none=>_)=_;rw[h]
 grind [Go.Op.Complex.arith]
theorem GH{a b:Int}(d:a.natAbs<2 ^ 52)(hb:b.natAbs<2 ^ 52):Op.Complex.arith .sub .f64 (fl a) (fl b)=pure (fl (a-b)):=by
 have h:FloatKind.f64.format.sub (fl a) (fl b)=some (fl (a-b)):=fl_sub d hb;have e:Op.floatArith .sub .f64 (fl a) (fl b)=pure (.float .f64 (fl (a-b))):=by show (match FloatKind.f64.format.sub (fl a) (fl b) with | some r=>(pure (.float .f64 r):Go.Sem Value) | none=>_)=_;rw[h]
 grind [Go.Op.Complex.arith]
theorem vu{a b:Int}(d:0<=a)(f:0<=b)(g:a.natAbs<2 ^ 53)(hb:b.natAbs<2 ^ 53)(hm:(a * b).natAbs<2 ^ 53):Op.Complex.arith .mul .f64 (fl a) (fl b)=pure (fl (a * b)):=by
 have h:FloatKind.f64.format.mul (fl a) (fl b)=some (fl (a * b)):=fl_mul d f g hb hm;have e:Op.floatArith .mul .f64 (fl a) (fl b)=pure (.float .f64 (fl (a * b))):=by show (match FloatKind.f64.format.mul (fl a) (fl b) with | some r=>(pure (.float .f64 r):Go.Sem Value) | none=>_)=_;rw[h]
 grind [Go.Op.Complex.arith]
theorem LG{a b c d:Int}(e:a.natAbs<2 ^ 52)(hb:b.natAbs<2 ^ 52)(f:c.natAbs<2 ^ 52)(g:d.natAbs<2 ^ 52) :
  Op.complexOp .add .f64 (fl a) (fl b) (fl c) (fl d)=pure (.complex .f64 (fl (a+c)) (fl (b+d))):=by
 grind [Go.Op.complexOp,Gi]
theorem Nl{a b c d:Int}(e:a.natAbs<2 ^ 52)(hb:b.natAbs<2 ^ 52)(f:c.natAbs<2 ^ 52)(g:d.natAbs<2 ^ 52) :
  Op.complexOp .sub .f64 (fl a) (fl b) (fl c) (fl d)=pure (.complex .f64 (fl (a-c)) (fl (b-d))):=by
 grind [Go.Op.complexOp,GH]
theorem prod_of{a b d e A B z:Nat}(p1:Op.Complex.arith .mul .f64 a d=pure A)(f:Op.Complex.arith .mul .f64 b e=pure z)(g:Op.Complex.arith .mul .f64 a e=pure z)(h:Op.Complex.arith .mul .f64 b d=pure B)
  (i:Op.Complex.arith .sub .f64 A z=pure A) (j:Op.Complex.arith .add .f64 z B=pure B):Op.Complex.product a b d e=pure (A,B):=by
 unfold Op.Complex.product Op.Complex.mul Op.Complex.sub Op.Complex.add
 simp_all
theorem cop_of{a b d g A B:Nat}(h:Op.Complex.product a b d g=pure (A,B)):Op.complexOp .mul .f64 a b d g=pure (.complex .f64 A B):=by unfold Op.complexOp;show (do let (e,f) <-Op.Complex.product a b d g;pure (.complex .f64 (<-Op.Complex.conv .f64 e .f64) (<-Op.Complex.conv .f64 f .f64)):Go.Sem Value)=_;rw[h];rfl
theorem Md{a b n:Int}(e:0<=a)(f:0<=b)(d:0<=n)(j:a<=1048576)(hb:b<=1048576)(g:n<=1048576) :
  Op.complexOp .mul .f64 (fl a) (fl b) (fl n) (fl 0)=pure (.complex .f64 (fl (a * n)) (fl (b * n))):=by
 have m1:0<=a * n/\a * n<=1048576 * 1048576:=⟨yBY e d,Int.mul_le_mul j g d (by omega)⟩;have l:0<=b * n/\b * n<=1048576 * 1048576:=⟨yBY f d,Int.mul_le_mul hb g d (by omega)⟩;have z:(0:Int).natAbs<2 ^ 53:=by omega
 have i:(0:Int).natAbs<2 ^ 52:=by omega
 refine cop_of (prod_of (z:=fl 0) ?_ ?_ ?_ ?_ ?_ ?_)
 ·grind [vu]
 ·have h:=vu (a:=b) (b:=0) f (Pu _) (by omega) z (by omega)
  simp_all
 ·have h:=vu (a:=a) (b:=0) e (Pu _) (by omega) z (by omega)
  simp_all
 ·grind [vu]
 ·have h:=GH (a:=a * n) (b:=0) (by omega) i
  simp_all
 ·have h:=Gi (a:=0) (b:=b * n) i (by omega)
  simp_all
theorem SU{n:Int}(h:n.natAbs<2 ^ 53):Conv.floatToInt .f64 (fl n) .i64=pure (.int .i64 n):=by
 unfold Conv.floatToInt;have e:(FloatKind.f64.decode (fl n)).toInt .zero=some n:=fl_int h;simp only[e];have a:IntKind.i64.min=-9223372036854775808:=rfl;have b:IntKind.i64.max=9223372036854775807:=rfl
 grind
end Go.Abs
end
section
namespace Go.Abs
section
variable[Gl][Y:Ty]
variable{P:Program}{orc:wx}{n:Nat}{alD:AL}{σ σ1:TH}{σD σD1:ar}{o:kE}{Q:TV->TH->Bool->List Nat->Prop}{rd:aQ->Option TV}
theorem Iw(a:dC σ alD rd){x:Operand}{v:TV}(h:wC rd x=some v):∃d,Ai alD x=some d/\RT v d/\GV σ v:=by
 unfold wC at h;split at h
 ·rename_i o b;obtain ⟨d,e,f⟩:=a o v h
  grind [Ai]
 simp_all
theorem qH{v:TV}{d:D}{a:Value}(h:Oz v=some a)(r:RT v d):d.cW = some a/\d=.c (.lit a):=by
 unfold Oz at h;split at h
 ·simp only[au] at h;subst h;rcases r with r | rfl
  ·simp at r
  ·exact ⟨rfl,rfl⟩
 ·simp only[au] at h;subst h;rcases r with r | rfl
  ·simp at r
  ·exact ⟨rfl,rfl⟩
 simp_all
def flat:Value->Bool
 |.agg _ | .tuple _=>false
 |_=>true
theorem Qz{v:Value}(h:flat v=true):RT (Dc v) (dH v)/\GV σ (Dc v):=by
 unfold Dc;split
 ·exact ⟨.inr rfl,True.intro⟩
 ·refine ⟨.inr ?_,rfl⟩;cases v <;> first | rfl | grind [flat]
theorem valC_ok{x:TC}{d:D}{a:Value}(h:valC x=some a)(r:RC x d):kG d=some a:=by
 unfold valC at h;split at h
 ·simp only[au] at h;subst h;rcases r with r | rfl
  ·simp at r
  ·rfl
 ·simp only[au] at h;subst h;rcases r with r | rfl
  ·simp at r
  ·rfl
 simp_all
theorem Mv:∀{xs:List TC}{ds:List D}{vs:List Value},Hd xs=some vs->aK RC xs ds->ds.mapM kG=some vs:=by
 intro xs ds vs h r;induction r generalizing vs with
 |nil=>grind [Hd]
 |cons a _ ih=>grind [Hd,valC_ok]
theorem eqF0xok{xs g:Array Value}{d:Nat}:∀{e:List Field}{r:Bool},WF P xs g e=some r->fq P (Op.eqFields (d+1) xs g e)=some r:=by
 intro e;induction e with
 |nil=>intro r h;simp only[WF,au] at h;subst h;rfl
 |cons f e ih=>
  intro r h;simp only[WF] at h;split at h
  ·rename_i k a i b j q l m p s t;split at h
   ·grind [uA,eq_int]
   simp_all
  ·grind [uA,Cq]
  simp_all
theorem aaj{xs i:Array Value}{d:Nat}:∀{e:List Field}{r:Bool},Wp P xs i e=some r->fq P (Op.eqFields (d+2) xs i e)=some r:=by
 intro e;induction e with
 |nil=>intro r h;simp only[Wp,au] at h;subst h;rfl
 |cons f e ih=>
  intro r h;simp only[Wp] at h;split at h
  ·rename_i k a w b x q j l m g p;split at h
   ·grind [uA,eq_int]
   simp_all
  ·grind [uA,Cq]
  ·rename_i a b t q j l m g p;split at h
   ·rename_i y u v;simp only[au] at h;subst h;have s:P.fieldsOf f.type=t:=by simp[Go.Program.fieldsOf,g]
    exact uA j l m (Zv (d:=d+1) (by rw[s];exact g) u (by rw[s];exact eqF0xok v)) (ih p)
   simp_all
  simp_all
theorem eqT_ok{t:TypeId}{xs b:List TC}{ds es:List D}{r:Bool}(h:eqT P t xs b=some r)(e:aK RC xs ds)(f:aK RC b es) :
  ∃vs a,(D.agg ds).cW = some (.agg vs)/\(D.agg es).cW = some (.agg a)/\P.eqGuardType P.depth t=false/\fq P (Op.equalIn 10000 t (.agg vs) (.agg a))=some r:=by
 unfold eqT at h;split at h
 ·rename_i vs a g i j l d m;refine ⟨vs.toArray,a.toArray,?_,?_,d,?_⟩
  ·grind [D.cW,Mv]
  ·grind [D.cW,Mv]
  grind [Go.Program.fieldsOf,Zv,aaj]
 simp_all
theorem Ah{α d:Type}{o:Option α}{f:α->Option d}{b:d}(h:o.bind f=some b):∃a,o=some a/\f a=some b:=cZ.1 h
theorem Iq{o:BinOp}{t:TypeId}{x y:Operand}{a b c d:Nat}{v:Value}(i:o≠.eql)(e:o≠.neq)(f:o≠.shl)(g:o≠.shr)(h:Op.complexOp o .f64 a b c d=pure v):iw P o t x y (.complex .f64 a b) (.complex .f64 c d)=some v:=by
 unfold iw;rw[wU];have j:fq P (eqGuard o t x y (.complex .f64 a b) (.complex .f64 c d))=some ():=by cases o <;> first | rfl | exact absurd rfl i | exact absurd rfl e
 rw[j,aw];have:binOp o t (.complex .f64 a b) (.complex .f64 c d)=Op.complexOp o .f64 a b c d:=by cases o <;> first | rfl | exact absurd rfl i | exact absurd rfl e | exact absurd rfl f | exact absurd rfl g
 rw[this,h];rfl
theorem QI{a b c:Int}(h:QA a b=some c):a.natAbs<2 ^ 52/\b.natAbs<2 ^ 52/\c=a+b:=by
 unfold QA at h
 simp_all
theorem Su{a b c:Int}(h:w_ a b=some c):a.natAbs<2 ^ 52/\b.natAbs<2 ^ 52/\c=a-b:=by
 unfold w_ at h
 simp_all
theorem Sr{a b c:Int}(h:xq a b=some c):0<=a/\a<=1048576/\0<=b/\b<=1048576/\c=a * b:=by
 unfold xq at h
 simp_all
theorem valO_ok(b:dC σ alD rd){x:Operand}{a:Value}(h:UH (wC rd) x=some a):(Ai alD x).bind D.cW = some a:=by grind [UH,Iw,qH]
theorem Sx(g:dC σ alD rd){op:Op}{ty:TypeId}{v:Value}(d:∀cs b,op≠.select cs b)(h:genV P op ty (wC rd)=some v):FP P op ty alD=some (dH v):=by
 unfold genV at h;split at h
 ·rename_i a;rw[iE] at a;have f:∀x∈op.operands.toList,(Ai alD x).bind D.cW = UH (wC rd) x:=λx e=>by
   have:=a x e;rw[yBr] at this
   grind [valO_ok]
  unfold FP;rw[if_pos (by simp_all)];rw[execOp_congr (ρ:=λx=>(((Ai alD x).bind D.cW).getD undef)) (ρ':=λx=>(UH (wC rd) x).getD undef) { dst:=none,op:=op,type:=ty,pos:="",after:=#[],guard:=none } d (λx e=>by simp_all)]
  grind
 simp_all
theorem conv_fl{t b:TypeId}{d:IntKind}{a:Int}(e:P.underlying b=some (.float .f64))(hs:(P.underlying t).isSome=true):fq P (convert t b (.int d a))=some (.float .f64 (Fl.fl a)):=by obtain ⟨u,f⟩:=yBr.1 hs;unfold convert;rw[wU,zbR f,aw,wU,zbR e,aw];cases u <;> rfl
theorem YJ{t d:TypeId}{a b:Int}(f:P.underlying d=some (.int .i64))(hs:(P.underlying t).isSome=true)(h:yD a=some b):fq P (convert t d (.float .f64 (Fl.fl a)))=some (.int .i64 b):=by
 unfold yD at h;split at h
 ·rename_i g;simp only[au] at h;subst h;obtain ⟨u,i⟩:=yBr.1 hs;unfold convert;rw[wU,zbR i,aw,wU,zbR f,aw];have e:fq P (Conv.floatToInt .f64 (Fl.fl a) .i64)=some (.int .i64 a):=by rw[SU g];rfl
  omega
 simp_all
theorem NW{c:Call}{ty:TypeId}{b:Builtin}{v:Value}(e:c.callee=.builtin b)(a:∀x∈c.args.toList,((Ai alD x).bind D.cW).isSome=true)
  (h:fq P (builtin b c.argTypes ty (c.args.map λ| .const _=>true | _=>false) (c.args.map λx=>((Ai alD x).bind D.cW).getD undef))=some (.value v)):FP P (.call c) ty alD=some (dH v):=by
 obtain ⟨d,args,f⟩:=c;dsimp only at e a h;subst e;have g:(Op.operands (.call ⟨.builtin b,args,f⟩)).toList=args.toList:=by simp[Op.operands,Call.operands]
 unfold FP;rw[if_pos (by simp_all)];have:fq P (execOp (λx=>((Ai alD x).bind D.cW).getD undef) { dst:=none,op:=.call ⟨.builtin b,args,f⟩,type:=ty,pos:="",after:=#[],guard:=none })=some (.value v):=h
 rw[this]
theorem Bt{c:Call}{ty:TypeId}{x y:Operand}{a b:Nat}(e:c.callee=.builtin .complex)(g:c.args.toList=[x,y])(h:Ai alD x=some (.c (.lit (.float .f64 a))))(i:Ai alD y=some (.c (.lit (.float .f64 b)))) :
  FP P (.call c) ty alD=some (.c (.lit (.complex .f64 a b))):=by
 have d:c.args=#[x,y]:=by grind
 refine NW (v:=.complex .f64 a b) e (by grind [D.cW]) ?_;rw[d];have f:(#[x,y].map λx=>((Ai alD x).bind D.cW).getD undef)=#[.float .f64 a,.float .f64 b]:=by grind [D.cW]
 rw[f];rfl
theorem Vw{c:Call}{ty:TypeId}{x:Operand}{a b:Nat}(e:c.callee=.builtin .real)(g:c.args.toList=[x])(h:Ai alD x=some (.c (.lit (.complex .f64 a b)))) :
  FP P (.call c) ty alD=some (.c (.lit (.float .f64 a))):=by
 have d:c.args=#[x]:=by grind
 refine NW (v:=.float .f64 a) e (by grind [D.cW]) ?_;rw[d];have f:(#[x].map λx=>((Ai alD x).bind D.cW).getD undef)=#[.complex .f64 a b]:=by grind [D.cW]
 rw[f];rfl
theorem Vy{c:Call}{ty:TypeId}{x:Operand}{a b:Nat}(e:c.callee=.builtin .imag)(g:c.args.toList=[x])(h:Ai alD x=some (.c (.lit (.complex .f64 a b)))) :
  FP P (.call c) ty alD=some (.c (.lit (.float .f64 b))):=by
 have d:c.args=#[x]:=by grind
 refine NW (v:=.float .f64 b) e (by grind [D.cW]) ?_;rw[d];have f:(#[x].map λx=>((Ai alD x).bind D.cW).getD undef)=#[.complex .f64 a b]:=by grind [D.cW]
 rw[f];rfl
theorem QU{v:Value}(h:oE v=true):flat v=true:=by cases v <;> first | rfl | grind [oE]
variable{R:Type}{k:KO R}{r:R}
theorem dt.one{x:TC}{d:D}(q:Q (.c x) σ false [])(h:eT P orc n alD σD o d σD [])(i:d=x.er)(j:GC σ x)(H:RH σ σD):dt P orc n alD σ σD o Q:=
 dt.pure h (v:=.c x) (Or.inr i) j H q
theorem dt.vt{v:Value}(q:Q (Dc v) σ false [])(h:eT P orc n alD σD o (dH v) σD [])(i:oE v=true)(H:RH σ σD):dt P orc n alD σ σD o Q:=
 dt.pure h (Qz (σ:=σ) (QU i)).1 (Qz (QU i)).2 H q
theorem genT_ok{op:Op}{ty:TypeId}(m:dC σ alD rd)(H:RH σ σD)(h:genT P op ty rd σ k=some r):dt P orc n alD σ σD (.gen op ty) (λv σ1 rs wr=>k v σ1 rs wr=some r):=by
 unfold genT at h;split at h
 ·
  rename_i o t x y W;split at h
  ·
   rename_i X a kb b p A;obtain ⟨E,f,g,_⟩:=Iw m p;obtain ⟨G,j,s,_⟩:=Iw m A;rcases g with g | rfl
   ·grind
   rcases s with s | rfl
   ·grind
   split at h
   ·split at h
    ·rename_i e _;subst e;obtain ⟨v,i,l⟩:=Ah h;exact dt.one l (dR f j rfl rfl (bin_quo i) rfl) rfl rfl H
    simp_all
   ·split at h
    ·rename_i e _;subst e;obtain ⟨v,i,l⟩:=Ah h;exact dt.one l (dR f j rfl rfl (bin_rem i) rfl) rfl rfl H
    simp_all
   ·obtain ⟨v,i,l⟩:=Ah h;exact dt.one l (dR f j rfl rfl (bin_shr i) rfl) rfl rfl H
   ·obtain ⟨v,i,l⟩:=Ah h;exact dt.one l (dR f j rfl rfl (bin_shl i) rfl) rfl rfl H
   ·split at h
    ·rename_i v Z;split at h
     ·rename_i O;exact dt.vt h (dR f j rfl rfl Z rfl) O H
     simp_all
    simp_all
  ·
   rename_i xs ys p A;obtain ⟨E,f,⟨ds,rfl,a1⟩,_⟩:=Iw m p;obtain ⟨G,j,⟨es,rfl,a2⟩,_⟩:=Iw m A;split at h
   ·rename_i q hq;obtain ⟨vs,ws,i,l,T,U⟩:=eqT_ok hq a1 a2;split at h
    ·exact dt.one h (dR f j i l (bin_eql T U) rfl) rfl True.intro H
    ·exact dt.one h (dR f j i l (bin_neq T U) rfl) rfl True.intro H
    simp_all
   simp_all
  ·
   rename_i a b c d p A;obtain ⟨E,f,g,_⟩:=Iw m p;obtain ⟨G,j,s,_⟩:=Iw m A;rcases g with g | rfl
   ·grind
   rcases s with s | rfl
   ·grind
   split at h
   ·obtain ⟨u,i,h⟩:=Ah h;obtain ⟨v,l,h⟩:=Ah h;obtain ⟨p1,K,rfl⟩:=QI i;obtain ⟨L,M,rfl⟩:=QI l;exact dt.one h (dR f j rfl rfl (Iq (by simp) (by simp) (by simp) (by simp) (LG p1 L K M)) rfl) rfl True.intro H
   ·obtain ⟨u,i,h⟩:=Ah h;obtain ⟨v,l,h⟩:=Ah h;obtain ⟨p1,K,rfl⟩:=Su i;obtain ⟨L,M,rfl⟩:=Su l;exact dt.one h (dR f j rfl rfl (Iq (by simp) (by simp) (by simp) (by simp) (Nl p1 L K M)) rfl) rfl True.intro H
   ·split at h
    ·obtain ⟨u,i,h⟩:=Ah h;obtain ⟨v,l,h⟩:=Ah h;obtain ⟨p1,K,L,M,rfl⟩:=Sr i;obtain ⟨p5,p6,_,_,rfl⟩:=Sr l;exact dt.one h (dR f j rfl rfl (Iq (by simp) (by simp) (by simp) (by simp) (Md p1 p5 L K p6 M)) rfl) rfl True.intro H
    simp_all
   simp_all
  ·
   rename_i u v _ _ _ p A;obtain ⟨E,f,g,_⟩:=Iw m p;obtain ⟨G,j,s,_⟩:=Iw m A;split at h
   ·rename_i a b z hb;obtain ⟨i,rfl⟩:=qH z g;obtain ⟨l,rfl⟩:=qH hb s;split at h
    ·rename_i N;exact dt.one h (dR f j rfl rfl (Zu N) rfl) rfl True.intro H
    ·rename_i N;exact dt.one h (dR f j rfl rfl (Wm N) rfl) rfl True.intro H
    simp_all
   ·grind [qH,dt.vt,dR]
   simp_all
  simp_all
 ·
  rename_i o t x;split at h
  ·rename_i u N;obtain ⟨E,f,g,_⟩:=Iw m N;split at h
   ·rename_i e he;obtain ⟨i,rfl⟩:=qH he g;exact dt.one h (YX f rfl rfl rfl) rfl True.intro H
   ·grind [qH,dt.vt,YX]
   simp_all
  simp_all
 ·
  rename_i t W x;split at h
  ·rename_i X a z;obtain ⟨E,f,g,_⟩:=Iw m z;rcases g with g | rfl
   ·grind
   split at h
   ·rename_i S;split at h
    ·rename_i hs;exact dt.one h (CH f rfl (v:=.float .f64 (Fl.fl a)) (conv_fl S hs) rfl) rfl True.intro H
    simp_all
   ·split at h
    ·rename_i w hw;split at h
     ·rename_i O;exact dt.vt h (CH f rfl hw rfl) O H
     simp_all
    simp_all
  ·rename_i a z;obtain ⟨E,f,g,_⟩:=Iw m z;rcases g with g | rfl
   ·grind
   split at h
   ·rename_i S hs;obtain ⟨b,i,l⟩:=Ah h;exact dt.one l (CH f rfl (v:=.int .i64 b) (YJ S hs i) rfl) rfl rfl H
   simp_all
  ·grind [Iw,qH,dt.vt,CH]
  simp_all
 ·
  rename_i c;split at h
  ·grind [dt.vt,gj,Sx]
  ·grind [dt.vt,gj,Sx]
  ·rename_i x y F z;split at h
   ·rename_i a b p A;obtain ⟨E,f,g,_⟩:=Iw m p;obtain ⟨G,j,s,_⟩:=Iw m A;rcases g with g | rfl
    ·grind
    rcases s with s | rfl
    ·grind
    exact dt.one h (gj (Bt F z f j)) rfl True.intro H
   ·rename_i a b p A;obtain ⟨E,f,g,_⟩:=Iw m p;obtain ⟨G,j,s,_⟩:=Iw m A;rcases g with g | rfl
    ·grind
    rcases s with s | rfl
    ·grind
    split at h
    ·rename_i hb;have:=dd hb;subst this;exact dt.one h (gj (Bt F z f j)) rfl True.intro H
    simp_all
   simp_all
  ·rename_i x F z;split at h
   ·rename_i a b p;obtain ⟨E,f,g,_⟩:=Iw m p;rcases g with g | rfl
    ·grind
    exact dt.one h (gj (Vw F z f)) rfl True.intro H
   simp_all
  ·rename_i x F z;split at h
   ·rename_i a b p;obtain ⟨E,f,g,_⟩:=Iw m p;rcases g with g | rfl
    ·grind
    exact dt.one h (gj (Vy F z f)) rfl True.intro H
   simp_all
  simp_all
 simp_all
end
end Go.Abs
end
section
namespace Go.Abs
open Go.RowKit
variable[Gl]{P:Program}
structure wM (B:Nat) (J:(Nat->Prop)->(Nat->Prop)->World->Prop):Prop where
 rel:∀F U W,J F U W->Rel [] (λ_=>none) F W
 sub:∀F U W,J F U W->∀c,F c->U c
 lt:∀F U W,J F U W->∀c,U c->c<W.heap.size
 le:∀F U W,J F U W->B<=W.heap.size
 off:∀F U W W',J F U W->W.heap.size<=W'.heap.size->(∀c:Nat,U c\/c<B->W'.heap[c]? = W.heap[c]?)->(W'.os=W.os/\W'.tape=W.tape/\W'.output=W.output)->J F U W'
 grow:∀F U W F',J F U W->(∀c,F c->F' c)->(∀c,F' c->F c\/(¬U c/\B<=c/\c<W.heap.size))->J F' (λc=>U c\/F' c) W
structure Kept (F U:Nat->Prop) (W:World) (F' U':Nat->Prop) (W':World):Prop where
 size:W.heap.size<=W'.heap.size
 off:∀c:Nat,c<W.heap.size->¬U c->W'.heap[c]? = W.heap[c]?/\¬U' c
 fz:∀c:Nat,F c->F' c/\W'.heap[c]? = W.heap[c]?
 out:W'.os=W.os/\W'.tape=W.tape/\W'.output=W.output
theorem Kept.trans{F U x z A E:Nat->Prop}{W G K:World}(h:Kept F U W x z G)(i:Kept x z G A E K):Kept F U W A E K:={
 size:=kj h.size i.size
 off:=λc j M=>by obtain ⟨a,b⟩:=h.off c j M;obtain ⟨s,u⟩:=i.off c (EY j h.size) b;exact ⟨s.trans a,u⟩
 fz:=λc j=>by obtain ⟨a,b⟩:=h.fz c j;obtain ⟨s,u⟩:=i.fz c a;exact ⟨s,u.trans b⟩
 out:=⟨i.out.1.trans h.out.1,i.out.2.1.trans h.out.2.1,i.out.2.2.trans h.out.2.2⟩ }
def aai(F:Nat->Prop)(W:World)(caps:List (List C))(e:Array Value):Prop:=
 e.size=caps.length/\∀(i:Nat) b v,caps[i]? = some b->e[i]? = some v->∃c:Nat,v=.pointer (some ⟨c,0,none⟩)/\∃a T,W.heap[c]? = some (.cells a T (0,0))/\b.length<=a.size/\∀(j:Nat) d u,b[j]? = some d->a[j]? = some u->VC F W d u/\u.oneCell'=true
def Vals(F:Nat->Prop)(W:World)(ds:List D)(vs:Array Value):Prop:=
 vs.size=ds.length/\∀(k:Nat) d v,ds[k]? = some d->vs[k]? = some v->V [] (λ_=>none) F W d v
def ItOk(P:Program)(j:Nat)(caps:List (List C))(items:List (List D)):Prop:=
 ∀ (l B : Nat) (g : Array Value) (J : Nat -> (Nat -> Prop) -> (Nat -> Prop) -> World -> Prop) (f : (Nat -> Prop) -> (Nat -> Prop) -> World -> Prop) (W : World) (F U : Nat -> Prop),
  (∀i,wM B (J i))->wM B f->(∀i F U W,J i F U W->aai F W caps g) ->
  (∀i ds F U W h,items[i]? = some ds->J i F U W->Vals F W ds h ->
   YieldAt Fence.wide 0 P l h W fun e a=>∃b d,Kept F U W b d a/\((e=.returned (.bool true)/\J (i+1) b d a)\/(e=.returned (.bool false)/\f b d a))) ->
  J 0 F U W ->
  Calls P j (#[.func (.yield l) #[] #[]]++g) W fun e a=>(∃v,e=.returned v)/\∃b d,J items.length b d a\/f b d a
def rpost(I:Nat->(Nat->Prop)->(Nat->Prop)->World->Prop)(e:Code->(Nat->Prop)->(Nat->Prop)->World->Prop)(i:Nat)(F U:Nat->Prop)(W:World):Exit->Act->World->Prop
 |.normal,_,a=>∃b d,Kept F U W b d a/\I (i+1) b d a
 |.ret,_,a=>∃b d,Kept F U W b d a/\e .ret b d a
 |.exit id,_,a=>∃b d,Kept F U W b d a/\e (.exit id) b d a
 |.goto t,_,a=>∃b d,Kept F U W b d a/\e (.goto t) b d a
 |.panic _,_,_=>False
 |.outgrown,_,_=>False
theorem ZU{W:World}{l:Nat}{o:Obj}{c:Nat}(h:c≠l):(W.putObj l o).heap[c]? = W.heap[c]?:=World.putObj_heap_other h
theorem Vv{g:Operand}{ps:Array Tmp}{assign body:Code}{Q:Exit->Act->World->Prop}{a:Act}{w:World}{gf:Nat}{lb:Array Value}{caps:List (List C)}{items:List (List D)}{F0 U0:Nat->Prop}
  (hg:a.eval g=.func (.func gf) #[] lb) (eg:∀args w,(callFunc gf args).run P w=.ok (.enter gf args) w) (it:ItOk P gf caps items) (a5:∀ds∈items,ds.length=ps.size)
  (I:Nat->(Nat->Prop)->(Nat->Prop)->World->Prop) (Ix:Code->(Nat->Prop)->(Nat->Prop)->World->Prop) (hI:∀i,wM w.heap.size (I i)) (s:∀c,wM w.heap.size (Ix c))
  (d:∀i F U W,I i F U W->aai F W caps lb) (h0:I 0 F0 U0 w)
  (ab:∀(l i:Nat) ds F U W vs,items[i]? = some ds->I i F U W->Vals F W ds vs ->
   assign.wpIn (Fence.wide.inRound l) 0 P (Exit.then (fun a1 w1=>∃F1 U1,Kept F U W F1 U1 w1/\(∀c,U1 c->c<w1.heap.size) /\
    ∀ w2, w1.heap.size = w2.heap.size -> (∀ c : Nat, U1 c \/ c < w.heap.size -> w2.heap[c]? = w1.heap[c]?) -> (w2.os = w1.os /\ w2.tape = w1.tape /\ w2.output = w1.output) ->
     body.wpIn (Fence.wide.inRound l) 0 P (rpost I Ix i F U1 w2) a1 w2) (fun _ _ _=>False))
    { tmps:=(ps.zip vs).foldl (fun t (p,v)=>t.setIfInBounds p v) a.tmps,defers:=[] } W)
  (ad:∀(D:Nat) F U W,w.heap.size≤D->D<W.heap.size->¬U D->W.heap[D]? = some (.deferred (some []))->I items.length F U W->Q .normal { a with defers:=mark D::a.defers } W)
  (af:∀(D:Nat) c F U W,w.heap.size≤D->D<W.heap.size->¬U D->W.heap[D]? = some (.deferred (some []))->Ix c F U W->c.wp P Q { a with defers:=mark D::a.defers } W) :
  (Code.rangeFunc g ps assign body).wp P Q a w:=by
 refine (wpIn_wide (n:=0)).1 (wpIn_rangeFunc ?_)
 intro fn a6
 have a7:Fence.wide.round=none:=rfl
 rw [a7]
 obtain ⟨rec,f⟩:∃rec:LoopState->Option Code->Loop,rec=fun st pe=>{ state:=st,pending:=pe,fn,tmps:=a.tmps,params:=ps,assign,body,defers:=w.heap.size }:=⟨_,rfl⟩
 obtain ⟨Z,N⟩:∃Z,(w.alloc (.deferred (some []))).alloc (.loop (rec .ready none))=Z:=⟨_,rfl⟩
 have a8:Z.heap[w.heap.size+1]? = some (.loop (rec .ready none)):=by
  rw [←N]; have:=World.alloc_heap_new (w.alloc (.deferred (some []))) (.loop (rec .ready none)); rwa [World.size_alloc] at this
 have a9:Z.heap[w.heap.size]? = some (.deferred (some [])):=by
  rw [←N]; exact (Below.heap_alloc _ _ _ (by simp)).trans (World.alloc_heap_new w _)
 have b0:Z.heap.size=w.heap.size+2:=by rw [←N]; simp
 have bb:I 0 F0 U0 Z:=by
  refine (hI 0).off _ _ w Z h0 (by omega) (fun c d=>?_) (by rw [←N]; exact ⟨rfl,rfl,rfl⟩)
  have bc:c<w.heap.size:=d.elim ((hI 0).lt _ _ _ h0 c) id
  rw [←N,Below.heap_alloc _ _ _ (by simp; omega),Below.heap_alloc _ _ _ bc]
 have bd:¬U0 (w.heap.size+1):=fun h=>by have:=(hI 0).lt _ _ _ h0 _ h; omega
 have be:¬U0 w.heap.size:=fun h=>by have:=(hI 0).lt _ _ _ h0 _ h; omega
 obtain ⟨bk,K⟩:∃bk:(Obj->Prop)->((Nat->Prop)->(Nat->Prop)->World->Prop)->(Nat->Prop)->(Nat->Prop)->World->Prop,bk=fun o X F U W=>∃m,X F m W/\U=(fun c=>m c\/c=w.heap.size\/c=w.heap.size+1) /\
  ¬m w.heap.size/\¬m (w.heap.size+1)/\w.heap.size+1<W.heap.size/\(∃x,W.heap[w.heap.size+1]? = some x/\o x)/\W.heap[w.heap.size]? = some (.deferred (some [])):=⟨_,rfl⟩
 have bh:∀o X,wM w.heap.size X->wM w.heap.size (bk o X):=fun o X hX=>by
  subst K
  have gr:∀{F m T:Nat->Prop} {W:World},X F m W->(∀c,T c->F c\/(¬(m c\/c=w.heap.size\/c=w.heap.size+1)/\w.heap.size≤c/\c<W.heap.size))->¬m w.heap.size->¬m (w.heap.size+1)->¬T w.heap.size/\¬T (w.heap.size+1):=fun h hf A z=>
   ⟨fun b=>(hf _ b).elim (fun e=>A (hX.sub _ _ _ h _ e)) fun e=>e.1 (.inr (.inl rfl)),fun b=>(hf _ b).elim (fun e=>z (hX.sub _ _ _ h _ e)) fun e=>e.1 (.inr (.inr rfl))⟩
  refine ⟨fun F U W ⟨m,h,_⟩=>hX.rel _ _ _ h,fun F U W ⟨m,h,e,_⟩ c d=>by rw [e]; exact .inl (hX.sub _ _ _ h c d),fun F U W ⟨m,h,e,_,_,hs,_⟩ c d=>?_,fun F U W ⟨m,h,_⟩=>hX.le _ _ _ h,fun F U W W' ⟨m,h,e,A,z,h3,⟨x,h4,ak⟩,O⟩ an j aa=>?_,fun F U W T ⟨m,h,e,A,z,h3,h4,O⟩ ha hb=>?_⟩
  rotate_left
  rotate_left
  ·rw [e] at hb ⊢
   obtain ⟨g1,g2⟩:=gr h hb A z
   exact ⟨fun c=>m c\/T c,hX.grow _ _ _ _ h ha fun c d=>(hb c d).imp id fun ⟨q,r⟩=>⟨fun hu=>q (.inl hu),r⟩,funext fun c=>propext ⟨fun b=>b.elim (fun b=>b.elim (fun b=>.inl (.inl b)) .inr) fun b=>.inl (.inr b),fun b=>b.elim (fun b=>b.elim (fun b=>.inl (.inl b)) .inr) fun b=>.inl (.inr b)⟩,fun b=>b.elim A g1,fun b=>b.elim z g2,h3,h4,O⟩
  ·rw [e] at d
   rcases d with d | rfl | rfl
   ·exact hX.lt _ _ _ h c d
   ·omega
   ·omega
  ·rw [e] at j
   refine ⟨m,hX.off _ _ W W' h an (fun c d=>j c (d.imp .inl id)) aa,e,A,z,by omega,⟨x,?_,ak⟩,?_⟩
   ·rw [j _ (.inl (.inr (.inr rfl)))]; exact h4
   ·rw [j _ (.inl (.inr (.inl rfl)))]; exact O
 refine ⟨w.heap.size+1,[{ target:=.collected w.heap.size,args:=#[] }],Z,{ target:=.fn (.func gf) lb,args:=#[.func (.yield (w.heap.size+1)) #[] #[]] },Z,gf,
  #[.func (.yield (w.heap.size+1)) #[] #[]]++lb,Z,?_,?_,?_,?_,fun h=>by simp [Fence.wide] at h,?_⟩
 ·rw [←N,f]; exact run_enterLoop_outer _ _ _ _ _
 ·simp only [resolve,hg]
  simp [go_sem]
 ·intro f' b1; trivial
 ·simp [invoke,go_sem,eg]
 ·have C:=it (w.heap.size+1) w.heap.size lb (fun i=>bk (fun x=>x=.loop (rec .ready none)) (I i)) (bk (fun x=>True) fun F U W=>∃c,Ix c F U W/\W.heap[w.heap.size+1]? = some (.loop (rec .done (some c)))) Z F0 (fun c=>U0 c\/c=w.heap.size\/c=w.heap.size+1)
   (fun i=>bh _ _ (hI i)) ?_ ?_ ?_ ?_
  ·refine callsIn_wide.2 (C.mono ?_)
   rintro e W2 ⟨⟨v,rfl⟩,T,m,h | h⟩
   ·subst K
    obtain ⟨U2,hi,e,A,z,h3,⟨x,hx,rfl⟩,O⟩:=h
    refine ⟨none,_,by have:=run_endLoop (P:=P) hx (by rw [f]; simp); rw [f] at this; exact this,?_⟩
    refine ad w.heap.size T U2 _ (cO _) (by simp; omega) A ((World.putObj_heap_other (by omega)).trans O) ((hI _).off _ _ W2 _ hi (by simp) (fun c d=>ZU ?_) ⟨rfl,rfl,rfl⟩)
    rintro rfl
    exact d.elim z (by omega)
   ·subst K
    obtain ⟨U2,⟨c,hi,hx⟩,e,A,z,h3,_,O⟩:=h
    refine ⟨some c,_,by have:=run_endLoop (P:=P) hx (by rw [f]; simp); rw [f] at this; exact this,?_⟩
    refine wpIn_wide.2 (af w.heap.size c T U2 _ (cO _) (by simp; omega) A ((World.putObj_heap_other (by omega)).trans O) ((s _).off _ _ W2 _ hi (by simp) (fun c d=>ZU ?_) ⟨rfl,rfl,rfl⟩))
    rintro rfl
    exact d.elim z (by omega)
  ·
   subst K
   refine ⟨fun F U W ⟨m,⟨c,h,_⟩,_⟩=>(s c).rel _ _ _ h,fun F U W ⟨m,⟨c,h,_⟩,e,_⟩ c' d=>by rw [e]; exact .inl ((s c).sub _ _ _ h c' d),fun F U W ⟨m,⟨c,h,_⟩,e,_,_,hs,_⟩ c' d=>?_,fun F U W ⟨m,⟨c,h,_⟩,_⟩=>(s c).le _ _ _ h,
    fun F U W W' ⟨m,⟨c,h,hr⟩,e,A,z,h3,⟨x,h4,ak⟩,O⟩ an j aa=>?_,fun F U W T ⟨m,⟨c,h,hr⟩,e,A,z,h3,h4,O⟩ ha hb=>?_⟩
   rotate_left
   rotate_left
   ·rw [e] at hb ⊢
    have g1:¬T w.heap.size:=fun b=>(hb _ b).elim (fun e=>A ((s c).sub _ _ _ h _ e)) fun e=>e.1 (.inr (.inl rfl))
    have g2:¬T (w.heap.size+1):=fun b=>(hb _ b).elim (fun e=>z ((s c).sub _ _ _ h _ e)) fun e=>e.1 (.inr (.inr rfl))
    exact ⟨fun c=>m c\/T c,⟨c,(s c).grow _ _ _ _ h ha fun c d=>(hb c d).imp id fun ⟨q,r⟩=>⟨fun hu=>q (.inl hu),r⟩,hr⟩,funext fun c=>propext ⟨fun b=>b.elim (fun b=>b.elim (fun b=>.inl (.inl b)) .inr) fun b=>.inl (.inr b),fun b=>b.elim (fun b=>b.elim (fun b=>.inl (.inl b)) .inr) fun b=>.inl (.inr b)⟩,fun b=>b.elim A g1,fun b=>b.elim z g2,h3,h4,O⟩
   ·rw [e] at d
    rcases d with d | rfl | rfl
    ·exact (s c).lt _ _ _ h c' d
    ·omega
    ·omega
   ·rw [e] at j
    have av:=j _ (.inl (.inr (.inr rfl)))
    refine ⟨m,⟨c,(s c).off _ _ W W' h an (fun c d=>j c (d.imp .inl id)) aa,av.trans hr⟩,e,A,z,by omega,⟨x,av.trans h4,ak⟩,(j _ (.inl (.inr (.inl rfl)))).trans O⟩
  ·intro i F U W h
   subst K
   obtain ⟨m,h,_⟩:=h
   exact d i F m W h
  ·
   intro i ds F U W vs hi h ax
   subst K
   obtain ⟨U2,a0,e,A,z,h3,⟨x,hx,rfl⟩,O⟩:=h
   have hy:=run_yield (P:=P) (args:=vs) hx (by rw [f,ax.1]; exact a5 ds (yP hi))
   rw [f] at hy
   refine ⟨fn,_,assign,body,hy,roundIn_of_wpIn a6 (wpIn_mono (ab _ i ds F U2 W vs hi a0 ax) ?_)⟩
   intro ex a1 w1 S
   cases ex with
   | normal =>
    obtain ⟨F1,U1,k1,b2,hb⟩:=S
    obtain ⟨o1,u1⟩:=k1.off _ (by omega) z
    obtain ⟨o2,u2⟩:=k1.off _ (by omega) A
    have bi:w1.heap[w.heap.size+1]? = some (.loop (rec .ready none)):=o1.trans hx
    refine ⟨_,run_beginRound bi (by rw [f]),?_⟩
    have b3:=k1.size
    have B:=hb (w1.putObj (w.heap.size+1) (.loop { rec .ready none with state:=.busy })) (by simp) (fun c d=>ZU (by rintro rfl; exact d.elim u1 (by omega))) ⟨rfl,rfl,rfl⟩
    refine wpIn_mono B ?_
    have bl:(w1.putObj (w.heap.size+1) (.loop { rec .ready none with state:=.busy })).heap[w.heap.size+1]? = some (.loop { rec .ready none with state:=.busy }):=World.putObj_heap_same (by omega)
    have bt:(w1.putObj (w.heap.size+1) (.loop { rec .ready none with state:=.busy })).heap[w.heap.size]? = some (.deferred (some [])):=(ZU (by omega)).trans (o2.trans O)
    have fin:∀(u:Option Code) (X:(Nat->Prop)->(Nat->Prop)->World->Prop) (hX:wM w.heap.size X) E y (W3:World),Kept F U1 (w1.putObj (w.heap.size+1) (.loop { rec .ready none with state:=.busy })) E y W3->X E y W3 ->
      ∃ M, (Instr.endRound (w.heap.size + 1) u).run P W3 = .ok (.bool u.isNone) M /\ M.heap[w.heap.size + 1]? = some (.loop (rec (if u.isNone then .ready else .done) u)) /\ M.heap[w.heap.size]? = some (.deferred (some [])) /\ X E y M /\
       ¬y w.heap.size/\¬y (w.heap.size+1)/\w.heap.size+1<M.heap.size/\Kept F U W E (fun c=>y c\/c=w.heap.size\/c=w.heap.size+1) M:=fun u X hX E y W3 G bu=>by
     obtain ⟨p1,q1⟩:=G.off (w.heap.size+1) (by simp; omega) u1
     obtain ⟨p2,q2⟩:=G.off w.heap.size (by simp; omega) u2
     have bv:=p1.trans bl
     have bw:=G.size
     simp only [World.putObj_size] at bw
     have:=run_endRound (P:=P) u bv
     rw [f] at this ⊢
     refine ⟨_,this,World.putObj_heap_same (by omega),(ZU (by omega)).trans (p2.trans bt),hX.off _ _ W3 _ bu (by simp) (fun c d=>ZU (by rintro rfl; exact d.elim q1 (by omega))) ⟨rfl,rfl,rfl⟩,q2,q1,by simp; omega,?_⟩
     refine ⟨by simp; omega,fun c d hu=>?_,fun c d=>?_,⟨G.out.1.trans k1.out.1,G.out.2.1.trans k1.out.2.1,G.out.2.2.trans k1.out.2.2⟩⟩
     ·rw [e] at hu
      simp only [not_or] at hu
      obtain ⟨m1,m2⟩:=k1.off c d hu.1
      obtain ⟨m3,m4⟩:=G.off c (by simp; omega) m2
      exact ⟨by rw [ZU hu.2.2,m3,ZU hu.2.2,m1],by simp only [not_or]; exact ⟨m4,hu.2⟩⟩
     ·have a2:c≠w.heap.size+1:=by rintro rfl; exact z ((hI i).sub _ _ _ a0 _ d)
      obtain ⟨m1,m2⟩:=k1.fz c d
      obtain ⟨m3,m4⟩:=G.fz c d
      exact ⟨m3,by rw [ZU a2,m4,ZU a2,m2]⟩
    rintro ex a3 W3 S
    cases ex with
    | normal =>
     obtain ⟨E,y,G,L⟩:=S
     obtain ⟨M,r1,r2,r3,r4,r5,r6,r7,r8⟩:=fin none _ (hI (i+1)) E y W3 G L
     exact ⟨_,M,r1,E,_,r8,.inl ⟨rfl,y,r4,rfl,r5,r6,r7,⟨_,r2,rfl⟩,r3⟩⟩
    | ret =>
     obtain ⟨E,y,G,L⟩:=S
     obtain ⟨M,r1,r2,r3,r4,r5,r6,r7,r8⟩:=fin (some .ret) _ (s .ret) E y W3 G L
     exact ⟨_,M,r1,E,_,r8,.inr ⟨rfl,y,⟨.ret,r4,r2⟩,rfl,r5,r6,r7,⟨_,r2,trivial⟩,r3⟩⟩
    | exit id =>
     obtain ⟨E,y,G,L⟩:=S
     obtain ⟨M,r1,r2,r3,r4,r5,r6,r7,r8⟩:=fin (some (.exit id)) _ (s (.exit id)) E y W3 G L
     exact ⟨_,M,r1,E,_,r8,.inr ⟨rfl,y,⟨.exit id,r4,r2⟩,rfl,r5,r6,r7,⟨_,r2,trivial⟩,r3⟩⟩
    | goto t =>
     obtain ⟨E,y,G,L⟩:=S
     obtain ⟨M,r1,r2,r3,r4,r5,r6,r7,r8⟩:=fin (some (.goto t)) _ (s (.goto t)) E y W3 G L
     exact ⟨_,M,r1,E,_,r8,.inr ⟨rfl,y,⟨.goto t,r4,r2⟩,rfl,r5,r6,r7,⟨_,r2,trivial⟩,r3⟩⟩
    | panic ch=>exact S.elim
    | outgrown=>exact S.elim
   | exit id=>exact S.elim
   | goto t=>exact S.elim
   | ret=>exact S.elim
   | panic ch=>exact S.elim
   | outgrown=>exact S.elim
  ·subst K
   exact ⟨U0,bb,rfl,be,bd,by omega,⟨_,a8,rfl⟩,a9⟩
end Go.Abs
end
section
namespace Go.Abs
noncomputable section
variable[Gl][Y:Ty]
def sQ:(cs:List dr)->lB cs->List D
 |[],_=>[]
 |[c],x=>[c.enc x]
 |c::d::cs,x=>c.enc x.1::sQ (d::cs) x.2
def rL(cs:List dr)(x:lB cs):D:=one (sQ cs x)
def bQ(P:Program)(g:Nat)(s:bJ):Prop:=∀a r,s.f a=some r->Pure P g (sW s.ins a) (rL s.out r)
def WA(P:Program)(g:Nat):bJ->Prop
 | ⟨[.c (.sl i)],[.c (.sl j)],f⟩=>∀l r,f (l,())=some r->ItOk P g [[.cD false (l.map (enc i))]] (r.map λa=>[ST (enc j a)])
 |_=>True
def ff(P:Program)(S:sC):Prop:=∀p∈S,(Nat.blt p.1 1048576=true->bQ P p.1 p.2)/\(Nat.blt p.1 1048576=false->WA P (p.1-1048576) p.2)
theorem tsk_mem{g:Nat}{s:bJ}:∀{S:sC},ZI g S=some s->(g,s)∈S:=by
 intro S;induction S with
 |nil=>grind [ZI]
 |cons p S ih=>
  intro h;obtain ⟨q,a⟩:=p;simp only[ZI] at h;split at h
  ·rename_i hb;have:=dd hb;subst this
   simp_all
  ·exact nS _ (ih h)
theorem ff.iter{P:Program}{S:sC}(h:ff P S){g:Nat}{s:bJ}(hs:ZI (g+1048576) S=some s):WA P g s:=by have:=(h _ (tsk_mem hs)).2 (by show Nat.blt (g+1048576) 1048576=false;exact Bool.eq_false_iff.2 λe=>by have:=tc.mp e;omega);simpa using this
def FU(S:sC):xe:=(S.filter λp=>Nat.blt p.1 1048576).map λp=>(p.1,spec (sW p.2.ins) (rL p.2.out) p.2.f)
theorem dr.inj{c:dr}{a b:c.dn}(h:c.enc a=c.enc b):a=b:=by
 cases c with
 |c x=>grind [dr.enc,LS,I_]
 |st i=>exact ST_inj (λ{a b}=>I_ i a b) h
 |fp i=>simp only[dr.enc,D.c.injEq,C.cz.injEq,Kv] at h;grind [I_]
 |k g=>rfl
theorem Mw:∀{cs:List dr}{a b:rS cs},sW cs a=sW cs b->a=b:=by
 intro cs;induction cs with
 |nil=>simp_all
 |cons c cs ih=>grind [sW,dr.inj]
theorem Ol{P:Program}{S:sC}(h:ff P S):qu P (FU S):=by intro p a ds r b;simp only[FU,iP,ND] at a;obtain ⟨q,⟨d,hb⟩,rfl⟩:=a;exact spec_ok ((h q d).1 hb) ds r b
theorem Z_{g:Nat}{s:bJ}(b:Nat.blt g 1048576=true):∀{S:sC},ZI g S=some s->Vl g (FU S)=some (spec (sW s.ins) (rL s.out) s.f):=by
 intro S;induction S with
 |nil=>grind [ZI]
 |cons p S ih=>
  intro h;obtain ⟨q,f⟩:=p;simp only[ZI] at h;split at h
  ·rename_i hb;have:=dd hb;subst this;simp only[au] at h;subst h;simp only[FU,List.filter_cons,b,if_true,ql,Vl];split
   ·rfl
   ·rename_i d;simp at d
  ·rename_i hb;have e:=ih h;cases a:Nat.blt q 1048576 with
   |false=>simpa only[FU,List.filter_cons,a,bX,cr] using e
   |true=>simp only[FU,List.filter_cons,a,if_true,ql,Vl];rw[hb];exact e
theorem Zw{g:Nat}{s:bJ}{S:sC}(h:Yi g S=some s):Vl g (FU S)=some (spec (sW s.ins) (rL s.out) s.f):=by
 unfold Yi at h;split at h
 ·rename_i a;exact Z_ a h
 ·simp at h
theorem Lq{i:Nat}{xs:List TC}{a:TT i}(h:BR i (.agg xs)=some a):∃x,DZ (Y.fl i) xs=some x/\a=Y.mkt i x:=by
 simp only[BR] at h
 grind
theorem OD{c:dr}{v:TV}{d:D}{a:c.dn}(h:qp c v=some a)(r:RT v d):Ca d=c.enc a/\d.low 0=true/\d.plain=true:=by
 cases c with
 |c x=>
  cases v with
  |c y=>
   simp only[qp,JV] at h;obtain ⟨p,b⟩:=oD h;rcases r with r | rfl
   ·simp_all
   ·obtain ⟨q,w⟩:∃q,y.er=.c q:=by
     cases E:y.er with
     |c q=>simp_all
     |_=>grind [wo]
    rw[w] at b ⊢;exact ⟨b,rfl,rfl⟩
  |agg f=>grind [qp,JV]
  |aT f=>grind [qp,JV]
 |st i=>
  cases v with
  |c y=>grind [qp,BR]
  |agg f=>
   obtain ⟨x,p,rfl⟩:=Lq h;obtain ⟨b,z⟩:=OO p;obtain ⟨ds,rfl,A⟩:=r;rw[A.eq b];have j:∀(l:List D)(m:List C),l.map wo=m.map .c->D.low.cU 0 l=true/\(l.all λd=>match d with | .fn ..=>false | _=>true)=true:=by
    intro l;induction l with
    |nil=>intro m _;exact ⟨rfl,rfl⟩
    |cons d l ih=>
     intro m s;cases m with
     |nil=>grind
     |cons c m=>
      simp only[ql,yCe] at s;obtain ⟨t,u⟩:=ih m s.2;cases d with
      |c x=>grind [D.low.cU,D.low]
      |_=>grind [wo]
   obtain ⟨t,u⟩:=j _ _ z;refine ⟨?_,t,u⟩
   grind [Ca,dr.enc,tT,Ty.pm]
  |aT f=>grind [qp,BR]
 |fp i=>
  simp only[qp] at h;unfold vG at h;split at h
  ·split at h
   ·rename_i e _;subst e;simp only[au] at h;subst h;rcases r with r | rfl
    ·simp at r
    ·exact ⟨rfl,rfl,rfl⟩
   simp_all
  simp_all
 |k g=>
  simp only[qp] at h;unfold PT at h;split at h
  ·split at h
   ·rename_i hb;have:=dd hb;subst this;rcases r with r | rfl
    ·simp at r
    ·exact ⟨rfl,rfl,rfl⟩
   simp_all
  simp_all
inductive fU:List TV->List D->Prop where
 |nil:fU [] []
 |cons {v:TV} {d:D} {vs:List TV} {ds:List D} (h:RT v d) (r:fU vs ds):fU (v::vs) (d::ds)
theorem Re:∀{cs:List dr}{vs:List TV}{ds:List D}{a:rS cs},yy cs vs=some a->fU vs ds->ds.map Ca=sW cs a/\(ds.all λd=>d.low 0&&d.plain)=true:=by
 intro cs;induction cs with
 |nil=>
  intro vs ds a h r;cases r with
  |nil=>exact ⟨rfl,rfl⟩
  |cons _ _=>grind [yy]
 |cons c cs ih=>
  intro vs ds a h r;cases r with
  |nil=>grind [yy]
  |cons b r=>
   simp only[yy] at h
   grind [OD,sW]
theorem dr.Je(c:dr)(a:c.dn):(c.enc a).low 0=true:=by
 cases c with
 |c x=>rfl
 |st i=>exact Zz _
 |fp i=>rfl
 |k g=>rfl
theorem Xn:∀(cs:List dr)(x:lB cs),D.low.cU 0 (sQ cs x)=true:=by
 intro cs;induction cs with
 |nil=>intro x;rfl
 |cons c cs ih=>
  intro x;cases cs with
  |nil=>grind [sQ,D.low.cU,dr.Je]
  |cons d cs=>simp only[sQ,D.low.cU,dr.Je,yC7];simp_all
theorem XQ(cs:List dr)(x:lB cs):(rL cs x).low 0=true:=by
 have:=Xn cs x;unfold rL one;split
 ·rename_i d h;rw[h] at this;simp only[D.low.cU,NP] at this;omega
 ·exact this
theorem te_ok(c:dr)(a:c.dn):RE (c.te a) (c.enc a):=by
 cases c with
 |c x=>exact ⟨_,rfl,.inr (lu x a).symm⟩
 |st i=>exact ⟨_,rfl,Ry i a⟩
 |fp i=>exact ⟨_,rfl,.inr rfl⟩
 |k g=>exact ⟨_,rfl,.inr rfl⟩
theorem outL_ok:∀(cs:List dr)(x:lB cs),aK RE (Nk cs x) (sQ cs x):=by
 intro cs;induction cs with
 |nil=>intro x;exact .nil
 |cons c cs ih=>
  intro x;cases cs with
  |nil=>exact .cons (te_ok c x) .nil
  |cons d cs=>exact .cons (te_ok c x.1) (ih x.2)
theorem QS(cs:List dr)(x:lB cs):RT (outT cs x) (rL cs x):=by
 cases cs with
 |nil=>exact ⟨[],rfl,.nil⟩
 |cons c cs=>
  cases cs with
  |nil=>exact c.DH x
  |cons d cs=>refine ⟨sQ (c::d::cs) x,?_,outL_ok (c::d::cs) x⟩;cases cs <;> rfl
theorem Sc{σ:TH}(c:dr)(a:c.dn):∀x∈(c.te a).2,GC σ x:=by
 cases c with
 |c x=>grind [dr.te,vy]
 |st i=>exact uV i a
 |fp i=>intro y b;simp only[dr.te,zK] at b;subst b;trivial
 |k g=>intro y b;simp only[dr.te,zK] at b;subst b;rfl
theorem Tf{σ:TH}:∀(cs:List dr)(x:lB cs),∀p∈Nk cs x,∀y∈p.2,GC σ y:=by
 intro cs;induction cs with
 |nil=>grind [Nk]
 |cons c cs ih=>
  intro x p a;cases cs with
  |nil=>grind [Nk,Sc]
  |cons d cs=>grind [Nk,Sc]
theorem CK{σ:TH}(c:dr)(a:c.dn):GV σ (c.tv a):=by
 cases c with
 |c x=>exact vy x a
 |st i=>exact uV i a
 |fp i=>trivial
 |k g=>rfl
theorem Gb{σ:TH}(cs:List dr)(x:lB cs):GV σ (outT cs x):=by
 cases cs with
 |nil=>intro p a;grind [Nk]
 |cons c cs=>
  cases cs with
  |nil=>exact CK c x
  |cons d cs=>exact Tf (c::d::cs) x
variable{P:Program}{orc:wx}{n:Nat}{alD:AL}{σ σ1:TH}{σD σD1:ar}{o:kE}{Q:TV->TH->Bool->List Nat->Prop}{rd:aQ->Option TV}
theorem Pz{c:CC}{x:TC}{a:c.dn}(h:Ew c x=some a):∃q,x.er=.c q:=by
 obtain ⟨_,b⟩:=oD h;cases d:x.er with
 |c q=>simp_all
 |_=>grind [wo]
theorem WW(H:RH σ σD){x:TC}(g:GC σ x){c:CC}{a:c.dn}(h:Ew c (BQ σ x)=some a):∃q,fS σD 0 100 x.er=some q/\wo (.c q)=.c (rR enc c a):=by
 have other:BQ σ x=x->∃q,fS σD 0 100 x.er=some q/\wo (.c q)=.c (rR enc c a):=λe=>by rw[e] at h;obtain ⟨_,f⟩:=oD h;obtain ⟨q,s⟩:=Pz h;rw[s] at f;exact ⟨q,by rw[s];rfl,f⟩
 cases x with
 |own i b v m=>
  have bad:∀{z:TC}{a:c.dn},z=.own i b v m->Ew c z=some a->False:=λe h=>by grind [Ew]
  cases hb:σ[b]? with
  |none=>simp only[BQ,hb] at h;simp_all
  |some blk=>
   cases blk with
   |row j l t u=>
    cases d:Nat.beq t v with
    |false=>simp only[BQ,hb,d] at h;simp_all
    |true=>simp only[BQ,hb,d] at h;have d:=dd d;obtain ⟨blk,p,f⟩:=g;rw[hb] at p;simp only[au] at p;obtain ⟨_,y⟩:=f j l t u p.symm;obtain ⟨rfl,rfl⟩:=y d.symm;refine ⟨_,Dy (k:=98) (tj j) (Y.ps j) (H.row hb) rfl,?_⟩;obtain ⟨_,A⟩:=oD h;rw[<-A];rfl
   |cells w E=>simp only[BQ,hb] at h;simp_all
   |mp j st l w=>simp only[BQ,hb] at h;simp_all
 |_=>exact other rfl
theorem frTs_ok(H:RH σ σD):∀{cs:List CC}{xs:List TC}{a:aT cs},(∀x∈xs,GC σ x)->DZ cs (xs.map (BQ σ))=some a->∃b,(xs.map TC.er).mapM (fS σD 0 100)=some b/\(b.map D.c).map wo=(mV enc cs a).map .c:=by
 intro cs;induction cs with
 |nil=>
  intro xs a _ h;cases xs with
  |nil=>exact ⟨[],rfl,rfl⟩
  |cons x xs=>grind [DZ]
 |cons c cs ih=>
  intro xs a g h;cases xs with
  |nil=>grind [DZ]
  |cons x xs=>
   simp only[ql,DZ] at h;split at h
   ·rename_i i j d e;simp only[au] at h;subst h;obtain ⟨q,l,m⟩:=WW H (g x (rJ ..)) d;obtain ⟨b,p,s⟩:=ih (λy f=>g y (nS _ f)) e;refine ⟨q::b,?_,?_⟩
    ·simp_all
    grind [mV]
   simp_all
theorem Mf(σ:TH):∀{cs:List CC}{xs:List TC}{a:aT cs},DZ cs (xs.map (BQ σ))=some a->∀y∈xs,y≠.any:=by intro cs xs a h y b e;subst e;have:=(OO h).1 (BQ σ .any) (List.mem_map_of_mem b);exact this rfl
theorem QH{i b v m:Nat}:(∃j l,BQ σ (.own i b v m)=.sl j l)\/BQ σ (.own i b v m)=.own i b v m:=by grind [BQ]
theorem OT(H:RH σ σD){c:dr}{v:TV}{d:D}{a:c.dn}(g:GV σ v)(r:RT v d)(h:qp c (fN σ v)=some a):∃p,oj σD 0 100 d=some p/\vF σD 0 100 d=some p/\Ca p=c.enc a:=by
 have same:fN σ v=v->(∃q,d=.c q)->∃p,oj σD 0 100 d=some p/\vF σD 0 100 d=some p/\Ca p=c.enc a:=λe ⟨q,A⟩=>by rw[e] at h;subst A;exact ⟨_,rfl,rfl,(OD h r).1⟩
 cases v with
 |c x=>
  cases c with
  |c cc=>
   simp only[fN,qp,JV] at h;have E:x≠.any:=λe=>by subst e;exact (oD h).1 rfl
   rcases r with r | rfl
   ·simp_all
   obtain ⟨q,t,u⟩:=WW H g h;have s:oj σD 0 100 x.er=some (.c q):=by
    cases w:x.er with
    |agg F=>grind [fS]
    |_=>grind [oj]
   refine ⟨.c q,s,?_,u⟩;cases w:x.er with
   |aT F=>grind [fS]
   |_=>rw[w] at s;exact s
  |st i=>grind [fN,qp,BR]
  |fp i=>
   cases x with
   |fp j b off=>
    rcases r with r | rfl
    ·simp at r
    exact same rfl ⟨_,rfl⟩
   |own i b v m=>exfalso;simp only[fN,qp] at h;rcases QH (σ:=σ) (i:=i) (b:=b) (v:=v) (m:=m) with ⟨j,l,e⟩ | e <;> rw[e] at h <;> simp[vG] at h
   |_=>grind [fN,BQ,qp,vG]
  |k f=>
   cases x with
   |d y=>
    rcases r with r | rfl
    ·simp at r
    refine same rfl ?_;simp only[fN,BQ,qp,PT] at h
    grind
   |own i b v m=>exfalso;simp only[fN,qp] at h;rcases QH (σ:=σ) (i:=i) (b:=b) (v:=v) (m:=m) with ⟨j,l,e⟩ | e <;> rw[e] at h <;> simp[PT] at h
   |_=>grind [fN,BQ,qp,PT]
 |agg G=>
  cases c with
  |st i=>
   obtain ⟨y,t,rfl⟩:=Lq h;obtain ⟨ds,rfl,K⟩:=r;rw[K.eq (Mf σ t)];obtain ⟨L,u,s⟩:=frTs_ok H g t;have z:=frz_agg (σ:=σD) u;refine ⟨_,z,z,?_⟩
   grind [Ca,dr.enc,tT,Ty.pm]
  |c x=>grind [fN,qp,JV]
  |fp i=>grind [fN,qp,vG]
  |k i=>grind [fN,qp,PT]
 |aT G=>grind [fN,qp,BR,JV,vG,PT]
theorem frVs_ok(H:RH σ σD):∀{cs:List dr}{vs:List TV}{ds:List D}{a:rS cs},(∀v∈vs,GV σ v)->fU vs ds->yy cs (vs.map (fN σ))=some a->∃b,ds.mapM (vF σD 0 100)=some b/\b.map Ca=sW cs a:=by
 intro cs;induction cs with
 |nil=>
  intro vs ds a _ r h;cases r with
  |nil=>exact ⟨[],rfl,rfl⟩
  |cons _ _=>grind [yy]
 |cons c cs ih=>
  intro vs ds a g r h;cases r with
  |nil=>grind [yy]
  |cons d r=>
   simp only[ql,yy] at h;split at h
   ·rename_i x y e f;simp only[au] at h;subst h;obtain ⟨i,_,j,p⟩:=OT H (g _ (rJ ..)) d e;obtain ⟨b,l,q⟩:=ih (λv m=>g v (nS _ m)) r f;exact ⟨i::b,mapM_c j l,by grind [sW]⟩
   simp_all
theorem SX{cs:List dr}(h:cs.all dr.gr=true)(x:lB cs):(rL cs x).ground=true:=by
 have cc:∀(c:CC)(a:c.dn),c.gr=true->(D.c (rR enc c a)).ground=true:=by intro c a h;cases c <;> first | rfl | grind [CC.gr]
 have b:∀(cs:List CC)(x:aT cs),cs.all CC.gr=true->D.ground.gM ((mV enc cs x).map .c)=true:=by
  intro cs;induction cs with
  |nil=>intro x _;rfl
  |cons c cs ih=>
   intro x h;simp only[Rv,bI] at h
   grind [mV,D.ground.gM]
 have e:∀(c:dr)(a:c.dn),c.gr=true->(c.enc a).ground=true:=by
  intro c a h;cases c with
  |c x=>exact cc x a h
  |st i=>simp only[dr.enc,D.ground,tT];exact b _ _ h
  |fp i=>grind [dr.gr]
  |k g=>grind [dr.gr]
 have f:∀(cs:List dr)(x:lB cs),cs.all dr.gr=true->D.ground.gM (sQ cs x)=true:=by
  intro cs;induction cs with
  |nil=>intro x _;rfl
  |cons c cs ih=>
   intro x h;simp only[Rv,bI] at h;cases cs with
   |nil=>grind [sQ,D.ground.gM]
   |cons d cs=>simp only[sQ,D.ground.gM,e c x.1 h.1,yC7];simp_all
 have:=f cs x h;unfold rL one;split
 ·rename_i d h;rw[h] at this;simp only[D.ground.gM,NP] at this;omega
 ·exact this
theorem spc_ok{S:sC}{g:Nat}{s:bJ}{vs:List TV}{ds:List D}{a:rS s.ins}{r:lB s.out}(hs:Yi g S=some s)(d:fU vs ds)(e:yy s.ins vs=some a)(f:s.f a=some r) :
  Cj (FU S) g ds σD=some (rL s.out r,σD,[]):=by
 obtain ⟨h,i⟩:=Re e d;exact zw (Zw hs) i h (Sf (λa b=>Mw) f) (XQ s.out r)
theorem own_low{v:TV}{d:D}(h:xJ v=true)(r:RT v d):d.low 0=false:=by
 cases v with
 |c x=>
  cases x <;> simp[xJ,Qq] at h
  rcases r with r | rfl
  ·simp at r
  ·simp[TC.er,D.low]
 |agg f=>
  obtain ⟨ds,rfl,g⟩:=r;simp only[xJ] at h;simp only[D.low];induction g with
  |nil=>simp at h
  |cons e _ ih=>
   rename_i a b l m _;simp only[List.any_cons,gz] at h;simp only[D.low.cU];rcases h with h | h
   ·cases a <;> simp[Qq] at h
    rcases e with e | rfl
    ·grind
    ·simp[TC.er,D.low]
   simp_all
 |aT f=>grind [xJ]
theorem Zi{vs:List TV}{ds:List D}(r:fU vs ds)(h:vs.any xJ=true):(ds.all λd=>d.low 0&&d.plain)=false:=by
 induction r with
 |nil=>simp at h
 |cons a _ ih=>
  simp only[List.any_cons,gz] at h;simp only[Rv];rcases h with h | h
  ·grind [own_low]
  simp_all
theorem YB{S:sC}(H:RH σ σD){g:Nat}{s:bJ}{vs:List TV}{ds:List D}{a:rS s.ins}{r:lB s.out}(hs:Yi g S=some s)(e:∀v∈vs,GV σ v)(d:fU vs ds)(f:s.out.all dr.gr=true)(h:vs.any xJ=true)
  (i:yy s.ins (vs.map (fN σ))=some a) (j:s.f a=some r):Cj (FU S) g ds σD=some (rL s.out r,σD,[]):=by
 obtain ⟨l,m,p⟩:=frVs_ok H e d i;exact HT (Zw hs) (Zi d h) m p (Sf (λa b=>Mw) j) (SX f r)
end
end Go.Abs
end
section
namespace Go.Abs
noncomputable section
variable[Gl][Y:Ty]
variable{P:Program}{orc:wx}{n:Nat}{alD:AL}{σ σ1:TH}{σD σD1:ar}{o:kE}{Q:TV->TH->Bool->List Nat->Prop}{rd:aQ->Option TV}
theorem rt0:RT (.aT []) (.aT []):=⟨[],rfl,.nil⟩
theorem DG:∀{z:List D}{m:Nat},D.low.cU 0 z=true->∀d∈z,d.low m=true:=by
 intro z;induction z with
 |nil=>simp_all
 |cons x z ih=>
  intro m h d a;simp only[D.low.cU,bI] at h;rcases gu.1 a with rfl | a
  ·exact D.eE (PF _) h.1
  simp_all
theorem aK.ds:∀(z:List D),aK RC (z.map .d) z:=by
 intro z;induction z with
 |nil=>exact .nil
 |cons d z ih=>exact .cons (.inr rfl) ih
theorem Ir{z:List D}(h:D.low.cU 0 z=true):∀x∈z.map TC.d,GC σ x:=by intro x a;rw[iP] at a;obtain ⟨d,b,rfl⟩:=a;exact DG h d b
theorem HF{z:List D}(h:D.low.cU 0 z=true)(k:Nat):∀x∈(dG k z).map TC.d,GC σ x:=by intro x b;rw[iP] at b;obtain ⟨d,a,rfl⟩:=b;simp only[dG,List.mem_flatten,List.mem_replicate] at a;obtain ⟨l,⟨_,rfl⟩,a⟩:=a;exact DG h d a
theorem Xy:∀{cs:List CC}{xs:List TC}{a:aT cs},Sa xs=true->DZ cs xs=some a->xs.map TC.er=(mV enc cs a).map .c:=by
 intro cs;induction cs with
 |nil=>
  intro xs a _ h;cases xs with
  |nil=>rfl
  |cons x xs=>grind [DZ]
 |cons c cs ih=>
  intro xs a b h;cases xs with
  |nil=>grind [DZ]
  |cons x xs=>grind [DZ,Sa,List.cons.injEq,N_,mV]
theorem xY{i:Nat}{xs:List TC}{a:TT i}(h:mkT i xs=some a):xs.map TC.er=(enc i a).map .c/\∀x∈xs,x≠.any:=by grind [mkT,tT,Ty.pm,Xy,OO]
theorem Zm{i:Nat}:∀{k:Nat}{xs:List TC}{l:List (TT i)}{ds:List D},GJ i k xs=some l->aK RC xs ds->ds=(l.flatMap (enc i)).map .c/\l.length=k:=by
 intro k;induction k with
 |zero=>
  intro xs l ds h r;cases xs with
  |nil=>simp only[GJ,au] at h;subst h;cases r;simp_all
  |cons x xs=>grind [GJ]
 |succ k ih=>
  intro xs l ds h r;simp only[GJ] at h;split at h
  ·rename_i a f b d;simp only[au] at h;subst h;obtain ⟨g,e⟩:=xY b;obtain ⟨j,m⟩:=ih d (r.drop (aA i));have p:=(r.take (aA i)).eq e
   grind [List.take_append_drop]
  simp_all
theorem Rs{v:TV}{d:D}{q:Int}(h:lz v=some q)(r:RT v d):d=I q:=by
 unfold lz at h;split at h
 ·simp only[au] at h;subst h;rcases r with r | rfl
  ·simp at r
  ·rfl
 simp_all
theorem RT.c1{x:TC}{d:D}(i:x≠.any)(r:RT (.c x) d):d=x.er:=by
 rcases r with r | r
 ·simp_all
 omega
theorem IP{k:IntKind}:∀{xs:List TC}{l:List Int}{ds:List D},ints k xs=some l->aK RC xs ds->ds=l.map λz=>.c (.lit (.int k z)):=by
 intro xs l ds h r;induction r generalizing l with
 |nil=>grind [ints]
 |cons b _ ih=>
  simp only[ints] at h;split at h
  ·rename_i a g d f;simp only[au] at h;subst h;obtain ⟨i,_⟩:=oD d;rw[ih f,ql];congr 1;rcases b with b | rfl
   ·simp_all
   ·rcases N_ d with e | e
    ·grind [Ew]
    ·rw[e];rfl
  simp_all
theorem dC.c{x:aQ}{y:TC}(i:dC σ alD rd)(h:rd x=some (.c y))(s:y≠.any):lx alD x=some y.er/\GC σ y:=by obtain ⟨d,u,z,j⟩:=i x _ h;exact ⟨by grind [RT.c1],j⟩
theorem dC.int{x:aQ}{v:TV}{q:Int}(i:dC σ alD rd)(h:rd x=some v)(j:lz v=some q):lx alD x=some (I q):=by
 obtain ⟨d,s,u,_⟩:=i x _ h
 grind [Rs]
theorem dC.all(i:dC σ alD rd):∀{xs:List aQ}{vs:List TV},Ml rd xs=some vs->∃ds,Vg alD xs=some ds/\fU vs ds/\∀v∈vs,GV σ v:=by
 intro xs;induction xs with
 |nil=>intro vs h;simp only[Ml,au] at h;subst h;exact ⟨[],rfl,.nil,by simp⟩
 |cons x xs ih=>
  intro vs h;simp only[Ml] at h;split at h
  ·rename_i a b j s;simp only[au] at h;subst h;obtain ⟨d,A,u,E⟩:=i x a j;obtain ⟨ds,F,z,G⟩:=ih s;refine ⟨d::ds,by grind [Vg],.cons u z,λv K=>?_⟩
   grind
  simp_all
theorem castL_len{i j:Nat}{l:List (TT j)}{m:List (TT i)}(h:iy l=some m):m.length=l.length:=by grind [ZX]
theorem zq(H:RH σ σD){b i j a d:Nat}{l:List (TT j)}{m:List (TT i)}(hb:σ[b]? = some (.row j l a d))(h:iy l=some m):σ[b]? = some (.row i m a d):=by grind [ZX]
theorem Iz(H:RH σ σD){i:Nat}{v:TV}{d:D}{m:List (TT i)}(h:Uu i σ v=some m)(r:RT v d)(g:GV σ v):Src σD (enc i) (aA i) d m:=by
 unfold Uu at h;split at h
 ·rename_i j l;obtain ⟨rfl,rfl⟩:=ZX h;rw[RT.c1 (by simp) r];exact Cs (tj j)
 ·simp only[au] at h;subst h;rw[RT.c1 (by simp) r];exact aaa
 ·rename_i j b v q;split at h
  ·rename_i s l t u hb;split at h
   ·rename_i a;have a:=dd a;obtain ⟨blk,e,f⟩:=g;rw[hb] at e;simp only[au] at e;obtain ⟨_,p⟩:=f _ _ _ _ e.symm;obtain ⟨rfl,rfl⟩:=p a.symm;obtain ⟨rfl,rfl⟩:=ZX h;rw[RT.c1 (by simp) r];exact Sw (tj _) (H.row hb) rfl
   simp_all
  simp_all
 simp_all
theorem vD(H:RH σ σD){i b v q j a e:Nat}{l:List (TT j)}(g:GC σ (.own i b v q))(hb:σ[b]? = some (.row j l a e))(d:Nat.beq a v=true):j=i/\q=l.length:=by
 have d:=dd d;obtain ⟨blk,f,h⟩:=g
 grind
theorem XS(H:RH σ σD){i b v q j f d off:Nat}{k:Int}{a:TT i}{l:List (TT j)}(g:GC σ (.op i b v q k a off))(hb:σ[b]? = some (.row j l f d))(e:Nat.beq d v=true):∃m:List (TT i),iy l=some m/\q=m.length/\aE m k=some a:=by
 have e:=dd e;obtain ⟨blk,h,p⟩:=g
 simp_all
theorem Ma{m:Option Nat}{i:Nat}{a:TT i}{off:Nat}{v:TV}(h:An m (exp i a) off=some v):∃d,uM m ((enc i a).map .c) off=some d/\RT v d/\GV σ v:=by
 obtain ⟨d,b,e⟩:=zB h (Ry i a)
 grind [p_,uV]
variable{R:Type}{k:KO R}{r:R}
theorem XT:∀{xs:List Value}{l:List Int},Kt xs=some l->xs=l.map λz=>.int .i64 z:=by
 intro xs;induction xs with
 |nil=>grind [Kt]
 |cons x xs ih=>
  intro l h;unfold Kt at h
  grind
theorem VZ:∀{xs:List C}{l:List Int},LC xs=some l->xs=l.map λz=>.lit (.int .i64 z):=by
 intro xs;induction xs with
 |nil=>grind [LC]
 |cons x xs ih=>
  intro l h;unfold LC at h
  grind
theorem Vt{S:sC}{F:Nat}{m:Option Nat}{x:aQ}(G:dC σ alD rd)(H:RH σ σD)(h:h_ P S F (.load m x) rd σ k=some r):dt P orc n alD σ σD (.load m x) (λv σ1 rs wr=>k v σ1 rs wr=some r):=by
 simp only[h_] at h;split at h
 ·rename_i b off sz f;obtain ⟨s,_⟩:=G.c f (by simp);split at h
  ·rename_i w M hb;obtain ⟨ds,t,u,K,_⟩:=H.cells hb;split at h
   ·rename_i v hs A;obtain ⟨d,L,E⟩:=zB A u;refine dt.pure (qQ s (OK t (by simp_all)) L) E (p_ A λy U=>?_) H h;rw[iP] at U;obtain ⟨p,W,rfl⟩:=U;exact (H.hg b w M hb p W).1
   simp_all
  simp_all
 ·rename_i i a off f;obtain ⟨s,_⟩:=G.c f (by simp);split at h
  ·rename_i v A;obtain ⟨d,t,u,K⟩:=Ma (σ:=σ) A;exact dt.pure (DB s t) u K H h
  simp_all
 ·rename_i i b v q z a off f;obtain ⟨s,g⟩:=G.c f (by simp);split at h
  ·rename_i j l lv cv hb;split at h
   ·rename_i v' A N;obtain ⟨m',t,rfl,u⟩:=XS H g hb A;have O:=zq H hb t;obtain ⟨d,K,L,E⟩:=Ma (σ:=σ) N;exact dt.pure (XF (tj i) s rfl (H.row O) rfl (Zc u) K) L E H h
   simp_all
  simp_all
 ·rename_i b off len sz i f;obtain ⟨s,g⟩:=G.c f (by simp);split at h
  ·rename_i w M hb;obtain ⟨ds,t,u,K,_⟩:=H.cells hb;split at h
   ·rename_i l hs hl;simp only[bI] at hs;obtain ⟨a,T,hk⟩:=Ah h;have L:=IP hl ((u.drop off).take len);obtain ⟨X,Z,a3⟩:=nR T;refine dt.one hk (qQ s (OK t (by simp_all)) (d:=I a) ?_) rfl rfl H;have E:((ds.drop off).take len)[i.toNat]? = some (I a):=by simp_all
    have h7:i.toNat<len:=by grind
    rw[yB1 h7,yBP] at E;simp only[uM,Nat.mul_one];exact E
   simp_all
  simp_all
 ·rename_i M off f;obtain ⟨s,g⟩:=G.c f (by simp);split at h
  ·rename_i l hl;obtain ⟨a,T,hk⟩:=Ah h;obtain ⟨X,Z,a3⟩:=nR T;have e:=VZ hl;subst e;refine dt.one hk (DB s (d:=I a) ?_) rfl rfl H
   grind [uM]
  simp_all
 simp_all
theorem SO{S:sC}{N:Nat}{m:Nat}{x y:aQ}(T:dC σ alD rd)(H:RH σ σD)(h:h_ P S N (.store m x y) rd σ k=some r):dt P orc n alD σ σD (.store m x y) (λv σ1 rs wr=>k v σ1 rs wr=some r):=by
 simp only[h_] at h;split at h
 ·rename_i b off sz v Z hv;obtain ⟨h1,_⟩:=T.c Z (by simp);obtain ⟨d,h2,h3,h4⟩:=T _ _ hv;split at h
  ·rename_i w E f hb A;obtain ⟨ds,h5,h6,h7,aa⟩:=H.cells hb;obtain ⟨h8,h9,ab⟩:=qg A h3;split at h
   ·rename_i u;simp only[bI] at u;have c1:=dd u.1;have c2:=dd u.2.1;have c3:=BW u.2.2;have F:(rP E off (f.map λx=>(w+1,x))).length=E.length:=by
     grind [rP]
    have s:BE (.cells w E) (.cells (w+1) (rP E off (f.map λx=>(w+1,x)))):=by
     refine ⟨w+1,_,rfl,by omega,yBW F.symm,λj v x v1 x1 U W=>?_⟩;by_cases hj:j<off
     ·grind [rP]
     ·by_cases ak:j<off+f.length
      ·right;simp only[rP] at W
       grind
      ·left;simp only[rP] at W
       grind
    have L:∀w' M,TB.cells (w+1) (rP E off (f.map λx=>(w+1,x)))=.cells w' M->∀p∈M,GC σ p.2/\p.1<=w':=by
     intro w' M e p G;simp only[TB.cells.injEq] at e;obtain ⟨rfl,rfl⟩:=e;rcases Mg G with G | G
     ·obtain ⟨q1,q2⟩:=H.hg b w E hb p G
      grind
     ·rw[iP] at G;obtain ⟨y,hy,rfl⟩:=G;exact ⟨uX A h4 y hy,cO _⟩
    have ad:RB (.cells (w+1) (rP E off (f.map λx=>(w+1,x)))) (.cells (put ds off (f.map TC.er))):=by unfold RB TB.er;rw[aa];simp[put,rP,Function.comp_def]
    refine ⟨_,_,_,_,.aT [],σD.set b (.cells (put ds off (f.map TC.er))),Dp h1 (OK h5 (by omega)) h2 h8 ⟨by simp_all,c3⟩ rfl,rt0,?_,H.set hb s ad L,Ext.set hb s,λ_=>?_,λe=>by grind [xc],h⟩
    ·intro p G;grind
    ·simp only[ko,Rv,List.all_nil,NP];rw[h5,FV h5];simp only[Ob.sz,nh]
     grind [put]
   simp_all
  simp_all
 ·rename_i i b v q z a off xv Z hv;obtain ⟨h1,g⟩:=T.c Z (by simp);obtain ⟨d,h2,h3,h4⟩:=T _ _ hv;split at h
  ·rename_i j l lv cv f hb A;obtain ⟨h8,h9,ab⟩:=qg A h3;split at h
   ·rename_i X l' u ha hl;simp only[bI] at u;obtain ⟨m',U,rfl,W⟩:=XS H g hb u.1;rw[hl] at U;simp only[au] at U;subst U;have t:=zq H hb hl;have c2:=dd u.2.1;obtain ⟨e3,e4⟩:=xY ha;have K:(rP (exp i a) off f).map TC.er=((exp i a).map TC.er).take off++f.map TC.er++((exp i a).map TC.er).drop (off+f.length):=by
     simp[rP]
    rw[e3,tn] at K;obtain ⟨O,af⟩:∃O:List C,f.map TC.er=O.map .c:=by
     have c3:=BW u.2.2;refine ⟨((enc i X).drop off).take f.length,?_⟩;rw[List.map_take,List.map_drop,K];have l1:(((enc i a).map D.c).take off).length=off:=by grind [tj]
     simp_all
    have F:O.length=f.length:=by have:=HE List.length af;grind
    have he:enc i X=(enc i a).take off++O++(enc i a).drop (off+O.length):=by
     apply Nu
     simp_all
    have s:BE (.row i l' lv cv) (.row i (l'.set z.toNat X) lv (cv+1)):=⟨_,_,_,rfl,cO _,by omega,λ_=>by simp,λe=>by omega⟩;refine ⟨_,_,_,_,.aT [],σD.set b (OB (enc i) (l'.set z.toNat X)),SM (tj i) h1 rfl (H.row t) rfl (Zc W) h2 (by simp_all) (by omega) u.2.2 he rfl rfl,rt0,?_,H.set t s rfl (λw E e=>by simp at e),Ext.set t s,λ_=>?_,λe=>by grind [xc],h⟩
    ·intro p G;grind
    ·simp only[ko,Rv,List.all_nil,NP];rw[H.row t,FV (H.row t)];simp[Ob.sz,gU (tj i)]
   simp_all
  simp_all
 simp_all
end
end Go.Abs
end
