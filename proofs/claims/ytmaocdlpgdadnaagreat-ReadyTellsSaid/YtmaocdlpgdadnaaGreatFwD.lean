/- DfwPa, DfwPb, DfwPc, DfwCx, DfwPd, DfwRf, DfwPe, DfwPf -/
import Derived.Test.YtmaocdlpgdadnaaGreatFwC
import Derived.Test.YtmaocdlpgdadnaaGreatFwB
import Derived.RangeFuncStops
import Derived.ControlIn
set_option linter.all false
section
namespace Go.Abs
variable[Gl]
inductive CC where
 |int (k:IntKind)
 |bool
 |str
 |sl (i:Nat)
 |fk (gs:List Nat)
 deriving DecidableEq,Inhabited
@[reducible] def CC.den(T:Nat->Type):CC->Type
 |.int _=>Int
 |.bool=>Bool
 |.str=>ByteArray
 |.sl i=>List (T i)
 |.fk _=>Nat
@[reducible] def Rk(T:Nat->Type):List CC->Type
 |[]=>Unit
 |c::a=>c.den T×Rk T a
def okL(i:Nat):List CC->Bool
 |[]=>true
 |.sl j::l=>Nat.blt j i&&okL i l
 |_::l=>okL i l
theorem zo{i j:Nat}:∀{l:List CC},okL i l=true->CC.sl j∈l->j<i:=by
 intro l;induction l with
 |nil=>intro _ h;simp at h
 |cons c l ih=>
  intro e h;cases c <;> simp only[okL,aU,dO,reduceCtorEq,false_or,CC.sl.injEq] at e h
  case sl=>rcases h with rfl | h;exact oS.mp e.1;exact ih e.2 h
  all_goals exact ih e h
class Ty where
 T:Nat->Type
 fl:Nat->List CC
 Ve:∀i,T i->Rk T (fl i)
 Vj:∀i,Rk T (fl i)->T i
 mp:∀i a,Vj i (Ve i a)=a
 pm:∀i x,Ve i (Vj i x)=x
 dn:∀i j,CC.sl j∈fl i->j<i
 ps:∀i,0<(fl i).length
section
variable[Y:Ty]
abbrev TT(i:Nat):Type:=Y.T i
abbrev CC.dn(c:CC):Type:=c.den Y.T
abbrev aB(cs:List CC):Type:=Rk Y.T cs
abbrev ai(i:Nat):Nat:=(Y.fl i).length
def nB(rec:(j:Nat)->TT j->List C):(c:CC)->c.dn->C
 |.int k,n=>.lit (.int k n)
 |.bool,b=>.lit (.bool b)
 |.str,s=>.lit (.string s)
 |.sl j,l=>.bG false (l.map (rec j))
 |.fk _,g=>.fn (.func g) [] []
def jS(rec:(j:Nat)->TT j->List C):(cs:List CC)->aB cs->List C
 |[],_=>[]
 |c::cs,x=>nB rec c x.1::jS rec cs x.2
def FJ:Nat->(i:Nat)->TT i->List C
 |0,_,_=>[]
 |k+1,i,a=>jS (FJ k) (Y.fl i) (Y.Ve i a)
def enc(i:Nat)(a:TT i):List C:=FJ (i+1) i a
theorem yO{a b:(j:Nat)->TT j->List C}:∀(cs:List CC)(x:aB cs),(∀j,CC.sl j∈cs->a j=b j)->jS a cs x=jS b cs x:=by
 intro cs;induction cs with
 |nil=>intro x _;rfl
 |cons c cs ih=>
  intro x h;simp only[jS];rw[ih x.2 λj d=>h j (kE _ d)];congr 1;cases c with
  |sl j=>grind [nB]
  |_=>rfl
theorem OG:∀(k i:Nat),i<k->FJ (Y:=Y) k i=enc i:=by
 intro k;induction k using Nat.strongRecOn with
 |_ k ih=>
  intro i e;funext a;cases k with
  |zero=>omega
  |succ k=>
   simp only[enc,FJ];refine yO _ _ λj b=>?_;have d:=Y.dn i j b
   grind
theorem qa(i:Nat)(a:TT i):enc i a=jS enc (Y.fl i) (Y.Ve i a):=by show jS (FJ i) (Y.fl i) (Y.Ve i a)=_;exact yO _ _ λj b=>OG i j (Y.dn i j b)
theorem Pq{r:(j:Nat)->TT j->List C}:∀(cs:List CC)(x:aB cs),(jS r cs x).length=cs.length:=by
 intro cs;induction cs with
 |nil=>intro x;rfl
 |cons c cs ih=>grind [jS]
theorem nh(i:Nat)(a:TT i):(enc i a).length=ai i:=by rw[qa,Pq]
theorem Ep{r:(j:Nat)->TT j->List C}{c:CC}(d:∀j,c=.sl j->∀a b,r j a=r j b->a=b){a b:c.dn}(h:nB r c a=nB r c b):a=b:=by
 cases c with
 |int k=>grind [nB]
 |bool=>grind [nB]
 |str=>grind [nB]
 |sl j=>simp only[nB,C.bG.injEq,true_and] at h;exact map_inj (λ{a b}=>d j rfl a b) h
 |fk e=>simpa[nB] using h
theorem Nh{r:(j:Nat)->TT j->List C}:∀{cs:List CC},(∀j,CC.sl j∈cs->∀a b,r j a=r j b->a=b)->∀{x y:aB cs},jS r cs x=jS r cs y->x=y:=by
 intro cs;induction cs with
 |nil=>simp_all
 |cons c cs ih=>grind [jS,Ep]
theorem Dg:∀(i:Nat)(a b:TT i),enc i a=enc i b->a=b:=by
 intro i;induction i using Nat.strongRecOn with
 |_ i ih=>intro a b h;rw[qa,qa] at h;have:=Nh (λj d=>ih j (Y.dn i j d)) h;rw[<-Y.mp i a,<-Y.mp i b,this]
inductive CV where
 |d (x:D)
 |b (e:Bool)
 |sl (i:Nat) (l:List (TT i))
def CV.er:CV->D
 |.d x=>x
 |.b e=>B e
 |.sl i l=>.c (.bG false (l.map (enc i)))
def CV.low(m:Nat):CV->Bool
 |.d x=>x.low m
 |_=>true
inductive TC where
 |any
 |d (x:D)
 |b (e:Bool)
 |sl (i:Nat) (l:List (TT i))
 |own (i b v n:Nat)
 |fp (i:Nat) (a:TT i) (off:Nat)
 |op (i b v n:Nat) (k:Int) (a:TT i) (off:Nat)
 |ap (b off len sz:Nat) (k:Int)
 |os (i b v n lo len:Nat)
 |fl (n:Int)
 |cx (x y:Int)
 |zq (g:FuncId) (xs:List CV)
def TC.er:TC->D
 |.any=>.any
 |.d x=>x
 |.b e=>B e
 |.sl i l=>.c (.bG false (l.map (enc i)))
 |.own i c _ n=>OS (ai i) c n
 |.fp i a off=>.c (.bE (enc i a) off)
 |.op i c _ n k _ off=>.ptr c (k.toNat * ai i+off) (n * ai i)
 |.ap c off _ sz k=>.ptr c (off+k.toNat * 1) sz
 |.os i c _ n j len=>.sl c (0+j * ai i) len (ai i) (n * ai i)
 |.fl n=>.c (.lit (.float .f64 (Fl.fl n)))
 |.cx x y=>.c (.lit (.complex .f64 (Fl.fl x) (Fl.fl y)))
 |.zq g s=>.fn (.func g) [.agg (s.map CV.er)] []
def RC(x:TC)(d:D):Prop:=x=.any∨d=x.er
inductive TV where
 |c (x:TC)
 |agg (xs:List TC)
 |aB (xs:List (Bool×List TC))
inductive ar {α β:Type} (R:α->β->Prop):List α->List β->Prop where
 |nil:ar R [] []
 |cons {a:α} {b:β} {l:List α} {m:List β} (h:R a b) (r:ar R l m):ar R (a::l) (b::m)
def RE(p:Bool×List TC)(d:D):Prop:=
 match p with
 |(true,xs)=>∃ds,d=.agg ds/\ar RC xs ds
 |(false,xs)=>∃x,xs=[x]/\RC x d
def RT:TV->D->Prop
 |.c x,d=>RC x d
 |.agg xs,d=>∃ds,d=.agg ds/\ar RC xs ds
 |.aB xs,d=>∃ds,d=.aB ds/\ar RE xs ds
inductive RV where
 |v (x:TV)
 |g (c want:Bool) (p:Nat) (x:TV)
def RR:RV->D->Prop
 |.v x,d=>RT x d
 |.g c want _ x,d=>if c=want then RT x d else d=.aB []
inductive TB where
 |cells (w:Nat) (cs:List (Nat×TC))
 |row (i:Nat) (l:List (TT i)) (lv cv:Nat)
 |mp (j:Nat) (st:Bool) (l:List (Int×TT j)) (v:Nat)
def Fg(j:Nat)(st:Bool)(a:TT j):D:=if st then .agg ((enc j a).map .c) else .c ((enc j a).headD (.lit undef))
def TB.er:TB->Ob
 |.cells _ s=>.cells (s.map λp=>p.2.er)
 |.row i l _ _=>OB (enc i) l
 |.mp j st l _=>MB (Fg j st) l
def RB(blk:TB)(ob:Ob):Prop:=ob=blk.er
abbrev TH:=List TB
abbrev TA:=List (Nat×RV)
def Hz(t:Nat):TA->Option RV
 |[]=>none
 |(s,x)::a=>match Nat.beq s t with | true=>some x | false=>Hz t a
def dt(t:Nat):TA->Option (RV×Nat)
 |[]=>none
 |(s,x)::a=>match Nat.beq s t with | true=>some (x,a.length) | false=>dt t a
def oq:(c:CC)->c.dn->TC
 |.int k,n=>.d (.c (.lit (.int k n)))
 |.bool,b=>.b b
 |.str,s=>.d (.c (.lit (.string s)))
 |.sl j,l=>.sl j l
 |.fk _,g=>.d (.c (.fn (.func g) [] []))
def qi:(cs:List CC)->aB cs->List TC
 |[],_=>[]
 |c::cs,x=>oq c x.1::qi cs x.2
def exp(i:Nat)(a:TT i):List TC:=qi (Y.fl i) (Y.Ve i a)
theorem iE(c:CC)(a:c.dn):(oq c a).er=.c (nB enc c a):=by cases c <;> rfl
theorem Ux:∀(cs:List CC)(x:aB cs),(qi cs x).map TC.er=(jS enc cs x).map .c:=by
 intro cs;induction cs with
 |nil=>intro x;rfl
 |cons c cs ih=>grind [qi,jS,iE]
theorem pf(i:Nat)(a:TT i):(exp i a).map TC.er=(enc i a).map .c:=by rw[exp,Ux,qa]
theorem ar.er:∀(xs:List TC),ar RC xs (xs.map TC.er):=by
 intro xs;induction xs with
 |nil=>exact .nil
 |cons x xs ih=>exact .cons (.inr rfl) ih
theorem ar.eq:∀{xs:List TC}{ds:List D},ar RC xs ds->(∀y∈xs,y≠.any)->ds=xs.map TC.er:=by
 intro xs ds h;induction h with
 |nil=>simp_all
 |cons h r ih=>
  intro i;rcases h with h | h
  ·simp_all
  simp_all
theorem ar.len{α i:Type}{R:α->i->Prop}{l:List α}{m:List i}(h:ar R l m):l.length=m.length:=by
 induction h with
 |nil=>rfl
 |cons _ _ ih=>simp[ih]
theorem ar.get{α j:Type}{R:α->j->Prop}{l:List α}{m:List j}(h:ar R l m):∀(i:Nat) a,l[i]? = some a->∃b,m[i]? = some b/\R a b:=by
 induction h with
 |nil=>simp_all
 |cons h _ ih=>grind
theorem ar.get'{α j:Type}{R:α->j->Prop}{l:List α}{m:List j}(h:ar R l m):∀(i:Nat) b,m[i]? = some b->∃a,l[i]? = some a/\R a b:=by
 induction h with
 |nil=>simp_all
 |cons h _ ih=>grind
theorem ar.PS{α i:Type}{R:α->i->Prop}{l j:List α}{m m':List i}(h:ar R l m)(s:ar R j m'):ar R (l++j) (m++m'):=by
 induction h with
 |nil=>exact s
 |cons h _ ih=>exact .cons h ih
theorem ar.take{α i:Type}{R:α->i->Prop}{l:List α}{m:List i}(h:ar R l m):∀n:Nat,ar R (l.take n) (m.take n):=by
 induction h with
 |nil=>intro n;simp;exact .nil
 |cons h _ ih=>
  intro n;cases n with
  |zero=>exact .nil
  |succ n=>exact .cons h (ih n)
theorem ar.drop{α i:Type}{R:α->i->Prop}{l:List α}{m:List i}(h:ar R l m):∀n:Nat,ar R (l.drop n) (m.drop n):=by
 induction h with
 |nil=>intro n;simp;exact .nil
 |cons h r ih=>
  intro n;cases n with
  |zero=>exact .cons h r
  |succ n=>grind
def dC{i j:Nat}(l:List (TT j)):Option (List (TT i)):=match decEq j i with | .isTrue h=>some (h▸l) | .isFalse _=>none
theorem IU{i j:Nat}{l:List (TT j)}{m:List (TT i)}(h:dC l=some m):∃e:j=i,m=e▸l:=by
 unfold dC at h;split at h
 ·simp_all
 simp_all
def xj:(c:CC)->TC->Option c.dn
 |.int k,.d (.c (.lit (.int a n)))=>match decEq a k with | .isTrue _=>some n | .isFalse _=>none
 |.bool,.b e=>some e
 |.bool,.d (.c (.lit (.bool e)))=>some e
 |.str,.d (.c (.lit (.string s)))=>some s
 |.sl _,.sl _ l=>dC l
 |.sl _,.d (.c (.lit (.slice none 0 0)))=>some []
 |.fk _,.d (.c (.fn (.func g) [] []))=>some g
 |_,_=>none
def xT:(cs:List CC)->List TC->Option (aB cs)
 |[],[]=>some ()
 |c :: cs, x :: xs => match xj c x, xT cs xs with
  |some a,some b=>some (a,b)
  |_,_=>none
 |_,_=>none
theorem lw{c:CC}{x:TC}{a:c.dn}(h:xj c x=some a):x≠.any/\qM x.er=.c (nB enc c a):=by
 unfold xj at h;split at h
 ·split at h
  ·rename_i e _;subst e;simp only[ab] at h;subst h;exact ⟨by simp,rfl⟩
  simp_all
 ·simp only[ab] at h;subst h;exact ⟨by simp,rfl⟩
 ·simp only[ab] at h;subst h;exact ⟨by simp,rfl⟩
 ·simp only[ab] at h;subst h;exact ⟨by simp,rfl⟩
 ·obtain ⟨rfl,rfl⟩:=IU h;exact ⟨by simp,rfl⟩
 ·simp only[ab] at h;subst h;exact ⟨by simp,rfl⟩
 ·simp only[ab] at h;subst h;exact ⟨by simp,rfl⟩
 ·simp at h
theorem Hd{c:CC}{x:TC}{a:c.dn}(h:xj c x=some a):x=.d (.c (.lit (.slice none 0 0)))∨x.er=.c (nB enc c a):=by
 unfold xj at h;split at h
 ·split at h
  ·rename_i e _;subst e;simp only[ab] at h;subst h;exact .inr rfl
  simp_all
 ·simp only[ab] at h;subst h;exact .inr rfl
 ·simp only[ab] at h;subst h;exact .inr rfl
 ·simp only[ab] at h;subst h;exact .inr rfl
 ·obtain ⟨rfl,rfl⟩:=IU h;exact .inr rfl
 ·exact .inl rfl
 ·simp only[ab] at h;subst h;exact .inr rfl
 ·simp at h
theorem Gt:∀{cs:List CC}{xs:List TC}{a:aB cs},xT cs xs=some a->(∀y∈xs,y≠.any)/\(xs.map TC.er).map qM=(jS enc cs a).map .c:=by
 intro cs;induction cs with
 |nil=>
  intro xs a h;cases xs with
  |nil=>exact ⟨by simp,rfl⟩
  |cons x xs=>grind [xT]
 |cons c cs ih=>
  intro xs a h;cases xs with
  |nil=>grind [xT]
  |cons x xs=>grind [xT,lw,jS]
inductive bT where
 |c (x:CC)
 |st (i:Nat)
 |fp (i:Nat)
 |k (g:Nat)
@[reducible] def bT.dn:bT->Type
 |.c x=>x.dn
 |.st i=>TT i
 |.fp i=>TT i
 |.k _=>Unit
def bT.enc:(c:bT)->c.dn->D
 |.c x,a=>.c (nB Go.Abs.enc x a)
 |.st i,a=>ST (Go.Abs.enc i a)
 |.fp i,a=>.c (.bE (Go.Abs.enc i a) 0)
 |.k x,_=>.c (.fn (.func x) [] [])
def bT.tv:(c:bT)->c.dn->TV
 |.c x,a=>.c (oq x a)
 |.st i,a=>.agg (exp i a)
 |.fp i,a=>.c (.fp i a 0)
 |.k x,_=>.c (.d (.c (.fn (.func x) [] [])))
theorem bT.zj(c:bT)(a:c.dn):RT (c.tv a) (c.enc a):=by
 cases c with
 |c x=>exact .inr (iE x a).symm
 |st i=>exact ⟨_,rfl,by rw[<-pf];exact ar.er _⟩
 |fp i=>exact .inr rfl
 |k x=>exact .inr rfl
@[reducible] def oC:List bT->Type
 |[]=>Unit
 |c::a=>c.dn×oC a
def nY:(cs:List bT)->oC cs->List D
 |[],_=>[]
 |c::cs,x=>c.enc x.1::nY cs x.2
def Vc:(cs:List bT)->oC cs->List TV
 |[],_=>[]
 |c::cs,x=>c.tv x.1::Vc cs x.2
@[reducible] def iH:List bT->Type
 |[]=>Unit
 |[c]=>c.dn
 |c::d::a=>c.dn×iH (d::a)
def wN(i:Nat):TV->Option (TT i)
 |.c (.fp j a 0)=>match decEq j i with | .isTrue h=>some (h▸a) | .isFalse _=>none
 |_=>none
def Hk(g:Nat):TV->Option Unit
 |.c (.d (.c (.fn (.func a) [] [])))=>match Nat.beq a g with | true=>some () | false=>none
 |_=>none
def BM(x:CC):TV->Option x.dn
 |.c y=>xj x y
 |_=>none
def wK(i:Nat):TV->Option (TT i)
 |.agg a=>match xT (Y.fl i) a with | some x=>some (Y.Vj i x) | none=>none
 |_=>none
def mc:(c:bT)->TV->Option c.dn
 |.c x,v=>BM x v
 |.st i,v=>wK i v
 |.fp i,v=>wN i v
 |.k g,v=>Hk g v
end
end Go.Abs
end
section
namespace Go.Abs
noncomputable section
variable[Gl][Y:Ty]
structure aY where
 ins:List bT
 out:List bT
 f:oC ins->Option (iH out)
abbrev ot:=List (Nat×aY)
def QA(g:Nat):ot->Option aY
 |[]=>none
 |(s,f)::l=>match Nat.beq s g with | true=>some f | false=>QA g l
def Oy(g:Nat)(S:ot):Option aY:=match Nat.blt g 1048576 with | true=>QA g S | false=>none
def sp:(cs:List bT)->List TV->Option (oC cs)
 |[],[]=>some ()
 |c :: cs, x :: xs => match mc c x, sp cs xs with
  |some a,some b=>some (a,b)
  |_,_=>none
 |_,_=>none
def bT.te:(c:bT)->c.dn->Bool×List TC
 |.c x,a=>(false,[oq x a])
 |.st i,a=>(true,exp i a)
 |.fp i,a=>(false,[.fp i a 0])
 |.k x,_=>(false,[.d (.c (.fn (.func x) [] []))])
def D_:(cs:List bT)->iH cs->List (Bool×List TC)
 |[],_=>[]
 |[c],x=>[c.te x]
 |c::d::cs,x=>c.te x.1::D_ (d::cs) x.2
def RJ:(cs:List bT)->iH cs->TV
 |[c],x=>c.tv x
 |cs,x=>.aB (D_ cs x)
def Av:D->TV
 |.agg ds=>.agg (ds.map .d)
 |d=>.c (.d d)
abbrev Kn:=List (Nat×Bool)
def vB(p:Nat):Kn->Option Bool
 |[]=>none
 |(q,b)::l=>match Nat.beq q p with | true=>some b | false=>vB p l
def Lp(d:Kn)(a:Option (Nat×Bool))(p:Nat)(w:Bool):Bool:=
 match vB p d with
 |some b=>b == w
 |none => match a with
  |some (q,e)=>Nat.beq q p&&e == w
  |none=>false
def zO(al:TA)(b:Kn)(a:Option (Nat×Bool)):ay->Option TV
 |.k d=>match d.low 0 with | true=>some (Av d) | false=>none
 |.t n => match dt n al with
  |some (.v x,_)=>some x
  |some (.g _ w p x,_)=>match Lp b a p w with | true=>some x | false=>none
  |none=>none
def DJ(rd:ay->Option TV):List ay->Option (List TV)
 |[]=>some []
 |x :: xs => match rd x, DJ rd xs with
  |some a,some b=>some (a::b)
  |_,_=>none
def TC.scalar:TC->Bool
 |.any=>false
 |.d x=>x.scalar
 |_=>true
def dw:TV->Option (List TC)
 |.c x=>match x.scalar with | true=>some [x] | false=>none
 |.agg a=>match a.all TC.scalar with | true=>some a | false=>none
 |.aB _=>none
def ou{α:Type}(cs:List α)(off:Nat)(xs:List α):List α:=cs.take off++xs++cs.drop (off+xs.length)
def xG(rd:ay->Option TV):List TC->List (Nat×Nat×ay)->Option (List TC)
 |a,[]=>some a
 |a, (o, n, x) :: rest=>
  match rd x with
  |some v => match dw v with
   |some b => match Nat.beq b.length n && Nat.ble (o + n) a.length with
    |true=>xG rd (ou a o b) rest
    |false=>none
   |none=>none
  |none=>none
def vz(n:Option Nat)(cs:List TC)(off:Nat):Option TV:=
 match n with
 |none=>match cs[off]? with | some x=>some (.c x) | none=>none
 |some n=>match Nat.ble (off+n) cs.length with | true=>some (.agg ((cs.drop off).take n)) | false=>none
def II:List TC->Bool
 |[]=>true
 |.d (.c (.lit (.slice none 0 0)))::_=>false
 |_::xs=>II xs
def UY:TC->Bool
 |.any=>true
 |_=>false
def Jf:List TC->Bool
 |[]=>true
 |x::xs=>!(UY x)&&Jf xs
def Vk(i:Nat)(cs:List TC):Option (TT i):=match II cs,xT (Y.fl i) cs with | true,some x=>some (Y.Vj i x) | _,_=>none
def OW(i:Nat):List TC->Option (List (TT i))
 |[]=>some []
 |c :: b => match Vk i [c], OW i b with
  |some a,some l=>some (a::l)
  |_,_=>none
def AI(i:Nat):Nat->List TC->Option (List (TT i))
 |0,[]=>some []
 |0,_::_=>none
 |k + 1, b => match Vk i (b.take (ai i)), AI i k (b.drop (ai i)) with
  |some a,some l=>some (a::l)
  |_,_=>none
def Hs:TV->Option Value
 |.c (.d (.c (.lit v)))=>some v
 |.c (.b e)=>some (.bool e)
 |_=>none
def zd:Value->TV
 |.bool e=>.c (.b e)
 |v=>.c (.d (.c (.lit v)))
inductive BX where
 |t
 |f
 |e (x:Bool)
def Kf:TV->Option BX
 |.c (.b e)=>some (.e e)
 |.c (.d (.c (.lit (.bool true))))=>some .t
 |.c (.d (.c (.lit (.bool false))))=>some .f
 |_=>none
def BX.val:BX->Bool
 |.t=>true
 |.f=>false
 |.e x=>x
def pk(c:Bool):BX->BX->Bool
 |.t,.e y=>c || y
 |.e x,.f=>c&&x
 |x,y=>bif c then x.val else y.val
def Zi(c:Bool):BX->BX->TV
 |.t,.t=>.c (.d (.c (.lit (.bool true))))
 |.f,.f=>.c (.d (.c (.lit (.bool false))))
 |x,y=>.c (.b (pk c x y))
def ints(k:IntKind):List TC->Option (List Int)
 |[]=>some []
 |x :: xs => match xj (.int k) x, ints k xs with
  |some a,some l=>some (a::l)
  |_,_=>none
def DC:List Value->Option (List Int)
 |[]=>some []
 |.int .i64 a::xs=>match DC xs with | some l=>some (a::l) | none=>none
 |_::_=>none
def EQ:List C->Option (List Int)
 |[]=>some []
 |.lit (.int .i64 a)::xs=>match EQ xs with | some l=>some (a::l) | none=>none
 |_::_=>none
def Wj:TC->Option Value
 |.d (.c (.lit v))=>some v
 |.b e=>some (.bool e)
 |_=>none
def AP:List TC->Option (List Value)
 |[]=>some []
 |x :: xs => match Wj x, AP xs with
  |some v,some a=>some (v::a)
  |_,_=>none
def PK(P:Program)(xs d:Array Value):List Field->Option Bool
 |[]=>some true
 |f :: e => match f.name != "_", ee P (part f.type xs f.offset), ee P (part f.type d f.offset), P.underlying f.type, PK P xs d e with
  |true,some (.int k a),some (.int g b),some (.int _),some q=>match decEq k g with | .isTrue _=>some (a == b&&q) | .isFalse _=>none
  |true,some (.bool a),some (.bool b),some .bool,some q=>some (a == b&&q)
  |_,_,_,_,_=>none
def eqT(P:Program)(t:TypeId)(xs a:List TC):Option Bool:=
 match AP xs,AP a,P.underlying t,P.eqGuardType P.depth t,P.stoodInHeld t with
 |some b,some d,some (.struct e),false,false=>PK P b.toArray d.toArray e.toList
 |_,_,_,_,_=>none
def JN(a b:Int):Option Int:=if a.natAbs<2 ^ 52/\b.natAbs<2 ^ 52 then some (a+b) else none
def rV(a b:Int):Option Int:=if a.natAbs<2 ^ 52/\b.natAbs<2 ^ 52 then some (a-b) else none
def r_(a n:Int):Option Int:=if 0<=a/\a<=1048576/\0<=n/\n<=1048576 then some (a * n) else none
def uk(a:Int):Option Int:=if a.natAbs<2 ^ 53 then some a else none
variable{R:Type}
abbrev KO(R:Type):=TV->TH->Bool->List Nat->Option R
def LP(val:Operand->Option TV)(x:Operand):Option Value:=match val x with | some v=>Hs v | none=>none
def SD(P:Program)(op:Op)(ty:TypeId)(val:Operand->Option TV):Option Value:=
 if op.operands.toList.all (λx=>(LP val x).isSome) then
  match ee P (execOp (λx=>(LP val x).getD undef) { dst:=none,op:=op,type:=ty,pos:="",after:=#[],guard:=none }) with
  |some (.value v)=>some v
  |_=>none
 else none
def lh:Value->Bool
 |.agg _ | .tuple _=>false
 |_=>true
abbrev qX(rd:ay->Option TV)(x:Operand):Option TV:=match ba x with | some o=>rd o | none=>none
def VZ(P:Program)(op:Op)(ty:TypeId)(rd:ay->Option TV)(σ:TH)(k:KO R):Option R:=
 match op with
 |.binOp o t x y _=>
  match qX rd x,qX rd y with
  |some (.c (.d (.c (.lit (.int f a))))), some (.c (.d (.c (.lit (.int h b)))))=>
   match o with
   |.quo => match decEq f h with
    |.isTrue _=>(zx f a b).bind λv=>k (.c (.d (.c (.lit (.int f v))))) σ false []
    |.isFalse _=>none
   |.rem => match decEq f h with
    |.isTrue _=>(Vu a b).bind λv=>k (.c (.d (.c (.lit (.int f v))))) σ false []
    |.isFalse _=>none
   |.shr=>(Wa f a b).bind λv=>k (.c (.d (.c (.lit (.int f v))))) σ false []
   |.shl=>(Xj f a b).bind λv=>k (.c (.d (.c (.lit (.int f v))))) σ false []
   |_ => match fe P o t x y (.int f a) (.int h b) with
    |some v=>match lh v with | true=>k (zd v) σ false [] | false=>none
    |none=>none
  |some (.agg xs), some (.agg i)=>
   match eqT P t xs i with
   |some r => match o with
    |.eql=>k (.c (.b r)) σ false []
    |.neq=>k (.c (.b (!r))) σ false []
    |_=>none
   |none=>none
  |some (.c (.cx a b)), some (.c (.cx c d))=>
   match o with
   |.add=>(JN a c).bind λu=>(JN b d).bind λv=>k (.c (.cx u v)) σ false []
   |.sub=>(rV a c).bind λu=>(rV b d).bind λv=>k (.c (.cx u v)) σ false []
   |.mul => match d with
    |.ofNat 0=>(r_ a c).bind λu=>(r_ b c).bind λv=>k (.c (.cx u v)) σ false []
    |_=>none
   |_=>none
  |some u, some v=>
   match Hs u,Hs v with
   |some (.bool a), some (.bool b)=>
    match o,P.underlying t with
    |.eql,some .bool=>k (.c (.b (a == b))) σ false []
    |.neq,some .bool=>k (.c (.b (!(a == b)))) σ false []
    |_,_=>none
   |some a, some b => match fe P o t x y a b with
    |some v=>match lh v with | true=>k (zd v) σ false [] | false=>none
    |none=>none
   |_,_=>none
  |_,_=>none
 |.unOp o _ x=>
  match qX rd x with
  |some u => match o, Hs u with
   |.not,some (.bool e)=>k (.c (.b (!e))) σ false []
   |o, some a => match ee P (Op.unary o a) with
    |some v=>match lh v with | true=>k (zd v) σ false [] | false=>none
    |none=>none
   |_,_=>none
  |none=>none
 |.convert t g x=>
  match qX rd x with
  |some (.c (.d (.c (.lit (.int f a)))))=>
   match P.underlying g with
   |some (.float .f64)=>match (P.underlying t).isSome with | true=>k (.c (.fl a)) σ false [] | false=>none
   |_ => match ee P (convert t g (.int f a)) with
    |some v=>match lh v with | true=>k (zd v) σ false [] | false=>none
    |none=>none
  |some (.c (.fl a)) => match P.underlying g, (P.underlying t).isSome with
   |some (.int .i64),true=>(uk a).bind λa=>k (.c (.d (.c (.lit (.int .i64 a))))) σ false []
   |_,_=>none
  |some u => match Hs u with
   |some a => match ee P (convert t g a) with
    |some v=>match lh v with | true=>k (zd v) σ false [] | false=>none
    |none=>none
   |none=>none
  |none=>none
 |.call c=>
  match c.callee,c.args.toList with
  |.builtin .min, _ => match SD P (.call c) ty (qX rd) with
   |some v=>match lh v with | true=>k (zd v) σ false [] | false=>none
   |none=>none
  |.builtin .max, _ => match SD P (.call c) ty (qX rd) with
   |some v=>match lh v with | true=>k (zd v) σ false [] | false=>none
   |none=>none
  |.builtin .complex, [x, y] => match qX rd x, qX rd y with
   |some (.c (.fl a)),some (.c (.fl b))=>k (.c (.cx a b)) σ false []
   |some (.c (.fl a)), some (.c (.d (.c (.lit (.float .f64 b))))) => match Nat.beq b (Fl.fl 0) with
    |true=>k (.c (.cx a 0)) σ false []
    |false=>none
   |_,_=>none
  |.builtin .real, [x] => match qX rd x with
   |some (.c (.cx a _))=>k (.c (.fl a)) σ false []
   |_=>none
  |.builtin .imag, [x] => match qX rd x with
   |some (.c (.cx _ b))=>k (.c (.fl b)) σ false []
   |_=>none
  |_,_=>none
 |_=>none
def wu(σ:TH):TC->TC
 |.own i b v n => match σ[b]? with
  |some (.row j l a _)=>match Nat.beq a v with | true=>.sl j l | false=>.own i b v n
  |_=>.own i b v n
 |x=>x
def dX(σ:TH):TV->TV
 |.c x=>.c (wu σ x)
 |.agg a=>.agg (a.map (wu σ))
 |x=>x
def IX:TC->Bool
 |.own ..=>true
 |_=>false
def sK:TV->Bool
 |.c x=>IX x
 |.agg a=>a.any IX
 |_=>false
def CC.gr:CC->Bool
 |.sl _=>false
 |.fk _=>false
 |_=>true
def bT.gr:bT->Bool
 |.c x=>x.gr
 |.st i=>(Y.fl i).all CC.gr
 |_=>false
def yr(i:Nat)(σ:TH):TV->Option (List (TT i))
 |.c (.sl _ l)=>dC l
 |.c (.d (.c (.lit (.slice none 0 0))))=>some []
 |.c (.own _ b v _) => match σ[b]? with
  |some (.row _ l a _)=>match Nat.beq a v with | true=>dC l | false=>none
  |_=>none
 |_=>none
def Qg:TC->Option CV
 |.d x=>some (.d x)
 |.b e=>some (.b e)
 |.sl i l=>some (.sl i l)
 |_=>none
def cvT:CV->TC
 |.d x=>.d x
 |.b e=>.b e
 |.sl i l=>.sl i l
def Vi:Fn->List TV->List TV->Option (FuncId×List CV)
 |.func g,[.agg xs],[]=>(xs.mapM Qg).map λa=>(g,a)
 |_,_,_=>none
def h_:TV->Option Int
 |.c (.d (.c (.lit (.int .i64 n))))=>some n
 |_=>none
def Yy:TV->Bool×List TC
 |.c x=>(false,[x])
 |.agg a=>(true,a)
 |.aB _=>(false,[])
def Ye(j:Nat)(st:Bool)(a:TT j):TV:=match st with | true=>.agg (exp j a) | false=>.c ((exp j a).headD (.d (.c (.lit undef))))
def mkM(j:Nat)(st:Bool)(v:TV):Option (TT j):=match st,v with
 |true,.agg xs=>Vk j xs
 |false,.c x=>Vk j [x]
 |_,_=>none
def EO(ok:Bool)(v:TV)(e:Bool):TV:=match ok with
 |true=>.aB [Yy v,(false,[.d (.c (.lit (.bool e)))])]
 |false=>v
def DV:List Nat->Nat->(Nat->Option R)->Option R
 |[],_,_=>none
 |g::gs,n,f=>cond (Nat.beq n g) (f g) (DV gs n f)
def Ue:(cs:List CC)->aB cs->(List TC->Option R)->Option R
 |[],_,k=>k []
 |.fk gs::cs,x,k=>DV gs x.1 λg=>Ue cs x.2 λl=>k (.d (.c (.fn (.func g) [] []))::l)
 |c::cs,x,k=>Ue cs x.2 λl=>k (oq c x.1::l)
def lkS(b j:Nat)(st:Bool)(a:TT j)(k:TV->Option R):Option R:=match Nat.beq b 1000005,st with
 |true,true=>Ue (Y.fl j) (Y.Ve j a) λd=>k (.agg d)
 |_,_=>k (Ye j st a)
def eo(P:Program)(S:ot)(e:Nat)(o:iA)(rd:ay->Option TV)(σ:TH)(k:KO R):Option R:=
 match o with
 |.uV x=>match rd x with | some v=>k v σ false [] | none=>none
 |.gen op ty=>VZ P op ty rd σ k
 |.box x => match rd x with
  |some v => match dw v with
   |some h=>k (.c (.d (.ptr σ.length 0 h.length))) (σ++[.cells 0 (h.map λc=>(0,c))]) false []
   |none=>none
  |none=>none
 |.alloc z => match D.low.bM 0 z with
  |true=>k (.c (.d (.ptr σ.length 0 z.length))) (σ++[.cells 0 (z.map λc=>(0,.d c))]) false []
  |false=>none
 |.build z N => match D.low.bM 0 z, xG rd (z.map .d) N with
  |true,some h=>k (.agg h) σ false []
  |_,_=>none
 |.fZ p len z N => match Nat.beq e 1000001 with
  |true => match D.low.bM 0 z, xG rd ((oH len z).map .d) N with
   |true, some h => match Jf h with
    |true=>k (.c (.d (.sl σ.length 0 len p h.length))) (σ++[.cells 0 (h.map λc=>(0,c))]) false []
    |false=>none
   |_,_=>none
  |false=>match Nat.beq p (ai e)&&D.low.bM 0 z,xG rd ((oH len z).map .d) N with
  |true, some h => match AI e len h with
   |some l=>k (.c (.own e σ.length 0 len)) (σ++[.row e l 0 0]) false []
   |none=>none
  |_,_=>none
 |.load n a => match rd a with
  |some (.c (.d (.ptr b off sz))) => match σ[b]? with
   |some (.cells _ h) => match Nat.beq h.length sz, vz n (h.map Prod.snd) off with
    |true,some v=>k v σ false []
    |_,_=>none
   |_=>none
  |some (.c (.fp i x off)) => match vz n (exp i x) off with
   |some v=>k v σ false []
   |none=>none
  |some (.c (.op i b v _ _ x off)) => match σ[b]? with
   |some (.row _ _ _ F) => match Nat.beq F v, vz n (exp i x) off with
    |true,some v=>k v σ false []
    |_,_=>none
   |_=>none
  |some (.c (.ap b off len sz i)) => match n, σ[b]? with
   |none, some (.cells _ h) => match Nat.beq h.length sz && Nat.ble (off + len) sz, ints .i64 (((h.map Prod.snd).drop off).take len) with
    |true,some l=>(au l i).bind λa=>k (.c (.d (.c (.lit (.int .i64 a))))) σ false []
    |_,_=>none
   |_,_=>none
  |some (.c (.d (.c (.bE h off)))) => match n, EQ h with
   |none,some l=>(au l (off:Int)).bind λa=>k (.c (.d (.c (.lit (.int .i64 a))))) σ false []
   |_,_=>none
  |_=>none
 |.store n a x => match rd a, rd x with
  |some (.c (.d (.ptr b off sz))), some v => match σ[b]?, dw v with
   |some (.cells w h), some xs => match Nat.beq h.length sz && (Nat.beq xs.length n && Nat.ble (off + n) sz) with
    |true=>k (.aB []) (σ.set b (.cells (w+1) (ou h off (xs.map λx=>(w+1,x))))) false [b]
    |false=>none
   |_,_=>none
  |some (.c (.op i b v _ q a off)), some x => match σ[b]?, dw x with
   |some (.row j l A F), some xs => match Nat.beq F v && (Nat.beq xs.length n && Nat.ble (off + n) (ai i)), Vk i (ou (exp i a) off xs), dC (i := i) l with
    |true,some a',some l=>k (.aB []) (σ.set b (.row i (l.set q.toNat a') A (F+1))) false [b]
    |_,_,_=>none
   |_,_=>none
  |_,_=>none
 |.jH x => match rd x with
  |some (.c (.d (.ptr b off sz)))=>k (.c (.d (.ptr b off sz))) σ false []
  |some (.c (.d (.c (.fn (.func f) u v))))=>k (.c (.d (.c (.fn (.func f) u v)))) σ false []
  |some (.c (.d (.fn (.func f) u v)))=>k (.c (.d (.fn (.func f) u v))) σ false []
  |some (.c (.fp i a off))=>k (.c (.fp i a off)) σ false []
  |some (.c (.op i b v n q a off))=>k (.c (.op i b v n q a off)) σ false []
  |some (.c (.zq g xs))=>k (.c (.zq g xs)) σ false []
  |_=>none
 |.fS W K x => match rd x with
  |some (.c (.d x)) => match isNil W x with
   |some true=>k (.c (.d (.c (.lit (.bool (!K)))))) σ false []
   |some false=>k (.c (.d (.c (.lit (.bool K))))) σ false []
   |none=>none
  |some (.c (.fp ..)) | some (.c (.op ..)) => match W with
   |0=>k (.c (.d (.c (.lit (.bool K))))) σ false []
   |_=>none
  |_=>none
 |.Aw off x => match rd x with
  |some (.c (.d (.ptr b o sz)))=>k (.c (.d (.ptr b (o+off) sz))) σ false []
  |some (.c (.fp i a o))=>k (.c (.fp i a (o+off))) σ false []
  |some (.c (.op i b v n q a o))=>k (.c (.op i b v n q a (o+off))) σ false []
  |_=>none
 |.idx p none x i => match rd x, rd i with
  |some (.c (.sl j l)), some G => match h_ G, Nat.beq p (ai j) with
   |some q,true=>(au l q).bind λa=>k (.c (.fp j a 0)) σ false []
   |_,_=>none
  |some (.c (.own j b v n)), some G => match h_ G, Nat.beq p (ai j), σ[b]? with
   |some q, true, some (.row _ l A F) => match Nat.beq A v, dC (i := j) l with
    |true,some l=>(au l q).bind λa=>k (.c (.op j b F n q a 0)) σ false []
    |_,_=>none
   |_,_,_=>none
  |some (.c (.d (.sl b off len T sz))), some G => match h_ G, σ[b]? with
   |some q, some (.cells _ h) => match Nat.beq h.length sz && Nat.beq p T, wi q len with
    |true,some j=>k (.c (.d (.ptr b (off+j * p) sz))) σ false []
    |_,_=>none
   |_,_=>none
  |_,_=>none
 |.idx p (some len) x (.k i) => match rd x, h_ (Av i) with
  |some (.c (.d (.ptr b off sz))), some q => match wi q len with
   |some j=>k (.c (.d (.ptr b (off+j * p) sz))) σ false []
   |none=>none
  |_,_=>none
 |.idx p (some len) x (.t i) => match rd x, rd (.t i) with
  |some (.c (.d (.ptr b off sz))), some G => match h_ G, Nat.beq p 1, σ[b]? with
   |some q, true, some (.cells _ h) => match Nat.beq h.length sz && Nat.ble (off + len) sz, ints .i64 (((h.map Prod.snd).drop off).take len) with
    |true,some l=>(au l q).bind λ_=>k (.c (.ap b off len sz q)) σ false []
    |_,_=>none
   |_,_,_=>none
  |some (.c (.d (.c (.Ml g)))), some G => match h_ G, Nat.beq p 1, DC (Gl.VA g) with
   |some q, true, some (z :: l) => match Nat.beq (z :: l).length len with
    |true=>(au (z::l) q).bind λ_=>k (.c (.d (.c (.bE ((Gl.VA g).map .lit) (q.toNat * p))))) σ false []
    |false=>none
   |_,_,_=>none
  |_,_=>none
 |.Mp p x O X => match rd x with
  |some (.c (.sl j l))=>
   match Nat.beq p (ai j),(match O with | none=>some (.c (.d (I 0))) | some o=>rd o),(match X with | none=>some (.c (.d (I l.length))) | some o=>rd o) with
   |true, some u, some v => match h_ u, h_ v with
    |some u,some v=>(slice? l u v).bind λr=>k (.c (.sl j r)) σ false []
    |_,_=>none
   |_,_,_=>none
  |some (.c (.own j b Z n)) => match Nat.beq p (ai j), σ[b]? with
   |true, some (.row _ l A _) => match Nat.beq A Z, (match O with | none => some (.c (.d (I 0))) | some o => rd o), (match X with | none => some (.c (.d (I l.length))) | some o => rd o) with
    |true, some u, some v => match h_ u, h_ v with
     |some u,some v=>(slice? l u v).bind λ_=>k (.c (.os j b Z l.length u.toNat (v.toNat-u.toNat))) σ false []
     |_,_=>none
    |_,_,_=>none
   |_,_=>none
  |_=>none
 |.yf m x => match rd x with
  |some (.c (.fp i a off)) => match Nat.ble (off + m) (ai i), OW e (((exp i a).drop off).take m) with
   |true,some l=>k (.c (.sl e l)) σ false []
   |_,_=>none
  |_=>none
 |.pP=>k (.c (.d (.mp σ.length))) (σ++[.mp (e / 2) (Nat.beq (e % 2) 1) [] 0]) false []
 |.lookup E zero m L ok => match E, rd m, rd L, zero.low 0 with
  |.int _, some (.c (.d (.mp b))), some M, true => match σ[b]?, h_ M with
   |some (.mp j st l _),some x=>Zh (cq l x) (k (EO ok (Av zero) false) σ false []) (λa=>lkS e j st a λv=>k (EO ok v true) σ false [])
   |_,_=>none
  |_,_,_,_=>none
 |.rK E m L x => match E, rd m, rd L, rd x with
  |.int _, some (.c (.d (.mp b))), some M, some v => match σ[b]?, h_ M with
   |some (.mp j st l Mn), some i => match mkM j st v with
    |some a=>k (.aB []) (σ.set b (.mp j st (kj l i a) (Mn+1))) false [b]
    |none=>none
   |_,_=>none
  |_,_,_,_=>none
 |.del E m L => match E, rd m, rd L with
  |.int _, some (.c (.d (.mp b))), some M => match σ[b]?, h_ M with
   |some (.mp j st l Mn),some i=>k (.aB []) (σ.set b (.mp j st (yd l i) (Mn+1))) false [b]
   |_,_=>none
  |_,_,_=>none
 |.len x => match rd x with
  |some (.c (.sl _ l))=>k (.c (.d (I l.length))) σ false []
  |some (.c (.d (.c (.lit (.slice none 0 0)))))=>k (.c (.d (I 0))) σ false []
  |some (.c (.own _ b v _)) => match σ[b]? with
   |some (.row _ l A _)=>match Nat.beq A v with | true=>k (.c (.d (I l.length))) σ false [] | false=>none
   |_=>none
  |some (.c (.d (.sl b _ len _ sz))) => match σ[b]? with
   |some (.cells _ h)=>match Nat.beq h.length sz with | true=>k (.c (.d (I len))) σ false [] | false=>none
   |_=>none
  |_=>none
 |.mk p t z l c => match Nat.beq p (ai e) && (Nat.ble t 1000 && D.low.bM 0 z), Vk e (z.map .d), rd l, rd c with
  |true, some z0, some u, some v => match h_ u, h_ v with
   |some u,some v=>(Ms z0 u v).bind λr=>k (.c (.own e σ.length 0 r.length)) (σ++[.row e r 0 0]) false []
   |_,_=>none
  |true, none, some (.c (.d (.c (.lit (.int .i64 (.ofNat 0)))))), some v => match h_ v with
   |some v=>(Kr v).bind λr=>k (.c (.own e σ.length 0 r.length)) (σ++[.row e r 0 0]) false []
   |none=>none
  |_,_,_,_=>none
 |.append p t s x => match rd s, rd x with
  |some (.c (.own i b v _)), some y => match σ[b]? with
   |some (.row _ l A F) => match Nat.beq A v && (Nat.beq p (ai i) && Nat.ble t 1000), dC (i := i) l, yr i σ y with
    |true,some l,some m=>(cL l m).bind λr=>k (.c (.own i b (A+1) r.length)) (σ.set b (.row i r (A+1) (F+1))) true [b]
    |_,_,_=>none
   |_=>none
  |some (.c (.d (.c (.lit (.slice none 0 0))))), some (.c (.own i b v q)) => match Nat.beq p (ai i) && Nat.ble t 1000, yr i σ (.c (.own i b v q)) with
   |true, some (a :: l) => match Nat.ble (a :: l).length 1000000 with
    |true=>k (.c (.own i σ.length 0 (a::l).length)) (σ++[.row i (a::l) 0 0]) false []
    |false=>none
   |_,_=>none
  |some (.c (.d (.c (.lit (.slice none 0 0))))), some (.c (.sl i l)) => match Nat.beq p (ai i) && Nat.ble t 1000 with
   |true=>(cL [] l).bind λr=>k (.c (.own i σ.length 0 r.length)) (σ++[.row i r 0 0]) false []
   |false=>none
  |_,_=>none
 |.copy p d s => match rd d, rd s with
  |some (.c (.own i b v _)), some y => match σ[b]? with
   |some (.row _ l A F) => match Nat.beq A v && Nat.beq p (ai i), dC (i := i) l, yr i σ y with
    |true,some l,some m=>k (.c (.d (I ((m.take l.length).length:Int)))) (σ.set b (.row i (QP l m 0 l.length) A (F+1))) false [b]
    |_,_,_=>none
   |_=>none
  |some (.c (.os i b v _ O len)), some y => match σ[b]? with
   |some (.row _ l A F) => match Nat.beq A v && Nat.beq p (ai i), dC (i := i) l, yr i σ y with
    |true,some l,some m=>k (.c (.d (I ((m.take len).length:Int)))) (σ.set b (.row i (QP l m O len) A (F+1))) false [b]
    |_,_,_=>none
   |_=>none
  |_,_=>none
 |.extract x i => match rd x with
  |some (.aB xs) => match xs[i]? with
   |some (true,h)=>k (.agg h) σ false []
   |some (false,[c])=>k (.c c) σ false []
   |_=>none
  |_=>none
 |.yD f first cap => match DJ rd first, DJ rd cap with
  |some a, some b => match Vi f a b with
   |some (g,h)=>k (.c (.zq g h)) σ false []
   |none => match a.mapM λv => (match v with | .c (.d x) => some x | _ => none), b.mapM λv => (match v with | .c (.d x) => some x | _ => none) with
    |some a,some b=>k (.c (.d (.fn f a b))) σ false []
    |_,_=>none
  |_,_=>none
 |.part off n x => match rd x with
  |some (.agg h) => match vz n h off with
   |some v=>k v σ false []
   |none=>none
  |_=>none
 |.wx p len n x i => match rd x, rd i with
  |some (.agg h), some G => match i, h_ G with
   |.k _, some q => match wi q len with
    |some j => match vz n h (j * p) with
     |some v=>k v σ false []
     |none=>none
    |none=>none
   |.t _, some q => match n, Nat.beq p 1 && Nat.beq h.length len, ints .i64 h with
    |none,true,some l=>(au l q).bind λa=>k (.c (.d (.c (.lit (.int .i64 a))))) σ false []
    |_,_,_=>none
   |_,_=>none
  |_,_=>none
 |.call f args => match rd f, DJ rd args with
  |some (.c (.d (.c (.fn (.func g) [] [])))), some U => match Oy g S with
   |some s => match sp s.ins U with
    |some a=>(s.f a).bind λr=>k (RJ s.out r) σ false []
    |none => match s.out.all bT.gr && U.any sK, sp s.ins (U.map (dX σ)) with
     |true,some a=>(s.f a).bind λr=>k (RJ s.out r) σ false []
     |_,_=>none
   |none=>none
  |_,_=>none
 |_=>none
def mX:iA->Bool
 |.uV _ | .build .. | .jH _ | .fS .. | .Aw .. | .len _ | .extract .. | .part ..=>true
 |.load _ _=>true
 |.gen (.binOp o ..) _=>match o with | .quo | .rem | .shr=>false | _=>true
 |.gen (.unOp ..) _=>true
 |.gen (.convert ..) _=>true
 |.gen (.call _) _=>true
 |_=>false
inductive GR where
 |Lp
 |shut
 |sym (e:Bool) (p:Nat) (w:Bool)
 |spl (e:Bool) (p:Nat)
 |LU (t:Nat) (x:TV)
 |bad
def gdB(d:Kn)(a:Bool)(p:Nat):TV->GR
 |.c (.d (.c (.lit (.bool true))))=>if a then .Lp else .shut
 |.c (.d (.c (.lit (.bool false))))=>if a then .shut else .Lp
 |.c (.d (.aB []))=>.shut
 |.c (.b e) => match vB p d with
  |some b=>if b == a then .Lp else .shut
  |none=>.sym e p a
 |_=>.bad
def gdC(a:Kn)(p:Nat):TV->GR
 |.c (.d (.c (.lit (.bool true))))=>.Lp
 |.c (.d (.c (.lit (.bool false))))=>.shut
 |.c (.b e) => match vB p a with
  |some true=>.Lp
  |some false=>.shut
  |none=>.sym e p true
 |_=>.bad
def tGd(al:TA)(a:Kn):Option (Nat×Bool)->GR
 |none=>.Lp
 |some (t, want) => match dt t al with
  |some (.v x,p)=>gdB a want p x
  |some (.g c w p x, _) => match vB p a with
   |some b=>if b == w then .LU t x else .shut
   |none=>.spl c p
  |none=>.bad
def Sl(rd:ay->Option TV):iA->Option Nat
 |.load _ x => match rd x with
  |some (.c (.d (.ptr b _ _)))=>some b
  |some (.c (.op _ b ..))=>some b
  |some (.c (.ap b ..))=>some b
  |_=>none
 |_=>none
def hintOf(H:List (Nat×Nat)):Option Nat->Nat
 |none=>0
 |some t=>hk t H
where hk (t:Nat):List (Nat×Nat)->Nat
 |[]=>0
 |(s,i)::l=>match Nat.beq s t with | true=>i | false=>hk t l
abbrev KS(R:Type):=TA->TH->List cP->Option R
def VF(a:Option Nat)(x:RV)(al:TA):TA:=match a with | some t=>(t,x)::al | none=>al
inductive Pl where
 |r (t:Nat) (c:bT)
 |w (b i:Nat)
 |h (b j:Nat) (c:CC)
 |m (b j:Nat) (st:Bool)
@[reducible] def Pl.dn:Pl->Type
 |.r _ c=>c.dn
 |.w _ i=>List (TT i)
 |.h _ _ c=>c.dn
 |.m _ j _=>List (Int×TT j)
@[reducible] def l_:List Pl->Type
 |[]=>Unit
 |[p]=>p.dn
 |p::q::ps=>p.dn×l_ (q::ps)
structure JH where
 pl:List Pl
 hs:List (Nat×Nat):=[]
 os:List (Nat×Nat):=[]
 zs:List (Nat×Nat×Nat):=[]
def zJ:List (Nat×Nat)->TA->TH->Option (TA×TH)
  |[],a,σ=>some (a,σ)
  |(t,i)::os,a,σ=>match Nat.ble 1048576 t with
   |true=>match σ[(t-1048576) / 1024]? with
    |some (.cells w b) => match b[(t - 1048576) % 1024]? with
      |some (_,.d (.c (.lit (.slice none 0 0))))=>zJ os a (σ.set ((t-1048576) / 1024) (.cells (w+1) (b.set ((t-1048576) % 1024) (w+1,.own i σ.length 0 0)))++[.row i [] 0 0])
      |some (_,.own ..)=>zJ os a σ
      |_=>none
    |_=>none
   |false=>match Hz t a with
    |some (.v (.c (.d (.c (.lit (.slice none 0 0))))))=>zJ os ((t,.v (.c (.own i σ.length 0 0)))::a) (σ++[.row i [] 0 0])
    |some (.v (.c (.own ..)))=>zJ os a σ
    |_=>none
def DB{i j:Nat}(l:List (Int×TT j)):Option (List (Int×TT i)):=match decEq j i with | .isTrue h=>some (h▸l) | .isFalse _=>none
def iZ(ps:List Pl)(b:Nat):Nat->List (Nat×TC)->List (Nat×TC)->Bool
 |_,[],[]=>true
 |j,(v,_)::xs,(w,_)::a=>(Nat.beq v w || ps.any λp=>match p with | .h d e _=>Nat.beq d b&&Nat.beq e j | _=>false)&&iZ ps b (j+1) xs a
 |_,_,_=>false
def tN(ps:List Pl)(b:Nat):TB->TB->Bool
 |.cells _ xs,.cells _ d=>iZ ps b 0 xs d
 |.row _ _ _ v,.row _ _ _ w=>Nat.beq v w || ps.any λp=>match p with | .w a _=>Nat.beq a b | _=>false
 |.mp _ _ _ v,.mp _ _ _ w=>Nat.beq v w || ps.any λp=>match p with | .m a _ _=>Nat.beq a b | _=>false
 |_,_=>false
def cW(ps:List Pl):Nat->TH->TH->Bool
 |_,[],_=>true
 |b,x::xs,y::a=>tN ps b x y&&cW ps (b+1) xs a
 |_,_::_,[]=>false
def FL:List (Nat×Nat×Nat)->TH->TH
 |[],σ=>σ
 |(b, j, r) :: zs, σ => match σ[b]?, σ[r]? with
  |some (.cells w a),some (.row i l d _)=>FL zs (σ.set b (.cells (w+1) (a.set j (w+1,.own i r d l.length))))
  |_,_=>FL zs σ
def Ny(n:Nat)(σ:TH)(a:List (Nat×Nat×Nat)):Bool:=
 a.all λz=>Nat.blt z.1 n&&(Nat.blt z.2.2 n&&match σ[z.1]?,σ[z.2.2]? with
  |some (.cells _ b), some (.row i _ d _) => match b[z.2.1]? with
   |some (_,.own e f v _)=>Nat.beq f z.2.2&&(Nat.beq v d&&Nat.beq e i)
   |_=>false
  |_,_=>false)
def Du(a:List (Nat×Nat×Nat)):List Pl:=a.map λz=>.h z.1 z.2.1 .bool
inductive It where
 |cc (c:CC)
 |st (i:Nat)
 |fp (i:Nat)
 |ls (i:Nat)
 |ml (j:Nat)
 |cx
 deriving DecidableEq
@[reducible] def It.dn:It->Type
 |.cc c=>c.dn
 |.st i=>TT i
 |.fp i=>TT i
 |.ls i=>List (TT i)
 |.ml j=>List (Int×TT j)
 |.cx=>Int×Int
structure g_ where
 it:It
 v:it.dn
@[reducible] def dm:List It->Type
 |[]=>Unit
 |[c]=>c.dn
 |c::d::a=>c.dn×dm (d::a)
def jy(c:It)(d:g_):Option c.dn:=match decEq d.it c with | .isTrue h=>some (h▸d.v) | .isFalse _=>none
def pI:(cs:List It)->List g_->Option (dm cs)
 |[],[]=>some ()
 |[c],[d]=>jy c d
 |c :: e :: cs, d :: ds => match jy c d, pI (e :: cs) ds with
  |some a,some b=>some (a,b)
  |_,_=>none
 |_,_=>none
def ff:(cs:List It)->dm cs->List g_
 |[],_=>[]
 |[c],x=>[⟨c,x⟩]
 |c::a::cs,x=>⟨c,x.1⟩::ff (a::cs) x.2
inductive CP where
 |c (c:CC)
 |cx
 |hd (b:Nat)
 |pt (b off sz:Nat)
 |mr (b:Nat)
 |fb (f b sz:Nat)
 |k (d:D)
inductive RO where
 |v (c:bT)
 |p (p:CP)
 |ag (ps:List CP)
inductive NB where
 |cells (ps:List CP)
 |row (i:Nat)
 |mp (j:Nat) (st:Bool)
inductive PC where
 |h (b j:Nat) (p:CP)
 |w (b i:Nat)
 |m (b j:Nat) (st:Bool)
inductive CT where
 |mk (out:List RO) (pl:List PC) (nb:List NB) (H:List (Nat×Nat)) (J:List (Nat×JH)) (C:List (Nat×List CT))
def CT.out:CT->List RO | .mk o _ _ _ _ _=>o
def CT.pl:CT->List PC | .mk _ p _ _ _ _=>p
def CT.nb:CT->List NB | .mk _ _ n _ _ _=>n
def CT.H:CT->List (Nat×Nat) | .mk _ _ _ h _ _=>h
def CT.J:CT->List (Nat×JH) | .mk _ _ _ _ j _=>j
def CT.C:CT->List (Nat×List CT) | .mk _ _ _ _ _ c=>c
def ctk(k:Nat):List (Nat×List CT)->Option (List CT)
 |[]=>none
 |(q,c)::l=>match Nat.beq q k with | true=>some c | false=>ctk k l
def CP.QM:CP->List It
 |.c y=>[.cc y]
 |.cx=>[.cx]
 |_=>[]
def bT.it:bT->List It
 |.c x=>[.cc x]
 |.st i=>[.st i]
 |.fp i=>[.fp i]
 |.k _=>[]
def RO.QM:RO->List It
 |.v y=>y.it
 |.p y=>y.QM
 |.ag i=>i.flatMap CP.QM
def NB.rts:NB->List It
 |.cells _=>[]
 |.row i=>[.ls i]
 |.mp j _=>[.ml j]
def NB.QM:NB->List It
 |.cells i=>i.flatMap CP.QM
 |_=>[]
def PC.rts:PC->List It
 |.h ..=>[]
 |.w _ i=>[.ls i]
 |.m _ j _=>[.ml j]
def PC.QM:PC->List It
 |.h _ _ y=>y.QM
 |_=>[]
def CT.items(ct:CT):List It:=ct.pl.flatMap PC.rts++(ct.nb.flatMap NB.rts++(ct.out.flatMap RO.QM++(ct.pl.flatMap PC.QM++ct.nb.flatMap NB.QM)))
@[reducible] def mA:List CT->Type
 |[]=>Empty
 |[c]=>dm c.items
 |c::d::a=>dm c.items ⊕ mA (d::a)
def WY{R:Type}:(cs:List CT)->mA cs->((c:CT)->dm c.items->Option R)->Option R
 |[],_,_=>none
 |[c],x,f=>f c x
 |c :: d :: cs, x, f => match x with
  |.inl a=>f c a
  |.inr b=>WY (d::cs) b f
structure MS where
 ρ:List (Nat×Nat)
 fz:List Nat
 rw:List g_
 cl:List g_
def kT(b:Nat):List (Nat×Nat)->Option Nat
 |[]=>none
 |(q,o)::l=>match Nat.beq q b with | true=>some o | false=>kT b l
def AU(m b a:Nat)(s:MS):Option MS:=
 match Nat.blt b m with
 |true=>match Nat.beq b a with | true=>some s | false=>none
 |false => match kT b s.ρ with
  |some o=>match Nat.beq o a with | true=>some s | false=>none
  |none=>match Nat.ble m a with | true=>some { s with ρ:=(b,a)::s.ρ } | false=>none
def eqK:D->D->Bool
 |.c (.lit (.pointer none)),.c (.lit (.pointer none))=>true
 |.c (.lit (.map none)),.c (.lit (.map none))=>true
 |.c (.lit .nilFunc),.c (.lit .nilFunc)=>true
 |.c (.lit (.slice none 0 0)),.c (.lit (.slice none 0 0))=>true
 |.c (.fn (.func f) [] []),.c (.fn (.func g) [] [])=>Nat.beq f g
 |.c (.lit (.int k a)),.c (.lit (.int d b))=>decide (k=d)&&decide (a=b)
 |_,_=>false
def Zd(m:Nat)(σ1:TH)(p:CP)(x:TC)(s:MS):Option MS:=
 match p,x with
 |.c c, .own i b v n => match xj c (wu σ1 (.own i b v n)) with
  |some a=>some { s with fz:=b::s.fz,cl:=s.cl++[⟨.cc c,a⟩] }
  |none=>none
 |.c c, x => match xj c x with
  |some a=>some { s with cl:=s.cl++[⟨.cc c,a⟩] }
  |none=>none
 |.cx,.cx u v=>some { s with cl:=s.cl++[⟨.cx,(u,v)⟩] }
 |.hd b, .own _ e v _ => match σ1[e]? with
  |some (.row _ _ j _)=>match Nat.beq j v with | true=>AU m b e s | false=>none
  |_=>none
 |.pt b off sz,.d (.ptr e h g)=>match Nat.beq off h&&Nat.beq sz g with | true=>AU m b e s | false=>none
 |.mr b,.d (.mp e)=>AU m b e s
 |.fb f b sz,.d (.fn (.func l) [] [.ptr e 0 g])=>match Nat.beq f l&&Nat.beq sz g with | true=>AU m b e s | false=>none
 |.k d,.d q=>match eqK d q with | true=>some s | false=>none
 |_,_=>none
def DQ(m:Nat)(σ1:TH):List CP->List TC->MS->Option MS
 |[],[],s=>some s
 |p :: ps, x :: xs, s => match Zd m σ1 p x s with
  |some s1=>DQ m σ1 ps xs s1
  |none=>none
 |_,_,_=>none
def fM:List TC->List Nat
 |[]=>[]
 |.own _ b _ _::xs=>b::fM xs
 |_::xs=>fM xs
def UE:TV->List Nat
 |.c x=>fM [x]
 |.agg a=>fM a
 |_=>[]
def mRO(m:Nat)(σ1:TH)(p:RO)(v:TV)(s:MS):Option MS:=
 match p,v with
 |.v (.c c),v=>match mc (.c c) (dX σ1 v) with | some a=>some { s with fz:=UE v++s.fz,cl:=s.cl++[⟨.cc c,a⟩] } | none=>none
 |.v (.st i),v=>match mc (.st i) (dX σ1 v) with | some a=>some { s with fz:=UE v++s.fz,cl:=s.cl++[⟨.st i,a⟩] } | none=>none
 |.v (.fp i),v=>match mc (.fp i) (dX σ1 v) with | some a=>some { s with cl:=s.cl++[⟨.fp i,a⟩] } | none=>none
 |.p p,.c x=>Zd m σ1 p x s
 |.ag ps,.agg xs=>DQ m σ1 ps xs s
 |_,_=>none
def BR(m:Nat)(σ1:TH):List RO->List TV->MS->Option MS
 |[],[],s=>some s
 |p :: ps, x :: xs, s => match mRO m σ1 p x s with
  |some s1=>BR m σ1 ps xs s1
  |none=>none
 |_,_,_=>none
def zZ(m:Nat)(σ σ1:TH):List PC->MS->Option MS
 |[],s=>some s
 |.h b j p :: ps, s => match σ1[b]?, Nat.blt b m with
  |some (.cells _ e), true => match e[j]? with
   |some x => match Zd m σ1 p x.2 s with
    |some s1=>zZ m σ σ1 ps s1
    |none=>none
   |none=>none
  |_,_=>none
 |.w b i :: ps, s => match σ1[b]?, Nat.blt b m with
  |some (.row _ l _ _), true => match dC (i := i) l with
   |some a=>zZ m σ σ1 ps { s with rw:=s.rw++[⟨.ls i,a⟩] }
   |none=>none
  |_,_=>none
 |.m b j st :: ps, s => match σ1[b]?, Nat.blt b m with
  |some (.mp _ d l _), true => match st == d, DB (i := j) l with
   |true,some a=>zZ m σ σ1 ps { s with rw:=s.rw++[⟨.ml j,a⟩] }
   |_,_=>none
  |_,_=>none
def yo(m:Nat)(σ1:TH):Nat->List NB->MS->Option MS
 |_,[],s=>some s
 |b, .cells ps :: d, s => match kT b s.ρ with
  |some e => match σ1[e]? with
   |some (.cells _ g) => match DQ m σ1 ps (g.map Prod.snd) s with
    |some s1=>yo m σ1 (b+1) d s1
    |none=>none
   |_=>none
  |none=>none
 |b, .row i :: d, s => match kT b s.ρ with
  |some e => match σ1[e]? with
   |some (.row _ l _ _) => match dC (i := i) l with
    |some a=>yo m σ1 (b+1) d { s with rw:=s.rw++[⟨.ls i,a⟩] }
    |none=>none
   |_=>none
  |none=>none
 |b, .mp j st :: d, s => match kT b s.ρ with
  |some e => match σ1[e]? with
   |some (.mp _ f l _) => match st == f, DB (i := j) l with
    |true,some a=>yo m σ1 (b+1) d { s with rw:=s.rw++[⟨.ml j,a⟩] }
    |_,_=>none
   |_=>none
  |none=>none
def PC.pl:PC->Pl
 |.h b j _=>.h b j .bool
 |.w b i=>.w b i
 |.m b j st=>.m b j st
def sC:List Nat->Bool
 |[]=>true
 |x::xs=>!(xs.any (Nat.beq x))&&sC xs
def OY(ct:CT)(σ σ1:TH)(rs:List TV):Option (dm ct.items):=
 match cW (ct.pl.map PC.pl) 0 σ σ1 with
 |false=>none
 |true => match BR σ.length σ1 ct.out rs ⟨[], [], [], []⟩ with
  |none=>none
  |some s1 => match zZ σ.length σ σ1 ct.pl s1 with
   |none=>none
   |some a => match yo σ.length σ1 σ.length ct.nb a with
    |none=>none
    |some s => match sC (s.ρ.map Prod.snd) && (s.fz.all (λb => Nat.ble σ.length b && !((s.ρ.map Prod.snd).any (Nat.beq b))) && s.ρ.all λp => Nat.blt p.1 (σ.length + ct.nb.length)) with
     |true=>pI ct.items (s.rw++s.cl)
     |false=>none
def LI(σ σ1:TH)(rs:List TV):(cs:List CT)->Option (mA cs)
 |[]=>none
 |[c]=>OY c σ σ1 rs
 |c :: d :: cs => match OY c σ σ1 rs with
  |some a=>some (.inl a)
  |none => match LI σ σ1 rs (d :: cs) with
   |some b=>some (.inr b)
   |none=>none
def br(σ:TH):List PC->List g_->Option (TH×List g_)
 |[],ds=>some (σ,ds)
 |.h ..::ps,ds=>br σ ps ds
 |.w b i :: ps, d :: ds => match jy (.ls i) d, σ[b]? with
  |some l, some (.row j _ a e) => match Nat.beq j i with
   |true=>br (σ.set b (.row i l (a+1) (e+1))) ps ds
   |false=>none
  |_,_=>none
 |.m b j st :: ps, d :: ds => match jy (.ml j) d, σ[b]? with
  |some l,some (.mp _ _ _ v)=>br (σ.set b (.mp j st l (v+1))) ps ds
  |_,_=>none
 |_,[]=>none
def cK:List NB->List g_->Option (TH×List g_)
 |[],ds=>some ([],ds)
 |.cells _::b,ds=>match cK b ds with | some (l,r)=>some (.cells 0 []::l,r) | none=>none
 |.row i::b,d::ds=>match jy (.ls i) d,cK b ds with | some a,some (l,r)=>some (.row i a 0 0::l,r) | _,_=>none
 |.mp j st::b,d::ds=>match jy (.ml j) d,cK b ds with | some a,some (l,r)=>some (.mp j st a 0::l,r) | _,_=>none
 |_,[]=>none
def uS(e:TH)(p:CP)(ds:List g_):Option (TC×List g_):=
 match p,ds with
 |.c c,d::ds=>match jy (.cc c) d with | some a=>some (oq c a,ds) | none=>none
 |.cx,d::ds=>match jy .cx d with | some a=>some (.cx a.1 a.2,ds) | none=>none
 |.hd b,ds=>match e[b]? with | some (.row i l g _)=>some (.own i b g l.length,ds) | _=>none
 |.pt b off sz,ds=>match Nat.blt b e.length with | true=>some (.d (.ptr b off sz),ds) | false=>none
 |.mr b,ds=>match Nat.blt b e.length with | true=>some (.d (.mp b),ds) | false=>none
 |.fb f b sz,ds=>match Nat.blt b e.length with | true=>some (.d (.fn (.func f) [] [.ptr b 0 sz]),ds) | false=>none
 |.k d,ds=>match d.low 0 with | true=>some (.d d,ds) | false=>none
 |_,_=>none
def uz(a:TH):List CP->List g_->Option (List TC×List g_)
 |[],ds=>some ([],ds)
 |p :: ps, ds => match uS a p ds with
  |some (x, b) => match uz a ps b with
   |some (xs,r)=>some (x::xs,r)
   |none=>none
  |none=>none
def wo(b:TH)(p:RO)(ds:List g_):Option (TV×List g_):=
 match p,ds with
 |.v (.c c),d::ds=>match jy (.cc c) d with | some a=>some (.c (oq c a),ds) | none=>none
 |.v (.st i),d::ds=>match jy (.st i) d with | some a=>some (.agg (exp i a),ds) | none=>none
 |.v (.fp i),d::ds=>match jy (.fp i) d with | some a=>some (.c (.fp i a 0),ds) | none=>none
 |.p p,ds=>match uS b p ds with | some (x,r)=>some (.c x,r) | none=>none
 |.ag ps,ds=>match uz b ps ds with | some (xs,r)=>some (.agg xs,r) | none=>none
 |_,_=>none
def mV(a:TH):List RO->List g_->Option (List TV×List g_)
 |[],ds=>some ([],ds)
 |p :: ps, ds => match wo a p ds with
  |some (x, b) => match mV a ps b with
   |some (xs,r)=>some (x::xs,r)
   |none=>none
  |none=>none
def dV(a:TH):List PC->TH->List g_->Option (TH×List g_)
 |[],σ,ds=>some (σ,ds)
 |.h b j p :: ps, σ, ds => match uS a p ds, σ[b]? with
  |some (x,r),some (.cells w d)=>dV a ps (σ.set b (.cells (w+1) (d.set j (w+1,x)))) r
  |_,_=>none
 |_::ps,σ,ds=>dV a ps σ ds
def dv(a:TH):List NB->TH->List g_->Option TH
 |[],_,_=>some []
 |.cells ps :: d, _ :: bs, ds => match uz a ps ds with
  |some (xs, r) => match dv a d bs r with
   |some l=>some (.cells 0 (xs.map λx=>(0,x))::l)
   |none=>none
  |none=>none
 |_ :: d, b :: bs, ds => match dv a d bs ds with
  |some l=>some (b::l)
  |none=>none
 |_,_,_=>none
def pW(ct:CT)(σ:TH)(x:dm ct.items):Option (List TV×TH):=
 match br σ ct.pl (ff ct.items x) with
 |none=>none
 |some (fG, d1) => match cK ct.nb d1 with
  |none=>none
  |some (nb, d2) => match mV (fG ++ nb) ct.out d2 with
   |none=>none
   |some (a, d3) => match dV (fG ++ nb) ct.pl fG d3 with
    |none=>none
    |some (am, d4) => match dv (fG ++ nb) ct.nb nb d4 with
     |some l=>some (a,am++l)
     |none=>none
def tW:List TV->TV
 |[v]=>v
 |a=>.aB (a.map Yy)
def fnT:TV->Option (FuncId×List TV×List TV)
 |.c (.d (.c (.fn (.func g) a b)))=>some (g,a.map (λx=>Av (.c x)),b.map λx=>Av (.c x))
 |.c (.d (.fn (.func g) a b))=>some (g,a.map Av,b.map Av)
 |.c (.zq g xs)=>some (g,[.agg (xs.map cvT)],[])
 |_=>none
def PC.blk:PC->Nat
 |.h b _ _=>b
 |.w b _=>b
 |.m b _ _=>b
def PC.rs:PC->Bool
 |.w ..=>true
 |_=>false
def okT(al:TA):iA->Bool
 |.load _ (.t a)=>(dt a al).isSome
 |_=>true
structure Ga where
 P:Program
 S:ot
 H:List (Nat×Nat)
 J:List (Nat×JH)
 C:List (Nat×List CT)
 n:Nat
 N:Nat
 inl:(cs:List CT)->FuncId->List TV->TH->Option (mA cs)
 exa:CT->FuncId->List TV->TH->Option (List TV×TH)
 rs:List CT->FuncId->List TV->TH->List CT
def exOf:List CT->Option CT
 |[a] => match a.H with
  |(k,_)::_=>match Nat.beq k 1000002 with | true=>some a | false=>none
  |_=>none
 |_=>none
def fP(g:Ga)(q:Nat)(o:av):Option (List CT):=
 match g.C with
 |[]=>none
 |C => match o.op, o.dst with
  |.call _ _,some t=>ctk (q * 65536+t) C
  |_,_=>none
def ZC(g:Ga)(q:Nat)(o:av)(n b:Nat)(cs:List CT):List CT:=
 match o.dst with
 |some t => match ctk (q * 65536 + t + 1099511627776 * (n + 1)) g.C with
  |some a=>a
  |none => match ctk (q * 65536 + t + 1208925819614629174706176 * (b + 1)) g.C with
   |some a=>a
   |none=>cs
 |none=>cs
def Jg(o o':av):Bool:=match o.dst,o'.dst with | some a,some b=>Nat.beq a b | _,_=>false
def uJ(g:Ga)(q:Nat):List av->Bool
 |[]=>true
 |o :: os => (match fP g q o with
  |some _=>!(os.any (Jg o))
  |none=>!(os.any λa=>Jg o a&&(fP g q a).isSome))&&uJ g q os
def Kq(g:Ga)(q:Nat)(os:List av):Bool:=match g.C with | []=>true | _=>uJ g q os
def gJ(g:Ga)(q:Nat):Nat->Nat->List av->Kn->TA->TH->KS R->Option R
  |0,_,_,_,_,_,_=>none
  |_+1,_,[],_,i,σ,K=>K i σ []
  |l + 1, k, o :: os, kn, i, σ, K=>
    match (match o.dst with | some t=>Nat.blt t g.n | none=>true) with
    |false=>none
    |true=>
    match tGd i kn o.g with
    |.bad=>none
    |.LU t x=>gJ g q l k (o::os) kn ((t,.v x)::i) σ K
    |.spl e p=>if e=true then gJ g q l k (o::os) ((p,true)::kn) i σ K else gJ g q l k (o::os) ((p,false)::kn) i σ K
    |.shut => match o.dst with
      |none=>none
      |some t => match okT i o.op with
        |false=>none
        |true=>gJ g q l (k-1) os kn ((t,.v (.c (.d (.aB []))))::i) σ λd h j=>K d h (zH o 0 none [] σ.length σ.length::j)
    |.sym e p w=>
      match mX o.op,o.dst with
      |true, some t=>
        match eo (R:=TV) g.P g.S 0 o.op (zO i kn (some (p,w))) σ λv _ _ _=>some v with
        |some v=>gJ g q l (k-1) os kn ((t,.g e w p v)::i) σ λd h j=>K d h (zH o (cat o.op) (Sl (zO i kn (some (p,w))) o.op) [] σ.length σ.length::j)
        |none=>none
      |_,_=>if e=true then gJ g q l k (o::os) ((p,true)::kn) i σ K else gJ g q l k (o::os) ((p,false)::kn) i σ K
    |.Lp=>
      match fP g q o with
      |some m=>
        match o.op with
        |.call f args => match zO i kn none f, DJ (zO i kn none) args with
          |some E, some A => match fnT E with
            |some (z,a,b)=>match g.rs (ZC g q o σ.length z m) z (a++A++b) σ with
             |m=>match exOf m with
              |some s=>(g.exa s z (a++A++b) σ).bind λp=>gJ g q l (k-1) os kn (VF o.dst (.v (tW p.1)) i) p.2 λd h j=>K d h (zH o (cat o.op) none [] σ.length p.2.length::j)
              |none=>(g.inl m z (a++A++b) σ).bind λx=>WY m x λs x=>match pW s σ x with
              |some (F, σ1) => match Nat.beq k 0 || !(s.pl.any PC.rs) with
                |true=>gJ g q l (k-1) os kn (VF o.dst (.v (tW F)) i) σ1 λd h j=>K d h (zH o (cat o.op) none (s.pl.map PC.blk) σ.length σ1.length::j)
                |false=>none
              |none=>none
            |none=>none
          |_,_=>none
        |_=>none
      |none=>
      match o.op,o.dst with
      |.pick (.t c) x y, some t=>
        match dt c i with
        |some (.v G, p)=>
          match gdC kn p G with
          |.Lp => match zO i ((p, true) :: kn) none x with
            |some v=>gJ g q l (k-1) os kn ((t,.v v)::i) σ λd h j=>K d h (zH o (cat o.op) none [] σ.length σ.length::j)
            |none=>none
          |.shut => match zO i ((p, false) :: kn) none y with
            |some v=>gJ g q l (k-1) os kn ((t,.v v)::i) σ λd h j=>K d h (zH o (cat o.op) none [] σ.length σ.length::j)
            |none=>none
          |.sym e p _ => match zO i kn (some (p, true)) x, zO i kn (some (p, false)) y with
            |some u, some v => match Kf u, Kf v with
              |some u,some v=>gJ g q l (k-1) os kn ((t,.v (Zi e u v))::i) σ λd h j=>K d h (zH o (cat o.op) none [] σ.length σ.length::j)
              |_,_=>none
            |_,_=>none
          |_=>none
        |_=>none
      |op,dst=>eo g.P g.S (hintOf g.H dst) op (zO i kn none) σ λv σ1 rs wr=>
          match Nat.beq k 0 || !rs with
          |true=>gJ g q l (k-1) os kn (VF dst (.v v) i) σ1 λd h j=>K d h (zH o (cat op) (Sl (zO i kn none) op) wr σ.length σ1.length::j)
          |false=>none
def Mj(al:TA)(σ:TH):(p:Pl)->Option p.dn
 |.r t c => match Hz t al with
  |some (.v x)=>mc c x
  |_=>none
 |.w b _ => match σ[b]? with
  |some (.row _ l _ _)=>dC l
  |_=>none
 |.h b j c => match σ[b]? with
  |some (.cells _ d) => match d[j]? with
   |some x=>xj c x.2
   |none=>none
  |_=>none
 |.m b _ st => match σ[b]? with
  |some (.mp _ a l _)=>match st == a with | true=>DB l | false=>none
  |_=>none
def FK(al:TA)(σ:TH):(ps:List Pl)->Option (l_ ps)
 |[]=>some ()
 |[p]=>Mj al σ p
 |p :: q :: ps => match Mj al σ p, FK al σ (q :: ps) with
  |some a,some b=>some (a,b)
  |_,_=>none
def Ng(p:Pl)(x:p.dn)(al:TA):TA:=
 match p,x with
 |.r t c,x=>(t,.v (c.tv x))::al
 |_,_=>al
def AG:(ps:List Pl)->l_ ps->TA->TA
 |[],_,a=>a
 |[p],x,a=>Ng p x a
 |p::q::ps,x,a=>Ng p x.1 (AG (q::ps) x.2 a)
def KE(p:Pl)(x:p.dn)(σ:TH):TH:=
 match p,x with
 |.w b i, x => match σ[b]? with
  |some (.row _ _ a d)=>σ.set b (.row i x (a+1) (d+1))
  |_=>σ
 |.h b j c, x => match σ[b]? with
  |some (.cells w e)=>σ.set b (.cells (w+1) (e.set j (w+1,oq c x)))
  |_=>σ
 |.m b j st, x => match σ[b]? with
  |some (.mp _ _ _ v)=>σ.set b (.mp j st x (v+1))
  |_=>σ
 |_,_=>σ
def ni:(ps:List Pl)->l_ ps->TH->TH
 |[],_,σ=>σ
 |[p],x,σ=>KE p x σ
 |p::q::ps,x,σ=>KE p x.1 (ni (q::ps) x.2 σ)
def HI(σ:TH):List (Nat×Nat)->TA->TA
 |[],a=>a
 |(t, b) :: hs, a => match σ[b]? with
  |some (.row i l d _)=>(t,.v (.c (.own i b d l.length)))::HI σ hs a
  |_=>HI σ hs a
def Bl(md:List Nat)(al:TA):TA:=(md.filter λt=>(Hz t al).isSome).map (λt=>(t,.v (.c .any)))++al
def bK:az->List Nat
 |.wm d=>d.filterMap (·.dst)
 |.AE d _ _ _=>d.filterMap (·.dst)
 |.seq a b=>bK a++bK b
 |.cond _ a b=>bK a++bK b
 |.block _ b=>bK b
 |.loop b=>bK b
 |.Mu _ a r=>bK a++bK r
 |_=>[]
def NY(al:TA)(σ:TH)(hs:List (Nat×Nat)):Bool:=
 hs.all λ(t,b)=>match Hz t al,σ[b]? with
  |some (.v (.c (.own i a v _))),some (.row j _ d _)=>Nat.beq a b&&(Nat.beq v d&&Nat.beq i j)
  |_,_=>false
def rowAt(σ:TH)(b:Nat):Bool:=match σ[b]? with | some (.row ..)=>true | _=>false
def CH(hs:List (Nat×Nat))(md:List Nat)(al:TA)(σ:TH)(a:TA):Bool:=(a.take (a.length-al.length)).all λp=>md.any (Nat.beq p.1) || hs.any λz=>Nat.beq z.1 p.1&&rowAt σ z.2
def DU(h:JH)(md:List Nat)(al:TA)(σ:TH)(a:TA)(σ1:TH):Option (l_ h.pl):=
 match CH h.hs md al σ a&&(cW (h.pl++Du h.zs) 0 σ σ1&&(NY a σ1 h.hs&&Ny σ.length σ1 h.zs)) with
 |true=>FK a σ1 h.pl
 |false=>none
def wO(m:Nat)(σ:TH):TC->TC
 |.own i b v n => match Nat.blt b m with
  |true=>.own i b v n
  |false => match σ[b]? with
   |some (.row j l e _)=>match Nat.beq e v with | true=>.sl j l | false=>.any
   |_=>.any
 |.op i b v n k a o=>match Nat.blt b m with | true=>.op i b v n k a o | false=>.any
 |.ap b off len sz k=>match Nat.blt b m with | true=>.ap b off len sz k | false=>.any
 |.os i b v n f len=>match Nat.blt b m with | true=>.os i b v n f len | false=>.any
 |.d x=>match x.low m with | true=>.d x | false=>.any
 |.zq g d=>match d.all (CV.low m) with | true=>.zq g d | false=>.any
 |x=>x
def wG(m:Nat)(σ:TH):RV->RV
 |.v (.c x)=>.v (.c (wO m σ x))
 |.v (.agg xs)=>.v (.agg (xs.map (wO m σ)))
 |_=>.v (.c .any)
def TU(m:Nat)(σ:TH):Nat->TA->TA
 |0,a=>a
 |_+1,[]=>[]
 |k+1,(t,x)::a=>(t,wG m σ x)::TU m σ k a
def Yn(m:Nat):TC->Bool
 |.own _ b _ _=>Nat.blt b m
 |.op _ b _ _ _ _ _=>Nat.blt b m
 |.ap b _ _ _ _=>Nat.blt b m
 |.os _ b _ _ _ _=>Nat.blt b m
 |.d x=>x.low m
 |.zq _ a=>a.all (CV.low m)
 |_=>true
def okB(m:Nat):TB->Bool
 |.cells _ a=>a.all λp=>Yn m p.2
 |_=>true
def wI(h:JH)(md:List Nat)(al:TA)(σ:TH)(a:TA)(σ1:TH):Option (l_ h.pl):=
 match (σ1.take σ.length).all (okB σ.length) with
 |true=>DU h md al σ (TU σ.length σ1 (a.length-al.length) a) (σ1.take σ.length)
 |false=>DU h md al σ a σ1
def eC(h:JH)(md:List Nat)(al:TA)(σ:TH)(x:l_ h.pl):TH:=FL h.zs (ni h.pl x σ)
def bS(h:JH)(md:List Nat)(al:TA)(σ:TH)(x:l_ h.pl):TA:=AG h.pl x (HI (ni h.pl x σ) h.hs (Bl md al))
def UG(t:Nat):TC->Bool
 |.own _ b _ _=>!Nat.beq b t
 |.op _ b _ _ _ _ _=>!Nat.beq b t
 |.ap b _ _ _ _=>!Nat.beq b t
 |.os _ b _ _ _ _=>!Nat.beq b t
 |.d x=>x.low t
 |.zq _ a=>a.all (CV.low t)
 |_=>true
def nrV(t:Nat):TV->Bool
 |.c x=>UG t x
 |.agg a=>a.all (UG t)
 |.aB a=>a.all λp=>p.2.all (UG t)
def nrR(t:Nat):RV->Bool
 |.v x=>nrV t x
 |.g _ _ _ x=>nrV t x
def Hl(t:Nat)(x:TC):TC:=match UG t x with | true=>x | false=>.any
def zQ(t:Nat):RV->RV
 |.v (.c x)=>.v (.c (Hl t x))
 |.v (.agg xs)=>.v (.agg (xs.map (Hl t)))
 |_=>.v (.c .any)
def zK(t w:Nat)(p:Nat×TC):Nat×TC:=match UG t p.2 with | true=>p | false=>(w+1,.any)
def re(t:Nat):TB->TB
 |.cells w a=>.cells (w+1) (a.map (zK t w))
 |x=>x
def dflC:(c:CC)->c.dn
 |.int _=>(0:Int)
 |.bool=>false
 |.str=>ByteArray.empty
 |.sl _=>[]
 |.fk _=>0
def ZO:(cs:List CC)->aB cs
 |[]=>()
 |c::cs=>(dflC c,ZO cs)
def Dt(i:Nat):TT i:=Y.Vj i (ZO (Y.fl i))
def mvA(n t b j:Nat)(al:TA)(σ:TH):Option (TA×TH):=
 match σ[b]? with
 |some (.cells w a) => match a[j]? with
  |some (_, .own _ r v _) => match Nat.beq r t with
   |true=>some (al,σ)
   |false => match σ[r]?, σ[t]? with
    |some (.row i1 l d e), some (.row i2 _ lt f) => match Nat.beq v d && (Nat.beq i2 i1 && (al.drop n).all λp => nrR t p.2) with
     |true => some ((al.take n).map (λp => (p.1, zQ t p.2)) ++ al.drop n,
      (((σ.map (re t)).set t (.row i1 l (lt+1) (f+1))).set r (.row i1 (l++[Dt i1]) (d+1) (e+1))).set b (.cells (w+2) ((a.map (zK t w)).set j (w+2,.own i1 t (lt+1) l.length))))
     |false=>none
    |_,_=>none
  |_=>none
 |_=>none
def Yb(n:Nat):List (Nat×Nat×Nat)->TA->TH->Option (TA×TH)
 |[],a,σ=>some (a,σ)
 |(b, j, t) :: zs, a, σ => match mvA n t b j a σ with
  |some (a,σ)=>Yb n zs a σ
  |none=>none
def YV:List (Nat×Nat×Nat)->TA->TH->Option (TA×TH)
 |[],a,σ=>some (a,σ)
 |(b, j, t) :: zs, a, σ => match Nat.beq t σ.length, σ[b]? with
  |true, some (.cells _ d) => match d[j]? with
   |some (_, .own i _ _ _) => match mvA 0 t b j a (σ ++ [.row i [] 0 0]) with
    |some (a,σ)=>YV zs a σ
    |none=>none
   |_=>none
  |_,_=>none
def mvs(m:Nat)(a:List (Nat×Nat×Nat)):List (Nat×Nat×Nat):=a.filter λz=>Nat.ble m z.2.2
def jn{X:Type}(r:X->Option R)(b:(X->Option R)->Option R):Option R:=b r
def bg{X:Type}(b:(X->Option R)->X->Option R):Nat->X->Option R
 |0,_=>none
 |n+1,x=>b (bg b n) x
def jhk(p:Nat):List (Nat×JH)->Option JH
 |[]=>none
 |(q,h)::l=>match Nat.beq q p with | true=>some h | false=>jhk p l
def YW(p n:Nat)(J:List (Nat×JH)):Option JH:=match jhk (p+1099511627776 * (n+1)) J with
 |some h=>some h
 |none=>jhk p J
abbrev KC(R:Type):=jr->TA->TH->Option R
def YJ(os:List av):Bool:=(os.any λo=>match o.op with | .append ..=>true | _=>false)&&os.any λo=>match o.op with | .rK ..=>true | _=>false
def Wl(g:Ga)(q:Nat)(os:List av):Bool:=match g.C with
 |[]=>false
 |_ => os.any λo => match fP g q o with
  |some b=>b.any λa=>a.pl.any PC.rs || a.H.any λp=>Nat.beq p.1 1000005
  |none=>false
def lpU{X:Type}(b:(TA->TH->Option X)->TA->TH->Option X):Nat->TA->TH->Option X
 |0,_,_=>none
 |n+1,a,σ=>b (lpU b n) a σ
def Zk(a:Nat)(ps:List Pl):Bool:=ps.all λp=>match p with | .h b _ _=>!Nat.beq b a | _=>true
def itF{X:Type}(i:Nat)(l:List (TT i))(s:aY)(k:(j:Nat)->List (TT j)->Option X):Option X:=match s with
 | ⟨[.c (.sl a)], [.c (.sl j)], f⟩ => match dC (i := a) l with
  |some l=>(f (l,())).bind λr=>k j r
  |none=>none
 |_=>none
def Mc{T X:Type}(b:T->X->(X->Option R)->Option R)(k:X->Option R):List T->X->Option R
 |[],x=>k x
 |a::l,x=>b a x (Mc b k l)
def OP:List (Nat×Nat)->TA->TH->Option (TA×TH)
 |[],a,σ=>some (a,σ)
 |(t, _) :: os, a, σ => match Hz t a with
  |some (.v (.c (.own _ b v _))) => match σ[b]? with
   |some (.row j l d e) => match Nat.beq d v with
    |true=>OP os ((t,.v (.c (.sl j l)))::a) (σ.set b (.row j (l++[Dt j]) (d+1) (e+1)))
    |false=>none
   |_=>none
  |_=>none
def Dz(a b:Nat)(k:Option R):Option R:=match Nat.beq a b with | true=>k | false=>none
def Pg:List (Nat×Nat)->TA->TH->(TA->Option R)->Option R
 |[],a,_,k=>k a
 |(t, _) :: hs, a, σ, k => match Hz t a with
  |some (.v (.c (.own i b _ n))) => match σ[b]? with
   |some (.row j l d _) => match Nat.beq j i with
    |true=>Dz n l.length (Pg hs ((t,.v (.c (.own j b d l.length)))::a) σ k)
    |false=>none
   |_=>none
  |_=>none
def ZM(h:JH):Option Nat:=match h.os with
 |[(k,n)]=>match Nat.beq k 1000003 with | true=>some n | false=>none
 |_=>none
def tC(g:Ga):az->Nat->TA->TH->KC R->Option R
 |.skip,_,d,σ,K=>K .normal d σ
 |.wm os, q, d, σ, K => match YW q σ.length g.J with
  |none => match Kq g q os with
   |true=>gJ g q 1000 0 os [] d σ λm t _=>K .normal m t
   |false=>none
  |some h => match OP h.os d σ, Kq g q os with
   |some (d,σ),true=>gJ g q 1000 0 os [] d σ λm t _=>Pg h.hs m t λm=>K .normal m t
   |_,_=>none
 |.AE os u k p, q, d, σ, K=>
  match Kq g q os with
  |false=>none
  |true=>
  match YJ os with
  |true=>gJ g q 1000 os.length os [] d σ λm t w=>match dk u w&&kU u p os.length os.length&&Nat.ble p os.length with | true=>K .normal m t | false=>none
  |false => match Ji os u with
   |some (pi, _, L) => match Kq g q (ky pi os) with
    |true=>gJ g q 1000 L (ky pi os) [] d σ λm t w=>match GJ u pi w with | true=>K .normal m t | false=>none
    |false=>none
   |none=>match Wl g q os with
   |true=>gJ g q 1000 (cZ os) os [] d σ λm t w=>match dk u w&&kU u p (cZ os) os.length&&Nat.ble p (cZ os) with | true=>K .normal m t | false=>none
   |false=>gJ g q 1000 k os [] d σ λm t w=>match dk u w&&kU u p k os.length&&Nat.ble p k with | true=>K .normal m t | false=>none
 |.seq a b, q, d, σ, K=>
  match YW q σ.length g.J with
  |none => tC g a (2 * q) d σ λx f σ1 => match x with
   |.normal=>tC g b (2 * q+1) f σ1 K
   |x=>K x f σ1
  |some h => match zJ h.os d σ with
   |none=>none
   |some (d, σ) => jn (λx => tC g b (2 * q + 1) (bS h (bK a) d σ x) (eC h (bK a) d σ x) K) λj=>
    tC g a (2 * q) d σ λx f σ1=>match x with
     |.normal=>match wI h (bK a) d σ f σ1 with | some x=>j x | none=>none
     |x=>K x f σ1
 |.cond c a b, q, d, σ, K=>
  match zO d [] none c with
  |some (.c (.d (.c (.lit (.bool true)))))=>tC g a (2 * q) d σ K
  |some (.c (.d (.c (.lit (.bool false)))))=>tC g b (2 * q+1) d σ K
  |some (.c (.b e))=>if e=true then tC g a (2 * q) d σ K else tC g b (2 * q+1) d σ K
  |_=>none
 |.block id b, q, d, σ, K => tC g b (2 * q) d σ λx f σ1 => match x with
  |.exit i=>match Nat.beq i id with | true=>K .normal f σ1 | false=>K (.exit i) f σ1
  |x=>K x f σ1
 |.loop b, q, d, σ, K=>
  match YW q σ.length g.J with
  |none=>none
  |some h => match ZM h with
   |some n => lpU (λrec d σ => tC g b (2 * q) d σ λex f σ1 => match ex with
    |.normal=>rec f σ1
    |ex=>K ex f σ1) n d σ
   |none=>match zJ h.os d σ with
   |none=>none
   |some (d,σ)=>match mvs σ.length h.zs with
   |z :: zs => (match YV (z :: zs) d σ with
    |none=>none
    |some (d, σ) => match DU h (bK b) d σ d σ with
     |none=>none
     |some v => bg (λrec x=>
      tC g b (2 * q) (bS h (bK b) d σ x) (eC h (bK b) d σ x) λex f σ1=>match ex with
       |.normal => match Yb (f.length - (bS h (bK b) d σ x).length) (z :: zs) f σ1 with
        |none=>none
        |some (f,σ1)=>match wI h (bK b) (bS h (bK b) d σ x) (eC h (bK b) d σ x) f σ1 with | some A=>rec A | none=>none
       |ex=>K ex f σ1) g.N v)
   |[]=>match DU h (bK b) d σ d σ with
   |none=>none
   |some v => bg (λrec x=>
    tC g b (2 * q) (bS h (bK b) d σ x) (eC h (bK b) d σ x) λex f σ1=>match ex with
     |.normal=>match wI h (bK b) (bS h (bK b) d σ x) (eC h (bK b) d σ x) f σ1 with | some A=>rec A | none=>none
     |ex=>K ex f σ1) g.N v
 |.exit id,_,d,σ,K=>K (.exit id) d σ
 |.ret,_,d,σ,K=>K .ret d σ
 |.Qx _,_,d,σ,K=>K .normal d σ
 |.Mu l a r, q, d, σ, K=>
  match YW q σ.length g.J with
  |none => tC g a (2 * q) d σ λex f σ1 => match ex with
   |.exit i => match Nat.beq i (2 * l + 1) with
    |true => tC g r (2 * q + 1) f σ1 λex E F => match ex with
     |.exit i=>match Nat.beq (i % 2) 0 with | true=>K (.exit i) E F | false=>none
     |ex=>K ex E F
    |false=>match Nat.beq (i % 2) 0 with | true=>K (.exit i) f σ1 | false=>none
   |ex=>K ex f σ1
  |some h => tC g a (2 * q) d σ λex f σ1 => match ex with
   |.exit i => match Nat.beq i (2 * l + 1) with
    |true => match wI h (bK a ++ bK r) d σ f σ1 with
     |none=>none
     |some v => bg (λrec x => tC g r (2 * q + 1) (bS h (bK a ++ bK r) d σ x) (eC h (bK a ++ bK r) d σ x) λex f σ1 => match ex with
      |.exit i => match Nat.beq i (2 * l + 1) with
       |true=>match wI h (bK a++bK r) (bS h (bK a++bK r) d σ x) (eC h (bK a++bK r) d σ x) f σ1 with | some A=>rec A | none=>none
       |false=>match Nat.beq (i % 2) 0 with | true=>K (.exit i) f σ1 | false=>none
      |ex=>K ex f σ1) g.N v
    |false=>match Nat.beq (i % 2) 0 with | true=>K (.exit i) f σ1 | false=>none
   |ex=>K ex f σ1
 |.Mm o ps a b, q, d, σ, K=>
  match YW q σ.length g.J with
  |none=>none
  |some h => match zJ h.os d σ with
   |none=>none
   |some (d, σ) => match DU h [] d σ d σ, ps with
    |some v, [p] => match zO (bS h [] d σ v) [] none o with
     |some (.c (.d (.fn (.func gf) [] [.ptr G 0 1]))) => match σ[G]?, QA (gf + 1048576) g.S, Nat.blt p g.n && (aH g.P gf && Zk G (h.pl ++ Du h.zs)) with
      |some (.cells _ [(_,.sl i l)]),some s,true=>itF i l s λj items=>Mc (λy x rec=>tC g a (2 * q) ((p,.v (.agg (exp j y)))::bS h [] d σ x) (eC h [] d σ x) λex f σ1=>match ex with
        |.normal => tC g b (2 * q + 1) f σ1 λex _ F => match ex with
         |.normal=>match wI h [] (bS h [] d σ x) (eC h [] d σ x) (bS h [] d σ x) F with | some A=>rec A | none=>none
         |ex=>K ex (bS h [] d σ x) F
        |_=>none) (λx=>K .normal (bS h [] d σ x) (eC h [] d σ x)) items v
      |_,_,_=>none
     |_=>none
    |_,_=>none
 |.stuck,_,_,_,_=>none
def vA:Nat->List TV->TA
 |_,[]=>[]
 |i,d::ds=>(i,.v d)::vA (i+1) ds
def zy(al:TA)(σ:TH):Nat×Option (Option Nat)->Option TV
 |(t,none)=>match Hz t al with | some (.v x)=>some x | _=>none
 |(t, some n) => match Hz t al with
  |some (.v (.c (.d (.ptr b off sz)))) => match σ[b]? with
   |some (.cells _ a)=>match Nat.beq a.length sz with | true=>vz n (a.map Prod.snd) off | false=>none
   |_=>none
  |_=>none
def si(σ:TH):(cs:List bT)->List TV->Option (iH cs)
 |[],[]=>some ()
 |[c],[x]=>mc c (dX σ x)
 |c :: d :: cs, x :: xs => match mc c (dX σ x), si σ (d :: cs) xs with
  |some a,some b=>some (a,b)
  |_,_=>none
 |_,_=>none
def Aa{α d:Type}(f:α->Option d):List α->Option (List d)
 |[]=>some []
 |x :: xs => match f x, Aa f xs with
  |some a,some b=>some (a::b)
  |_,_=>none
structure jp where
 yz:CT
 QG:List CT
 f:dm yz.items->Option (mA QG)
abbrev FW:=List (Nat×jp)
def XO(a:CT)(σ:TH)(vs:List TV):Option (List (Nat×Nat)×dm a.items):=
 match BR 0 σ a.out vs ⟨[],[],[],[]⟩ with
 |none=>none
 |some s1 => match yo 0 σ 0 a.nb s1 with
  |none=>none
  |some s => match sC (s.ρ.map Prod.snd) && (s.fz.isEmpty && (a.pl.isEmpty && s.ρ.all λp => Nat.blt p.1 (0 + a.nb.length))) with
   |true => match pI a.items (s.rw ++ s.cl) with
    |some x=>some (s.ρ,x)
    |none=>none
   |false=>none
def tf:TC->Bool
 |.d (.c (.lit (.slice none 0 0)))=>true
 |_=>false
def Qr(σ:TH)(ρ:List (Nat×Nat)):Nat->TH->Bool
 |_,[]=>true
 |i, .cells _ a :: bs => (match σ[(kT i ρ).getD 0]? with
  |some (.cells _ xs)=>Zf xs a
  |_=>false)&&Qr σ ρ (i+1) bs
 |i,_::bs=>Qr σ ρ (i+1) bs
where Zf:List (Nat×TC)->List (Nat×TC)->Bool
 |(_,x)::xs,(_,y)::a=>(!(tf x) || tf y)&&Zf xs a
 |_,_=>true
def NX(n m:Nat)(ρ:List (Nat×Nat))(i:Nat):Nat:=match Nat.blt i n with | true=>(kT i ρ).getD 0 | false=>m+(i-n)
def VS:bT->bT->Bool
 |.c x,.c y=>decide (x=y)
 |.st i,.st j=>Nat.beq i j
 |.fp i,.fp j=>Nat.beq i j
 |.k g,.k h=>Nat.beq g h
 |_,_=>false
def YM(ρ:Nat->Nat)(n:Nat):CP->CP->Bool
 |.c a,.c b=>decide (a=b)
 |.cx,.cx=>true
 |.hd b,.hd e=>Nat.beq (ρ b) e&&Nat.blt b n
 |.pt b o s,.pt e h g=>Nat.beq (ρ b) e&&(Nat.blt b n&&(Nat.beq o h&&Nat.beq s g))
 |.mr b,.mr e=>Nat.beq (ρ b) e&&Nat.blt b n
 |.fb f b s,.fb i e g=>Nat.beq (ρ b) e&&(Nat.blt b n&&(Nat.beq f i&&Nat.beq s g))
 |.k d,.k j=>eqK d j
 |_,_=>false
def Hx(ρ:Nat->Nat)(n:Nat):List CP->List CP->Bool
 |[],[]=>true
 |p::ps,q::a=>YM ρ n p q&&Hx ρ n ps a
 |_,_=>false
def rRO(ρ:Nat->Nat)(n:Nat):RO->RO->Bool
 |.v a,.v b=>VS a b
 |.p a,.p b=>YM ρ n a b
 |.ag a,.ag b=>Hx ρ n a b
 |_,_=>false
def Ko(ρ:Nat->Nat)(n:Nat):List RO->List RO->Bool
 |[],[]=>true
 |p::ps,q::a=>rRO ρ n p q&&Ko ρ n ps a
 |_,_=>false
def rPC(ρ:Nat->Nat)(m0 n:Nat):PC->PC->Bool
 |.h b j p,.h a d f=>Nat.beq (ρ b) a&&(Nat.blt b m0&&(Nat.beq j d&&YM ρ n p f))
 |.w b i,.w a g=>Nat.beq (ρ b) a&&(Nat.blt b m0&&Nat.beq i g)
 |.m b j st,.m a d e=>Nat.beq (ρ b) a&&(Nat.blt b m0&&(Nat.beq j d&&st == e))
 |_,_=>false
def vm(ρ:Nat->Nat)(m0 n:Nat):List PC->List PC->Bool
 |[],[]=>true
 |p::ps,q::a=>rPC ρ m0 n p q&&vm ρ m0 n ps a
 |_,_=>false
def rNB(ρ:Nat->Nat)(n:Nat):NB->NB->Bool
 |.cells a,.cells b=>Hx ρ n a b
 |.row i,.row j=>Nat.beq i j
 |.mp j st,.mp e d=>Nat.beq j e&&st == d
 |_,_=>false
def tP(ρ:Nat->Nat)(n:Nat):List NB->List NB->Bool
 |[],[]=>true
 |p::ps,q::a=>rNB ρ n p q&&tP ρ n ps a
 |_,_=>false
def Xv(ρ:Nat->Nat)(m0:Nat)(a b:CT):Bool:=
 Ko ρ (m0+a.nb.length) a.out b.out&&(vm ρ m0 (m0+a.nb.length) a.pl b.pl&&tP ρ (m0+a.nb.length) a.nb b.nb)
def TW(ρ:Nat->Nat)(m0:Nat):List CT->List CT->Bool
 |[],[]=>true
 |a::as,b::bs=>Xv ρ m0 a b&&TW ρ m0 as bs
 |_,_=>false
theorem CQ:∀{a b:List CT},a.map CT.items=b.map CT.items->mA a=mA b:=by
 intro a;induction a with
 |nil=>simp_all
 |cons x a ih=>
  intro b h;cases b with
  |nil=>simp at h
  |cons y b=>
   simp only[mb,XZ] at h;cases a with
   |nil => cases b with
    |nil=>grind
    |cons _ _=>simp at h
   |cons d a => cases b with
    |nil=>simp at h
    |cons e b=>grind
def WL(O:FW)(cs:List CT)(d:FuncId)(vs:List TV)(σ:TH):Option (mA cs):=
 match cs with
 |[]=>none
 |a :: cs => match a.H with
  |[(_, k)] => match O[k]? with
   |some (g, s) => match Nat.beq g d, XO s.yz σ vs with
    |true, some (ρ, x) => match pW s.yz [] x with
     |some (_, b) => match Qr σ ρ 0 b && TW (NX s.yz.nb.length σ.length ρ) s.yz.nb.length s.QG (a :: cs) with
      |true => match decEq (s.QG.map CT.items) ((a :: cs).map CT.items) with
       |.isTrue h=>cast (Dj Option (CQ h)) (s.f x)
       |.isFalse _=>none
      |false=>none
     |none=>none
    |_,_=>none
   |none=>none
  |_=>none
abbrev yM:=List CT->FuncId->List TV->TH->List CT
abbrev bU:=(a:List CT)->FuncId->List TV->TH->Option (mA a)
def Jh(ρ:Nat->Nat):CP->CP
 |.hd b=>.hd (ρ b)
 |.pt b o s=>.pt (ρ b) o s
 |.mr b=>.mr (ρ b)
 |.fb f b s=>.fb f (ρ b) s
 |p=>p
def renRO(ρ:Nat->Nat):RO->RO
 |.p p=>.p (Jh ρ p)
 |.ag a=>.ag (a.map (Jh ρ))
 |o=>o
def YT(ρ:Nat->Nat):PC->PC
 |.h b j p=>.h (ρ b) j (Jh ρ p)
 |.w b i=>.w (ρ b) i
 |.m b j st=>.m (ρ b) j st
def ZB(ρ:Nat->Nat):NB->NB
 |.cells a=>.cells (a.map (Jh ρ))
 |n=>n
def YY(ρ:Nat->Nat)(H:List (Nat×Nat))(c:CT):CT:=.mk (c.out.map (renRO ρ)) (c.pl.map (YT ρ)) (c.nb.map (ZB ρ)) H [] []
def WV(O:FW)(a:FuncId)(vs:List TV)(σ:TH):List (Nat×Nat)->List CT
 |[]=>[]
 |(q, k) :: H => match Nat.beq q 1000000, O[k]? with
  |true, some (g, s) => match Nat.beq g a, XO s.yz σ vs with
   |true,some (ρ,_)=>s.QG.map (YY (NX s.yz.nb.length σ.length ρ) [(1000000,k)])
   |_,_=>WV O a vs σ H
  |_,_=>WV O a vs σ H
def YO(O:FW):yM:=λa b d σ=>match a with
 |[.mk [] [] [] (p :: H) [] []] => match Nat.beq p.1 1000000 with
  |true=>WV O b d σ (p::H)
  |false=>a
 |a=>a
def isOS(ct:CT):Bool:=match ct.H with
 |[(k,_)]=>Nat.beq k 1000000
 |_=>false
abbrev FT:=CT->FuncId->List TV->TH->Option (List TV×TH)
def Nu(n:Nat):TC->Bool
 |.d x=>x.low n
 |.b _=>true
 |.sl _ _=>true
 |.fp _ _ _=>true
 |.fl _=>true
 |.cx _ _=>true
 |_=>false
def QL(n:Nat):TV->Bool
 |.c x=>Nu n x
 |.agg a=>a.all (Nu n)
 |.aB _=>false
def YZ(n:Nat):TB->Bool
 |.cells w a=>a.all λp=>Nu n p.2&&Nat.ble p.1 w
 |_=>false
def WB(P:Program)(S:ot)(N:Nat)(B:bU)(i:yM)(I:bU)(X:FT):bU:=λb g e σ=>
 match b with
 |[]=>none
 |a :: b=>
  match isOS a with
  |true=>B (a::b) g e σ
  |false=>
  match P.funcs[g]? with
  |some f => match e_ P f true with
   |some d => match aH P g && Nat.ble e.length d.ntmps with
    |true => tC ⟨P, S, a.H, a.J, a.C, d.ntmps, N, I, X, i⟩ d.body 1 (vA 0 e) σ λx h σ1 => match x with
     |.exit _=>none
     |_ => match Aa (zy h σ1) d.results with
      |some rs=>LI σ σ1 rs (a::b)
      |none=>none
    |false=>none
   |none=>none
  |none=>none
def ex1(P:Program)(S:ot)(N:Nat)(h:yM)(I:bU)(X:FT):FT:=λb g e σ=>
 match P.funcs[g]? with
 |some f => match e_ P f true with
  |some a => match aH P g && Nat.ble e.length a.ntmps with
   |true => (tC (R := List TV × TH) ⟨P, S, b.H, b.J, b.C, a.ntmps, N, I, X, h⟩ a.body 1 (vA 0 e) σ λx d σ1 => match x with
    |.exit _=>none
    |_ => match Aa (zy d σ1) a.results with
     |some rs=>some (rs,σ1)
     |none => none).bind λp => match p.1.all (QL p.2.length) && (cW [] 0 σ p.2 && (p.2.drop σ.length).all (YZ p.2.length)) with
      |true=>some (p.1,σ++p.2.drop σ.length)
      |false=>none
   |false=>none
  |none=>none
 |none=>none
def Gi(P:Program)(S:ot)(N:Nat)(B:bU)(a:yM):Nat->bU×FT
 |0=>(λ_ _ _ _=>none,λ_ _ _ _=>none)
 |d+1=>(WB P S N B a (Gi P S N B a d).1 (Gi P S N B a d).2,ex1 P S N a (Gi P S N B a d).1 (Gi P S N B a d).2)
def tF(P:Program)(S:ot)(B:bU)(d:yM)(H:List (Nat×Nat))(J:List (Nat×JH))(C:List (Nat×List CT))(e:Nat)(f:iw)(b out:List bT)(N:Nat)(a:oC b):Option (iH out):=
 tC ⟨P,S,H,J,C,f.ntmps,N,(Gi P S N B d e).1,(Gi P S N B d e).2,d⟩ f.body 1 (vA 0 (Vc b a)) [] λx g σ=>
  match x with
  |.exit _=>none
  |_ => match Aa (zy g σ) f.results with
   |some rs=>si σ out rs
   |none=>none
end
end Go.Abs
end
section
namespace Go.Abs
section
variable[Gl][Y:Ty]
def GC(σ:TH):TC->Prop
 |.own i c v n=>∃blk,σ[c]? = some blk/\∀j l b d,blk=.row j l b d->v<=b/\(v=b->j=i/\n=l.length)
 |.op i c v n k a _=>∃blk,σ[c]? = some blk/\∀j l b d,blk=.row j l b d->v<=d/\(v=d->∃m:List (TT i),dC l=some m/\n=m.length/\au m k=some a)
 |.ap c _ _ _ _=>c<σ.length
 |.os i c v n e len=>∃blk,σ[c]? = some blk/\∀j l b d,blk=.row j l b d->v<=b/\(v=b->j=i/\n=l.length/\e+len<=n)
 |.d x=>x.low σ.length=true
 |.zq _ f=>f.all (CV.low σ.length)=true
 |_=>True
def GV(σ:TH):TV->Prop
 |.c x=>GC σ x
 |.agg a=>∀x∈a,GC σ x
 |.aB a=>∀p∈a,∀x∈p.2,GC σ x
structure RH (σ:TH) (σD:aa):Prop where
 len:σD.length=σ.length
 hp:∀(b:Nat) blk,σ[b]? = some blk->∃ob,σD[b]? = some ob/\RB blk ob
 hg:∀(b:Nat) w cs,σ[b]? = some (.cells w cs)->∀p∈cs,GC σ p.2/\p.1<=w
def BE:TB->TB->Prop
 |.cells w p,a=>∃w1 d,a=.cells w1 d/\w<=w1/\d.length=p.length/\∀(j:Nat) v x e q,p[j]? = some (v,x)->d[j]? = some (e,q)->(e=v/\q=x)∨w<e
 |.row i l h s,a=>∃g b f,a=.row i g b f/\h<=b/\s<=f/\(h=b->g.length=l.length)/\(s=f->g=l/\b=h)
 |.mp j st l v,a=>∃t m g e,a=.mp t m g e/\v<=e/\(v=e->a=.mp j st l v)
def Ext(σ σ1:TH):Prop:=∀(b:Nat) blk,σ[b]? = some blk->∃a,σ1[b]? = some a/\BE blk a
theorem BE.refl(blk:TB):BE blk blk:=by
 cases blk with
 |cells w s=>exact ⟨w,s,rfl,bQ _,rfl,λj v x A E h F=>.inl (by simp_all)⟩
 |row i l u z=>exact ⟨l,u,z,rfl,bQ _,bQ _,λ_=>rfl,λ_=>⟨rfl,rfl⟩⟩
 |mp j st l v=>exact ⟨j,st,l,v,rfl,bQ _,λ_=>rfl⟩
theorem Ext.refl(σ:TH):Ext σ σ:=λ_ blk h=>⟨blk,h,BE.refl blk⟩
theorem BE.trans{a b c:TB}(u:BE a b)(s:BE b c)(ha:∀w cs,a=.cells w cs->∀p∈cs,p.1<=w):BE a c:=by
 cases a with
 |cells w cs=>
  obtain ⟨w1,L,rfl,hw,hl,hc⟩:=u;obtain ⟨w2,z,rfl,M,O,U⟩:=s;refine ⟨w2,z,rfl,by omega,by omega,λj v x K x2 h s=>?_⟩
  grind
 |row i l lv cv=>
  obtain ⟨W,X,Z,rfl,h3,h4,h5,h6⟩:=u;obtain ⟨A,E,F,rfl,h7,h8,h9,ad⟩:=s;refine ⟨A,E,F,rfl,by omega,by omega,λe=>?_,λe=>?_⟩
  ·omega
  grind
 |mp j st l v=>
  obtain ⟨j1,af,W,v1,rfl,h3,h4⟩:=u;obtain ⟨j2,G,A,K,rfl,h5,h6⟩:=s;refine ⟨j2,G,A,K,rfl,by omega,λe=>?_⟩
  grind
theorem RH.Mn{σ:TH}{σD:aa}(H:RH σ σD){b:Nat}{blk:TB}(h:σ[b]? = some blk):∀w cs,blk=.cells w cs->∀p∈cs,p.1<=w:=λw cs e p i=>by subst e;exact (H.hg b w cs h p i).2
theorem Ext.trans{σ σ1 s:TH}{σD:aa}(H:RH σ σD)(u:Ext σ σ1)(x:Ext σ1 s):Ext σ s:=λb blk h=>by obtain ⟨i,z,A⟩:=u b blk h;obtain ⟨j,E,F⟩:=x b i z;exact ⟨j,E,A.trans F (H.Mn h)⟩
theorem Ext.len{σ σ1:TH}(h:Ext σ σ1):σ.length<=σ1.length:=by
 rcases pY σ1.length σ.length with i | j
 ·obtain ⟨blk,s,_⟩:=h σ1.length _ (cE i)
  simp_all
 omega
theorem D.cY{m m':Nat}(hm:m<=m'){d:D}(h:d.low m=true):d.low m'=true:=by
 have i:∀(k:Nat)(d:D),SizeOf.sizeOf d<k->d.low m=true->d.low m'=true:=by
  intro k;induction k with
  |zero=>omega
  |succ k ih=>
   have bM:∀(ds:List D),SizeOf.sizeOf ds<k+1->D.low.bM m ds=true->D.low.bM m' ds=true:=by
    intro ds;induction ds with
    |nil=>intro _ _;rfl
    |cons x ds j=>
     intro hs h;simp only[D.low.bM,aU,List.cons.sizeOf_spec] at h hs ⊢
     grind
   intro d hs h;cases d with
   |c x=>rfl
   |any=>rfl
   |ptr b o s=>simp only[D.low,aM] at h ⊢;omega
   |sl b o l e s=>simp only[D.low,aM] at h ⊢;omega
   |mp b=>simp only[D.low,aM] at h ⊢;omega
   |fn f a b=>
    simp only[D.low,aU,D.fn.sizeOf_spec] at h hs ⊢
    grind
   |agg ds=>grind [D.low]
   |aB ds=>grind [D.low]
 exact i (SizeOf.sizeOf d+1) d (Nat.lt_succ_self _) h
theorem CV.cY{m m':Nat}(hm:m<=m'){xs:List CV}(h:xs.all (CV.low m)=true):xs.all (CV.low m')=true:=by
 rw[eG] at h ⊢;intro x j;have:=h x j;cases x with
 |d x=>exact D.cY hm this
 |b e=>rfl
 |sl i l=>rfl
theorem uH{m g:Nat}{xs:List CV}(h:xs.all (CV.low m)=true):(TC.zq g xs).er.low m=true:=by
 have:D.low.bM m (xs.map CV.er)=true:=by
  induction xs with
  |nil=>rfl
  |cons x xs ih=>
   simp only[List.all_cons,aU] at h;simp only[mb,D.low.bM,aU];refine ⟨?_,ih h.2⟩;cases x with
   |d x=>exact h.1
   |b e=>rfl
   |sl i l=>rfl
 grind [TC.er,D.low,D.low.bM]
theorem GC.mono{σ σ1:TH}(h:Ext σ σ1){x:TC}(z:GC σ x):GC σ1 x:=by
 cases x with
 |own i c v n=>
  obtain ⟨blk,A,W⟩:=z;obtain ⟨s,E,u⟩:=h c blk A;refine ⟨s,E,λj l X Z e=>?_⟩;subst e;cases blk with
  |cells w cs=>obtain ⟨w1,F,e,_⟩:=u;simp at e
  |mp j st l v=>obtain ⟨j1,G,K,v1,e,_⟩:=u;simp at e
  |row j0 l0 L M=>
   obtain ⟨K,O,U,e,h5,h6,h7,h8⟩:=u
   grind
 |os i c v n lo len=>
  obtain ⟨blk,A,W⟩:=z;obtain ⟨s,E,u⟩:=h c blk A;refine ⟨s,E,λj l X Z e=>?_⟩;subst e;cases blk with
  |cells w cs=>obtain ⟨w1,F,e,_⟩:=u;simp at e
  |mp j st l v=>obtain ⟨j1,G,K,v1,e,_⟩:=u;simp at e
  |row j0 l0 L M=>
   obtain ⟨K,O,U,e,h5,h6,h7,h8⟩:=u
   grind
 |op i c v n k a off=>
  obtain ⟨blk,A,W⟩:=z;obtain ⟨s,E,u⟩:=h c blk A;refine ⟨s,E,λj l X Z e=>?_⟩;subst e;cases blk with
  |cells w cs=>obtain ⟨w1,F,e,_⟩:=u;simp at e
  |mp j st l v=>obtain ⟨j1,G,K,v1,e,_⟩:=u;simp at e
  |row j0 l0 L M=>
   obtain ⟨K,O,U,e,h5,h6,h7,h8⟩:=u
   grind
 |ap c off len sz k=>exact xD z h.len
 |d x=>exact D.cY h.len z
 |zq g xs=>exact CV.cY h.len z
 |_=>trivial
theorem GV.mono{σ σ1:TH}(h:Ext σ σ1){x:TV}(i:GV σ x):GV σ1 x:=by
 cases x with
 |c x=>exact GC.mono h i
 |agg s=>exact λx j=>GC.mono h (i x j)
 |aB s=>exact λp u x j=>GC.mono h (i p u x j)
theorem Ext.push(σ:TH)(blk:TB):Ext σ (σ++[blk]):=λb i h=>⟨i,by grind,BE.refl _⟩
theorem RH.push{σ:TH}{σD:aa}(H:RH σ σD){blk:TB}{ob:Ob}(h:RB blk ob)(hg:∀w cs,blk=.cells w cs->∀p∈cs,GC σ p.2/\p.1<=w):RH (σ++[blk]) (σD++[ob]):={
 len:=by simp[H.len]
 hp:=λb s i=>by
  rcases pY b σ.length with j | u
  ·rw[CU j] at i;rw[CU (by grind [RH.len])];exact H.hp b s i
  grind [RH.len]
 hg:=λb w cs i p hp=>by
  rcases pY b σ.length with j | u
  ·rw[CU j] at i;obtain ⟨x,z⟩:=H.hg b w cs i p hp;exact ⟨x.mono (Ext.push σ blk),z⟩
  ·rw[Jo u] at i;have:b-σ.length=0:=by grind
   rw[this] at i;simp only[List.getElem?_cons_zero,ab] at i;obtain ⟨x,z⟩:=hg w cs i p hp;exact ⟨x.mono (Ext.push σ blk),z⟩ }
theorem PM{α:Type}{l:List α}{b a:Nat}{x y z:α}(h:l[b]? = some x)(d:(l.set b y)[a]? = some z):(a=b/\z=y)∨(a≠b/\l[a]? = some z):=by grind
theorem Ah{α:Type}{l:List α}{b:Nat}{x y:α}(h:l[b]? = some x):(l.set b y)[b]? = some y:=by grind
theorem Mt{α:Type}{l:List α}{b a:Nat}{y:α}(h:a≠b):(l.set b y)[a]? = l[a]?:=by grind
theorem Ext.set{σ:TH}{b:Nat}{blk i:TB}(h:σ[b]? = some blk)(s:BE blk i):Ext σ (σ.set b i):=λu j x=>by grind [BE.refl]
theorem RH.set{σ:TH}{σD:aa}(H:RH σ σD){b:Nat}{blk i:TB}{ob:Ob}(s:σ[b]? = some blk)(G:BE blk i)(h:RB i ob)(hg:∀w cs,i=.cells w cs->∀p∈cs,GC σ p.2/\p.1<=w):RH (σ.set b i) (σD.set b ob):={
 len:=by simp[H.len]
 hp:=λz u j=>by
  obtain ⟨K,L,_⟩:=H.hp b blk s;rcases PM s j with ⟨rfl,rfl⟩ | ⟨x,A⟩
  ·grind
  ·rw[Mt x];exact H.hp z u A
 hg:=λz w cs j p hp=>by
  rcases PM s j with ⟨rfl,e⟩ | ⟨x,A⟩
  ·obtain ⟨E,F⟩:=hg w cs e.symm p hp;exact ⟨E.mono (Ext.set s G),F⟩
  ·obtain ⟨E,F⟩:=H.hg z w cs A p hp;exact ⟨E.mono (Ext.set s G),F⟩ }
def ca(σ:TH)(alD:AL)(rd:ay->Option TV):Prop:=∀x v,rd x=some v->∃d,lx alD x=some d/\RT v d/\GV σ v
def bW(P:Program)(orc:qB)(n:Nat)(alD:AL)(σ:TH)(σD:aa)(o:iA)(Q:TV->TH->Bool->List Nat->Prop):Prop:=
 ∃v σ1 rs wr d σD1,de P orc n alD σD o d σD1 wr/\RT v d/\GV σ1 v/\RH σ1 σD1/\Ext σ σ1/\(rs=false->ie σD σD1 wr=true)/\(mX o=true->σ1=σ/\σD1=σD/\wr=[])/\Q v σ1 rs wr
variable{P:Program}{orc:qB}{n:Nat}{alD:AL}{σ σ1:TH}{σD σD1:aa}{o:iA}{Q:TV->TH->Bool->List Nat->Prop}
theorem bW.pure{v:TV}{d:D}(h:de P orc n alD σD o d σD [])(i:RT v d)(j:GV σ v)(H:RH σ σD)(q:Q v σ false []):bW P orc n alD σ σD o Q:=
 ⟨v,σ,false,[],d,σD,h,i,j,H,Ext.refl σ,λ_=>rfl,λ_=>⟨rfl,rfl,rfl⟩,q⟩
theorem bW.new{v:TV}{d:D}{blk:TB}{ob:Ob}(h:de P orc n alD σD o d (σD++[ob]) [])(i:RT v d)(j:GV (σ++[blk]) v)(H:RH σ σD)(s:RB blk ob)(u:∀w cs,blk=.cells w cs->∀p∈cs,GC σ p.2/\p.1<=w)
  (q:Q v (σ++[blk]) false []) (x:mX o=false:=by rfl):bW P orc n alD σ σD o Q:=
 ⟨v,σ++[blk],false,[],d,σD++[ob],h,i,j,H.push s u,Ext.push σ blk,λ_=>rfl,λh=>by simp_all,q⟩
theorem RH.cells(H:RH σ σD){b w:Nat}{cs:List (Nat×TC)}(h:σ[b]? = some (.cells w cs)):∃ds,σD[b]? = some (.cells ds)/\ar RC (cs.map Prod.snd) ds/\ds.length=cs.length/\ds=cs.map λp=>p.2.er:=by obtain ⟨j,i,rfl⟩:=H.hp b _ h;refine ⟨_,i,?_,by simp,rfl⟩;have:=ar.er (cs.map Prod.snd);rw[PE] at this;exact this
theorem RH.row(H:RH σ σD){b i j s:Nat}{l:List (TT i)}(h:σ[b]? = some (.row i l j s)):σD[b]? = some (OB (enc i) l):=by obtain ⟨z,u,x⟩:=H.hp b _ h;rw[u];exact Dj some x
theorem Nk{b sz:Nat}{ds:List D}(h:σD[b]? = some (.cells ds))(hs:ds.length=sz):jZ σD b sz=some ds:=by grind [jZ]
theorem tS{m:Option Nat}{cs:List TC}{ds:List D}{off:Nat}{v:TV}(h:vz m cs off=some v)(a:ar RC cs ds):∃d,oW m ds off=some d/\RT v d:=by
 cases m with
 |none=>
  simp only[vz] at h;split at h
  ·rename_i x b;simp only[ab] at h;subst h;obtain ⟨d,e,f⟩:=a.get _ _ b;exact ⟨d,e,f⟩
  simp_all
 |some m=>
  simp only[vz] at h;split at h
  ·rename_i g;simp only[ab] at h;subst h;have i:=wS g;refine ⟨.agg ((ds.drop off).take m),?_,_,rfl,(a.drop off).take m⟩;simp only[oW];rw[if_pos (by grind [ar.len])]
  simp_all
theorem ma{m:Option Nat}{cs:List TC}{off:Nat}{v:TV}(h:vz m cs off=some v)(b:∀x∈cs,GC σ x):GV σ v:=by
 cases m with
 |none=>
  simp only[vz] at h;split at h
  ·rename_i x a;simp only[ab] at h;subst h;exact b x (sT a)
  simp_all
 |some m=>
  simp only[vz] at h;split at h
  ·simp only[ab] at h;subst h;exact λx a=>b x (WN (KZ a))
  simp_all
theorem qt(c:CC)(a:c.dn):GC σ (oq c a):=by cases c <;> first | exact True.intro | rfl
theorem Kc:∀(cs:List CC)(x:aB cs),∀y∈qi cs x,GC σ y:=by
 intro cs;induction cs with
 |nil=>grind [qi]
 |cons c cs ih=>grind [qi,qt]
theorem oT(i:Nat)(a:TT i):∀y∈exp i a,GC σ y:=Kc _ _
theorem Jj(i:Nat)(a:TT i):ar RC (exp i a) ((enc i a).map .c):=by rw[<-pf];exact ar.er _
theorem As{x:TC}{d:D}(h:x.scalar=true)(r:RC x d):d.scalar=true/\d=x.er:=by
 rcases r with rfl | rfl
 ·grind [TC.scalar]
 ·refine ⟨?_,rfl⟩;cases x with
  |any=>grind [TC.scalar]
  |d x=>exact h
  |_=>rfl
theorem lW{v:TV}{d:D}{xs:List TC}(h:dw v=some xs)(r:RT v d):d.cells? = some (xs.map TC.er)/\ar RC xs (xs.map TC.er)/\∀x∈xs,x≠.any:=by
 refine ⟨?_,ar.er _,?_⟩
 ·cases v with
  |c x=>
   simp only[dw] at h;split at h
   ·rename_i hs;simp only[ab] at h;subst h;obtain ⟨j,rfl⟩:=As hs r;cases g:x.er with
    |agg l=>grind [D.scalar]
    |_=>grind [D.cells?]
   simp_all
  |agg a=>
   simp only[dw] at h;split at h
   ·rename_i hs;simp only[ab] at h;subst h;obtain ⟨ds,rfl,i⟩:=r;rw[eG] at hs;have b:∀y∈a,y≠.any:=λy f e=>by grind [TC.scalar]
    rw[i.eq b];simp only[D.cells?];rw[if_pos];rw[eG];intro d hd;rw[gZ] at hd;obtain ⟨y,f,rfl⟩:=hd;exact (As (hs y f) (.inr rfl)).1
   simp_all
  |aB a=>grind [dw]
 ·intro x g e;subst e;cases v with
  |c y=>grind [dw,TC.scalar]
  |agg a=>grind [dw,TC.scalar]
  |aB a=>grind [dw]
theorem qc{v:TV}{xs:List TC}(h:dw v=some xs)(g:GV σ v):∀x∈xs,GC σ x:=by
 cases v with
 |c x=>
  simp only[dw] at h;split at h
  ·simp only[ab] at h;subst h;intro y a;simp only[Mq] at a;subst a;exact g
  simp_all
 |agg b=>
  simp only[dw] at h;split at h
  ·simp only[ab] at h;subst h;exact g
  simp_all
 |aB b=>grind [dw]
theorem ar.put{α j:Type}{R:α->j->Prop}{cs xs:List α}{ds i:List j}(h:ar R cs ds)(s:ar R xs i)(off:Nat):ar R (ou cs off xs) (ds.take off++i++ds.drop (off+i.length)):=by unfold ou;rw[s.len];exact ((h.take off).PS s).PS (h.drop _)
theorem Es{α:Type}{cs xs:List α}{off:Nat}{x:α}(h:x∈ou cs off xs):x∈cs∨x∈xs:=by grind [ou]
theorem yX{rd:ay->Option TV}(j:ca σ alD rd):∀{ps:List (Nat×Nat×ay)}{cs a:List TC}{ds:List D},xG rd cs ps=some a->ar RC cs ds->(∀x∈cs,GC σ x)->∃b,vS alD ds ps=some b/\ar RC a b/\∀x∈a,GC σ x:=by
 intro ps;induction ps with
 |nil=>intro cs a ds h e i;simp only[xG,ab] at h;subst h;exact ⟨ds,rfl,e,i⟩
 |cons p ps ih=>
  intro cs a ds h e i;obtain ⟨o,m,x⟩:=p;simp only[xG] at h;split at h
  ·rename_i v l;split at h
   ·rename_i A f;split at h
    ·rename_i g;obtain ⟨d,q,s,E⟩:=j x v l;obtain ⟨t,u,F⟩:=lW f s;simp only[aU] at g;have G:=bP g.1;have K:=wS g.2;obtain ⟨b,w,z⟩:=ih h (e.put u o) λy L=>by
      grind [Es,qc]
     refine ⟨b,?_,z⟩;simp only[vS,q,Option.bind_some,t];rw[if_neg (by grind [ar.len])];exact w
    simp_all
   simp_all
  simp_all
end
end Go.Abs
end
section
namespace Go.Abs
open Go.Fl
theorem AR{a b:Int}(d:a.natAbs<2 ^ 52)(f:b.natAbs<2 ^ 52):Op.Complex.arith .add .f64 (fl a) (fl b)=pure (fl (a+b)):=by
 have h:FloatKind.f64.format.add (fl a) (fl b)=some (fl (a+b)):=WM d f;have e:Op.floatArith .add .f64 (fl a) (fl b)=pure (.float .f64 (fl (a+b))):=by show (match FloatKind.f64.format.add (fl a) (fl b) with | some r=>(pure (.float .f64 r):Go.Sem Value) | none=>_)=_;rw[h]
 grind [Go.Op.Complex.arith]
theorem AW{a b:Int}(d:a.natAbs<2 ^ 52)(f:b.natAbs<2 ^ 52):Op.Complex.arith .sub .f64 (fl a) (fl b)=pure (fl (a-b)):=by
 have h:FloatKind.f64.format.sub (fl a) (fl b)=some (fl (a-b)):=Xo d f;have e:Op.floatArith .sub .f64 (fl a) (fl b)=pure (.float .f64 (fl (a-b))):=by show (match FloatKind.f64.format.sub (fl a) (fl b) with | some r=>(pure (.float .f64 r):Go.Sem Value) | none=>_)=_;rw[h]
 grind [Go.Op.Complex.arith]
theorem qF{a b:Int}(d:0<=a)(f:0<=b)(g:a.natAbs<2 ^ 53)(i:b.natAbs<2 ^ 53)(hm:(a * b).natAbs<2 ^ 53):Op.Complex.arith .mul .f64 (fl a) (fl b)=pure (fl (a * b)):=by
 have h:FloatKind.f64.format.mul (fl a) (fl b)=some (fl (a * b)):=VN d f g i hm;have e:Op.floatArith .mul .f64 (fl a) (fl b)=pure (.float .f64 (fl (a * b))):=by show (match FloatKind.f64.format.mul (fl a) (fl b) with | some r=>(pure (.float .f64 r):Go.Sem Value) | none=>_)=_;rw[h]
 grind [Go.Op.Complex.arith]
theorem DL{a b c d:Int}(e:a.natAbs<2 ^ 52)(f:b.natAbs<2 ^ 52)(g:c.natAbs<2 ^ 52)(hd:d.natAbs<2 ^ 52) :
  Op.complexOp .add .f64 (fl a) (fl b) (fl c) (fl d)=pure (.complex .f64 (fl (a+c)) (fl (b+d))):=by
 grind [Go.Op.complexOp,AR]
theorem DK{a b c d:Int}(e:a.natAbs<2 ^ 52)(f:b.natAbs<2 ^ 52)(g:c.natAbs<2 ^ 52)(hd:d.natAbs<2 ^ 52) :
  Op.complexOp .sub .f64 (fl a) (fl b) (fl c) (fl d)=pure (.complex .f64 (fl (a-c)) (fl (b-d))):=by
 grind [Go.Op.complexOp,AW]
theorem SG{a b d e A B z:Nat}(p1:Op.Complex.arith .mul .f64 a d=pure A)(f:Op.Complex.arith .mul .f64 b e=pure z)(g:Op.Complex.arith .mul .f64 a e=pure z)(h:Op.Complex.arith .mul .f64 b d=pure B)
  (i:Op.Complex.arith .sub .f64 A z=pure A) (j:Op.Complex.arith .add .f64 z B=pure B):Op.Complex.product a b d e=pure (A,B):=by
 unfold Op.Complex.product Op.Complex.mul Op.Complex.sub Op.Complex.add
 simp_all
theorem WD{a b d g A B:Nat}(h:Op.Complex.product a b d g=pure (A,B)):Op.complexOp .mul .f64 a b d g=pure (.complex .f64 A B):=by unfold Op.complexOp;show (do let (e,f) <-Op.Complex.product a b d g;pure (.complex .f64 (<-Op.Complex.conv .f64 e .f64) (<-Op.Complex.conv .f64 f .f64)):Go.Sem Value)=_;rw[h];rfl
theorem DI{a b n:Int}(e:0<=a)(f:0<=b)(d:0<=n)(j:a<=1048576)(l:b<=1048576)(g:n<=1048576) :
  Op.complexOp .mul .f64 (fl a) (fl b) (fl n) (fl 0)=pure (.complex .f64 (fl (a * n)) (fl (b * n))):=by
 have m1:0<=a * n/\a * n<=1048576 * 1048576:=⟨Ys e d,Int.mul_le_mul j g d (by omega)⟩;have m:0<=b * n/\b * n<=1048576 * 1048576:=⟨Ys f d,Int.mul_le_mul l g d (by omega)⟩;have z:(0:Int).natAbs<2 ^ 53:=by omega
 have i:(0:Int).natAbs<2 ^ 52:=by omega
 refine WD (SG (z:=fl 0) ?_ ?_ ?_ ?_ ?_ ?_)
 ·grind [qF]
 ·have h:=qF (a:=b) (b:=0) f (Int.le_refl _) (by omega) z (by omega)
  simp_all
 ·have h:=qF (a:=a) (b:=0) e (Int.le_refl _) (by omega) z (by omega)
  simp_all
 ·grind [qF]
 ·have h:=AW (a:=a * n) (b:=0) (by omega) i
  simp_all
 ·have h:=AR (a:=0) (b:=b * n) i (by omega)
  simp_all
theorem LL{n:Int}(h:n.natAbs<2 ^ 53):Conv.floatToInt .f64 (fl n) .i64=pure (.int .i64 n):=by
 unfold Conv.floatToInt;have e:(FloatKind.f64.decode (fl n)).toInt .zero=some n:=VV h;simp only[e];have a:IntKind.i64.min=-9223372036854775808:=rfl;have b:IntKind.i64.max=9223372036854775807:=rfl
 grind
end Go.Abs
end
section
namespace Go.Abs
section
variable[Gl][Y:Ty]
variable{P:Program}{orc:qB}{n:Nat}{alD:AL}{σ σ1:TH}{σD σD1:aa}{o:iA}{Q:TV->TH->Bool->List Nat->Prop}{rd:ay->Option TV}
theorem Cl(a:ca σ alD rd){x:Operand}{v:TV}(h:qX rd x=some v):∃d,uT alD x=some d/\RT v d/\GV σ v:=by
 unfold qX at h;split at h
 ·rename_i o b;obtain ⟨d,e,f⟩:=a o v h
  grind [uT]
 simp_all
theorem mO{v:TV}{d:D}{a:Value}(h:Hs v=some a)(r:RT v d):d.bO = some a/\d=.c (.lit a):=by
 unfold Hs at h;split at h
 ·simp only[ab] at h;subst h;rcases r with r | rfl
  ·simp at r
  ·exact ⟨rfl,rfl⟩
 ·simp only[ab] at h;subst h;rcases r with r | rfl
  ·simp at r
  ·exact ⟨rfl,rfl⟩
 simp_all
def flat:Value->Bool
 |.agg _ | .tuple _=>false
 |_=>true
theorem IP{v:Value}(h:flat v=true):RT (zd v) (cp v)/\GV σ (zd v):=by
 unfold zd;split
 ·exact ⟨.inr rfl,True.intro⟩
 ·refine ⟨.inr ?_,rfl⟩;cases v <;> first | rfl | grind [flat]
theorem Tp{x:TC}{d:D}{a:Value}(h:Wj x=some a)(r:RC x d):fA d=some a:=by
 unfold Wj at h;split at h
 ·simp only[ab] at h;subst h;rcases r with r | rfl
  ·simp at r
  ·rfl
 ·simp only[ab] at h;subst h;rcases r with r | rfl
  ·simp at r
  ·rfl
 simp_all
theorem Fj:∀{xs:List TC}{ds:List D}{vs:List Value},AP xs=some vs->ar RC xs ds->ds.mapM fA=some vs:=by
 intro xs ds vs h r;induction r generalizing vs with
 |nil=>grind [AP]
 |cons a _ ih=>grind [AP,Tp]
theorem TY{xs g:Array Value}{d:Nat}:∀{e:List Field}{r:Bool},PK P xs g e=some r->ee P (Op.eqFields (d+1) xs g e)=some r:=by
 intro e;induction e with
 |nil=>intro r h;simp only[PK,ab] at h;subst h;rfl
 |cons f e ih=>
  intro r h;simp only[PK] at h;split at h
  ·rename_i k a i b j q l m p s t;split at h
   ·grind [FP,eq_int]
   simp_all
  ·grind [FP,Cm]
  simp_all
theorem Vx{t:TypeId}{xs b:List TC}{ds es:List D}{r:Bool}(h:eqT P t xs b=some r)(e:ar RC xs ds)(f:ar RC b es) :
  ∃vs a,(D.agg ds).bO = some (.agg vs)/\(D.agg es).bO = some (.agg a)/\P.eqGuardType P.depth t=false/\ee P (Op.equalIn 10000 t (.agg vs) (.agg a))=some r:=by
 unfold eqT at h;split at h
 ·rename_i vs a g i j l d m;refine ⟨vs.toArray,a.toArray,?_,?_,d,?_⟩
  ·grind [D.bO,Fj]
  ·grind [D.bO,Fj]
  grind [Go.Program.fieldsOf,WG,TY]
 simp_all
theorem uU{α d:Type}{o:Option α}{f:α->Option d}{b:d}(h:o.bind f=some b):∃a,o=some a/\f a=some b:=bC.1 h
theorem Br{o:BinOp}{t:TypeId}{x y:Operand}{a b c d:Nat}{v:Value}(i:o≠.eql)(e:o≠.neq)(f:o≠.shl)(g:o≠.shr)(h:Op.complexOp o .f64 a b c d=pure v):fe P o t x y (.complex .f64 a b) (.complex .f64 c d)=some v:=by
 unfold fe;rw[rW];have j:ee P (eqGuard o t x y (.complex .f64 a b) (.complex .f64 c d))=some ():=by cases o <;> first | rfl | exact absurd rfl i | exact absurd rfl e
 rw[j,aF];have:binOp o t (.complex .f64 a b) (.complex .f64 c d)=Op.complexOp o .f64 a b c d:=by cases o <;> first | rfl | exact absurd rfl i | exact absurd rfl e | exact absurd rfl f | exact absurd rfl g
 rw[this,h];rfl
theorem IW{a b c:Int}(h:JN a b=some c):a.natAbs<2 ^ 52/\b.natAbs<2 ^ 52/\c=a+b:=by
 unfold JN at h
 simp_all
theorem Iy{a b c:Int}(h:rV a b=some c):a.natAbs<2 ^ 52/\b.natAbs<2 ^ 52/\c=a-b:=by
 unfold rV at h
 simp_all
theorem Jd{a b c:Int}(h:r_ a b=some c):0<=a/\a<=1048576/\0<=b/\b<=1048576/\c=a * b:=by
 unfold r_ at h
 simp_all
theorem Ua(b:ca σ alD rd){x:Operand}{a:Value}(h:LP (qX rd) x=some a):(uT alD x).bind D.bO = some a:=by grind [LP,Cl,mO]
theorem Iz(g:ca σ alD rd){op:Op}{ty:TypeId}{v:Value}(d:∀cs b,op≠.select cs b)(h:SD P op ty (qX rd)=some v):zI P op ty alD=some (cp v):=by
 unfold SD at h;split at h
 ·rename_i a;rw[eG] at a;have f:∀x∈op.operands.toList,(uT alD x).bind D.bO = LP (qX rd) x:=λx e=>by
   have:=a x e;rw[VO] at this
   grind [Ua]
  unfold zI;rw[if_pos (by simp_all)];rw[execOp_congr (ρ:=λx=>(((uT alD x).bind D.bO).getD undef)) (ρ':=λx=>(LP (qX rd) x).getD undef) { dst:=none,op:=op,type:=ty,pos:="",after:=#[],guard:=none } d (λx e=>by simp_all)]
  grind
 simp_all
theorem Rr{t b:TypeId}{d:IntKind}{a:Int}(e:P.underlying b=some (.float .f64))(hs:(P.underlying t).isSome=true):ee P (convert t b (.int d a))=some (.float .f64 (Fl.fl a)):=by obtain ⟨u,f⟩:=VO.1 hs;unfold convert;rw[rW,WH f,aF,rW,WH e,aF];cases u <;> rfl
theorem PI{t d:TypeId}{a b:Int}(f:P.underlying d=some (.int .i64))(hs:(P.underlying t).isSome=true)(h:uk a=some b):ee P (convert t d (.float .f64 (Fl.fl a)))=some (.int .i64 b):=by
 unfold uk at h;split at h
 ·rename_i g;simp only[ab] at h;subst h;obtain ⟨u,i⟩:=VO.1 hs;unfold convert;rw[rW,WH i,aF,rW,WH f,aF];have e:ee P (Conv.floatToInt .f64 (Fl.fl a) .i64)=some (.int .i64 a):=by rw[LL g];rfl
  omega
 simp_all
theorem Hn{c:Call}{ty:TypeId}{b:Builtin}{v:Value}(e:c.callee=.builtin b)(a:∀x∈c.args.toList,((uT alD x).bind D.bO).isSome=true)
  (h:ee P (builtin b c.argTypes ty (c.args.map λ| .const _=>true | _=>false) (c.args.map λx=>((uT alD x).bind D.bO).getD undef))=some (.value v)):zI P (.call c) ty alD=some (cp v):=by
 obtain ⟨d,args,f⟩:=c;dsimp only at e a h;subst e;have g:(Op.operands (.call ⟨.builtin b,args,f⟩)).toList=args.toList:=by simp[Op.operands,Call.operands]
 unfold zI;rw[if_pos (by simp_all)];have:ee P (execOp (λx=>((uT alD x).bind D.bO).getD undef) { dst:=none,op:=.call ⟨.builtin b,args,f⟩,type:=ty,pos:="",after:=#[],guard:=none })=some (.value v):=h
 rw[this]
theorem vT{c:Call}{ty:TypeId}{x y:Operand}{a b:Nat}(e:c.callee=.builtin .complex)(g:c.args.toList=[x,y])(h:uT alD x=some (.c (.lit (.float .f64 a))))(i:uT alD y=some (.c (.lit (.float .f64 b)))) :
  zI P (.call c) ty alD=some (.c (.lit (.complex .f64 a b))):=by
 have d:c.args=#[x,y]:=by grind
 refine Hn (v:=.complex .f64 a b) e (by grind [D.bO]) ?_;rw[d];have f:(#[x,y].map λx=>((uT alD x).bind D.bO).getD undef)=#[.float .f64 a,.float .f64 b]:=by grind [D.bO]
 rw[f];rfl
theorem ON{c:Call}{ty:TypeId}{x:Operand}{a b:Nat}(e:c.callee=.builtin .real)(g:c.args.toList=[x])(h:uT alD x=some (.c (.lit (.complex .f64 a b)))) :
  zI P (.call c) ty alD=some (.c (.lit (.float .f64 a))):=by
 have d:c.args=#[x]:=by grind
 refine Hn (v:=.float .f64 a) e (by grind [D.bO]) ?_;rw[d];have f:(#[x].map λx=>((uT alD x).bind D.bO).getD undef)=#[.complex .f64 a b]:=by grind [D.bO]
 rw[f];rfl
theorem Qa{c:Call}{ty:TypeId}{x:Operand}{a b:Nat}(e:c.callee=.builtin .imag)(g:c.args.toList=[x])(h:uT alD x=some (.c (.lit (.complex .f64 a b)))) :
  zI P (.call c) ty alD=some (.c (.lit (.float .f64 b))):=by
 have d:c.args=#[x]:=by grind
 refine Hn (v:=.float .f64 b) e (by grind [D.bO]) ?_;rw[d];have f:(#[x].map λx=>((uT alD x).bind D.bO).getD undef)=#[.complex .f64 a b]:=by grind [D.bO]
 rw[f];rfl
theorem Js{v:Value}(h:lh v=true):flat v=true:=by cases v <;> first | rfl | grind [lh]
variable{R:Type}{k:KO R}{r:R}
theorem bW.one{x:TC}{d:D}(q:Q (.c x) σ false [])(h:de P orc n alD σD o d σD [])(hd:d=x.er)(i:GC σ x)(H:RH σ σD):bW P orc n alD σ σD o Q:=
 bW.pure h (v:=.c x) (Or.inr hd) i H q
theorem bW.vt{v:Value}(q:Q (zd v) σ false [])(h:de P orc n alD σD o (cp v) σD [])(i:lh v=true)(H:RH σ σD):bW P orc n alD σ σD o Q:=
 bW.pure h (IP (σ:=σ) (Js i)).1 (IP (Js i)).2 H q
theorem Uo{op:Op}{ty:TypeId}(m:ca σ alD rd)(H:RH σ σD)(h:VZ P op ty rd σ k=some r):bW P orc n alD σ σD (.gen op ty) (λv σ1 rs wr=>k v σ1 rs wr=some r):=by
 unfold VZ at h;split at h
 ·
  rename_i o t x y X;split at h
  ·
   rename_i Z a kb b p A;obtain ⟨E,f,g,_⟩:=Cl m p;obtain ⟨G,j,s,_⟩:=Cl m A;rcases g with g | rfl
   ·grind
   rcases s with s | rfl
   ·grind
   split at h
   ·split at h
    ·rename_i e _;subst e;obtain ⟨v,i,l⟩:=uU h;exact bW.one l (cI f j rfl rfl (Tj i) rfl) rfl rfl H
    simp_all
   ·split at h
    ·rename_i e _;subst e;obtain ⟨v,i,l⟩:=uU h;exact bW.one l (cI f j rfl rfl (R_ i) rfl) rfl rfl H
    simp_all
   ·obtain ⟨v,i,l⟩:=uU h;exact bW.one l (cI f j rfl rfl (Tm i) rfl) rfl rfl H
   ·obtain ⟨v,i,l⟩:=uU h;exact bW.one l (cI f j rfl rfl (RU i) rfl) rfl rfl H
   ·split at h
    ·rename_i v hv;split at h
     ·rename_i O;exact bW.vt h (cI f j rfl rfl hv rfl) O H
     simp_all
    simp_all
  ·
   rename_i xs ys p A;obtain ⟨E,f,⟨ds,rfl,a1⟩,_⟩:=Cl m p;obtain ⟨G,j,⟨es,rfl,a2⟩,_⟩:=Cl m A;split at h
   ·rename_i q hq;obtain ⟨vs,ws,i,l,U,W⟩:=Vx hq a1 a2;split at h
    ·exact bW.one h (cI f j i l (Sv U W) rfl) rfl True.intro H
    ·exact bW.one h (cI f j i l (RG U W) rfl) rfl True.intro H
    simp_all
   simp_all
  ·
   rename_i a b c d p A;obtain ⟨E,f,g,_⟩:=Cl m p;obtain ⟨G,j,s,_⟩:=Cl m A;rcases g with g | rfl
   ·grind
   rcases s with s | rfl
   ·grind
   split at h
   ·obtain ⟨u,i,h⟩:=uU h;obtain ⟨v,l,h⟩:=uU h;obtain ⟨p1,K,rfl⟩:=IW i;obtain ⟨L,M,rfl⟩:=IW l;exact bW.one h (cI f j rfl rfl (Br (by simp) (by simp) (by simp) (by simp) (DL p1 L K M)) rfl) rfl True.intro H
   ·obtain ⟨u,i,h⟩:=uU h;obtain ⟨v,l,h⟩:=uU h;obtain ⟨p1,K,rfl⟩:=Iy i;obtain ⟨L,M,rfl⟩:=Iy l;exact bW.one h (cI f j rfl rfl (Br (by simp) (by simp) (by simp) (by simp) (DK p1 L K M)) rfl) rfl True.intro H
   ·split at h
    ·obtain ⟨u,i,h⟩:=uU h;obtain ⟨v,l,h⟩:=uU h;obtain ⟨p1,K,L,M,rfl⟩:=Jd i;obtain ⟨p5,p6,_,_,rfl⟩:=Jd l;exact bW.one h (cI f j rfl rfl (Br (by simp) (by simp) (by simp) (by simp) (DI p1 p5 L K p6 M)) rfl) rfl True.intro H
    simp_all
   simp_all
  ·
   rename_i u v _ _ _ p A;obtain ⟨E,f,g,_⟩:=Cl m p;obtain ⟨G,j,s,_⟩:=Cl m A;split at h
   ·rename_i a b z S;obtain ⟨i,rfl⟩:=mO z g;obtain ⟨l,rfl⟩:=mO S s;split at h
    ·rename_i N;exact bW.one h (cI f j rfl rfl (NA N) rfl) rfl True.intro H
    ·rename_i N;exact bW.one h (cI f j rfl rfl (N_ N) rfl) rfl True.intro H
    simp_all
   ·grind [mO,bW.vt,cI]
   simp_all
  simp_all
 ·
  rename_i o t x;split at h
  ·rename_i u N;obtain ⟨E,f,g,_⟩:=Cl m N;split at h
   ·rename_i e he;obtain ⟨i,rfl⟩:=mO he g;exact bW.one h (ML f rfl rfl rfl) rfl True.intro H
   ·grind [mO,bW.vt,ML]
   simp_all
  simp_all
 ·
  rename_i t X x;split at h
  ·rename_i Z a z;obtain ⟨E,f,g,_⟩:=Cl m z;rcases g with g | rfl
   ·grind
   split at h
   ·rename_i T;split at h
    ·rename_i hs;exact bW.one h (xg f rfl (v:=.float .f64 (Fl.fl a)) (Rr T hs) rfl) rfl True.intro H
    simp_all
   ·split at h
    ·rename_i w hw;split at h
     ·rename_i O;exact bW.vt h (xg f rfl hw rfl) O H
     simp_all
    simp_all
  ·rename_i a z;obtain ⟨E,f,g,_⟩:=Cl m z;rcases g with g | rfl
   ·grind
   split at h
   ·rename_i T hs;obtain ⟨b,i,l⟩:=uU h;exact bW.one l (xg f rfl (v:=.int .i64 b) (PI T hs i) rfl) rfl rfl H
   simp_all
  ·grind [Cl,mO,bW.vt,xg]
  simp_all
 ·
  rename_i c;split at h
  ·grind [bW.vt,d_,Iz]
  ·grind [bW.vt,d_,Iz]
  ·rename_i x y F z;split at h
   ·rename_i a b p A;obtain ⟨E,f,g,_⟩:=Cl m p;obtain ⟨G,j,s,_⟩:=Cl m A;rcases g with g | rfl
    ·grind
    rcases s with s | rfl
    ·grind
    exact bW.one h (d_ (vT F z f j)) rfl True.intro H
   ·rename_i a b p A;obtain ⟨E,f,g,_⟩:=Cl m p;obtain ⟨G,j,s,_⟩:=Cl m A;rcases g with g | rfl
    ·grind
    rcases s with s | rfl
    ·grind
    split at h
    ·rename_i S;have:=bP S;subst this;exact bW.one h (d_ (vT F z f j)) rfl True.intro H
    simp_all
   simp_all
  ·rename_i x F z;split at h
   ·rename_i a b p;obtain ⟨E,f,g,_⟩:=Cl m p;rcases g with g | rfl
    ·grind
    exact bW.one h (d_ (ON F z f)) rfl True.intro H
   simp_all
  ·rename_i x F z;split at h
   ·rename_i a b p;obtain ⟨E,f,g,_⟩:=Cl m p;rcases g with g | rfl
    ·grind
    exact bW.one h (d_ (Qa F z f)) rfl True.intro H
   simp_all
  simp_all
 simp_all
end
end Go.Abs
end
section
namespace Go.Abs
open Go.RowKit
variable[Gl]{P:Program}
structure rQ (B:Nat) (J:(Nat->Prop)->(Nat->Prop)->World->Prop):Prop where
 rel:∀F U W,J F U W->Rel [] (λ_=>none) F W
 sub:∀F U W,J F U W->∀c,F c->U c
 lt:∀F U W,J F U W->∀c,U c->c<W.heap.size
 le:∀F U W,J F U W->B<=W.heap.size
 off:∀F U W W',J F U W->W.heap.size<=W'.heap.size->(∀c:Nat,U c∨c<B->W'.heap[c]? = W.heap[c]?)->(W'.os=W.os/\W'.tape=W.tape/\W'.output=W.output)->J F U W'
 grow:∀F U W F',J F U W->(∀c,F c->F' c)->(∀c,F' c->F c∨(¬U c/\B<=c/\c<W.heap.size))->J F' (λc=>U c∨F' c) W
structure Kept (F U:Nat->Prop) (W:World) (F' U':Nat->Prop) (W':World):Prop where
 size:W.heap.size<=W'.heap.size
 off:∀c:Nat,c<W.heap.size->¬U c->W'.heap[c]? = W.heap[c]?/\¬U' c
 fz:∀c:Nat,F c->F' c/\W'.heap[c]? = W.heap[c]?
 out:W'.os=W.os/\W'.tape=W.tape/\W'.output=W.output
theorem Kept.trans{F U x z A E:Nat->Prop}{W G K:World}(h:Kept F U W x z G)(i:Kept x z G A E K):Kept F U W A E K:={
 size:=jI h.size i.size
 off:=λc j L=>by obtain ⟨a,b⟩:=h.off c j L;obtain ⟨s,u⟩:=i.off c (xD j h.size) b;exact ⟨s.trans a,u⟩
 fz:=λc j=>by obtain ⟨a,b⟩:=h.fz c j;obtain ⟨s,u⟩:=i.fz c a;exact ⟨s,u.trans b⟩
 out:=⟨i.out.1.trans h.out.1,i.out.2.1.trans h.out.2.1,i.out.2.2.trans h.out.2.2⟩ }
def RX(F:Nat->Prop)(W:World)(caps:List (List C))(e:Array Value):Prop:=
 e.size=caps.length/\∀(i:Nat) b v,caps[i]? = some b->e[i]? = some v->∃c:Nat,v=.pointer (some ⟨c,0,none⟩)/\∃a T,W.heap[c]? = some (.cells a T (0,0))/\b.length<=a.size/\∀(j:Nat) d u,b[j]? = some d->a[j]? = some u->VC F W d u/\u.oneCell'=true
def Rq(F:Nat->Prop)(W:World)(ds:List D)(vs:Array Value):Prop:=
 vs.size=ds.length/\∀(k:Nat) d v,ds[k]? = some d->vs[k]? = some v->V [] (λ_=>none) F W d v
def Xz (P:Program) (j:Nat) (caps:List (List C)) (items:List (List D)):Prop:=
 ∀ (l B : Nat) (g : Array Value) (J : Nat → (Nat → Prop) → (Nat → Prop) → World → Prop) (f : (Nat → Prop) → (Nat → Prop) → World → Prop) (W : World) (F U : Nat → Prop),
  (∀i,rQ B (J i))→rQ B f→(∀i F U W,J i F U W→RX F W caps g) →
  (∀i ds F U W h,items[i]? = some ds→J i F U W→Rq F W ds h →
   YieldAt Fence.wide 0 P l h W fun e a=>∃b d,Kept F U W b d a∧((e=.returned (.bool true)∧J (i+1) b d a)∨(e=.returned (.bool false)∧f b d a))) →
  J 0 F U W →
  Calls P j (#[.func (.yield l) #[] #[]]++g) W fun e a=>(∃v,e=.returned v)∧∃b d,J items.length b d a∨f b d a
def Va(I:Nat->(Nat->Prop)->(Nat->Prop)->World->Prop)(e:Code->(Nat->Prop)->(Nat->Prop)->World->Prop)(i:Nat)(F U:Nat->Prop)(W:World):Exit->Act->World->Prop
 |.normal,_,a=>∃b d,Kept F U W b d a/\I (i+1) b d a
 |.ret,_,a=>∃b d,Kept F U W b d a/\e .ret b d a
 |.exit id,_,a=>∃b d,Kept F U W b d a/\e (.exit id) b d a
 |.goto t,_,a=>∃b d,Kept F U W b d a/\e (.goto t) b d a
 |.panic _,_,_=>False
 |.outgrown,_,_=>False
theorem QD{W:World}{l:Nat}{o:Obj}{c:Nat}(h:c≠l):(W.putObj l o).heap[c]? = W.heap[c]?:=World.putObj_heap_other h
theorem OQ {g:Operand} {ps:Array Tmp} {assign body:Code} {Q:Exit→Act→World→Prop} {a:Act} {w:World} {gf:Nat} {lb:Array Value} {caps:List (List C)} {items:List (List D)} {F0 U0:Nat→Prop}
  (hg:a.eval g=.func (.func gf) #[] lb) (eg:∀args w,(callFunc gf args).run P w=.ok (.enter gf args) w) (it:Xz P gf caps items) (a8:∀ds∈items,ds.length=ps.size)
  (I:Nat→(Nat→Prop)→(Nat→Prop)→World→Prop) (Ix:Code→(Nat→Prop)→(Nat→Prop)→World→Prop) (hI:∀i,rQ w.heap.size (I i)) (s:∀c,rQ w.heap.size (Ix c))
  (d:∀i F U W,I i F U W→RX F W caps lb) (h0:I 0 F0 U0 w)
  (af:∀(l i:Nat) ds F U W vs,items[i]? = some ds→I i F U W→Rq F W ds vs →
   assign.wpIn (Fence.wide.inRound l) 0 P (Exit.then (fun a1 w1=>∃F1 U1,Kept F U W F1 U1 w1∧(∀c,U1 c→c<w1.heap.size) ∧
    ∀ w2, w1.heap.size = w2.heap.size → (∀ c : Nat, U1 c ∨ c < w.heap.size → w2.heap[c]? = w1.heap[c]?) → (w2.os = w1.os ∧ w2.tape = w1.tape ∧ w2.output = w1.output) →
     body.wpIn (Fence.wide.inRound l) 0 P (Va I Ix i F U1 w2) a1 w2) (fun _ _ _=>False))
    { tmps:=(ps.zip vs).foldl (fun t (p,v)=>t.setIfInBounds p v) a.tmps,defers:=[] } W)
  (ak:∀(D:Nat) F U W,w.heap.size≤D→D<W.heap.size→¬U D→W.heap[D]? = some (.deferred (some []))→I items.length F U W→Q .normal { a with defers:=mark D::a.defers } W)
  (ax:∀(D:Nat) c F U W,w.heap.size≤D→D<W.heap.size→¬U D→W.heap[D]? = some (.deferred (some []))→Ix c F U W→c.wp P Q { a with defers:=mark D::a.defers } W) :
  (Code.rangeFunc g ps assign body).wp P Q a w:=by
 refine (wpIn_wide (n:=0)).1 (wpIn_rangeFunc ?_)
 intro fn a9
 have bc:Fence.wide.round=none:=rfl
 rw [bc]
 obtain ⟨rec,f⟩:∃rec:LoopState→Option Code→Loop,rec=fun st pe=>{ state:=st,pending:=pe,fn,tmps:=a.tmps,params:=ps,assign,body,defers:=w.heap.size }:=⟨_,rfl⟩
 obtain ⟨Z,N⟩:∃Z,(w.alloc (.deferred (some []))).alloc (.loop (rec .ready none))=Z:=⟨_,rfl⟩
 have bd:Z.heap[w.heap.size+1]? = some (.loop (rec .ready none)):=by
  rw [←N]; have:=World.alloc_heap_new (w.alloc (.deferred (some []))) (.loop (rec .ready none)); rwa [World.size_alloc] at this
 have be:Z.heap[w.heap.size]? = some (.deferred (some [])):=by
  rw [←N]; exact (Below.heap_alloc _ _ _ (by simp)).trans (World.alloc_heap_new w _)
 have b4:Z.heap.size=w.heap.size+2:=by rw [←N]; simp
 have bh:I 0 F0 U0 Z:=by
  refine (hI 0).off _ _ w Z h0 (by omega) (fun c d=>?_) (by rw [←N]; exact ⟨rfl,rfl,rfl⟩)
  have bi:c<w.heap.size:=d.elim ((hI 0).lt _ _ _ h0 c) id
  rw [←N,Below.heap_alloc _ _ _ (by simp; omega),Below.heap_alloc _ _ _ bi]
 have bl:¬U0 (w.heap.size+1):=fun h=>by have:=(hI 0).lt _ _ _ h0 _ h; omega
 have bt:¬U0 w.heap.size:=fun h=>by have:=(hI 0).lt _ _ _ h0 _ h; omega
 obtain ⟨bk,K⟩:∃bk:(Obj→Prop)→((Nat→Prop)→(Nat→Prop)→World→Prop)→(Nat→Prop)→(Nat→Prop)→World→Prop,bk=fun o X F U W=>∃m,X F m W∧U=(fun c=>m c∨c=w.heap.size∨c=w.heap.size+1) ∧
  ¬m w.heap.size∧¬m (w.heap.size+1)∧w.heap.size+1<W.heap.size∧(∃x,W.heap[w.heap.size+1]? = some x∧o x)∧W.heap[w.heap.size]? = some (.deferred (some [])):=⟨_,rfl⟩
 have bu:∀o X,rQ w.heap.size X→rQ w.heap.size (bk o X):=fun o X hX=>by
  subst K
  have gr:∀{F m T:Nat→Prop} {W:World},X F m W→(∀c,T c→F c∨(¬(m c∨c=w.heap.size∨c=w.heap.size+1)∧w.heap.size≤c∧c<W.heap.size))→¬m w.heap.size→¬m (w.heap.size+1)→¬T w.heap.size∧¬T (w.heap.size+1):=fun h hf A z=>
   ⟨fun b=>(hf _ b).elim (fun e=>A (hX.sub _ _ _ h _ e)) fun e=>e.1 (.inr (.inl rfl)),fun b=>(hf _ b).elim (fun e=>z (hX.sub _ _ _ h _ e)) fun e=>e.1 (.inr (.inr rfl))⟩
  refine ⟨fun F U W ⟨m,h,_⟩=>hX.rel _ _ _ h,fun F U W ⟨m,h,e,_⟩ c d=>by rw [e]; exact .inl (hX.sub _ _ _ h c d),fun F U W ⟨m,h,e,_,_,hs,_⟩ c d=>?_,fun F U W ⟨m,h,_⟩=>hX.le _ _ _ h,fun F U W W' ⟨m,h,e,A,z,h3,⟨x,h4,a0⟩,O⟩ a2 j ad=>?_,fun F U W T ⟨m,h,e,A,z,h3,h4,O⟩ ha hb=>?_⟩
  rotate_left
  rotate_left
  ·rw [e] at hb ⊢
   obtain ⟨g1,g2⟩:=gr h hb A z
   exact ⟨fun c=>m c∨T c,hX.grow _ _ _ _ h ha fun c d=>(hb c d).imp id fun ⟨q,r⟩=>⟨fun hu=>q (.inl hu),r⟩,funext fun c=>propext ⟨fun b=>b.elim (fun b=>b.elim (fun b=>.inl (.inl b)) .inr) fun b=>.inl (.inr b),fun b=>b.elim (fun b=>b.elim (fun b=>.inl (.inl b)) .inr) fun b=>.inl (.inr b)⟩,fun b=>b.elim A g1,fun b=>b.elim z g2,h3,h4,O⟩
  ·rw [e] at d
   rcases d with d | rfl | rfl
   ·exact hX.lt _ _ _ h c d
   ·omega
   ·omega
  ·rw [e] at j
   refine ⟨m,hX.off _ _ W W' h a2 (fun c d=>j c (d.imp .inl id)) ad,e,A,z,by omega,⟨x,?_,a0⟩,?_⟩
   ·rw [j _ (.inl (.inr (.inr rfl)))]; exact h4
   ·rw [j _ (.inl (.inr (.inl rfl)))]; exact O
 refine ⟨w.heap.size+1,[{ target:=.collected w.heap.size,args:=#[] }],Z,{ target:=.fn (.func gf) lb,args:=#[.func (.yield (w.heap.size+1)) #[] #[]] },Z,gf,
  #[.func (.yield (w.heap.size+1)) #[] #[]]++lb,Z,?_,?_,?_,?_,fun h=>by simp [Fence.wide] at h,?_⟩
 ·rw [←N,f]; exact run_enterLoop_outer _ _ _ _ _
 ·simp only [resolve,hg]
  simp [go_sem]
 ·intro f' b5; trivial
 ·simp [invoke,go_sem,eg]
 ·have C:=it (w.heap.size+1) w.heap.size lb (fun i=>bk (fun x=>x=.loop (rec .ready none)) (I i)) (bk (fun x=>True) fun F U W=>∃c,Ix c F U W∧W.heap[w.heap.size+1]? = some (.loop (rec .done (some c)))) Z F0 (fun c=>U0 c∨c=w.heap.size∨c=w.heap.size+1)
   (fun i=>bu _ _ (hI i)) ?_ ?_ ?_ ?_
  ·refine callsIn_wide.2 (C.mono ?_)
   rintro e W2 ⟨⟨v,rfl⟩,T,m,h | h⟩
   ·subst K
    obtain ⟨U2,hi,e,A,z,h3,⟨x,hx,rfl⟩,O⟩:=h
    refine ⟨none,_,by have:=run_endLoop (P:=P) hx (by rw [f]; simp); rw [f] at this; exact this,?_⟩
    refine ak w.heap.size T U2 _ (bQ _) (by simp; omega) A ((World.putObj_heap_other (by omega)).trans O) ((hI _).off _ _ W2 _ hi (by simp) (fun c d=>QD ?_) ⟨rfl,rfl,rfl⟩)
    rintro rfl
    exact d.elim z (by omega)
   ·subst K
    obtain ⟨U2,⟨c,hi,hx⟩,e,A,z,h3,_,O⟩:=h
    refine ⟨some c,_,by have:=run_endLoop (P:=P) hx (by rw [f]; simp); rw [f] at this; exact this,?_⟩
    refine wpIn_wide.2 (ax w.heap.size c T U2 _ (bQ _) (by simp; omega) A ((World.putObj_heap_other (by omega)).trans O) ((s _).off _ _ W2 _ hi (by simp) (fun c d=>QD ?_) ⟨rfl,rfl,rfl⟩))
    rintro rfl
    exact d.elim z (by omega)
  ·
   subst K
   refine ⟨fun F U W ⟨m,⟨c,h,_⟩,_⟩=>(s c).rel _ _ _ h,fun F U W ⟨m,⟨c,h,_⟩,e,_⟩ c' d=>by rw [e]; exact .inl ((s c).sub _ _ _ h c' d),fun F U W ⟨m,⟨c,h,_⟩,e,_,_,hs,_⟩ c' d=>?_,fun F U W ⟨m,⟨c,h,_⟩,_⟩=>(s c).le _ _ _ h,
    fun F U W W' ⟨m,⟨c,h,hr⟩,e,A,z,h3,⟨x,h4,a0⟩,O⟩ a2 j ad=>?_,fun F U W T ⟨m,⟨c,h,hr⟩,e,A,z,h3,h4,O⟩ ha hb=>?_⟩
   rotate_left
   rotate_left
   ·rw [e] at hb ⊢
    have g1:¬T w.heap.size:=fun b=>(hb _ b).elim (fun e=>A ((s c).sub _ _ _ h _ e)) fun e=>e.1 (.inr (.inl rfl))
    have g2:¬T (w.heap.size+1):=fun b=>(hb _ b).elim (fun e=>z ((s c).sub _ _ _ h _ e)) fun e=>e.1 (.inr (.inr rfl))
    exact ⟨fun c=>m c∨T c,⟨c,(s c).grow _ _ _ _ h ha fun c d=>(hb c d).imp id fun ⟨q,r⟩=>⟨fun hu=>q (.inl hu),r⟩,hr⟩,funext fun c=>propext ⟨fun b=>b.elim (fun b=>b.elim (fun b=>.inl (.inl b)) .inr) fun b=>.inl (.inr b),fun b=>b.elim (fun b=>b.elim (fun b=>.inl (.inl b)) .inr) fun b=>.inl (.inr b)⟩,fun b=>b.elim A g1,fun b=>b.elim z g2,h3,h4,O⟩
   ·rw [e] at d
    rcases d with d | rfl | rfl
    ·exact (s c).lt _ _ _ h c' d
    ·omega
    ·omega
   ·rw [e] at j
    have a4:=j _ (.inl (.inr (.inr rfl)))
    refine ⟨m,⟨c,(s c).off _ _ W W' h a2 (fun c d=>j c (d.imp .inl id)) ad,a4.trans hr⟩,e,A,z,by omega,⟨x,a4.trans h4,a0⟩,(j _ (.inl (.inr (.inl rfl)))).trans O⟩
  ·intro i F U W h
   subst K
   obtain ⟨m,h,_⟩:=h
   exact d i F m W h
  ·
   intro i ds F U W vs hi h a5
   subst K
   obtain ⟨U2,a6,e,A,z,h3,⟨x,hx,rfl⟩,O⟩:=h
   have hy:=run_yield (P:=P) (args:=vs) hx (by rw [f,a5.1]; exact a8 ds (sT hi))
   rw [f] at hy
   refine ⟨fn,_,assign,body,hy,roundIn_of_wpIn a9 (wpIn_mono (af _ i ds F U2 W vs hi a6 a5) ?_)⟩
   intro ex a1 w1 S
   cases ex with
   | normal =>
    obtain ⟨F1,U1,k1,b6,hb⟩:=S
    obtain ⟨o1,u1⟩:=k1.off _ (by omega) z
    obtain ⟨o2,u2⟩:=k1.off _ (by omega) A
    have bv:w1.heap[w.heap.size+1]? = some (.loop (rec .ready none)):=o1.trans hx
    refine ⟨_,run_beginRound bv (by rw [f]),?_⟩
    have b7:=k1.size
    have B:=hb (w1.putObj (w.heap.size+1) (.loop { rec .ready none with state:=.busy })) (by simp) (fun c d=>QD (by rintro rfl; exact d.elim u1 (by omega))) ⟨rfl,rfl,rfl⟩
    refine wpIn_mono B ?_
    have bw:(w1.putObj (w.heap.size+1) (.loop { rec .ready none with state:=.busy })).heap[w.heap.size+1]? = some (.loop { rec .ready none with state:=.busy }):=World.putObj_heap_same (by omega)
    have b0:(w1.putObj (w.heap.size+1) (.loop { rec .ready none with state:=.busy })).heap[w.heap.size]? = some (.deferred (some [])):=(QD (by omega)).trans (o2.trans O)
    have fin:∀(u:Option Code) (X:(Nat→Prop)→(Nat→Prop)→World→Prop) (hX:rQ w.heap.size X) E y (W3:World),Kept F U1 (w1.putObj (w.heap.size+1) (.loop { rec .ready none with state:=.busy })) E y W3→X E y W3 →
      ∃ M, (Instr.endRound (w.heap.size + 1) u).run P W3 = .ok (.bool u.isNone) M ∧ M.heap[w.heap.size + 1]? = some (.loop (rec (if u.isNone then .ready else .done) u)) ∧ M.heap[w.heap.size]? = some (.deferred (some [])) ∧ X E y M ∧
       ¬y w.heap.size∧¬y (w.heap.size+1)∧w.heap.size+1<M.heap.size∧Kept F U W E (fun c=>y c∨c=w.heap.size∨c=w.heap.size+1) M:=fun u X hX E y W3 G b1=>by
     obtain ⟨p1,q1⟩:=G.off (w.heap.size+1) (by simp; omega) u1
     obtain ⟨p2,q2⟩:=G.off w.heap.size (by simp; omega) u2
     have b2:=p1.trans bw
     have b3:=G.size
     simp only [World.putObj_size] at b3
     have:=run_endRound (P:=P) u b2
     rw [f] at this ⊢
     refine ⟨_,this,World.putObj_heap_same (by omega),(QD (by omega)).trans (p2.trans b0),hX.off _ _ W3 _ b1 (by simp) (fun c d=>QD (by rintro rfl; exact d.elim q1 (by omega))) ⟨rfl,rfl,rfl⟩,q2,q1,by simp; omega,?_⟩
     refine ⟨by simp; omega,fun c d hu=>?_,fun c d=>?_,⟨G.out.1.trans k1.out.1,G.out.2.1.trans k1.out.2.1,G.out.2.2.trans k1.out.2.2⟩⟩
     ·rw [e] at hu
      simp only [not_or] at hu
      obtain ⟨m1,m2⟩:=k1.off c d hu.1
      obtain ⟨m3,m4⟩:=G.off c (by simp; omega) m2
      exact ⟨by rw [QD hu.2.2,m3,QD hu.2.2,m1],by simp only [not_or]; exact ⟨m4,hu.2⟩⟩
     ·have a7:c≠w.heap.size+1:=by rintro rfl; exact z ((hI i).sub _ _ _ a6 _ d)
      obtain ⟨m1,m2⟩:=k1.fz c d
      obtain ⟨m3,m4⟩:=G.fz c d
      exact ⟨m3,by rw [QD a7,m4,QD a7,m2]⟩
    rintro ex a3 W3 S
    cases ex with
    | normal =>
     obtain ⟨E,y,G,L⟩:=S
     obtain ⟨M,r1,r2,r3,r4,r5,r6,r7,r8⟩:=fin none _ (hI (i+1)) E y W3 G L
     exact ⟨_,M,r1,E,_,r8,.inl ⟨rfl,y,r4,rfl,r5,r6,r7,⟨_,r2,rfl⟩,r3⟩⟩
    | ret =>
     obtain ⟨E,y,G,L⟩:=S
     obtain ⟨M,r1,r2,r3,r4,r5,r6,r7,r8⟩:=fin (some .ret) _ (s .ret) E y W3 G L
     exact ⟨_,M,r1,E,_,r8,.inr ⟨rfl,y,⟨.ret,r4,r2⟩,rfl,r5,r6,r7,⟨_,r2,trivial⟩,r3⟩⟩
    | exit id =>
     obtain ⟨E,y,G,L⟩:=S
     obtain ⟨M,r1,r2,r3,r4,r5,r6,r7,r8⟩:=fin (some (.exit id)) _ (s (.exit id)) E y W3 G L
     exact ⟨_,M,r1,E,_,r8,.inr ⟨rfl,y,⟨.exit id,r4,r2⟩,rfl,r5,r6,r7,⟨_,r2,trivial⟩,r3⟩⟩
    | goto t =>
     obtain ⟨E,y,G,L⟩:=S
     obtain ⟨M,r1,r2,r3,r4,r5,r6,r7,r8⟩:=fin (some (.goto t)) _ (s (.goto t)) E y W3 G L
     exact ⟨_,M,r1,E,_,r8,.inr ⟨rfl,y,⟨.goto t,r4,r2⟩,rfl,r5,r6,r7,⟨_,r2,trivial⟩,r3⟩⟩
    | panic ch=>exact S.elim
    | outgrown=>exact S.elim
   | exit id=>exact S.elim
   | goto t=>exact S.elim
   | ret=>exact S.elim
   | panic ch=>exact S.elim
   | outgrown=>exact S.elim
  ·subst K
   exact ⟨U0,bh,rfl,bt,bl,by omega,⟨_,bd,rfl⟩,be⟩
end Go.Abs
end
section
namespace Go.Abs
noncomputable section
variable[Gl][Y:Ty]
def np:(cs:List bT)->iH cs->List D
 |[],_=>[]
 |[c],x=>[c.enc x]
 |c::d::cs,x=>c.enc x.1::np (d::cs) x.2
def oA(cs:List bT)(x:iH cs):D:=one (np cs x)
def a_(P:Program)(g:Nat)(s:aY):Prop:=∀a r,s.f a=some r->Pure P g (nY s.ins a) (oA s.out r)
def OX(P:Program)(g:Nat):aY->Prop
 | ⟨[.c (.sl i)],[.c (.sl j)],f⟩=>∀l r,f (l,())=some r->Xz P g [[.bG false (l.map (enc i))]] (r.map λa=>[ST (enc j a)])
 |_=>True
def dB(P:Program)(S:ot):Prop:=∀p∈S,(Nat.blt p.1 1048576=true->a_ P p.1 p.2)/\(Nat.blt p.1 1048576=false->OX P (p.1-1048576) p.2)
theorem Te{g:Nat}{s:aY}:∀{S:ot},QA g S=some s->(g,s)∈S:=by
 intro S;induction S with
 |nil=>grind [QA]
 |cons p S ih=>
  intro h;obtain ⟨q,b⟩:=p;simp only[QA] at h;split at h
  ·rename_i a;have:=bP a;subst this
   simp_all
  ·exact kE _ (ih h)
theorem dB.iter{P:Program}{S:ot}(h:dB P S){g:Nat}{s:aY}(hs:QA (g+1048576) S=some s):OX P g s:=by have:=(h _ (Te hs)).2 (by show Nat.blt (g+1048576) 1048576=false;exact Bool.eq_false_iff.2 λe=>by have:=oS.mp e;omega);simpa using this
def A_(S:ot):rT:=(S.filter λp=>Nat.blt p.1 1048576).map λp=>(p.1,spec (nY p.2.ins) (oA p.2.out) p.2.f)
theorem bT.inj{c:bT}{a b:c.dn}(h:c.enc a=c.enc b):a=b:=by
 cases c with
 |c x=>grind [bT.enc,Ep,Dg]
 |st i=>exact WK (λ{a b}=>Dg i a b) h
 |fp i=>simp only[bT.enc,D.c.injEq,C.bE.injEq,Kg] at h;grind [Dg]
 |k g=>rfl
theorem DE:∀{cs:List bT}{a b:oC cs},nY cs a=nY cs b->a=b:=by
 intro cs;induction cs with
 |nil=>simp_all
 |cons c cs ih=>grind [nY,bT.inj]
theorem If{P:Program}{S:ot}(h:dB P S):mR P (A_ S):=by intro p a ds r b;simp only[A_,gZ,Dv] at a;obtain ⟨q,⟨d,e⟩,rfl⟩:=a;exact Uh ((h q d).1 e) ds r b
theorem Sc{g:Nat}{s:aY}(d:Nat.blt g 1048576=true):∀{S:ot},QA g S=some s->Mg g (A_ S)=some (spec (nY s.ins) (oA s.out) s.f):=by
 intro S;induction S with
 |nil=>grind [QA]
 |cons p S ih=>
  intro h;obtain ⟨q,i⟩:=p;simp only[QA] at h;split at h
  ·rename_i a;have:=bP a;subst this;simp only[ab] at h;subst h;simp only[A_,YD,d,if_true,mb,Mg];split
   ·rfl
   ·rename_i f;simp at f
  ·rename_i a;have e:=ih h;cases b:Nat.blt q 1048576 with
   |false=>simpa only[A_,YD,b,aV,bm] using e
   |true=>simp only[A_,YD,b,if_true,mb,Mg];rw[a];exact e
theorem Pr{g:Nat}{s:aY}{S:ot}(h:Oy g S=some s):Mg g (A_ S)=some (spec (nY s.ins) (oA s.out) s.f):=by
 unfold Oy at h;split at h
 ·rename_i a;exact Sc a h
 ·simp at h
theorem Dy{i:Nat}{xs:List TC}{a:TT i}(h:wK i (.agg xs)=some a):∃x,xT (Y.fl i) xs=some x/\a=Y.Vj i x:=by
 simp only[wK] at h
 grind
theorem GQ{c:bT}{v:TV}{d:D}{a:c.dn}(h:mc c v=some a)(r:RT v d):wy d=c.enc a/\d.low 0=true/\d.plain=true:=by
 cases c with
 |c x=>
  cases v with
  |c y=>
   simp only[mc,BM] at h;obtain ⟨p,b⟩:=lw h;rcases r with r | rfl
   ·simp_all
   ·obtain ⟨q,w⟩:∃q,y.er=.c q:=by
     cases F:y.er with
     |c q=>simp_all
     |_=>grind [qM]
    rw[w] at b ⊢;exact ⟨b,rfl,rfl⟩
  |agg f=>grind [mc,BM]
  |aB f=>grind [mc,BM]
 |st i=>
  cases v with
  |c y=>grind [mc,wK]
  |agg f=>
   obtain ⟨x,p,rfl⟩:=Dy h;obtain ⟨b,z⟩:=Gt p;obtain ⟨ds,rfl,A⟩:=r;rw[A.eq b];have j:∀(l:List D)(m:List C),l.map qM=m.map .c->D.low.bM 0 l=true/\(l.all λd=>match d with | .fn ..=>false | _=>true)=true:=by
    intro l;induction l with
    |nil=>intro m _;exact ⟨rfl,rfl⟩
    |cons d l ih=>
     intro m s;cases m with
     |nil=>grind
     |cons c m=>
      simp only[mb,XZ] at s;obtain ⟨t,u⟩:=ih m s.2;cases d with
      |c x=>grind [D.low.bM,D.low]
      |_=>grind [qM]
   obtain ⟨t,u⟩:=j _ _ z;refine ⟨?_,t,u⟩
   grind [wy,bT.enc,qa,Ty.pm]
  |aB f=>grind [mc,wK]
 |fp i=>
  simp only[mc] at h;unfold wN at h;split at h
  ·split at h
   ·rename_i e _;subst e;simp only[ab] at h;subst h;rcases r with r | rfl
    ·simp at r
    ·exact ⟨rfl,rfl,rfl⟩
   simp_all
  simp_all
 |k g=>
  simp only[mc] at h;unfold Hk at h;split at h
  ·split at h
   ·rename_i E;have:=bP E;subst this;rcases r with r | rfl
    ·simp at r
    ·exact ⟨rfl,rfl,rfl⟩
   simp_all
  simp_all
inductive dP:List TV->List D->Prop where
 |nil:dP [] []
 |cons {v:TV} {d:D} {vs:List TV} {ds:List D} (h:RT v d) (r:dP vs ds):dP (v::vs) (d::ds)
theorem JK:∀{cs:List bT}{vs:List TV}{ds:List D}{a:oC cs},sp cs vs=some a->dP vs ds->ds.map wy=nY cs a/\(ds.all λd=>d.low 0&&d.plain)=true:=by
 intro cs;induction cs with
 |nil=>
  intro vs ds a h r;cases r with
  |nil=>exact ⟨rfl,rfl⟩
  |cons _ _=>grind [sp]
 |cons c cs ih=>
  intro vs ds a h r;cases r with
  |nil=>grind [sp]
  |cons b r=>
   simp only[sp] at h
   grind [GQ,nY]
theorem bT.De(c:bT)(a:c.dn):(c.enc a).low 0=true:=by
 cases c with
 |c x=>rfl
 |st i=>exact MQ _
 |fp i=>rfl
 |k g=>rfl
theorem OF:∀(cs:List bT)(x:iH cs),D.low.bM 0 (np cs x)=true:=by
 intro cs;induction cs with
 |nil=>intro x;rfl
 |cons c cs ih=>
  intro x;cases cs with
  |nil=>grind [np,D.low.bM,bT.De]
  |cons d cs=>simp only[np,D.low.bM,bT.De,UZ];simp_all
theorem NT(cs:List bT)(x:iH cs):(oA cs x).low 0=true:=by
 have:=OF cs x;unfold oA one;split
 ·rename_i d h;rw[h] at this;simp only[D.low.bM,EP] at this;omega
 ·exact this
theorem Vd(c:bT)(a:c.dn):RE (c.te a) (c.enc a):=by
 cases c with
 |c x=>exact ⟨_,rfl,.inr (iE x a).symm⟩
 |st i=>exact ⟨_,rfl,Jj i a⟩
 |fp i=>exact ⟨_,rfl,.inr rfl⟩
 |k g=>exact ⟨_,rfl,.inr rfl⟩
theorem UA:∀(cs:List bT)(x:iH cs),ar RE (D_ cs x) (np cs x):=by
 intro cs;induction cs with
 |nil=>intro x;exact .nil
 |cons c cs ih=>
  intro x;cases cs with
  |nil=>exact .cons (Vd c x) .nil
  |cons d cs=>exact .cons (Vd c x.1) (ih x.2)
theorem Ir(cs:List bT)(x:iH cs):RT (RJ cs x) (oA cs x):=by
 cases cs with
 |nil=>exact ⟨[],rfl,.nil⟩
 |cons c cs=>
  cases cs with
  |nil=>exact c.zj x
  |cons d cs=>refine ⟨np (c::d::cs) x,?_,UA (c::d::cs) x⟩;cases cs <;> rfl
theorem IB{σ:TH}(c:bT)(a:c.dn):∀x∈(c.te a).2,GC σ x:=by
 cases c with
 |c x=>grind [bT.te,qt]
 |st i=>exact oT i a
 |fp i=>intro y b;simp only[bT.te,Mq] at b;subst b;trivial
 |k g=>intro y b;simp only[bT.te,Mq] at b;subst b;rfl
theorem K_{σ:TH}:∀(cs:List bT)(x:iH cs),∀p∈D_ cs x,∀y∈p.2,GC σ y:=by
 intro cs;induction cs with
 |nil=>grind [D_]
 |cons c cs ih=>
  intro x p a;cases cs with
  |nil=>grind [D_,IB]
  |cons d cs=>grind [D_,IB]
theorem xq{σ:TH}(c:bT)(a:c.dn):GV σ (c.tv a):=by
 cases c with
 |c x=>exact qt x a
 |st i=>exact oT i a
 |fp i=>trivial
 |k g=>rfl
theorem Ar{σ:TH}(cs:List bT)(x:iH cs):GV σ (RJ cs x):=by
 cases cs with
 |nil=>intro p a;grind [D_]
 |cons c cs=>
  cases cs with
  |nil=>exact xq c x
  |cons d cs=>exact K_ (c::d::cs) x
variable{P:Program}{orc:qB}{n:Nat}{alD:AL}{σ σ1:TH}{σD σD1:aa}{o:iA}{Q:TV->TH->Bool->List Nat->Prop}{rd:ay->Option TV}
theorem Ii{c:CC}{x:TC}{a:c.dn}(h:xj c x=some a):∃q,x.er=.c q:=by
 obtain ⟨_,b⟩:=lw h;cases d:x.er with
 |c q=>simp_all
 |_=>grind [qM]
theorem Ni(H:RH σ σD){x:TC}(g:GC σ x){c:CC}{a:c.dn}(h:xj c (wu σ x)=some a):∃q,dK σD 0 100 x.er=some q/\qM (.c q)=.c (nB enc c a):=by
 have other:wu σ x=x->∃q,dK σD 0 100 x.er=some q/\qM (.c q)=.c (nB enc c a):=λe=>by rw[e] at h;obtain ⟨_,p⟩:=lw h;obtain ⟨q,t⟩:=Ii h;rw[t] at p;exact ⟨q,by rw[t];rfl,p⟩
 cases x with
 |own i b v m=>
  have bad:∀{z:TC}{a:c.dn},z=.own i b v m->xj c z=some a->False:=λe h=>by grind [xj]
  cases d:σ[b]? with
  |none=>simp only[wu,d] at h;simp_all
  |some blk=>
   cases blk with
   |row j l u y=>
    cases f:Nat.beq u v with
    |false=>simp only[wu,d,f] at h;simp_all
    |true=>simp only[wu,d,f] at h;have f:=bP f;obtain ⟨blk,s,p⟩:=g;rw[d] at s;simp only[ab] at s;obtain ⟨_,A⟩:=p j l u y s.symm;obtain ⟨rfl,rfl⟩:=A f.symm;refine ⟨_,zh (k:=98) (nh j) (Y.ps j) (H.row d) rfl,?_⟩;obtain ⟨_,E⟩:=lw h;rw[<-E];rfl
   |cells w F=>simp only[wu,d] at h;simp_all
   |mp j st l w=>simp only[wu,d] at h;simp_all
 |_=>exact other rfl
theorem Uj(H:RH σ σD):∀{cs:List CC}{xs:List TC}{a:aB cs},(∀x∈xs,GC σ x)->xT cs (xs.map (wu σ))=some a->∃b,(xs.map TC.er).mapM (dK σD 0 100)=some b/\(b.map D.c).map qM=(jS enc cs a).map .c:=by
 intro cs;induction cs with
 |nil=>
  intro xs a _ h;cases xs with
  |nil=>exact ⟨[],rfl,rfl⟩
  |cons x xs=>grind [xT]
 |cons c cs ih=>
  intro xs a g h;cases xs with
  |nil=>grind [xT]
  |cons x xs=>
   simp only[mb,xT] at h;split at h
   ·rename_i i j d e;simp only[ab] at h;subst h;obtain ⟨q,l,m⟩:=Ni H (g x (li ..)) d;obtain ⟨b,p,s⟩:=ih (λy f=>g y (kE _ f)) e;refine ⟨q::b,?_,?_⟩
    ·simp_all
    grind [jS]
   simp_all
theorem FD(σ:TH):∀{cs:List CC}{xs:List TC}{a:aB cs},xT cs (xs.map (wu σ))=some a->∀y∈xs,y≠.any:=by intro cs xs a h y b e;subst e;have:=(Gt h).1 (wu σ .any) (List.mem_map_of_mem b);exact this rfl
theorem JE{i b v m:Nat}:(∃j l,wu σ (.own i b v m)=.sl j l)∨wu σ (.own i b v m)=.own i b v m:=by grind [wu]
theorem GA(H:RH σ σD){c:bT}{v:TV}{d:D}{a:c.dn}(g:GV σ v)(r:RT v d)(h:mc c (dX σ v)=some a):∃p,kK σD 0 100 d=some p/\qQ σD 0 100 d=some p/\wy p=c.enc a:=by
 have same:dX σ v=v->(∃q,d=.c q)->∃p,kK σD 0 100 d=some p/\qQ σD 0 100 d=some p/\wy p=c.enc a:=λe ⟨q,A⟩=>by rw[e] at h;subst A;exact ⟨_,rfl,rfl,(GQ h r).1⟩
 cases v with
 |c x=>
  cases c with
  |c cc=>
   simp only[dX,mc,BM] at h;have E:x≠.any:=λe=>by subst e;exact (lw h).1 rfl
   rcases r with r | rfl
   ·simp_all
   obtain ⟨q,t,u⟩:=Ni H g h;have s:kK σD 0 100 x.er=some (.c q):=by
    cases w:x.er with
    |agg F=>grind [dK]
    |_=>grind [kK]
   refine ⟨.c q,s,?_,u⟩;cases w:x.er with
   |aB F=>grind [dK]
   |_=>rw[w] at s;exact s
  |st i=>grind [dX,mc,wK]
  |fp i=>
   cases x with
   |fp j b off=>
    rcases r with r | rfl
    ·simp at r
    exact same rfl ⟨_,rfl⟩
   |own i b v m=>exfalso;simp only[dX,mc] at h;rcases JE (σ:=σ) (i:=i) (b:=b) (v:=v) (m:=m) with ⟨j,l,e⟩ | e <;> rw[e] at h <;> simp[wN] at h
   |_=>grind [dX,wu,mc,wN]
  |k f=>
   cases x with
   |d y=>
    rcases r with r | rfl
    ·simp at r
    refine same rfl ?_;simp only[dX,wu,mc,Hk] at h
    grind
   |own i b v m=>exfalso;simp only[dX,mc] at h;rcases JE (σ:=σ) (i:=i) (b:=b) (v:=v) (m:=m) with ⟨j,l,e⟩ | e <;> rw[e] at h <;> simp[Hk] at h
   |_=>grind [dX,wu,mc,Hk]
 |agg G=>
  cases c with
  |st i=>
   obtain ⟨y,t,rfl⟩:=Dy h;obtain ⟨ds,rfl,K⟩:=r;rw[K.eq (FD σ t)];obtain ⟨L,u,s⟩:=Uj H g t;have z:=TD (σ:=σD) u;refine ⟨_,z,z,?_⟩
   grind [wy,bT.enc,qa,Ty.pm]
  |c x=>grind [dX,mc,BM]
  |fp i=>grind [dX,mc,wN]
  |k i=>grind [dX,mc,Hk]
 |aB G=>grind [dX,mc,wK,BM,wN,Hk]
theorem TG(H:RH σ σD):∀{cs:List bT}{vs:List TV}{ds:List D}{a:oC cs},(∀v∈vs,GV σ v)->dP vs ds->sp cs (vs.map (dX σ))=some a->∃b,ds.mapM (qQ σD 0 100)=some b/\b.map wy=nY cs a:=by
 intro cs;induction cs with
 |nil=>
  intro vs ds a _ r h;cases r with
  |nil=>exact ⟨[],rfl,rfl⟩
  |cons _ _=>grind [sp]
 |cons c cs ih=>
  intro vs ds a g r h;cases r with
  |nil=>grind [sp]
  |cons d r=>
   simp only[mb,sp] at h;split at h
   ·rename_i x y e f;simp only[ab] at h;subst h;obtain ⟨i,_,j,p⟩:=GA H (g _ (li ..)) d e;obtain ⟨b,l,q⟩:=ih (λv m=>g v (kE _ m)) r f;exact ⟨i::b,VP j l,by grind [nY]⟩
   simp_all
theorem Lz{cs:List bT}(h:cs.all bT.gr=true)(x:iH cs):(oA cs x).ground=true:=by
 have cc:∀(c:CC)(a:c.dn),c.gr=true->(D.c (nB enc c a)).ground=true:=by intro c a h;cases c <;> first | rfl | grind [CC.gr]
 have b:∀(cs:List CC)(x:aB cs),cs.all CC.gr=true->D.ground.fi ((jS enc cs x).map .c)=true:=by
  intro cs;induction cs with
  |nil=>intro x _;rfl
  |cons c cs ih=>
   intro x h;simp only[List.all_cons,aU] at h
   grind [jS,D.ground.fi]
 have e:∀(c:bT)(a:c.dn),c.gr=true->(c.enc a).ground=true:=by
  intro c a h;cases c with
  |c x=>exact cc x a h
  |st i=>simp only[bT.enc,D.ground,qa];exact b _ _ h
  |fp i=>grind [bT.gr]
  |k g=>grind [bT.gr]
 have f:∀(cs:List bT)(x:iH cs),cs.all bT.gr=true->D.ground.fi (np cs x)=true:=by
  intro cs;induction cs with
  |nil=>intro x _;rfl
  |cons c cs ih=>
   intro x h;simp only[List.all_cons,aU] at h;cases cs with
   |nil=>grind [np,D.ground.fi]
   |cons d cs=>simp only[np,D.ground.fi,e c x.1 h.1,UZ];simp_all
 have:=f cs x h;unfold oA one;split
 ·rename_i d h;rw[h] at this;simp only[D.ground.fi,EP] at this;omega
 ·exact this
theorem Xh{S:ot}{g:Nat}{s:aY}{vs:List TV}{ds:List D}{a:oC s.ins}{r:iH s.out}(hs:Oy g S=some s)(d:dP vs ds)(e:sp s.ins vs=some a)(f:s.f a=some r) :
  xw (A_ S) g ds σD=some (oA s.out r,σD,[]):=by
 obtain ⟨h,i⟩:=JK e d;exact tI (Pr hs) i h (I_ (λa b=>DE) f) (NT s.out r)
theorem SL{v:TV}{d:D}(h:sK v=true)(r:RT v d):d.low 0=false:=by
 cases v with
 |c x=>
  cases x <;> simp[sK,IX] at h
  rcases r with r | rfl
  ·simp at r
  ·simp[TC.er,D.low]
 |agg f=>
  obtain ⟨ds,rfl,g⟩:=r;simp only[sK] at h;simp only[D.low];induction g with
  |nil=>simp at h
  |cons e _ ih=>
   rename_i a b l m _;simp only[List.any_cons,dQ] at h;simp only[D.low.bM];rcases h with h | h
   ·cases a <;> simp[IX] at h
    rcases e with e | rfl
    ·grind
    ·simp[TC.er,D.low]
   simp_all
 |aB f=>grind [sK]
theorem Qt{vs:List TV}{ds:List D}(r:dP vs ds)(h:vs.any sK=true):(ds.all λd=>d.low 0&&d.plain)=false:=by
 induction r with
 |nil=>simp at h
 |cons a _ ih=>
  simp only[List.any_cons,dQ] at h;simp only[List.all_cons];rcases h with h | h
  ·grind [SL]
  simp_all
theorem OJ{S:ot}(H:RH σ σD){g:Nat}{s:aY}{vs:List TV}{ds:List D}{a:oC s.ins}{r:iH s.out}(hs:Oy g S=some s)(e:∀v∈vs,GV σ v)(d:dP vs ds)(f:s.out.all bT.gr=true)(h:vs.any sK=true)
  (i:sp s.ins (vs.map (dX σ))=some a) (j:s.f a=some r):xw (A_ S) g ds σD=some (oA s.out r,σD,[]):=by
 obtain ⟨l,m,p⟩:=TG H e d i;exact BB (Pr hs) (Qt d h) m p (I_ (λa b=>DE) j) (Lz f r)
end
end Go.Abs
end
section
namespace Go.Abs
noncomputable section
variable[Gl][Y:Ty]
variable{P:Program}{orc:qB}{n:Nat}{alD:AL}{σ σ1:TH}{σD σD1:aa}{o:iA}{Q:TV->TH->Bool->List Nat->Prop}{rd:ay->Option TV}
theorem rt0:RT (.aB []) (.aB []):=⟨[],rfl,.nil⟩
theorem ym:∀{z:List D}{m:Nat},D.low.bM 0 z=true->∀d∈z,d.low m=true:=by
 intro z;induction z with
 |nil=>simp_all
 |cons x z ih=>
  intro m h d hd;simp only[D.low.bM,aU] at h;rcases dO.1 hd with rfl | hd
  ·exact D.cY (JG _) h.1
  simp_all
theorem ar.ds:∀(z:List D),ar RC (z.map .d) z:=by
 intro z;induction z with
 |nil=>exact .nil
 |cons d z ih=>exact .cons (.inr rfl) ih
theorem BA{z:List D}(h:D.low.bM 0 z=true):∀x∈z.map TC.d,GC σ x:=by intro x a;rw[gZ] at a;obtain ⟨d,hd,rfl⟩:=a;exact ym h d hd
theorem Ag{z:List D}(h:D.low.bM 0 z=true)(k:Nat):∀x∈(oH k z).map TC.d,GC σ x:=by intro x a;rw[gZ] at a;obtain ⟨d,hd,rfl⟩:=a;simp only[oH,List.mem_flatten,List.mem_replicate] at hd;obtain ⟨l,⟨_,rfl⟩,hd⟩:=hd;exact ym h d hd
theorem Qb:∀{cs:List CC}{xs:List TC}{a:aB cs},II xs=true->xT cs xs=some a->xs.map TC.er=(jS enc cs a).map .c:=by
 intro cs;induction cs with
 |nil=>
  intro xs a _ h;cases xs with
  |nil=>rfl
  |cons x xs=>grind [xT]
 |cons c cs ih=>
  intro xs a b h;cases xs with
  |nil=>grind [xT]
  |cons x xs=>grind [xT,II,List.cons.injEq,Hd,jS]
theorem u_{i:Nat}{xs:List TC}{a:TT i}(h:Vk i xs=some a):xs.map TC.er=(enc i a).map .c/\∀x∈xs,x≠.any:=by grind [Vk,qa,Ty.pm,Qb,Gt]
theorem PW{i:Nat}:∀{k:Nat}{xs:List TC}{l:List (TT i)}{ds:List D},AI i k xs=some l->ar RC xs ds->ds=(l.flatMap (enc i)).map .c/\l.length=k:=by
 intro k;induction k with
 |zero=>
  intro xs l ds h r;cases xs with
  |nil=>simp only[AI,ab] at h;subst h;cases r;simp_all
  |cons x xs=>grind [AI]
 |succ k ih=>
  intro xs l ds h r;simp only[AI] at h;split at h
  ·rename_i a f b d;simp only[ab] at h;subst h;obtain ⟨g,e⟩:=u_ b;obtain ⟨j,m⟩:=ih d (r.drop (ai i));have p:=(r.take (ai i)).eq e
   grind [List.take_append_drop]
  simp_all
theorem IA{v:TV}{d:D}{q:Int}(h:h_ v=some q)(r:RT v d):d=I q:=by
 unfold h_ at h;split at h
 ·simp only[ab] at h;subst h;rcases r with r | rfl
  ·simp at r
  ·rfl
 simp_all
theorem RT.c1{x:TC}{d:D}(i:x≠.any)(r:RT (.c x) d):d=x.er:=by
 rcases r with r | r
 ·simp_all
 omega
theorem BG{k:IntKind}:∀{xs:List TC}{l:List Int}{ds:List D},ints k xs=some l->ar RC xs ds->ds=l.map λz=>.c (.lit (.int k z)):=by
 intro xs l ds h r;induction r generalizing l with
 |nil=>grind [ints]
 |cons b _ ih=>
  simp only[ints] at h;split at h
  ·rename_i a g d f;simp only[ab] at h;subst h;obtain ⟨i,_⟩:=lw d;rw[ih f,mb];congr 1;rcases b with b | rfl
   ·simp_all
   ·rcases Hd d with e | e
    ·grind [xj]
    ·rw[e];rfl
  simp_all
theorem ca.c{x:ay}{y:TC}(i:ca σ alD rd)(h:rd x=some (.c y))(s:y≠.any):lx alD x=some y.er/\GC σ y:=by obtain ⟨d,u,z,j⟩:=i x _ h;exact ⟨by grind [RT.c1],j⟩
theorem ca.int{x:ay}{v:TV}{q:Int}(i:ca σ alD rd)(h:rd x=some v)(j:h_ v=some q):lx alD x=some (I q):=by
 obtain ⟨d,s,u,_⟩:=i x _ h
 grind [IA]
theorem ca.all(i:ca σ alD rd):∀{xs:List ay}{vs:List TV},DJ rd xs=some vs->∃ds,Mf alD xs=some ds/\dP vs ds/\∀v∈vs,GV σ v:=by
 intro xs;induction xs with
 |nil=>intro vs h;simp only[DJ,ab] at h;subst h;exact ⟨[],rfl,.nil,by simp⟩
 |cons x xs ih=>
  intro vs h;simp only[DJ] at h;split at h
  ·rename_i a b j s;simp only[ab] at h;subst h;obtain ⟨d,A,u,E⟩:=i x a j;obtain ⟨ds,F,z,G⟩:=ih s;refine ⟨d::ds,by grind [Mf],.cons u z,λv K=>?_⟩
   grind
  simp_all
theorem YF{i j:Nat}{l:List (TT j)}{m:List (TT i)}(h:dC l=some m):m.length=l.length:=by grind [IU]
theorem uA(H:RH σ σD){b i j a d:Nat}{l:List (TT j)}{m:List (TT i)}(e:σ[b]? = some (.row j l a d))(h:dC l=some m):σ[b]? = some (.row i m a d):=by grind [IU]
theorem By(H:RH σ σD){i:Nat}{v:TV}{d:D}{m:List (TT i)}(h:yr i σ v=some m)(r:RT v d)(g:GV σ v):Src σD (enc i) (ai i) d m:=by
 unfold yr at h;split at h
 ·rename_i j l;obtain ⟨rfl,rfl⟩:=IU h;rw[RT.c1 (by simp) r];exact wX (nh j)
 ·simp only[ab] at h;subst h;rw[RT.c1 (by simp) r];exact RD
 ·rename_i j b v q;split at h
  ·rename_i t l u w f;split at h
   ·rename_i a;have a:=bP a;obtain ⟨blk,e,p⟩:=g;rw[f] at e;simp only[ab] at e;obtain ⟨_,s⟩:=p _ _ _ _ e.symm;obtain ⟨rfl,rfl⟩:=s a.symm;obtain ⟨rfl,rfl⟩:=IU h;rw[RT.c1 (by simp) r];exact IC (nh _) (H.row f) rfl
   simp_all
  simp_all
 simp_all
theorem Rw(H:RH σ σD){i:Nat}{v:TV}{d:D}{m:List (TT i)}(h:yr i σ v=some m)(r:RT v d)(g:GV σ v):Om σD (enc i) (ai i) d m:=by
 unfold yr at h;split at h
 ·rename_i j l;obtain ⟨rfl,rfl⟩:=IU h;rw[RT.c1 (by simp) r];exact Pk (nh j)
 ·simp only[ab] at h;subst h;rw[RT.c1 (by simp) r];exact MK
 ·rename_i j b v q;split at h
  ·rename_i t l u w f;split at h
   ·rename_i a;have a:=bP a;obtain ⟨blk,e,p⟩:=g;rw[f] at e;simp only[ab] at e;obtain ⟨_,s⟩:=p _ _ _ _ e.symm;obtain ⟨rfl,rfl⟩:=s a.symm;obtain ⟨rfl,rfl⟩:=IU h;rw[RT.c1 (by simp) r];exact My (nh _) (H.row f) rfl
   simp_all
  simp_all
 simp_all
theorem XA(H:RH σ σD){i b v q lo len j a e:Nat}{l:List (TT j)}(g:GC σ (.os i b v q lo len))(f:σ[b]? = some (.row j l a e))(d:Nat.beq a v=true):j=i/\q=l.length/\lo+len<=q:=by
 have d:=bP d;obtain ⟨blk,h,m⟩:=g
 grind
theorem kJ(H:RH σ σD){i b v q j a e:Nat}{l:List (TT j)}(g:GC σ (.own i b v q))(f:σ[b]? = some (.row j l a e))(d:Nat.beq a v=true):j=i/\q=l.length:=by
 have d:=bP d;obtain ⟨blk,h,m⟩:=g
 grind
theorem OE(H:RH σ σD){i b v q j f d off:Nat}{k:Int}{a:TT i}{l:List (TT j)}(g:GC σ (.op i b v q k a off))(h:σ[b]? = some (.row j l f d))(e:Nat.beq d v=true):∃m:List (TT i),dC l=some m/\q=m.length/\au m k=some a:=by
 have e:=bP e;obtain ⟨blk,p,s⟩:=g
 simp_all
theorem FQ{m:Option Nat}{i:Nat}{a:TT i}{off:Nat}{v:TV}(h:vz m (exp i a) off=some v):∃d,oW m ((enc i a).map .c) off=some d/\RT v d/\GV σ v:=by
 obtain ⟨d,b,e⟩:=tS h (Jj i a)
 grind [ma,oT]
variable{R:Type}{k:KO R}{r:R}
theorem ND:∀{xs:List Value}{l:List Int},DC xs=some l->xs=l.map λz=>.int .i64 z:=by
 intro xs;induction xs with
 |nil=>grind [DC]
 |cons x xs ih=>
  intro l h;unfold DC at h
  grind
theorem MR:∀{xs:List C}{l:List Int},EQ xs=some l->xs=l.map λz=>.lit (.int .i64 z):=by
 intro xs;induction xs with
 |nil=>grind [EQ]
 |cons x xs ih=>
  intro l h;unfold EQ at h
  grind
theorem Oq{S:ot}{G:Nat}{m:Option Nat}{x:ay}(K:ca σ alD rd)(H:RH σ σD)(h:eo P S G (.load m x) rd σ k=some r):bW P orc n alD σ σD (.load m x) (λv σ1 rs wr=>k v σ1 rs wr=some r):=by
 simp only[eo] at h;split at h
 ·rename_i b off sz f;obtain ⟨s,_⟩:=K.c f (by simp);split at h
  ·rename_i w N t;obtain ⟨ds,u,A,L,_⟩:=H.cells t;split at h
   ·rename_i v hs E;obtain ⟨d,M,F⟩:=tS E A;refine bW.pure (mP s (Nk u (by simp_all)) M) F (ma E λy X=>?_) H h;rw[gZ] at X;obtain ⟨p,Z,rfl⟩:=X;exact (H.hg b w N t p Z).1
   simp_all
  simp_all
 ·rename_i i a off f;obtain ⟨s,_⟩:=K.c f (by simp);split at h
  ·rename_i v E;obtain ⟨d,u,A,L⟩:=FQ (σ:=σ) E;exact bW.pure (xF s u) A L H h
  simp_all
 ·rename_i i b v q z a off f;obtain ⟨s,g⟩:=K.c f (by simp);split at h
  ·rename_i j l lv cv t;split at h
   ·rename_i v' E O;obtain ⟨m',u,rfl,A⟩:=OE H g t E;have T:=uA H t u;obtain ⟨d,L,M,F⟩:=FQ (σ:=σ) O;exact bW.pure (NM (nh i) s rfl (H.row T) rfl (PU A) L) M F H h
   simp_all
  simp_all
 ·rename_i b off len sz i f;obtain ⟨s,g⟩:=K.c f (by simp);split at h
  ·rename_i w N t;obtain ⟨ds,u,A,L,_⟩:=H.cells t;split at h
   ·rename_i l hs U;simp only[aU] at hs;obtain ⟨a,W,hk⟩:=uU h;have M:=BG U ((A.drop off).take len);obtain ⟨a1,a2,a3⟩:=kH W;refine bW.one hk (mP s (Nk u (by simp_all)) (d:=I a) ?_) rfl rfl H;have F:((ds.drop off).take len)[i.toNat]? = some (I a):=by simp_all
    have h7:i.toNat<len:=by grind
    rw[Ya h7,yBT] at F;simp only[oW,Nat.mul_one];exact F
   simp_all
  simp_all
 ·rename_i N off f;obtain ⟨s,g⟩:=K.c f (by simp);split at h
  ·rename_i l U;obtain ⟨a,W,hk⟩:=uU h;obtain ⟨a1,a2,a3⟩:=kH W;have e:=MR U;subst e;refine bW.one hk (xF s (d:=I a) ?_) rfl rfl H
   grind [oW]
  simp_all
 simp_all
theorem JW{S:ot}{O:Nat}{m:Nat}{x y:ay}(U:ca σ alD rd)(H:RH σ σD)(h:eo P S O (.store m x y) rd σ k=some r):bW P orc n alD σ σD (.store m x y) (λv σ1 rs wr=>k v σ1 rs wr=some r):=by
 simp only[eo] at h;split at h
 ·rename_i b off sz v hx hv;obtain ⟨h1,_⟩:=U.c hx (by simp);obtain ⟨d,h2,h3,h4⟩:=U _ _ hv;split at h
  ·rename_i w E f L A;obtain ⟨ds,h5,h6,h7,ad⟩:=H.cells L;obtain ⟨h8,h9,af⟩:=lW A h3;split at h
   ·rename_i u;simp only[aU] at u;have c1:=bP u.1;have c2:=bP u.2.1;have c3:=wS u.2.2;have F:(ou E off (f.map λx=>(w+1,x))).length=E.length:=by
     grind [ou]
    have s:BE (.cells w E) (.cells (w+1) (ou E off (f.map λx=>(w+1,x)))):=by
     refine ⟨w+1,_,rfl,by omega,F,λj v x v1 x1 W X=>?_⟩;by_cases hj:j<off
     ·grind [ou]
     ·by_cases a0:j<off+f.length
      ·right;simp only[ou] at X
       grind
      ·left;simp only[ou] at X
       grind
    have M:∀w' N,TB.cells (w+1) (ou E off (f.map λx=>(w+1,x)))=.cells w' N->∀p∈N,GC σ p.2/\p.1<=w':=by
     intro w' N e p G;simp only[TB.cells.injEq] at e;obtain ⟨rfl,rfl⟩:=e;rcases Es G with G | G
     ·obtain ⟨q1,q2⟩:=H.hg b w E L p G
      grind
     ·rw[gZ] at G;obtain ⟨y,hy,rfl⟩:=G;exact ⟨qc A h4 y hy,bQ _⟩
    have ak:RB (.cells (w+1) (ou E off (f.map λx=>(w+1,x)))) (.cells (put ds off (f.map TC.er))):=by unfold RB TB.er;rw[ad];simp[put,ou,Function.comp_def]
    refine ⟨_,_,_,_,.aB [],σD.set b (.cells (put ds off (f.map TC.er))),yc h1 (Nk h5 (by omega)) h2 h8 ⟨by simp_all,c3⟩ rfl,rt0,?_,H.set L s ak M,Ext.set L s,λ_=>?_,λe=>by grind [mX],h⟩
    ·intro p G;grind
    ·simp only[ie,List.all_cons,List.all_nil,EP];rw[h5,Ah h5];simp only[Ob.sz,oQ]
     grind [put]
   simp_all
  simp_all
 ·rename_i i b v q z a off xv hx hv;obtain ⟨h1,g⟩:=U.c hx (by simp);obtain ⟨d,h2,h3,h4⟩:=U _ _ hv;split at h
  ·rename_i j l lv cv f L A;obtain ⟨h8,h9,af⟩:=lW A h3;split at h
   ·rename_i Z l' u ha hl;simp only[aU] at u;obtain ⟨m',W,rfl,X⟩:=OE H g L u.1;rw[hl] at W;simp only[ab] at W;subst W;have t:=uA H L hl;have c2:=bP u.2.1;obtain ⟨e3,e4⟩:=u_ ha;have K:(ou (exp i a) off f).map TC.er=((exp i a).map TC.er).take off++f.map TC.er++((exp i a).map TC.er).drop (off+f.length):=by
     simp[ou]
    rw[e3,pf] at K;obtain ⟨T,ax⟩:∃T:List C,f.map TC.er=T.map .c:=by
     have c3:=wS u.2.2;refine ⟨((enc i Z).drop off).take f.length,?_⟩;rw[Yd,List.map_drop,K];have l1:(((enc i a).map D.c).take off).length=off:=by grind [nh]
     simp_all
    have F:T.length=f.length:=by have:=Dj List.length ax;grind
    have he:enc i Z=(enc i a).take off++T++(enc i a).drop (off+T.length):=by
     apply Fq
     simp_all
    have s:BE (.row i l' lv cv) (.row i (l'.set z.toNat Z) lv (cv+1)):=⟨_,_,_,rfl,bQ _,by omega,λ_=>by simp,λe=>by omega⟩;refine ⟨_,_,_,_,.aB [],σD.set b (OB (enc i) (l'.set z.toNat Z)),KA (nh i) h1 rfl (H.row t) rfl (PU X) h2 (by simp_all) (by omega) u.2.2 he rfl rfl,rt0,?_,H.set t s rfl (λw E e=>by simp at e),Ext.set t s,λ_=>?_,λe=>by grind [mX],h⟩
    ·intro p G;grind
    ·simp only[ie,List.all_cons,List.all_nil,EP];rw[H.row t,Ah (H.row t)];simp[Ob.sz,gL (nh i)]
   simp_all
  simp_all
 simp_all
end
end Go.Abs
end
