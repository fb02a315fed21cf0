/- DfwPa, DfwPb, DfwPc, DfwCx, DfwPd, DfwRf, DfwPe, DfwPf -/
import Derived.Test.YtcndmfkgdaipaaaGreatFwC
import Derived.Test.YtcndmfkgdaipaaaGreatFwB
import Derived.RangeFuncStops
import Derived.ControlIn
set_option linter.all false
section
namespace Go.Abs
variable[Gl]
inductive CC where
 |int (k:IntKind)
 |bool
 |str
 |sl (i:Nat)
 |fk (gs:List Nat)
 deriving DecidableEq,Inhabited
@[reducible] def CC.den(T:Nat->Type):CC->Type
 |.int _=>Int
 |.bool=>Bool
 |.str=>ByteArray
 |.sl i=>List (T i)
 |.fk _=>Nat
@[reducible] def tupT(T:Nat->Type):List CC->Type
 |[]=>Unit
 |c::a=>c.den T×tupT T a
def okL(i:Nat):List CC->Bool
 |[]=>true
 |.sl j::l=>Nat.blt j i&&okL i l
 |_::l=>okL i l
theorem zt{i j:Nat}:∀{l:List CC},okL i l=true->CC.sl j∈l->j<i:=by
 intro l;induction l with
 |nil=>intro _ h;simp at h
 |cons c l ih=>
  intro e h;cases c <;> simp only[okL,bN,gq,reduceCtorEq,false_or,CC.sl.injEq] at e h
  case sl=>rcases h with rfl | h;exact ug.mp e.1;exact ih e.2 h
  all_goals exact ih e h
class Ty where
 T:Nat->Type
 fl:Nat->List CC
 prj:∀i,T i->tupT T (fl i)
 mkt:∀i,tupT T (fl i)->T i
 mp:∀i a,mkt i (prj i a)=a
 pm:∀i x,prj i (mkt i x)=x
 dn:∀i j,CC.sl j∈fl i->j<i
 ps:∀i,0<(fl i).length
section
variable[Y:Ty]
abbrev TT(i:Nat):Type:=Y.T i
abbrev CC.dn(c:CC):Type:=c.den Y.T
abbrev aS(cs:List CC):Type:=tupT Y.T cs
abbrev aw(i:Nat):Nat:=(Y.fl i).length
def tn(rec:(j:Nat)->TT j->List C):(c:CC)->c.dn->C
 |.int k,n=>.lit (.int k n)
 |.bool,b=>.lit (.bool b)
 |.str,s=>.lit (.string s)
 |.sl j,l=>.cJ false (l.map (rec j))
 |.fk _,g=>.fn (.func g) [] []
def nK(rec:(j:Nat)->TT j->List C):(cs:List CC)->aS cs->List C
 |[],_=>[]
 |c::cs,x=>tn rec c x.1::nK rec cs x.2
def LC:Nat->(i:Nat)->TT i->List C
 |0,_,_=>[]
 |k+1,i,a=>nK (LC k) (Y.fl i) (Y.prj i a)
def enc(i:Nat)(a:TT i):List C:=LC (i+1) i a
theorem FH{a b:(j:Nat)->TT j->List C}:∀(cs:List CC)(x:aS cs),(∀j,CC.sl j∈cs->a j=b j)->nK a cs x=nK b cs x:=by
 intro cs;induction cs with
 |nil=>intro x _;rfl
 |cons c cs ih=>
  intro x h;simp only[nK];rw[ih x.2 λj d=>h j (lI _ d)];congr 1;cases c with
  |sl j=>grind [tn]
  |_=>rfl
theorem Yh:∀(k i:Nat),i<k->LC (Y:=Y) k i=enc i:=by
 intro k;induction k using Nat.strongRecOn with
 |_ k ih=>
  intro i e;funext a;cases k with
  |zero=>omega
  |succ k=>
   simp only[enc,LC];refine FH _ _ λj b=>?_;have d:=Y.dn i j b
   grind
theorem vg(i:Nat)(a:TT i):enc i a=nK enc (Y.fl i) (Y.prj i a):=by show nK (LC i) (Y.fl i) (Y.prj i a)=_;exact FH _ _ λj b=>Yh i j (Y.dn i j b)
theorem Yf{r:(j:Nat)->TT j->List C}:∀(cs:List CC)(x:aS cs),(nK r cs x).length=cs.length:=by
 intro cs;induction cs with
 |nil=>intro x;rfl
 |cons c cs ih=>grind [nK]
theorem sE(i:Nat)(a:TT i):(enc i a).length=aw i:=by rw[vg,Yf]
theorem Nn{r:(j:Nat)->TT j->List C}{c:CC}(d:∀j,c=.sl j->∀a b,r j a=r j b->a=b){a b:c.dn}(h:tn r c a=tn r c b):a=b:=by
 cases c with
 |int k=>grind [tn]
 |bool=>grind [tn]
 |str=>grind [tn]
 |sl j=>simp only[tn,C.cJ.injEq,true_and] at h;exact map_inj (λ{a b}=>d j rfl a b) h
 |fk e=>simpa[tn] using h
theorem XF{r:(j:Nat)->TT j->List C}:∀{cs:List CC},(∀j,CC.sl j∈cs->∀a b,r j a=r j b->a=b)->∀{x y:aS cs},nK r cs x=nK r cs y->x=y:=by
 intro cs;induction cs with
 |nil=>simp_all
 |cons c cs ih=>grind [nK,Nn]
theorem Jl:∀(i:Nat)(a b:TT i),enc i a=enc i b->a=b:=by
 intro i;induction i using Nat.strongRecOn with
 |_ i ih=>intro a b h;rw[vg,vg] at h;have:=XF (λj d=>ih j (Y.dn i j d)) h;rw[<-Y.mp i a,<-Y.mp i b,this]
inductive CV where
 |d (x:D)
 |b (e:Bool)
 |sl (i:Nat) (l:List (TT i))
def CV.er:CV->D
 |.d x=>x
 |.b e=>B e
 |.sl i l=>.c (.cJ false (l.map (enc i)))
def CV.low(m:Nat):CV->Bool
 |.d x=>x.low m
 |_=>true
inductive TC where
 |any
 |d (x:D)
 |b (e:Bool)
 |sl (i:Nat) (l:List (TT i))
 |own (i b v n:Nat)
 |fp (i:Nat) (a:TT i) (off:Nat)
 |op (i b v n:Nat) (k:Int) (a:TT i) (off:Nat)
 |ap (b off len sz:Nat) (k:Int)
 |os (i b v n lo len:Nat)
 |fl (n:Int)
 |cx (x y:Int)
 |GX (g:FuncId) (xs:List CV)
def TC.er:TC->D
 |.any=>.any
 |.d x=>x
 |.b e=>B e
 |.sl i l=>.c (.cJ false (l.map (enc i)))
 |.own i c _ n=>OS (aw i) c n
 |.fp i a off=>.c (.cK (enc i a) off)
 |.op i c _ n k _ off=>.ptr c (k.toNat * aw i+off) (n * aw i)
 |.ap c off _ sz k=>.ptr c (off+k.toNat * 1) sz
 |.os i c _ n j len=>.sl c (0+j * aw i) len (aw i) (n * aw i)
 |.fl n=>.c (.lit (.float .f64 (Fl.fl n)))
 |.cx x y=>.c (.lit (.complex .f64 (Fl.fl x) (Fl.fl y)))
 |.GX g s=>.fn (.func g) [.agg (s.map CV.er)] []
def RC(x:TC)(d:D):Prop:=x=.any∨d=x.er
inductive TV where
 |c (x:TC)
 |agg (xs:List TC)
 |aS (xs:List (Bool×List TC))
inductive aJ {α β:Type} (R:α->β->Prop):List α->List β->Prop where
 |nil:aJ R [] []
 |cons {a:α} {b:β} {l:List α} {m:List β} (h:R a b) (r:aJ R l m):aJ R (a::l) (b::m)
def RE(p:Bool×List TC)(d:D):Prop:=
 match p with
 |(true,xs)=>∃ds,d=.agg ds/\aJ RC xs ds
 |(false,xs)=>∃x,xs=[x]/\RC x d
def RT:TV->D->Prop
 |.c x,d=>RC x d
 |.agg xs,d=>∃ds,d=.agg ds/\aJ RC xs ds
 |.aS xs,d=>∃ds,d=.aS ds/\aJ RE xs ds
inductive RV where
 |v (x:TV)
 |g (c want:Bool) (p:Nat) (x:TV)
def RR:RV->D->Prop
 |.v x,d=>RT x d
 |.g c want _ x,d=>if c=want then RT x d else d=.aS []
inductive TB where
 |cells (w:Nat) (cs:List (Nat×TC))
 |row (i:Nat) (l:List (TT i)) (lv cv:Nat)
 |mp (j:Nat) (st:Bool) (l:List (Int×TT j)) (v:Nat)
def Lm(j:Nat)(st:Bool)(a:TT j):D:=if st then .agg ((enc j a).map .c) else .c ((enc j a).headD (.lit undef))
def TB.er:TB->Ob
 |.cells _ s=>.cells (s.map λp=>p.2.er)
 |.row i l _ _=>OB (enc i) l
 |.mp j st l _=>MB (Lm j st) l
def RB(blk:TB)(ob:Ob):Prop:=ob=blk.er
abbrev TH:=List TB
abbrev TA:=List (Nat×RV)
def Qe(t:Nat):TA->Option RV
 |[]=>none
 |(s,x)::a=>match Nat.beq s t with | true=>some x | false=>Qe t a
def iQ(t:Nat):TA->Option (RV×Nat)
 |[]=>none
 |(s,x)::a=>match Nat.beq s t with | true=>some (x,a.length) | false=>iQ t a
def rT:(c:CC)->c.dn->TC
 |.int k,n=>.d (.c (.lit (.int k n)))
 |.bool,b=>.b b
 |.str,s=>.d (.c (.lit (.string s)))
 |.sl j,l=>.sl j l
 |.fk _,g=>.d (.c (.fn (.func g) [] []))
def uO:(cs:List CC)->aS cs->List TC
 |[],_=>[]
 |c::cs,x=>rT c x.1::uO cs x.2
def exp(i:Nat)(a:TT i):List TC:=uO (Y.fl i) (Y.prj i a)
theorem lO(c:CC)(a:c.dn):(rT c a).er=.c (tn enc c a):=by cases c <;> rfl
theorem expT_er:∀(cs:List CC)(x:aS cs),(uO cs x).map TC.er=(nK enc cs x).map .c:=by
 intro cs;induction cs with
 |nil=>intro x;rfl
 |cons c cs ih=>grind [uO,nK,lO]
theorem vF(i:Nat)(a:TT i):(exp i a).map TC.er=(enc i a).map .c:=by rw[exp,expT_er,vg]
theorem aJ.er:∀(xs:List TC),aJ RC xs (xs.map TC.er):=by
 intro xs;induction xs with
 |nil=>exact .nil
 |cons x xs ih=>exact .cons (.inr rfl) ih
theorem aJ.eq:∀{xs:List TC}{ds:List D},aJ RC xs ds->(∀y∈xs,y≠.any)->ds=xs.map TC.er:=by
 intro xs ds h;induction h with
 |nil=>simp_all
 |cons h r ih=>
  intro i;rcases h with h | h
  ·simp_all
  simp_all
theorem aJ.len{α i:Type}{R:α->i->Prop}{l:List α}{m:List i}(h:aJ R l m):l.length=m.length:=by
 induction h with
 |nil=>rfl
 |cons _ _ ih=>simp[ih]
theorem aJ.get{α j:Type}{R:α->j->Prop}{l:List α}{m:List j}(h:aJ R l m):∀(i:Nat) a,l[i]? = some a->∃b,m[i]? = some b/\R a b:=by
 induction h with
 |nil=>simp_all
 |cons h _ ih=>grind
theorem aJ.get'{α j:Type}{R:α->j->Prop}{l:List α}{m:List j}(h:aJ R l m):∀(i:Nat) b,m[i]? = some b->∃a,l[i]? = some a/\R a b:=by
 induction h with
 |nil=>simp_all
 |cons h _ ih=>grind
theorem aJ.app{α i:Type}{R:α->i->Prop}{l j:List α}{m m':List i}(h:aJ R l m)(s:aJ R j m'):aJ R (l++j) (m++m'):=by
 induction h with
 |nil=>exact s
 |cons h _ ih=>exact .cons h ih
theorem aJ.take{α i:Type}{R:α->i->Prop}{l:List α}{m:List i}(h:aJ R l m):∀n:Nat,aJ R (l.take n) (m.take n):=by
 induction h with
 |nil=>intro n;simp;exact .nil
 |cons h _ ih=>
  intro n;cases n with
  |zero=>exact .nil
  |succ n=>exact .cons h (ih n)
theorem aJ.drop{α i:Type}{R:α->i->Prop}{l:List α}{m:List i}(h:aJ R l m):∀n:Nat,aJ R (l.drop n) (m.drop n):=by
 induction h with
 |nil=>intro n;simp;exact .nil
 |cons h r ih=>
  intro n;cases n with
  |zero=>exact .cons h r
  |succ n=>grind
def fA{i j:Nat}(l:List (TT j)):Option (List (TT i)):=match decEq j i with | .isTrue h=>some (h▸l) | .isFalse _=>none
theorem RQ{i j:Nat}{l:List (TT j)}{m:List (TT i)}(h:fA l=some m):∃e:j=i,m=e▸l:=by
 unfold fA at h;split at h
 ·simp_all
 simp_all
def DE:(c:CC)->TC->Option c.dn
 |.int k,.d (.c (.lit (.int a n)))=>match decEq a k with | .isTrue _=>some n | .isFalse _=>none
 |.bool,.b e=>some e
 |.bool,.d (.c (.lit (.bool e)))=>some e
 |.str,.d (.c (.lit (.string s)))=>some s
 |.sl _,.sl _ l=>fA l
 |.sl _,.d (.c (.lit (.slice none 0 0)))=>some []
 |.sl _,.d (.c (.cJ false []))=>some []
 |.fk _,.d (.c (.fn (.func g) [] []))=>some g
 |_,_=>none
def Fp:(cs:List CC)->List TC->Option (aS cs)
 |[],[]=>some ()
 |c :: cs, x :: xs => match DE c x, Fp cs xs with
  |some a,some b=>some (a,b)
  |_,_=>none
 |_,_=>none
theorem pR{c:CC}{x:TC}{a:c.dn}(h:DE c x=some a):x≠.any/\xF x.er=.c (tn enc c a):=by
 unfold DE at h;split at h
 ·split at h
  ·rename_i e _;subst e;simp only[au] at h;subst h;exact ⟨by simp,rfl⟩
  simp_all
 ·simp only[au] at h;subst h;exact ⟨by simp,rfl⟩
 ·simp only[au] at h;subst h;exact ⟨by simp,rfl⟩
 ·simp only[au] at h;subst h;exact ⟨by simp,rfl⟩
 ·obtain ⟨rfl,rfl⟩:=RQ h;exact ⟨by simp,rfl⟩
 ·simp only[au] at h;subst h;exact ⟨by simp,rfl⟩
 ·simp only[au] at h;subst h;exact ⟨by simp,rfl⟩
 ·simp only[au] at h;subst h;exact ⟨by simp,rfl⟩
 ·simp at h
theorem Qi{c:CC}{x:TC}{a:c.dn}(h:DE c x=some a):x=.d (.c (.lit (.slice none 0 0)))∨x.er=.c (tn enc c a):=by
 unfold DE at h;split at h
 ·split at h
  ·rename_i e _;subst e;simp only[au] at h;subst h;exact .inr rfl
  simp_all
 ·simp only[au] at h;subst h;exact .inr rfl
 ·simp only[au] at h;subst h;exact .inr rfl
 ·simp only[au] at h;subst h;exact .inr rfl
 ·obtain ⟨rfl,rfl⟩:=RQ h;exact .inr rfl
 ·simp only[au] at h;subst h;exact .inl rfl
 ·simp only[au] at h;subst h;exact .inr rfl
 ·simp only[au] at h;subst h;exact .inr rfl
 ·simp at h
theorem PS:∀{cs:List CC}{xs:List TC}{a:aS cs},Fp cs xs=some a->(∀y∈xs,y≠.any)/\(xs.map TC.er).map xF=(nK enc cs a).map .c:=by
 intro cs;induction cs with
 |nil=>
  intro xs a h;cases xs with
  |nil=>exact ⟨by simp,rfl⟩
  |cons x xs=>grind [Fp]
 |cons c cs ih=>
  intro xs a h;cases xs with
  |nil=>grind [Fp]
  |cons x xs=>grind [Fp,pR,nK]
inductive dm where
 |c (x:CC)
 |st (i:Nat)
 |fp (i:Nat)
 |k (g:Nat)
@[reducible] def dm.dn:dm->Type
 |.c x=>x.dn
 |.st i=>TT i
 |.fp i=>TT i
 |.k _=>Unit
def dm.enc:(c:dm)->c.dn->D
 |.c x,a=>.c (tn Go.Abs.enc x a)
 |.st i,a=>ST (Go.Abs.enc i a)
 |.fp i,a=>.c (.cK (Go.Abs.enc i a) 0)
 |.k x,_=>.c (.fn (.func x) [] [])
def dm.tv:(c:dm)->c.dn->TV
 |.c x,a=>.c (rT x a)
 |.st i,a=>.agg (exp i a)
 |.fp i,a=>.c (.fp i a 0)
 |.k x,_=>.c (.d (.c (.fn (.func x) [] [])))
theorem dm.ET(c:dm)(a:c.dn):RT (c.tv a) (c.enc a):=by
 cases c with
 |c x=>exact .inr (lO x a).symm
 |st i=>exact ⟨_,rfl,by rw[<-vF];exact aJ.er _⟩
 |fp i=>exact .inr rfl
 |k x=>exact .inr rfl
@[reducible] def tB:List dm->Type
 |[]=>Unit
 |c::a=>c.dn×tB a
def ud:(cs:List dm)->tB cs->List D
 |[],_=>[]
 |c::cs,x=>c.enc x.1::ud cs x.2
def tvV:(cs:List dm)->tB cs->List TV
 |[],_=>[]
 |c::cs,x=>c.tv x.1::tvV cs x.2
@[reducible] def lL:List dm->Type
 |[]=>Unit
 |[c]=>c.dn
 |c::d::a=>c.dn×lL (d::a)
def CQ(i:Nat):TV->Option (TT i)
 |.c (.fp j a 0)=>match decEq j i with | .isTrue h=>some (h▸a) | .isFalse _=>none
 |_=>none
def PW(g:Nat):TV->Option Unit
 |.c (.d (.c (.fn (.func a) [] [])))=>match Nat.beq a g with | true=>some () | false=>none
 |_=>none
def Ky(x:CC):TV->Option x.dn
 |.c y=>DE x y
 |_=>none
def CZ(i:Nat):TV->Option (TT i)
 |.agg a=>match Fp (Y.fl i) a with | some x=>some (Y.mkt i x) | none=>none
 |_=>none
def ry:(c:dm)->TV->Option c.dn
 |.c x,v=>Ky x v
 |.st i,v=>CZ i v
 |.fp i,v=>CQ i v
 |.k g,v=>PW g v
end
end Go.Abs
end
section
namespace Go.Abs
noncomputable section
variable[Gl][Y:Ty]
structure bD where
 ins:List dm
 out:List dm
 f:tB ins->Option (lL out)
abbrev sV:=List (Nat×bD)
def tsk(g:Nat):sV->Option bD
 |[]=>none
 |(s,f)::l=>match Nat.beq s g with | true=>some f | false=>tsk g l
def ZR(g:Nat)(S:sV):Option bD:=match Nat.blt g 1048576 with | true=>tsk g S | false=>none
def zp:(cs:List dm)->List TV->Option (tB cs)
 |[],[]=>some ()
 |c :: cs, x :: xs => match ry c x, zp cs xs with
  |some a,some b=>some (a,b)
  |_,_=>none
 |_,_=>none
def dm.te:(c:dm)->c.dn->Bool×List TC
 |.c x,a=>(false,[rT x a])
 |.st i,a=>(true,exp i a)
 |.fp i,a=>(false,[.fp i a 0])
 |.k x,_=>(false,[.d (.c (.fn (.func x) [] []))])
def Oy:(cs:List dm)->lL cs->List (Bool×List TC)
 |[],_=>[]
 |[c],x=>[c.te x]
 |c::d::cs,x=>c.te x.1::Oy (d::cs) x.2
def outT:(cs:List dm)->lL cs->TV
 |[c],x=>c.tv x
 |cs,x=>.aS (Oy cs x)
def HY:D->TV
 |.agg ds=>.agg (ds.map .d)
 |d=>.c (.d d)
abbrev Kn:=List (Nat×Bool)
def Bw(p:Nat):Kn->Option Bool
 |[]=>none
 |(q,b)::l=>match Nat.beq q p with | true=>some b | false=>Bw p l
def VJ(d:Kn)(a:Option (Nat×Bool))(p:Nat)(w:Bool):Bool:=
 match Bw p d with
 |some b=>b == w
 |none => match a with
  |some (q,e)=>Nat.beq q p&&e == w
  |none=>false
def Gr(al:TA)(b:Kn)(a:Option (Nat×Bool)):aP->Option TV
 |.k d=>match d.low 0 with | true=>some (HY d) | false=>none
 |.t n => match iQ n al with
  |some (.v x,_)=>some x
  |some (.g _ w p x,_)=>match VJ b a p w with | true=>some x | false=>none
  |none=>none
def NV(rd:aP->Option TV):List aP->Option (List TV)
 |[]=>some []
 |x :: xs => match rd x, NV rd xs with
  |some a,some b=>some (a::b)
  |_,_=>none
def TC.scalar:TC->Bool
 |.any=>false
 |.d x=>x.scalar
 |_=>true
def fq:TV->Option (List TC)
 |.c x=>match x.scalar with | true=>some [x] | false=>none
 |.agg a=>match a.all TC.scalar with | true=>some a | false=>none
 |.aS _=>none
def tq{α:Type}(cs:List α)(off:Nat)(xs:List α):List α:=cs.take off++xs++cs.drop (off+xs.length)
def Er(rd:aP->Option TV):List TC->List (Nat×Nat×aP)->Option (List TC)
 |a,[]=>some a
 |a, (o, n, x) :: rest=>
  match rd x with
  |some v => match fq v with
   |some b => match Nat.beq b.length n && Nat.ble (o + n) a.length with
    |true=>Er rd (tq a o b) rest
    |false=>none
   |none=>none
  |none=>none
def Bj(n:Option Nat)(cs:List TC)(off:Nat):Option TV:=
 match n with
 |none=>match cs[off]? with | some x=>some (.c x) | none=>none
 |some n=>match Nat.ble (off+n) cs.length with | true=>some (.agg ((cs.drop off).take n)) | false=>none
def Ss:List TC->Bool
 |[]=>true
 |.d (.c (.lit (.slice none 0 0)))::_=>false
 |_::xs=>Ss xs
def isAny:TC->Bool
 |.any=>true
 |_=>false
def Td:List TC->Bool
 |[]=>true
 |x::xs=>!(isAny x)&&Td xs
def mkT(i:Nat)(cs:List TC):Option (TT i):=match Ss cs,Fp (Y.fl i) cs with | true,some x=>some (Y.mkt i x) | _,_=>none
def Ze(i:Nat):List TC->Option (List (TT i))
 |[]=>some []
 |c :: b => match mkT i [c], Ze i b with
  |some a,some l=>some (a::l)
  |_,_=>none
def Hf(i:Nat):Nat->List TC->Option (List (TT i))
 |0,[]=>some []
 |0,_::_=>none
 |k + 1, b => match mkT i (b.take (aw i)), Hf i k (b.drop (aw i)) with
  |some a,some l=>some (a::l)
  |_,_=>none
def PE:TV->Option Value
 |.c (.d (.c (.lit v)))=>some v
 |.c (.b e)=>some (.bool e)
 |_=>none
def EY:Value->TV
 |.bool e=>.c (.b e)
 |v=>.c (.d (.c (.lit v)))
inductive BX where
 |t
 |f
 |e (x:Bool)
def TQ:TV->Option BX
 |.c (.b e)=>some (.e e)
 |.c (.d (.c (.lit (.bool true))))=>some .t
 |.c (.d (.c (.lit (.bool false))))=>some .f
 |_=>none
def BX.val:BX->Bool
 |.t=>true
 |.f=>false
 |.e x=>x
def pk(c:Bool):BX->BX->Bool
 |.t,.e y=>c || y
 |.e x,.f=>c&&x
 |x,y=>bif c then x.val else y.val
def pkV(c:Bool):BX->BX->TV
 |.t,.t=>.c (.d (.c (.lit (.bool true))))
 |.f,.f=>.c (.d (.c (.lit (.bool false))))
 |x,y=>.c (.b (pk c x y))
def ints(k:IntKind):List TC->Option (List Int)
 |[]=>some []
 |x :: xs => match DE (.int k) x, ints k xs with
  |some a,some l=>some (a::l)
  |_,_=>none
def Ns:List Value->Option (List Int)
 |[]=>some []
 |.int .i64 a::xs=>match Ns xs with | some l=>some (a::l) | none=>none
 |_::_=>none
def NF:List C->Option (List Int)
 |[]=>some []
 |.lit (.int .i64 a)::xs=>match NF xs with | some l=>some (a::l) | none=>none
 |_::_=>none
def valC:TC->Option Value
 |.d (.c (.lit v))=>some v
 |.b e=>some (.bool e)
 |_=>none
def IC:List TC->Option (List Value)
 |[]=>some []
 |x :: xs => match valC x, IC xs with
  |some v,some a=>some (v::a)
  |_,_=>none
def ZD(P:Program)(xs d:Array Value):List Field->Option Bool
 |[]=>some true
 |f :: e => match f.name != "_", fE P (part f.type xs f.offset), fE P (part f.type d f.offset), P.underlying f.type, ZD P xs d e with
  |true,some (.int k a),some (.int g b),some (.int _),some q=>match decEq k g with | .isTrue _=>some (a == b&&q) | .isFalse _=>none
  |true,some (.bool a),some (.bool b),some .bool,some q=>some (a == b&&q)
  |_,_,_,_,_=>none
def Zh(P:Program)(xs d:Array Value):List Field->Option Bool
 |[]=>some true
 |f :: e => match f.name != "_", fE P (part f.type xs f.offset), fE P (part f.type d f.offset), P.underlying f.type, Zh P xs d e with
  |true,some (.int k a),some (.int g b),some (.int _),some q=>match decEq k g with | .isTrue _=>some (a == b&&q) | .isFalse _=>none
  |true,some (.bool a),some (.bool b),some .bool,some q=>some (a == b&&q)
  |true, some (.agg a), some (.agg b), some (.struct gs), some q => match P.stoodInHeld f.type, ZD P a b gs.toList with
   |false,some r=>some (r&&q)
   |_,_=>none
  |_,_,_,_,_=>none
def eqT(P:Program)(t:TypeId)(xs a:List TC):Option Bool:=
 match IC xs,IC a,P.underlying t,P.eqGuardType P.depth t,P.stoodInHeld t with
 |some b,some d,some (.struct e),false,false=>Zh P b.toArray d.toArray e.toList
 |_,_,_,_,_=>none
def SO(a b:Int):Option Int:=if a.natAbs<2 ^ 52/\b.natAbs<2 ^ 52 then some (a+b) else none
def yl(a b:Int):Option Int:=if a.natAbs<2 ^ 52/\b.natAbs<2 ^ 52 then some (a-b) else none
def yd(a n:Int):Option Int:=if 0<=a/\a<=1048576/\0<=n/\n<=1048576 then some (a * n) else none
def Ao(a:Int):Option Int:=if a.natAbs<2 ^ 53 then some a else none
variable{R:Type}
abbrev KO(R:Type):=TV->TH->Bool->List Nat->Option R
def TZ(val:Operand->Option TV)(x:Operand):Option Value:=match val x with | some v=>PE v | none=>none
def genV(P:Program)(op:Op)(ty:TypeId)(val:Operand->Option TV):Option Value:=
 if op.operands.toList.all (λx=>(TZ val x).isSome) then
  match fE P (execOp (λx=>(TZ val x).getD undef) { dst:=none,op:=op,type:=ty,pos:="",after:=#[],guard:=none }) with
  |some (.value v)=>some v
  |_=>none
 else none
def pK:Value->Bool
 |.agg _ | .tuple _=>false
 |_=>true
abbrev xx(rd:aP->Option TV)(x:Operand):Option TV:=match bW x with | some o=>rd o | none=>none
def genT(P:Program)(op:Op)(ty:TypeId)(rd:aP->Option TV)(σ:TH)(k:KO R):Option R:=
 match op with
 |.binOp o t x y _=>
  match xx rd x,xx rd y with
  |some (.c (.d (.c (.lit (.int f a))))), some (.c (.d (.c (.lit (.int h b)))))=>
   match o with
   |.quo => match decEq f h with
    |.isTrue _=>(Oq f a b).bind λv=>k (.c (.d (.c (.lit (.int f v))))) σ false []
    |.isFalse _=>none
   |.rem => match decEq f h with
    |.isTrue _=>(WA a b).bind λv=>k (.c (.d (.c (.lit (.int f v))))) σ false []
    |.isFalse _=>none
   |.shr=>(shr? f a b).bind λv=>k (.c (.d (.c (.lit (.int f v))))) σ false []
   |.shl=>(shl? f a b).bind λv=>k (.c (.d (.c (.lit (.int f v))))) σ false []
   |_ => match gT P o t x y (.int f a) (.int h b) with
    |some v=>match pK v with | true=>k (EY v) σ false [] | false=>none
    |none=>none
  |some (.agg xs), some (.agg i)=>
   match eqT P t xs i with
   |some r => match o with
    |.eql=>k (.c (.b r)) σ false []
    |.neq=>k (.c (.b (!r))) σ false []
    |_=>none
   |none=>none
  |some (.c (.cx a b)), some (.c (.cx c d))=>
   match o with
   |.add=>(SO a c).bind λu=>(SO b d).bind λv=>k (.c (.cx u v)) σ false []
   |.sub=>(yl a c).bind λu=>(yl b d).bind λv=>k (.c (.cx u v)) σ false []
   |.mul => match d with
    |.ofNat 0=>(yd a c).bind λu=>(yd b c).bind λv=>k (.c (.cx u v)) σ false []
    |_=>none
   |_=>none
  |some u, some v=>
   match PE u,PE v with
   |some (.bool a), some (.bool b)=>
    match o,P.underlying t with
    |.eql,some .bool=>k (.c (.b (a == b))) σ false []
    |.neq,some .bool=>k (.c (.b (!(a == b)))) σ false []
    |_,_=>none
   |some a, some b => match gT P o t x y a b with
    |some v=>match pK v with | true=>k (EY v) σ false [] | false=>none
    |none=>none
   |_,_=>none
  |_,_=>none
 |.unOp o _ x=>
  match xx rd x with
  |some u => match o, PE u with
   |.not,some (.bool e)=>k (.c (.b (!e))) σ false []
   |o, some a => match fE P (Op.unary o a) with
    |some v=>match pK v with | true=>k (EY v) σ false [] | false=>none
    |none=>none
   |_,_=>none
  |none=>none
 |.convert t g x=>
  match xx rd x with
  |some (.c (.d (.c (.lit (.int f a)))))=>
   match P.underlying g with
   |some (.float .f64)=>match (P.underlying t).isSome with | true=>k (.c (.fl a)) σ false [] | false=>none
   |_ => match fE P (convert t g (.int f a)) with
    |some v=>match pK v with | true=>k (EY v) σ false [] | false=>none
    |none=>none
  |some (.c (.fl a)) => match P.underlying g, (P.underlying t).isSome with
   |some (.int .i64),true=>(Ao a).bind λa=>k (.c (.d (.c (.lit (.int .i64 a))))) σ false []
   |_,_=>none
  |some u => match PE u with
   |some a => match fE P (convert t g a) with
    |some v=>match pK v with | true=>k (EY v) σ false [] | false=>none
    |none=>none
   |none=>none
  |none=>none
 |.call c=>
  match c.callee,c.args.toList with
  |.builtin .min, _ => match genV P (.call c) ty (xx rd) with
   |some v=>match pK v with | true=>k (EY v) σ false [] | false=>none
   |none=>none
  |.builtin .max, _ => match genV P (.call c) ty (xx rd) with
   |some v=>match pK v with | true=>k (EY v) σ false [] | false=>none
   |none=>none
  |.builtin .complex, [x, y] => match xx rd x, xx rd y with
   |some (.c (.fl a)),some (.c (.fl b))=>k (.c (.cx a b)) σ false []
   |some (.c (.fl a)), some (.c (.d (.c (.lit (.float .f64 b))))) => match Nat.beq b (Fl.fl 0) with
    |true=>k (.c (.cx a 0)) σ false []
    |false=>none
   |_,_=>none
  |.builtin .real, [x] => match xx rd x with
   |some (.c (.cx a _))=>k (.c (.fl a)) σ false []
   |_=>none
  |.builtin .imag, [x] => match xx rd x with
   |some (.c (.cx _ b))=>k (.c (.fl b)) σ false []
   |_=>none
  |_,_=>none
 |_=>none
def Da(σ:TH):TC->TC
 |.own i b v n => match σ[b]? with
  |some (.row j l a _)=>match Nat.beq a v with | true=>.sl j l | false=>.own i b v n
  |_=>.own i b v n
 |x=>x
def fU(σ:TH):TV->TV
 |.c x=>.c (Da σ x)
 |.agg a=>.agg (a.map (Da σ))
 |x=>x
def Se:TC->Bool
 |.own ..=>true
 |_=>false
def yO:TV->Bool
 |.c x=>Se x
 |.agg a=>a.any Se
 |_=>false
def CC.gr:CC->Bool
 |.sl _=>false
 |.fk _=>false
 |_=>true
def dm.gr:dm->Bool
 |.c x=>x.gr
 |.st i=>(Y.fl i).all CC.gr
 |_=>false
def EU(i:Nat)(σ:TH):TV->Option (List (TT i))
 |.c (.sl _ l)=>fA l
 |.c (.d (.c (.lit (.slice none 0 0))))=>some []
 |.c (.own _ b v _) => match σ[b]? with
  |some (.row _ l a _)=>match Nat.beq a v with | true=>fA l | false=>none
  |_=>none
 |_=>none
def Xp:TC->Option CV
 |.d x=>some (.d x)
 |.b e=>some (.b e)
 |.sl i l=>some (.sl i l)
 |_=>none
def cvT:CV->TC
 |.d x=>.d x
 |.b e=>.b e
 |.sl i l=>.sl i l
def fnaOf:Fn->List TV->List TV->Option (FuncId×List CV)
 |.func g,[.agg xs],[]=>(xs.mapM Xp).map λa=>(g,a)
 |_,_,_=>none
def kR:TV->Option Int
 |.c (.d (.c (.lit (.int .i64 n))))=>some n
 |_=>none
def teT:TV->Bool×List TC
 |.c x=>(false,[x])
 |.agg a=>(true,a)
 |.aS _=>(false,[])
def mpV(j:Nat)(st:Bool)(a:TT j):TV:=match st with | true=>.agg (exp j a) | false=>.c ((exp j a).headD (.d (.c (.lit undef))))
def mkM(j:Nat)(st:Bool)(v:TV):Option (TT j):=match st,v with
 |true,.agg xs=>mkT j xs
 |false,.c x=>mkT j [x]
 |_,_=>none
def Ly(ok:Bool)(v:TV)(e:Bool):TV:=match ok with
 |true=>.aS [teT v,(false,[.d (.c (.lit (.bool e)))])]
 |false=>v
def M_:List Nat->Nat->(Nat->Option R)->Option R
 |[],_,_=>none
 |g::gs,n,f=>cond (Nat.beq n g) (f g) (M_ gs n f)
def splC:(cs:List CC)->aS cs->(List TC->Option R)->Option R
 |[],_,k=>k []
 |.fk gs::cs,x,k=>M_ gs x.1 λg=>splC cs x.2 λl=>k (.d (.c (.fn (.func g) [] []))::l)
 |c::cs,x,k=>splC cs x.2 λl=>k (rT c x.1::l)
def lkS(b j:Nat)(st:Bool)(a:TT j)(k:TV->Option R):Option R:=match Nat.beq b 1000005,st with
 |true,true=>splC (Y.fl j) (Y.prj j a) λd=>k (.agg d)
 |_,_=>k (mpV j st a)
def gE(P:Program)(S:sV)(e:Nat)(o:lm)(rd:aP->Option TV)(σ:TH)(k:KO R):Option R:=
 match o with
 |.Ba x=>match rd x with | some v=>k v σ false [] | none=>none
 |.gen op ty=>genT P op ty rd σ k
 |.box x => match rd x with
  |some v => match fq v with
   |some h=>k (.c (.d (.ptr σ.length 0 h.length))) (σ++[.cells 0 (h.map λc=>(0,c))]) false []
   |none=>none
  |none=>none
 |.alloc z => match D.low.cV 0 z with
  |true=>k (.c (.d (.ptr σ.length 0 z.length))) (σ++[.cells 0 (z.map λc=>(0,.d c))]) false []
  |false=>none
 |.build z N => match D.low.cV 0 z, Er rd (z.map .d) N with
  |true,some h=>k (.agg h) σ false []
  |_,_=>none
 |.js p len z N => match Nat.beq e 1000001 with
  |true => match D.low.cV 0 z, Er rd ((uf len z).map .d) N with
   |true, some h => match Td h with
    |true=>k (.c (.d (.sl σ.length 0 len p h.length))) (σ++[.cells 0 (h.map λc=>(0,c))]) false []
    |false=>none
   |_,_=>none
  |false=>match Nat.beq p (aw e)&&D.low.cV 0 z,Er rd ((uf len z).map .d) N with
  |true, some h => match Hf e len h with
   |some l=>k (.c (.own e σ.length 0 len)) (σ++[.row e l 0 0]) false []
   |none=>none
  |_,_=>none
 |.load n a => match rd a with
  |some (.c (.d (.ptr b off sz))) => match σ[b]? with
   |some (.cells _ h) => match Nat.beq h.length sz, Bj n (h.map Prod.snd) off with
    |true,some v=>k v σ false []
    |_,_=>none
   |_=>none
  |some (.c (.fp i x off)) => match Bj n (exp i x) off with
   |some v=>k v σ false []
   |none=>none
  |some (.c (.op i b v _ _ x off)) => match σ[b]? with
   |some (.row _ _ _ F) => match Nat.beq F v, Bj n (exp i x) off with
    |true,some v=>k v σ false []
    |_,_=>none
   |_=>none
  |some (.c (.ap b off len sz i)) => match n, σ[b]? with
   |none, some (.cells _ h) => match Nat.beq h.length sz && Nat.ble (off + len) sz, ints .i64 (((h.map Prod.snd).drop off).take len) with
    |true,some l=>(aB l i).bind λa=>k (.c (.d (.c (.lit (.int .i64 a))))) σ false []
    |_,_=>none
   |_,_=>none
  |some (.c (.d (.c (.cK h off)))) => match n, NF h with
   |none,some l=>(aB l (off:Int)).bind λa=>k (.c (.d (.c (.lit (.int .i64 a))))) σ false []
   |_,_=>none
  |_=>none
 |.store n a x => match rd a, rd x with
  |some (.c (.d (.ptr b off sz))), some v => match σ[b]?, fq v with
   |some (.cells w h), some xs => match Nat.beq h.length sz && (Nat.beq xs.length n && Nat.ble (off + n) sz) with
    |true=>k (.aS []) (σ.set b (.cells (w+1) (tq h off (xs.map λx=>(w+1,x))))) false [b]
    |false=>none
   |_,_=>none
  |some (.c (.op i b v _ q a off)), some x => match σ[b]?, fq x with
   |some (.row j l A F), some xs => match Nat.beq F v && (Nat.beq xs.length n && Nat.ble (off + n) (aw i)), mkT i (tq (exp i a) off xs), fA (i := i) l with
    |true,some a',some l=>k (.aS []) (σ.set b (.row i (l.set q.toNat a') A (F+1))) false [b]
    |_,_,_=>none
   |_,_=>none
  |_,_=>none
 |.mT x => match rd x with
  |some (.c (.d (.ptr b off sz)))=>k (.c (.d (.ptr b off sz))) σ false []
  |some (.c (.d (.c (.fn (.func f) u v))))=>k (.c (.d (.c (.fn (.func f) u v)))) σ false []
  |some (.c (.d (.fn (.func f) u v)))=>k (.c (.d (.fn (.func f) u v))) σ false []
  |some (.c (.fp i a off))=>k (.c (.fp i a off)) σ false []
  |some (.c (.op i b v n q a off))=>k (.c (.op i b v n q a off)) σ false []
  |some (.c (.GX g xs))=>k (.c (.GX g xs)) σ false []
  |_=>none
 |.iZ W K x => match rd x with
  |some (.c (.d x)) => match isNil W x with
   |some true=>k (.c (.d (.c (.lit (.bool (!K)))))) σ false []
   |some false=>k (.c (.d (.c (.lit (.bool K))))) σ false []
   |none=>none
  |some (.c (.fp ..)) | some (.c (.op ..)) => match W with
   |0=>k (.c (.d (.c (.lit (.bool K))))) σ false []
   |_=>none
  |_=>none
 |.Ik off x => match rd x with
  |some (.c (.d (.ptr b o sz)))=>k (.c (.d (.ptr b (o+off) sz))) σ false []
  |some (.c (.fp i a o))=>k (.c (.fp i a (o+off))) σ false []
  |some (.c (.op i b v n q a o))=>k (.c (.op i b v n q a (o+off))) σ false []
  |_=>none
 |.idx p none x i => match rd x, rd i with
  |some (.c (.sl j l)), some G => match kR G, Nat.beq p (aw j) with
   |some q,true=>(aB l q).bind λa=>k (.c (.fp j a 0)) σ false []
   |_,_=>none
  |some (.c (.own j b v n)), some G => match kR G, Nat.beq p (aw j), σ[b]? with
   |some q, true, some (.row _ l A F) => match Nat.beq A v, fA (i := j) l with
    |true,some l=>(aB l q).bind λa=>k (.c (.op j b F n q a 0)) σ false []
    |_,_=>none
   |_,_,_=>none
  |some (.c (.d (.sl b off len T sz))), some G => match kR G, σ[b]? with
   |some q, some (.cells _ h) => match Nat.beq h.length sz && Nat.beq p T, Cz q len with
    |true,some j=>k (.c (.d (.ptr b (off+j * p) sz))) σ false []
    |_,_=>none
   |_,_=>none
  |_,_=>none
 |.idx p (some len) x (.k i) => match rd x, kR (HY i) with
  |some (.c (.d (.ptr b off sz))), some q => match Cz q len with
   |some j=>k (.c (.d (.ptr b (off+j * p) sz))) σ false []
   |none=>none
  |_,_=>none
 |.idx p (some len) x (.t i) => match rd x, rd (.t i) with
  |some (.c (.d (.ptr b off sz))), some G => match kR G, Nat.beq p 1, σ[b]? with
   |some q, true, some (.cells _ h) => match Nat.beq h.length sz && Nat.ble (off + len) sz, ints .i64 (((h.map Prod.snd).drop off).take len) with
    |true,some l=>(aB l q).bind λ_=>k (.c (.ap b off len sz q)) σ false []
    |_,_=>none
   |_,_,_=>none
  |some (.c (.d (.c (.V_ g)))), some G => match kR G, Nat.beq p 1, Ns (Gl.tab g) with
   |some q, true, some (z :: l) => match Nat.beq (z :: l).length len with
    |true=>(aB (z::l) q).bind λ_=>k (.c (.d (.c (.cK ((Gl.tab g).map .lit) (q.toNat * p))))) σ false []
    |false=>none
   |_,_,_=>none
  |_,_=>none
 |.Wf p x O X => match rd x with
  |some (.c (.sl j l))=>
   match Nat.beq p (aw j),(match O with | none=>some (.c (.d (I 0))) | some o=>rd o),(match X with | none=>some (.c (.d (I l.length))) | some o=>rd o) with
   |true, some u, some v => match kR u, kR v with
    |some u,some v=>(slice? l u v).bind λr=>k (.c (.sl j r)) σ false []
    |_,_=>none
   |_,_,_=>none
  |some (.c (.own j b Z n)) => match Nat.beq p (aw j), σ[b]? with
   |true, some (.row _ l A _) => match Nat.beq A Z, (match O with | none => some (.c (.d (I 0))) | some o => rd o), (match X with | none => some (.c (.d (I l.length))) | some o => rd o) with
    |true, some u, some v => match kR u, kR v with
     |some u,some v=>(slice? l u v).bind λ_=>k (.c (.os j b Z l.length u.toNat (v.toNat-u.toNat))) σ false []
     |_,_=>none
    |_,_,_=>none
   |_,_=>none
  |_=>none
 |.FK m x => match rd x with
  |some (.c (.fp i a off)) => match Nat.ble (off + m) (aw i), Ze e (((exp i a).drop off).take m) with
   |true,some l=>k (.c (.sl e l)) σ false []
   |_,_=>none
  |_=>none
 |.vq=>k (.c (.d (.mp σ.length))) (σ++[.mp (e / 2) (Nat.beq (e % 2) 1) [] 0]) false []
 |.lookup E zero m L ok => match E, rd m, rd L, zero.low 0 with
  |.int _, some (.c (.d (.mp b))), some M, true => match σ[b]?, kR M with
   |some (.mp j st l _),some x=>oel (cN l x) (k (Ly ok (HY zero) false) σ false []) (λa=>lkS e j st a λv=>k (Ly ok v true) σ false [])
   |_,_=>none
  |_,_,_,_=>none
 |.tH E m L x => match E, rd m, rd L, rd x with
  |.int _, some (.c (.d (.mp b))), some M, some v => match σ[b]?, kR M with
   |some (.mp j st l R_), some i => match mkM j st v with
    |some a=>k (.aS []) (σ.set b (.mp j st (jZ l i a) (R_+1))) false [b]
    |none=>none
   |_,_=>none
  |_,_,_,_=>none
 |.del E m L => match E, rd m, rd L with
  |.int _, some (.c (.d (.mp b))), some M => match σ[b]?, kR M with
   |some (.mp j st l R_),some i=>k (.aS []) (σ.set b (.mp j st (Ex l i) (R_+1))) false [b]
   |_,_=>none
  |_,_,_=>none
 |.len x => match rd x with
  |some (.c (.sl _ l))=>k (.c (.d (I l.length))) σ false []
  |some (.c (.d (.c (.lit (.slice none 0 0)))))=>k (.c (.d (I 0))) σ false []
  |some (.c (.own _ b v _)) => match σ[b]? with
   |some (.row _ l A _)=>match Nat.beq A v with | true=>k (.c (.d (I l.length))) σ false [] | false=>none
   |_=>none
  |some (.c (.d (.sl b _ len _ sz))) => match σ[b]? with
   |some (.cells _ h)=>match Nat.beq h.length sz with | true=>k (.c (.d (I len))) σ false [] | false=>none
   |_=>none
  |_=>none
 |.mk p t z l c => match Nat.beq p (aw e) && (Nat.ble t 1000 && D.low.cV 0 z), mkT e (z.map .d), rd l, rd c with
  |true, some z0, some u, some v => match kR u, kR v with
   |some u,some v=>(Cs z0 u v).bind λr=>k (.c (.own e σ.length 0 r.length)) (σ++[.row e r 0 0]) false []
   |_,_=>none
  |true, none, some (.c (.d (.c (.lit (.int .i64 (.ofNat 0)))))), some v => match kR v with
   |some v=>(mk0? v).bind λr=>k (.c (.own e σ.length 0 r.length)) (σ++[.row e r 0 0]) false []
   |none=>none
  |_,_,_,_=>none
 |.append p t s x => match rd s, rd x with
  |some (.c (.own i b v _)), some y => match σ[b]? with
   |some (.row _ l A F) => match Nat.beq A v && (Nat.beq p (aw i) && Nat.ble t 1000), fA (i := i) l, EU i σ y with
    |true,some l,some m=>(cA l m).bind λr=>k (.c (.own i b (A+1) r.length)) (σ.set b (.row i r (A+1) (F+1))) true [b]
    |_,_,_=>none
   |_=>none
  |some (.c (.d (.c (.lit (.slice none 0 0))))), some (.c (.own i b v q)) => match Nat.beq p (aw i) && Nat.ble t 1000, EU i σ (.c (.own i b v q)) with
   |true, some (a :: l) => match Nat.ble (a :: l).length 1000000 with
    |true=>k (.c (.own i σ.length 0 (a::l).length)) (σ++[.row i (a::l) 0 0]) false []
    |false=>none
   |_,_=>none
  |some (.c (.d (.c (.lit (.slice none 0 0))))), some (.c (.sl i l)) => match Nat.beq p (aw i) && Nat.ble t 1000 with
   |true=>(cA [] l).bind λr=>k (.c (.own i σ.length 0 r.length)) (σ++[.row i r 0 0]) false []
   |false=>none
  |_,_=>none
 |.copy p d s => match rd d, rd s with
  |some (.c (.own i b v _)), some y => match σ[b]? with
   |some (.row _ l A F) => match Nat.beq A v && Nat.beq p (aw i), fA (i := i) l, EU i σ y with
    |true,some l,some m=>k (.c (.d (I ((m.take l.length).length:Int)))) (σ.set b (.row i (cpL l m 0 l.length) A (F+1))) false [b]
    |_,_,_=>none
   |_=>none
  |some (.c (.os i b v _ O len)), some y => match σ[b]? with
   |some (.row _ l A F) => match Nat.beq A v && Nat.beq p (aw i), fA (i := i) l, EU i σ y with
    |true,some l,some m=>k (.c (.d (I ((m.take len).length:Int)))) (σ.set b (.row i (cpL l m O len) A (F+1))) false [b]
    |_,_,_=>none
   |_=>none
  |_,_=>none
 |.extract x i => match rd x with
  |some (.aS xs) => match xs[i]? with
   |some (true,h)=>k (.agg h) σ false []
   |some (false,[c])=>k (.c c) σ false []
   |_=>none
  |_=>none
 |.EL f first cap => match NV rd first, NV rd cap with
  |some a, some b => match fnaOf f a b with
   |some (g,h)=>k (.c (.GX g h)) σ false []
   |none => match a.mapM λv => (match v with | .c (.d x) => some x | _ => none), b.mapM λv => (match v with | .c (.d x) => some x | _ => none) with
    |some a,some b=>k (.c (.d (.fn f a b))) σ false []
    |_,_=>none
  |_,_=>none
 |.part off n x => match rd x with
  |some (.agg h) => match Bj n h off with
   |some v=>k v σ false []
   |none=>none
  |_=>none
 |.Db p len n x i => match rd x, rd i with
  |some (.agg h), some G => match i, kR G with
   |.k _, some q => match Cz q len with
    |some j => match Bj n h (j * p) with
     |some v=>k v σ false []
     |none=>none
    |none=>none
   |.t _, some q => match n, Nat.beq p 1 && Nat.beq h.length len, ints .i64 h with
    |none,true,some l=>(aB l q).bind λa=>k (.c (.d (.c (.lit (.int .i64 a))))) σ false []
    |_,_,_=>none
   |_,_=>none
  |_,_=>none
 |.call f args => match rd f, NV rd args with
  |some (.c (.d (.c (.fn (.func g) [] [])))), some U => match ZR g S with
   |some s => match zp s.ins U with
    |some a=>(s.f a).bind λr=>k (outT s.out r) σ false []
    |none => match s.out.all dm.gr && U.any yO, zp s.ins (U.map (fU σ)) with
     |true,some a=>(s.f a).bind λr=>k (outT s.out r) σ false []
     |_,_=>none
   |none=>none
  |_,_=>none
 |_=>none
def sQ:lm->Bool
 |.Ba _ | .build .. | .mT _ | .iZ .. | .Ik .. | .len _ | .extract .. | .part ..=>true
 |.load _ _=>true
 |.gen (.binOp o ..) _=>match o with | .quo | .rem | .shr=>false | _=>true
 |.gen (.unOp ..) _=>true
 |.gen (.convert ..) _=>true
 |.gen (.call _) _=>true
 |_=>false
inductive GR where
 |VJ
 |shut
 |sym (e:Bool) (p:Nat) (w:Bool)
 |spl (e:Bool) (p:Nat)
 |UC (t:Nat) (x:TV)
 |bad
def gdB(d:Kn)(a:Bool)(p:Nat):TV->GR
 |.c (.d (.c (.lit (.bool true))))=>if a then .VJ else .shut
 |.c (.d (.c (.lit (.bool false))))=>if a then .shut else .VJ
 |.c (.d (.aS []))=>.shut
 |.c (.b e) => match Bw p d with
  |some b=>if b == a then .VJ else .shut
  |none=>.sym e p a
 |_=>.bad
def gdC(a:Kn)(p:Nat):TV->GR
 |.c (.d (.c (.lit (.bool true))))=>.VJ
 |.c (.d (.c (.lit (.bool false))))=>.shut
 |.c (.b e) => match Bw p a with
  |some true=>.VJ
  |some false=>.shut
  |none=>.sym e p true
 |_=>.bad
def tGd(al:TA)(a:Kn):Option (Nat×Bool)->GR
 |none=>.VJ
 |some (t, want) => match iQ t al with
  |some (.v x,p)=>gdB a want p x
  |some (.g c w p x, _) => match Bw p a with
   |some b=>if b == w then .UC t x else .shut
   |none=>.spl c p
  |none=>.bad
def blkT(rd:aP->Option TV):lm->Option Nat
 |.load _ x => match rd x with
  |some (.c (.d (.ptr b _ _)))=>some b
  |some (.c (.op _ b ..))=>some b
  |some (.c (.ap b ..))=>some b
  |_=>none
 |_=>none
def hintOf(H:List (Nat×Nat)):Option Nat->Nat
 |none=>0
 |some t=>hk t H
where hk (t:Nat):List (Nat×Nat)->Nat
 |[]=>0
 |(s,i)::l=>match Nat.beq s t with | true=>i | false=>hk t l
abbrev KS(R:Type):=TA->TH->List d_->Option R
def Xs(a:Option Nat)(x:RV)(al:TA):TA:=match a with | some t=>(t,x)::al | none=>al
inductive Pl where
 |r (t:Nat) (c:dm)
 |w (b i:Nat)
 |h (b j:Nat) (c:CC)
 |m (b j:Nat) (st:Bool)
@[reducible] def Pl.dn:Pl->Type
 |.r _ c=>c.dn
 |.w _ i=>List (TT i)
 |.h _ _ c=>c.dn
 |.m _ j _=>List (Int×TT j)
@[reducible] def si:List Pl->Type
 |[]=>Unit
 |[p]=>p.dn
 |p::q::ps=>p.dn×si (q::ps)
structure JH where
 pl:List Pl
 hs:List (Nat×Nat):=[]
 os:List (Nat×Nat):=[]
 zs:List (Nat×Nat×Nat):=[]
def GJ:List (Nat×Nat)->TA->TH->Option (TA×TH)
  |[],a,σ=>some (a,σ)
  |(t,i)::os,a,σ=>match Nat.ble 1048576 t with
   |true=>match σ[(t-1048576) / 1024]? with
    |some (.cells w b) => match b[(t - 1048576) % 1024]? with
      |some (_,.d (.c (.lit (.slice none 0 0))))=>GJ os a (σ.set ((t-1048576) / 1024) (.cells (w+1) (b.set ((t-1048576) % 1024) (w+1,.own i σ.length 0 0)))++[.row i [] 0 0])
      |some (_,.own ..)=>GJ os a σ
      |_=>none
    |_=>none
   |false=>match Qe t a with
    |some (.v (.c (.d (.c (.lit (.slice none 0 0))))))=>GJ os ((t,.v (.c (.own i σ.length 0 0)))::a) (σ++[.row i [] 0 0])
    |some (.v (.c (.own ..)))=>GJ os a σ
    |_=>none
def NX{i j:Nat}(l:List (Int×TT j)):Option (List (Int×TT i)):=match decEq j i with | .isTrue h=>some (h▸l) | .isFalse _=>none
def mD(ps:List Pl)(b:Nat):Nat->List (Nat×TC)->List (Nat×TC)->Bool
 |_,[],[]=>true
 |j,(v,_)::xs,(w,_)::a=>(Nat.beq v w || ps.any λp=>match p with | .h d e _=>Nat.beq d b&&Nat.beq e j | _=>false)&&mD ps b (j+1) xs a
 |_,_,_=>false
def zx(ps:List Pl)(b:Nat):TB->TB->Bool
 |.cells _ xs,.cells _ d=>mD ps b 0 xs d
 |.row _ _ _ v,.row _ _ _ w=>Nat.beq v w || ps.any λp=>match p with | .w a _=>Nat.beq a b | _=>false
 |.mp _ _ _ v,.mp _ _ _ w=>Nat.beq v w || ps.any λp=>match p with | .m a _ _=>Nat.beq a b | _=>false
 |_,_=>false
def eI(ps:List Pl):Nat->TH->TH->Bool
 |_,[],_=>true
 |b,x::xs,y::a=>zx ps b x y&&eI ps (b+1) xs a
 |_,_::_,[]=>false
def Ow:List (Nat×Nat×Nat)->TH->TH
 |[],σ=>σ
 |(b, j, r) :: zs, σ => match σ[b]?, σ[r]? with
  |some (.cells w a),some (.row i l d _)=>Ow zs (σ.set b (.cells (w+1) (a.set j (w+1,.own i r d l.length))))
  |_,_=>Ow zs σ
def WG(n:Nat)(σ:TH)(zs:List (Nat×Nat×Nat)):Bool:=
 zs.all λz=>Nat.blt z.1 n&&(Nat.blt z.2.2 n&&match σ[z.1]?,σ[z.2.2]? with
  |some (.cells _ a), some (.row i _ b _) => match a[z.2.1]? with
   |some (_,.own d e v _)=>Nat.beq e z.2.2&&(Nat.beq v b&&Nat.beq d i)
   |_=>false
  |_,_=>false)
def MQ(zs:List (Nat×Nat×Nat)):List Pl:=zs.map λz=>.h z.1 z.2.1 .bool
inductive It where
 |cc (c:CC)
 |st (i:Nat)
 |fp (i:Nat)
 |ls (i:Nat)
 |ml (j:Nat)
 |cx
 deriving DecidableEq
@[reducible] def It.dn:It->Type
 |.cc c=>c.dn
 |.st i=>TT i
 |.fp i=>TT i
 |.ls i=>List (TT i)
 |.ml j=>List (Int×TT j)
 |.cx=>Int×Int
structure kJ where
 it:It
 v:it.dn
@[reducible] def dJ:List It->Type
 |[]=>Unit
 |[c]=>c.dn
 |c::d::a=>c.dn×dJ (d::a)
def ot(c:It)(d:kJ):Option c.dn:=match decEq d.it c with | .isTrue h=>some (h▸d.v) | .isFalse _=>none
def vA:(cs:List It)->List kJ->Option (dJ cs)
 |[],[]=>some ()
 |[c],[d]=>ot c d
 |c :: e :: cs, d :: ds => match ot c d, vA (e :: cs) ds with
  |some a,some b=>some (a,b)
  |_,_=>none
 |_,_=>none
def dR:(cs:List It)->dJ cs->List kJ
 |[],_=>[]
 |[c],x=>[⟨c,x⟩]
 |c::a::cs,x=>⟨c,x.1⟩::dR (a::cs) x.2
inductive CP where
 |c (c:CC)
 |cx
 |hd (b:Nat)
 |pt (b off sz:Nat)
 |mr (b:Nat)
 |fb (f b sz:Nat)
 |k (d:D)
inductive RO where
 |v (c:dm)
 |p (p:CP)
 |ag (ps:List CP)
inductive NB where
 |cells (ps:List CP)
 |row (i:Nat)
 |mp (j:Nat) (st:Bool)
inductive PC where
 |h (b j:Nat) (p:CP)
 |w (b i:Nat)
 |m (b j:Nat) (st:Bool)
inductive CT where
 |mk (out:List RO) (pl:List PC) (nb:List NB) (H:List (Nat×Nat)) (J:List (Nat×JH)) (C:List (Nat×List CT))
def CT.out:CT->List RO | .mk o _ _ _ _ _=>o
def CT.pl:CT->List PC | .mk _ p _ _ _ _=>p
def CT.nb:CT->List NB | .mk _ _ n _ _ _=>n
def CT.H:CT->List (Nat×Nat) | .mk _ _ _ h _ _=>h
def CT.J:CT->List (Nat×JH) | .mk _ _ _ _ j _=>j
def CT.C:CT->List (Nat×List CT) | .mk _ _ _ _ _ c=>c
def ctk(k:Nat):List (Nat×List CT)->Option (List CT)
 |[]=>none
 |(q,c)::l=>match Nat.beq q k with | true=>some c | false=>ctk k l
def CP.its:CP->List It
 |.c y=>[.cc y]
 |.cx=>[.cx]
 |_=>[]
def dm.it:dm->List It
 |.c x=>[.cc x]
 |.st i=>[.st i]
 |.fp i=>[.fp i]
 |.k _=>[]
def RO.its:RO->List It
 |.v y=>y.it
 |.p y=>y.its
 |.ag i=>i.flatMap CP.its
def NB.rts:NB->List It
 |.cells _=>[]
 |.row i=>[.ls i]
 |.mp j _=>[.ml j]
def NB.its:NB->List It
 |.cells i=>i.flatMap CP.its
 |_=>[]
def PC.rts:PC->List It
 |.h ..=>[]
 |.w _ i=>[.ls i]
 |.m _ j _=>[.ml j]
def PC.its:PC->List It
 |.h _ _ y=>y.its
 |_=>[]
def CT.items(ct:CT):List It:=ct.pl.flatMap PC.rts++(ct.nb.flatMap NB.rts++(ct.out.flatMap RO.its++(ct.pl.flatMap PC.its++ct.nb.flatMap NB.its)))
@[reducible] def qB:List CT->Type
 |[]=>Empty
 |[c]=>dJ c.items
 |c::d::a=>dJ c.items ⊕ qB (d::a)
def altK{R:Type}:(cs:List CT)->qB cs->((c:CT)->dJ c.items->Option R)->Option R
 |[],_,_=>none
 |[c],x,f=>f c x
 |c :: d :: cs, x, f => match x with
  |.inl a=>f c a
  |.inr b=>altK (d::cs) b f
structure MS where
 ρ:List (Nat×Nat)
 fz:List Nat
 rw:List kJ
 cl:List kJ
def qf(b:Nat):List (Nat×Nat)->Option Nat
 |[]=>none
 |(q,o)::l=>match Nat.beq q b with | true=>some o | false=>qf b l
def Il(m b b':Nat)(s:MS):Option MS:=
 match Nat.blt b m with
 |true=>match Nat.beq b b' with | true=>some s | false=>none
 |false => match qf b s.ρ with
  |some o=>match Nat.beq o b' with | true=>some s | false=>none
  |none=>match Nat.ble m b' with | true=>some { s with ρ:=(b,b')::s.ρ } | false=>none
def eqK:D->D->Bool
 |.c (.lit (.pointer none)),.c (.lit (.pointer none))=>true
 |.c (.lit (.map none)),.c (.lit (.map none))=>true
 |.c (.lit .nilFunc),.c (.lit .nilFunc)=>true
 |.c (.lit (.slice none 0 0)),.c (.lit (.slice none 0 0))=>true
 |.c (.fn (.func f) [] []),.c (.fn (.func g) [] [])=>Nat.beq f g
 |.c (.lit (.int k a)),.c (.lit (.int d b))=>decide (k=d)&&decide (a=b)
 |_,_=>false
def mCP(m:Nat)(σ1:TH)(p:CP)(x:TC)(s:MS):Option MS:=
 match p,x with
 |.c c, .own i b v n => match DE c (Da σ1 (.own i b v n)) with
  |some a=>some { s with fz:=b::s.fz,cl:=s.cl++[⟨.cc c,a⟩] }
  |none=>none
 |.c c, x => match DE c x with
  |some a=>some { s with cl:=s.cl++[⟨.cc c,a⟩] }
  |none=>none
 |.cx,.cx u v=>some { s with cl:=s.cl++[⟨.cx,(u,v)⟩] }
 |.hd b, .own _ e v _ => match σ1[e]? with
  |some (.row _ _ j _)=>match Nat.beq j v with | true=>Il m b e s | false=>none
  |_=>none
 |.pt b off sz,.d (.ptr e h g)=>match Nat.beq off h&&Nat.beq sz g with | true=>Il m b e s | false=>none
 |.mr b,.d (.mp e)=>Il m b e s
 |.fb f b sz,.d (.fn (.func l) [] [.ptr e 0 g])=>match Nat.beq f l&&Nat.beq sz g with | true=>Il m b e s | false=>none
 |.k d,.d q=>match eqK d q with | true=>some s | false=>none
 |_,_=>none
def Nw(m:Nat)(σ1:TH):List CP->List TC->MS->Option MS
 |[],[],s=>some s
 |p :: ps, x :: xs, s => match mCP m σ1 p x s with
  |some s1=>Nw m σ1 ps xs s1
  |none=>none
 |_,_,_=>none
def ja:List TC->List Nat
 |[]=>[]
 |.own _ b _ _::xs=>b::ja xs
 |_::xs=>ja xs
def ownsV:TV->List Nat
 |.c x=>ja [x]
 |.agg a=>ja a
 |_=>[]
def mRO(m:Nat)(σ1:TH)(p:RO)(v:TV)(s:MS):Option MS:=
 match p,v with
 |.v (.c c),v=>match ry (.c c) (fU σ1 v) with | some a=>some { s with fz:=ownsV v++s.fz,cl:=s.cl++[⟨.cc c,a⟩] } | none=>none
 |.v (.st i),v=>match ry (.st i) (fU σ1 v) with | some a=>some { s with fz:=ownsV v++s.fz,cl:=s.cl++[⟨.st i,a⟩] } | none=>none
 |.v (.fp i),v=>match ry (.fp i) (fU σ1 v) with | some a=>some { s with cl:=s.cl++[⟨.fp i,a⟩] } | none=>none
 |.p p,.c x=>mCP m σ1 p x s
 |.ag ps,.agg xs=>Nw m σ1 ps xs s
 |_,_=>none
def KQ(m:Nat)(σ1:TH):List RO->List TV->MS->Option MS
 |[],[],s=>some s
 |p :: ps, x :: xs, s => match mRO m σ1 p x s with
  |some s1=>KQ m σ1 ps xs s1
  |none=>none
 |_,_,_=>none
def GF(m:Nat)(σ σ1:TH):List PC->MS->Option MS
 |[],s=>some s
 |.h b j p :: ps, s => match σ1[b]?, Nat.blt b m with
  |some (.cells _ e), true => match e[j]? with
   |some x => match mCP m σ1 p x.2 s with
    |some s1=>GF m σ σ1 ps s1
    |none=>none
   |none=>none
  |_,_=>none
 |.w b i :: ps, s => match σ1[b]?, Nat.blt b m with
  |some (.row _ l _ _), true => match fA (i := i) l with
   |some a=>GF m σ σ1 ps { s with rw:=s.rw++[⟨.ls i,a⟩] }
   |none=>none
  |_,_=>none
 |.m b j st :: ps, s => match σ1[b]?, Nat.blt b m with
  |some (.mp _ d l _), true => match st == d, NX (i := j) l with
   |true,some a=>GF m σ σ1 ps { s with rw:=s.rw++[⟨.ml j,a⟩] }
   |_,_=>none
  |_,_=>none
def DT(m:Nat)(σ1:TH):Nat->List NB->MS->Option MS
 |_,[],s=>some s
 |b, .cells ps :: d, s => match qf b s.ρ with
  |some e => match σ1[e]? with
   |some (.cells _ g) => match Nw m σ1 ps (g.map Prod.snd) s with
    |some s1=>DT m σ1 (b+1) d s1
    |none=>none
   |_=>none
  |none=>none
 |b, .row i :: d, s => match qf b s.ρ with
  |some e => match σ1[e]? with
   |some (.row _ l _ _) => match fA (i := i) l with
    |some a=>DT m σ1 (b+1) d { s with rw:=s.rw++[⟨.ls i,a⟩] }
    |none=>none
   |_=>none
  |none=>none
 |b, .mp j st :: d, s => match qf b s.ρ with
  |some e => match σ1[e]? with
   |some (.mp _ f l _) => match st == f, NX (i := j) l with
    |true,some a=>DT m σ1 (b+1) d { s with rw:=s.rw++[⟨.ml j,a⟩] }
    |_,_=>none
   |_=>none
  |none=>none
def PC.pl:PC->Pl
 |.h b j _=>.h b j .bool
 |.w b i=>.w b i
 |.m b j st=>.m b j st
def yI:List Nat->Bool
 |[]=>true
 |x::xs=>!(xs.any (Nat.beq x))&&yI xs
def Wr(ct:CT)(σ σ1:TH)(rs:List TV):Option (dJ ct.items):=
 match eI (ct.pl.map PC.pl) 0 σ σ1 with
 |false=>none
 |true => match KQ σ.length σ1 ct.out rs ⟨[], [], [], []⟩ with
  |none=>none
  |some s1 => match GF σ.length σ σ1 ct.pl s1 with
   |none=>none
   |some a => match DT σ.length σ1 σ.length ct.nb a with
    |none=>none
    |some s => match yI (s.ρ.map Prod.snd) && (s.fz.all (λb => Nat.ble σ.length b && !((s.ρ.map Prod.snd).any (Nat.beq b))) && s.ρ.all λp => Nat.blt p.1 (σ.length + ct.nb.length)) with
     |true=>vA ct.items (s.rw++s.cl)
     |false=>none
def UU(σ σ1:TH)(rs:List TV):(cs:List CT)->Option (qB cs)
 |[]=>none
 |[c]=>Wr c σ σ1 rs
 |c :: d :: cs => match Wr c σ σ1 rs with
  |some a=>some (.inl a)
  |none => match UU σ σ1 rs (d :: cs) with
   |some b=>some (.inr b)
   |none=>none
def cd(σ:TH):List PC->List kJ->Option (TH×List kJ)
 |[],ds=>some (σ,ds)
 |.h ..::ps,ds=>cd σ ps ds
 |.w b i :: ps, d :: ds => match ot (.ls i) d, σ[b]? with
  |some l, some (.row j _ a e) => match Nat.beq j i with
   |true=>cd (σ.set b (.row i l (a+1) (e+1))) ps ds
   |false=>none
  |_,_=>none
 |.m b j st :: ps, d :: ds => match ot (.ml j) d, σ[b]? with
  |some l,some (.mp _ _ _ v)=>cd (σ.set b (.mp j st l (v+1))) ps ds
  |_,_=>none
 |_,[]=>none
def dA:List NB->List kJ->Option (TH×List kJ)
 |[],ds=>some ([],ds)
 |.cells _::b,ds=>match dA b ds with | some (l,r)=>some (.cells 0 []::l,r) | none=>none
 |.row i::b,d::ds=>match ot (.ls i) d,dA b ds with | some a,some (l,r)=>some (.row i a 0 0::l,r) | _,_=>none
 |.mp j st::b,d::ds=>match ot (.ml j) d,dA b ds with | some a,some (l,r)=>some (.mp j st a 0::l,r) | _,_=>none
 |_,[]=>none
def wY(e:TH)(p:CP)(ds:List kJ):Option (TC×List kJ):=
 match p,ds with
 |.c c,d::ds=>match ot (.cc c) d with | some a=>some (rT c a,ds) | none=>none
 |.cx,d::ds=>match ot .cx d with | some a=>some (.cx a.1 a.2,ds) | none=>none
 |.hd b,ds=>match e[b]? with | some (.row i l g _)=>some (.own i b g l.length,ds) | _=>none
 |.pt b off sz,ds=>match Nat.blt b e.length with | true=>some (.d (.ptr b off sz),ds) | false=>none
 |.mr b,ds=>match Nat.blt b e.length with | true=>some (.d (.mp b),ds) | false=>none
 |.fb f b sz,ds=>match Nat.blt b e.length with | true=>some (.d (.fn (.func f) [] [.ptr b 0 sz]),ds) | false=>none
 |.k d,ds=>match d.low 0 with | true=>some (.d d,ds) | false=>none
 |_,_=>none
def AM(a:TH):List CP->List kJ->Option (List TC×List kJ)
 |[],ds=>some ([],ds)
 |p :: ps, ds => match wY a p ds with
  |some (x, b) => match AM a ps b with
   |some (xs,r)=>some (x::xs,r)
   |none=>none
  |none=>none
def zu(b:TH)(p:RO)(ds:List kJ):Option (TV×List kJ):=
 match p,ds with
 |.v (.c c),d::ds=>match ot (.cc c) d with | some a=>some (.c (rT c a),ds) | none=>none
 |.v (.st i),d::ds=>match ot (.st i) d with | some a=>some (.agg (exp i a),ds) | none=>none
 |.v (.fp i),d::ds=>match ot (.fp i) d with | some a=>some (.c (.fp i a 0),ds) | none=>none
 |.p p,ds=>match wY b p ds with | some (x,r)=>some (.c x,r) | none=>none
 |.ag ps,ds=>match AM b ps ds with | some (xs,r)=>some (.agg xs,r) | none=>none
 |_,_=>none
def kZ(a:TH):List RO->List kJ->Option (List TV×List kJ)
 |[],ds=>some ([],ds)
 |p :: ps, ds => match zu a p ds with
  |some (x, b) => match kZ a ps b with
   |some (xs,r)=>some (x::xs,r)
   |none=>none
  |none=>none
def dV(a:TH):List PC->TH->List kJ->Option (TH×List kJ)
 |[],σ,ds=>some (σ,ds)
 |.h b j p :: ps, σ, ds => match wY a p ds, σ[b]? with
  |some (x,r),some (.cells w d)=>dV a ps (σ.set b (.cells (w+1) (d.set j (w+1,x)))) r
  |_,_=>none
 |_::ps,σ,ds=>dV a ps σ ds
def dO(a:TH):List NB->TH->List kJ->Option TH
 |[],_,_=>some []
 |.cells ps :: d, _ :: bs, ds => match AM a ps ds with
  |some (xs, r) => match dO a d bs r with
   |some l=>some (.cells 0 (xs.map λx=>(0,x))::l)
   |none=>none
  |none=>none
 |_ :: d, b :: bs, ds => match dO a d bs ds with
  |some l=>some (b::l)
  |none=>none
 |_,_,_=>none
def mY(ct:CT)(σ:TH)(x:dJ ct.items):Option (List TV×TH):=
 match cd σ ct.pl (dR ct.items x) with
 |none=>none
 |some (iP, d1) => match dA ct.nb d1 with
  |none=>none
  |some (nb, d2) => match kZ (iP ++ nb) ct.out d2 with
   |none=>none
   |some (a, d3) => match dV (iP ++ nb) ct.pl iP d3 with
    |none=>none
    |some (aA, d4) => match dO (iP ++ nb) ct.nb nb d4 with
     |some l=>some (a,aA++l)
     |none=>none
def xw:List TV->TV
 |[v]=>v
 |a=>.aS (a.map teT)
def fnT:TV->Option (FuncId×List TV×List TV)
 |.c (.d (.c (.fn (.func g) a b)))=>some (g,a.map (λx=>HY (.c x)),b.map λx=>HY (.c x))
 |.c (.d (.fn (.func g) a b))=>some (g,a.map HY,b.map HY)
 |.c (.GX g xs)=>some (g,[.agg (xs.map cvT)],[])
 |_=>none
def PC.blk:PC->Nat
 |.h b _ _=>b
 |.w b _=>b
 |.m b _ _=>b
def PC.rs:PC->Bool
 |.w ..=>true
 |_=>false
def okT(al:TA):lm->Bool
 |.load _ (.t a)=>(iQ a al).isSome
 |_=>true
structure OF where
 P:Program
 S:sV
 H:List (Nat×Nat)
 J:List (Nat×JH)
 C:List (Nat×List CT)
 n:Nat
 N:Nat
 inl:(cs:List CT)->FuncId->List TV->TH->Option (qB cs)
 exa:CT->FuncId->List TV->TH->Option (List TV×TH)
 rs:List CT->FuncId->List TV->TH->List CT
def exOf:List CT->Option CT
 |[a] => match a.H with
  |(k,_)::_=>match Nat.beq k 1000002 with | true=>some a | false=>none
  |_=>none
 |_=>none
def jg(g:OF)(q:Nat)(o:aH):Option (List CT):=
 match g.C with
 |[]=>none
 |C => match o.op, o.dst with
  |.call _ _,some t=>ctk (q * 65536+t) C
  |_,_=>none
def altOf(g:OF)(q:Nat)(o:aH)(n b:Nat)(cs:List CT):List CT:=
 match o.dst with
 |some t => match ctk (q * 65536 + t + 1099511627776 * (n + 1)) g.C with
  |some a=>a
  |none => match ctk (q * 65536 + t + 1208925819614629174706176 * (b + 1)) g.C with
   |some a=>a
   |none=>cs
 |none=>cs
def Tj(o o':aH):Bool:=match o.dst,o'.dst with | some a,some b=>Nat.beq a b | _,_=>false
def AJ(g:OF)(q:Nat):List aH->Bool
 |[]=>true
 |o :: os => (match jg g q o with
  |some _=>!(os.any (Tj o))
  |none=>!(os.any λa=>Tj o a&&(jg g q a).isSome))&&AJ g q os
def Uw(g:OF)(q:Nat)(os:List aH):Bool:=match g.C with | []=>true | _=>AJ g q os
def Ck(a b:Nat)(k:Option R):Option R:=match Nat.beq a b with | true=>k | false=>none
def Em:TB->TB->Option R->Option R
 |.cells _ xs,.cells _ a,k=>Ck xs.length a.length k
 |.row i l _ _,.row j m _ _,k=>match Nat.beq i j with | true=>Ck l.length m.length k | false=>none
 |.mp ..,.mp ..,k=>k
 |_,_,_=>none
def Sw(σ σ1:TH):List Nat->Option R->Option R
 |[],k=>k
 |b::bs,k=>match σ[b]?,σ1[b]? with | some x,some y=>Em x y (Sw σ σ1 bs k) | _,_=>none
def iT(g:OF)(q:Nat):Nat->Nat->List aH->Kn->TA->TH->KS R->Option R
  |0,_,_,_,_,_,_=>none
  |_+1,_,[],_,i,σ,K=>K i σ []
  |l + 1, k, o :: os, kn, i, σ, K=>
    match (match o.dst with | some t=>Nat.blt t g.n | none=>true) with
    |false=>none
    |true=>
    match tGd i kn o.g with
    |.bad=>none
    |.UC t x=>iT g q l k (o::os) kn ((t,.v x)::i) σ K
    |.spl e p=>if e=true then iT g q l k (o::os) ((p,true)::kn) i σ K else iT g q l k (o::os) ((p,false)::kn) i σ K
    |.shut => match o.dst with
      |none=>none
      |some t => match okT i o.op with
        |false=>none
        |true=>iT g q l (k-1) os kn ((t,.v (.c (.d (.aS []))))::i) σ λd h j=>K d h (Fk o 0 none [] σ.length σ.length::j)
    |.sym e p w=>
      match sQ o.op,o.dst with
      |true, some t=>
        match gE (R:=TV) g.P g.S 0 o.op (Gr i kn (some (p,w))) σ λv _ _ _=>some v with
        |some v=>iT g q l (k-1) os kn ((t,.g e w p v)::i) σ λd h j=>K d h (Fk o (cat o.op) (blkT (Gr i kn (some (p,w))) o.op) [] σ.length σ.length::j)
        |none=>none
      |_,_=>if e=true then iT g q l k (o::os) ((p,true)::kn) i σ K else iT g q l k (o::os) ((p,false)::kn) i σ K
    |.VJ=>
      match jg g q o with
      |some s=>
        match o.op with
        |.call f args => match Gr i kn none f, NV (Gr i kn none) args with
          |some F, some A => match fnT F with
            |some (z,a,b)=>match g.rs (altOf g q o σ.length z s) z (a++A++b) σ with
             |s=>match exOf s with
              |some m=>(g.exa m z (a++A++b) σ).bind λp=>iT g q l (k-1) os kn (Xs o.dst (.v (xw p.1)) i) p.2 λd h j=>K d h (Fk o (cat o.op) none [] σ.length p.2.length::j)
              |none=>(g.inl s z (a++A++b) σ).bind λx=>altK s x λm x=>match mY m σ x with
              |some (E, σ1) => match Nat.beq k 0 || !(m.pl.any PC.rs) with
                |true=>iT g q l (k-1) os kn (Xs o.dst (.v (xw E)) i) σ1 λd h j=>K d h (Fk o (cat o.op) none (m.pl.map PC.blk) σ.length σ1.length::j)
                |false=>Sw σ σ1 (m.pl.map PC.blk) (iT g q l (k-1) os kn (Xs o.dst (.v (xw E)) i) σ1 λd h j=>K d h (Fk o (cat o.op) none (m.pl.map PC.blk) σ.length σ1.length::j))
              |none=>none
            |none=>none
          |_,_=>none
        |_=>none
      |none=>
      match o.op,o.dst with
      |.pick (.t c) x y, some t=>
        match iQ c i with
        |some (.v G, p)=>
          match gdC kn p G with
          |.VJ => match Gr i ((p, true) :: kn) none x with
            |some v=>iT g q l (k-1) os kn ((t,.v v)::i) σ λd h j=>K d h (Fk o (cat o.op) none [] σ.length σ.length::j)
            |none=>none
          |.shut => match Gr i ((p, false) :: kn) none y with
            |some v=>iT g q l (k-1) os kn ((t,.v v)::i) σ λd h j=>K d h (Fk o (cat o.op) none [] σ.length σ.length::j)
            |none=>none
          |.sym e p _ => match Gr i kn (some (p, true)) x, Gr i kn (some (p, false)) y with
            |some u, some v => match TQ u, TQ v with
              |some u,some v=>iT g q l (k-1) os kn ((t,.v (pkV e u v))::i) σ λd h j=>K d h (Fk o (cat o.op) none [] σ.length σ.length::j)
              |_,_=>none
            |_,_=>none
          |_=>none
        |_=>none
      |op,dst=>gE g.P g.S (hintOf g.H dst) op (Gr i kn none) σ λv σ1 rs wr=>
          match Nat.beq k 0 || !rs with
          |true=>iT g q l (k-1) os kn (Xs dst (.v v) i) σ1 λd h j=>K d h (Fk o (cat op) (blkT (Gr i kn none) op) wr σ.length σ1.length::j)
          |false=>none
def VW(al:TA)(σ:TH):(p:Pl)->Option p.dn
 |.r t c => match Qe t al with
  |some (.v x)=>ry c x
  |_=>none
 |.w b _ => match σ[b]? with
  |some (.row _ l _ _)=>fA l
  |_=>none
 |.h b j c => match σ[b]? with
  |some (.cells _ d) => match d[j]? with
   |some x=>DE c x.2
   |none=>none
  |_=>none
 |.m b _ st => match σ[b]? with
  |some (.mp _ a l _)=>match st == a with | true=>NX l | false=>none
  |_=>none
def LW(al:TA)(σ:TH):(ps:List Pl)->Option (si ps)
 |[]=>some ()
 |[p]=>VW al σ p
 |p :: q :: ps => match VW al σ p, LW al σ (q :: ps) with
  |some a,some b=>some (a,b)
  |_,_=>none
def WJ(p:Pl)(x:p.dn)(al:TA):TA:=
 match p,x with
 |.r t c,x=>(t,.v (c.tv x))::al
 |_,_=>al
def Hk:(ps:List Pl)->si ps->TA->TA
 |[],_,a=>a
 |[p],x,a=>WJ p x a
 |p::q::ps,x,a=>WJ p x.1 (Hk (q::ps) x.2 a)
def UH(p:Pl)(x:p.dn)(σ:TH):TH:=
 match p,x with
 |.w b i, x => match σ[b]? with
  |some (.row _ _ a d)=>σ.set b (.row i x (a+1) (d+1))
  |_=>σ
 |.h b j c, x => match σ[b]? with
  |some (.cells w e)=>σ.set b (.cells (w+1) (e.set j (w+1,rT c x)))
  |_=>σ
 |.m b j st, x => match σ[b]? with
  |some (.mp _ _ _ v)=>σ.set b (.mp j st x (v+1))
  |_=>σ
 |_,_=>σ
def sN:(ps:List Pl)->si ps->TH->TH
 |[],_,σ=>σ
 |[p],x,σ=>UH p x σ
 |p::q::ps,x,σ=>UH p x.1 (sN (q::ps) x.2 σ)
def Qt(σ:TH):List (Nat×Nat)->TA->TA
 |[],a=>a
 |(t, b) :: hs, a => match σ[b]? with
  |some (.row i l d _)=>(t,.v (.c (.own i b d l.length)))::Qt σ hs a
  |_=>Qt σ hs a
def IA(md:List Nat)(al:TA):TA:=(md.filter λt=>(Qe t al).isSome).map (λt=>(t,.v (.c .any)))++al
def dQ:aR->List Nat
 |.Dc d=>d.filterMap (·.dst)
 |.GZ d _ _ _=>d.filterMap (·.dst)
 |.seq a b=>dQ a++dQ b
 |.cond _ a b=>dQ a++dQ b
 |.block _ b=>dQ b
 |.loop b=>dQ b
 |.We _ a r=>dQ a++dQ r
 |_=>[]
def Zc(al:TA)(σ:TH)(hs:List (Nat×Nat)):Bool:=
 hs.all λ(t,b)=>match Qe t al,σ[b]? with
  |some (.v (.c (.own i a v _))),some (.row j _ d _)=>Nat.beq a b&&(Nat.beq v d&&Nat.beq i j)
  |_,_=>false
def rowAt(σ:TH)(b:Nat):Bool:=match σ[b]? with | some (.row ..)=>true | _=>false
def Jr(hs:List (Nat×Nat))(md:List Nat)(al:TA)(σ:TH)(a:TA):Bool:=(a.take (a.length-al.length)).all λp=>md.any (Nat.beq p.1) || hs.any λz=>Nat.beq z.1 p.1&&rowAt σ z.2
def Py(h:JH)(md:List Nat)(al:TA)(σ:TH)(a:TA)(σ1:TH):Option (si h.pl):=
 match Jr h.hs md al σ a&&(eI (h.pl++MQ h.zs) 0 σ σ1&&(Zc a σ1 h.hs&&WG σ.length σ1 h.zs)) with
 |true=>LW a σ1 h.pl
 |false=>none
def C_(m:Nat)(σ:TH):TC->TC
 |.own i b v n => match Nat.blt b m with
  |true=>.own i b v n
  |false => match σ[b]? with
   |some (.row j l e _)=>match Nat.beq e v with | true=>.sl j l | false=>.any
   |_=>.any
 |.op i b v n k a o=>match Nat.blt b m with | true=>.op i b v n k a o | false=>.any
 |.ap b off len sz k=>match Nat.blt b m with | true=>.ap b off len sz k | false=>.any
 |.os i b v n f len=>match Nat.blt b m with | true=>.os i b v n f len | false=>.any
 |.d x=>match x.low m with | true=>.d x | false=>.any
 |.GX g d=>match d.all (CV.low m) with | true=>.GX g d | false=>.any
 |x=>x
def CG(m:Nat)(σ:TH):RV->RV
 |.v (.c x)=>.v (.c (C_ m σ x))
 |.v (.agg xs)=>.v (.agg (xs.map (C_ m σ)))
 |_=>.v (.c .any)
def frzA(m:Nat)(σ:TH):Nat->TA->TA
 |0,a=>a
 |_+1,[]=>[]
 |k+1,(t,x)::a=>(t,CG m σ x)::frzA m σ k a
def okC(m:Nat):TC->Bool
 |.own _ b _ _=>Nat.blt b m
 |.op _ b _ _ _ _ _=>Nat.blt b m
 |.ap b _ _ _ _=>Nat.blt b m
 |.os _ b _ _ _ _=>Nat.blt b m
 |.d x=>x.low m
 |.GX _ a=>a.all (CV.low m)
 |_=>true
def okB(m:Nat):TB->Bool
 |.cells _ a=>a.all λp=>okC m p.2
 |_=>true
def Gk(h:JH)(md:List Nat)(al:TA)(σ:TH)(a:TA)(σ1:TH):Option (si h.pl):=
 match (σ1.take σ.length).all (okB σ.length) with
 |true=>Py h md al σ (frzA σ.length σ1 (a.length-al.length) a) (σ1.take σ.length)
 |false=>Py h md al σ a σ1
def cR(h:JH)(md:List Nat)(al:TA)(σ:TH)(x:si h.pl):TH:=Ow h.zs (sN h.pl x σ)
def dX(h:JH)(md:List Nat)(al:TA)(σ:TH)(x:si h.pl):TA:=Hk h.pl x (Qt (sN h.pl x σ) h.hs (IA md al))
def nrC(t:Nat):TC->Bool
 |.own _ b _ _=>!Nat.beq b t
 |.op _ b _ _ _ _ _=>!Nat.beq b t
 |.ap b _ _ _ _=>!Nat.beq b t
 |.os _ b _ _ _ _=>!Nat.beq b t
 |.d x=>x.low t
 |.GX _ a=>a.all (CV.low t)
 |_=>true
def nrV(t:Nat):TV->Bool
 |.c x=>nrC t x
 |.agg a=>a.all (nrC t)
 |.aS a=>a.all λp=>p.2.all (nrC t)
def nrR(t:Nat):RV->Bool
 |.v x=>nrV t x
 |.g _ _ _ x=>nrV t x
def cutC(t:Nat)(x:TC):TC:=match nrC t x with | true=>x | false=>.any
def cutR(t:Nat):RV->RV
 |.v (.c x)=>.v (.c (cutC t x))
 |.v (.agg xs)=>.v (.agg (xs.map (cutC t)))
 |_=>.v (.c .any)
def cutP(t w:Nat)(p:Nat×TC):Nat×TC:=match nrC t p.2 with | true=>p | false=>(w+1,.any)
def cutB(t:Nat):TB->TB
 |.cells w a=>.cells (w+1) (a.map (cutP t w))
 |x=>x
def dflC:(c:CC)->c.dn
 |.int _=>(0:Int)
 |.bool=>false
 |.str=>ByteArray.empty
 |.sl _=>[]
 |.fk _=>0
def dflT:(cs:List CC)->aS cs
 |[]=>()
 |c::cs=>(dflC c,dflT cs)
def PG(i:Nat):TT i:=Y.mkt i (dflT (Y.fl i))
def mvA(n t b j:Nat)(al:TA)(σ:TH):Option (TA×TH):=
 match σ[b]? with
 |some (.cells w a) => match a[j]? with
  |some (_, .own _ r v _) => match Nat.beq r t with
   |true=>some (al,σ)
   |false => match σ[r]?, σ[t]? with
    |some (.row i1 l d e), some (.row i2 _ lt f) => match Nat.beq v d && (Nat.beq i2 i1 && (al.drop n).all λp => nrR t p.2) with
     |true => some ((al.take n).map (λp => (p.1, cutR t p.2)) ++ al.drop n,
      (((σ.map (cutB t)).set t (.row i1 l (lt+1) (f+1))).set r (.row i1 (l++[PG i1]) (d+1) (e+1))).set b (.cells (w+2) ((a.map (cutP t w)).set j (w+2,.own i1 t (lt+1) l.length))))
     |false=>none
    |_,_=>none
  |_=>none
 |_=>none
def mvL(n:Nat):List (Nat×Nat×Nat)->TA->TH->Option (TA×TH)
 |[],a,σ=>some (a,σ)
 |(b, j, t) :: zs, a, σ => match mvA n t b j a σ with
  |some (a,σ)=>mvL n zs a σ
  |none=>none
def mvE:List (Nat×Nat×Nat)->TA->TH->Option (TA×TH)
 |[],a,σ=>some (a,σ)
 |(b, j, t) :: zs, a, σ => match Nat.beq t σ.length, σ[b]? with
  |true, some (.cells _ d) => match d[j]? with
   |some (_, .own i _ _ _) => match mvA 0 t b j a (σ ++ [.row i [] 0 0]) with
    |some (a,σ)=>mvE zs a σ
    |none=>none
   |_=>none
  |_,_=>none
def mvs(m:Nat)(zs:List (Nat×Nat×Nat)):List (Nat×Nat×Nat):=zs.filter λz=>Nat.ble m z.2.2
def jn{X:Type}(r:X->Option R)(b:(X->Option R)->Option R):Option R:=b r
def bC{X:Type}(b:(X->Option R)->X->Option R):Nat->X->Option R
 |0,_=>none
 |n+1,x=>b (bC b n) x
def jhk(p:Nat):List (Nat×JH)->Option JH
 |[]=>none
 |(q,h)::l=>match Nat.beq q p with | true=>some h | false=>jhk p l
def jhl(p n:Nat)(J:List (Nat×JH)):Option JH:=match jhk (p+1099511627776 * (n+1)) J with
 |some h=>some h
 |none=>jhk p J
abbrev KC(R:Type):=mS->TA->TH->Option R
def isApp(os:List aH):Bool:=(os.any λo=>match o.op with | .append ..=>true | _=>false)&&os.any λo=>match o.op with | .tH ..=>true | _=>false
def rsCall(g:OF)(q:Nat)(os:List aH):Bool:=match g.C with
 |[]=>false
 |_ => os.any λo => match jg g q o with
  |some b=>b.any λa=>a.pl.any PC.rs || a.H.any λp=>Nat.beq p.1 1000005
  |none=>false
def lpU{X:Type}(b:(TA->TH->Option X)->TA->TH->Option X):Nat->TA->TH->Option X
 |0,_,_=>none
 |n+1,a,σ=>b (lpU b n) a σ
def capOk(a:Nat)(ps:List Pl):Bool:=ps.all λp=>match p with | .h b _ _=>!Nat.beq b a | _=>true
def itF{X:Type}(i:Nat)(l:List (TT i))(s:bD)(k:(j:Nat)->List (TT j)->Option X):Option X:=match s with
 | ⟨[.c (.sl a)], [.c (.sl j)], f⟩ => match fA (i := a) l with
  |some l=>(f (l,())).bind λr=>k j r
  |none=>none
 |_=>none
def lpR{T X:Type}(b:T->X->(X->Option R)->Option R)(k:X->Option R):List T->X->Option R
 |[],x=>k x
 |a::l,x=>b a x (lpR b k l)
def ZC:List (Nat×Nat)->TA->TH->Option (TA×TH)
 |[],a,σ=>some (a,σ)
 |(t, _) :: os, a, σ => match Qe t a with
  |some (.v (.c (.own _ b v _))) => match σ[b]? with
   |some (.row j l d e) => match Nat.beq d v with
    |true=>ZC os ((t,.v (.c (.sl j l)))::a) (σ.set b (.row j (l++[PG j]) (d+1) (e+1)))
    |false=>none
   |_=>none
  |_=>none
def XD:List (Nat×Nat)->TA->TH->(TA->Option R)->Option R
 |[],a,_,k=>k a
 |(t, _) :: hs, a, σ, k => match Qe t a with
  |some (.v (.c (.own i b _ n))) => match σ[b]? with
   |some (.row j l d _) => match Nat.beq j i with
    |true=>Ck n l.length (XD hs ((t,.v (.c (.own j b d l.length)))::a) σ k)
    |false=>none
   |_=>none
  |_=>none
def unrOf(h:JH):Option Nat:=match h.os with
 |[(k,n)]=>match Nat.beq k 1000003 with | true=>some n | false=>none
 |_=>none
def tC(g:OF):aR->Nat->TA->TH->KC R->Option R
 |.skip,_,d,σ,K=>K .normal d σ
 |.Dc os, q, d, σ, K => match jhl q σ.length g.J with
  |none => match Uw g q os with
   |true=>iT g q 1000 0 os [] d σ λm t _=>K .normal m t
   |false=>none
  |some h => match ZC h.os d σ, Uw g q os with
   |some (d,σ),true=>iT g q 1000 0 os [] d σ λm t _=>XD h.hs m t λm=>K .normal m t
   |_,_=>none
 |.GZ os u k p, q, d, σ, K=>
  match Uw g q os with
  |false=>none
  |true=>
  match isApp os with
  |true=>iT g q 1000 os.length os [] d σ λm t v=>match e_ u v&&np u p os.length os.length&&Nat.ble p os.length with | true=>K .normal m t | false=>none
  |false => match Rq os u with
   |some (pi, _, G) => match Uw g q (pB pi os) with
    |true=>iT g q 1000 G (pB pi os) [] d σ λm t v=>match Pr u pi v with | true=>K .normal m t | false=>none
    |false=>none
   |none=>match rsCall g q os&&np u p (Wa os) os.length with
   |true=>iT g q 1000 (Wa os) os [] d σ λm t v=>match e_ u v&&np u p (Wa os) os.length&&Nat.ble p (Wa os) with | true=>K .normal m t | false=>none
   |false=>iT g q 1000 k os [] d σ λm t v=>match e_ u v&&np u p k os.length&&Nat.ble p k with | true=>K .normal m t | false=>none
 |.seq a b, q, d, σ, K=>
  match jhl q σ.length g.J with
  |none => tC g a (2 * q) d σ λx f σ1 => match x with
   |.normal=>tC g b (2 * q+1) f σ1 K
   |x=>K x f σ1
  |some h => match GJ h.os d σ with
   |none=>none
   |some (d, σ) => jn (λx => tC g b (2 * q + 1) (dX h (dQ a) d σ x) (cR h (dQ a) d σ x) K) λj=>
    tC g a (2 * q) d σ λx f σ1=>match x with
     |.normal=>match Gk h (dQ a) d σ f σ1 with | some x=>j x | none=>none
     |x=>K x f σ1
 |.cond c a b, q, d, σ, K=>
  match Gr d [] none c with
  |some (.c (.d (.c (.lit (.bool true)))))=>tC g a (2 * q) d σ K
  |some (.c (.d (.c (.lit (.bool false)))))=>tC g b (2 * q+1) d σ K
  |some (.c (.b e))=>if e=true then tC g a (2 * q) d σ K else tC g b (2 * q+1) d σ K
  |_=>none
 |.block id b, q, d, σ, K => tC g b (2 * q) d σ λx f σ1 => match x with
  |.exit i=>match Nat.beq i id with | true=>K .normal f σ1 | false=>K (.exit i) f σ1
  |x=>K x f σ1
 |.loop b, q, d, σ, K=>
  match jhl q σ.length g.J with
  |none=>none
  |some h => match unrOf h with
   |some n => lpU (λrec d σ => tC g b (2 * q) d σ λex f σ1 => match ex with
    |.normal=>rec f σ1
    |ex=>K ex f σ1) n d σ
   |none=>match GJ h.os d σ with
   |none=>none
   |some (d,σ)=>match mvs σ.length h.zs with
   |_::_=>none
   |[]=>match Py h (dQ b) d σ d σ with
   |none=>none
   |some w => bC (λrec x=>
    tC g b (2 * q) (dX h (dQ b) d σ x) (cR h (dQ b) d σ x) λex f σ1=>match ex with
     |.normal=>match Gk h (dQ b) (dX h (dQ b) d σ x) (cR h (dQ b) d σ x) f σ1 with | some z=>rec z | none=>none
     |ex=>K ex f σ1) g.N w
 |.exit id,_,d,σ,K=>K (.exit id) d σ
 |.ret,_,d,σ,K=>K .ret d σ
 |.lbl _,_,d,σ,K=>K .normal d σ
 |.We l a r, q, d, σ, K=>
  match jhl q σ.length g.J with
  |none => tC g a (2 * q) d σ λex f σ1 => match ex with
   |.exit i => match Nat.beq i (2 * l + 1) with
    |true => tC g r (2 * q + 1) f σ1 λex A E => match ex with
     |.exit i=>match Nat.beq (i % 2) 0 with | true=>K (.exit i) A E | false=>none
     |ex=>K ex A E
    |false=>match Nat.beq (i % 2) 0 with | true=>K (.exit i) f σ1 | false=>none
   |ex=>K ex f σ1
  |some h => tC g a (2 * q) d σ λex f σ1 => match ex with
   |.exit i => match Nat.beq i (2 * l + 1) with
    |true => match Gk h (dQ a ++ dQ r) d σ f σ1 with
     |none=>none
     |some w => bC (λrec x => tC g r (2 * q + 1) (dX h (dQ a ++ dQ r) d σ x) (cR h (dQ a ++ dQ r) d σ x) λex f σ1 => match ex with
      |.exit i => match Nat.beq i (2 * l + 1) with
       |true=>match Gk h (dQ a++dQ r) (dX h (dQ a++dQ r) d σ x) (cR h (dQ a++dQ r) d σ x) f σ1 with | some z=>rec z | none=>none
       |false=>match Nat.beq (i % 2) 0 with | true=>K (.exit i) f σ1 | false=>none
      |ex=>K ex f σ1) g.N w
    |false=>match Nat.beq (i % 2) 0 with | true=>K (.exit i) f σ1 | false=>none
   |ex=>K ex f σ1
 |.Wc o ps a b, q, d, σ, K=>
  match jhl q σ.length g.J with
  |none=>none
  |some h => match GJ h.os d σ with
   |none=>none
   |some (d, σ) => match Py h [] d σ d σ, ps with
    |some w, [p] => match Gr (dX h [] d σ w) [] none o with
     |some (.c (.d (.fn (.func gf) [] [.ptr F 0 1]))) => match σ[F]?, tsk (gf + 1048576) g.S, Nat.blt p g.n && (aV g.P gf && capOk F (h.pl ++ MQ h.zs)) with
      |some (.cells _ [(_,.sl i l)]),some s,true=>itF i l s λj items=>lpR (λy x rec=>tC g a (2 * q) ((p,.v (.agg (exp j y)))::dX h [] d σ x) (cR h [] d σ x) λex f σ1=>match ex with
        |.normal => tC g b (2 * q + 1) f σ1 λex _ E => match ex with
         |.normal=>match Gk h [] (dX h [] d σ x) (cR h [] d σ x) (dX h [] d σ x) E with | some z=>rec z | none=>none
         |ex=>K ex (dX h [] d σ x) E
        |_=>none) (λx=>K .normal (dX h [] d σ x) (cR h [] d σ x)) items w
      |_,_,_=>none
     |_=>none
    |_,_=>none
 |.stuck,_,_,_,_=>none
def Bs:Nat->List TV->TA
 |_,[]=>[]
 |i,d::ds=>(i,.v d)::Bs (i+1) ds
def Gq(al:TA)(σ:TH):Nat×Option (Option Nat)->Option TV
 |(t,none)=>match Qe t al with | some (.v x)=>some x | _=>none
 |(t, some n) => match Qe t al with
  |some (.v (.c (.d (.ptr b off sz)))) => match σ[b]? with
   |some (.cells _ a)=>match Nat.beq a.length sz with | true=>Bj n (a.map Prod.snd) off | false=>none
   |_=>none
  |_=>none
def xW(σ:TH):(cs:List dm)->List TV->Option (lL cs)
 |[],[]=>some ()
 |[c],[x]=>ry c (fU σ x)
 |c :: d :: cs, x :: xs => match ry c (fU σ x), xW σ (d :: cs) xs with
  |some a,some b=>some (a,b)
  |_,_=>none
 |_,_=>none
def GA{α d:Type}(f:α->Option d):List α->Option (List d)
 |[]=>some []
 |x :: xs => match f x, GA f xs with
  |some a,some b=>some (a::b)
  |_,_=>none
structure dr where
 AZ:CT
 QY:List CT
 f:dJ AZ.items->Option (qB QY)
abbrev ON:=List (Nat×dr)
def absS(a:CT)(σ:TH)(vs:List TV):Option (List (Nat×Nat)×dJ a.items):=
 match KQ 0 σ a.out vs ⟨[],[],[],[]⟩ with
 |none=>none
 |some s1 => match DT 0 σ 0 a.nb s1 with
  |none=>none
  |some s => match yI (s.ρ.map Prod.snd) && (s.fz.isEmpty && (a.pl.isEmpty && s.ρ.all λp => Nat.blt p.1 (0 + a.nb.length))) with
   |true => match vA a.items (s.rw ++ s.cl) with
    |some x=>some (s.ρ,x)
    |none=>none
   |false=>none
def yY:TC->Bool
 |.d (.c (.lit (.slice none 0 0)))=>true
 |_=>false
def Zs(σ:TH)(ρ:List (Nat×Nat)):Nat->TH->Bool
 |_,[]=>true
 |i, .cells _ a :: bs => (match σ[(qf i ρ).getD 0]? with
  |some (.cells _ xs)=>exC xs a
  |_=>false)&&Zs σ ρ (i+1) bs
 |i,_::bs=>Zs σ ρ (i+1) bs
where exC:List (Nat×TC)->List (Nat×TC)->Bool
 |(_,x)::xs,(_,y)::a=>(!(yY x) || yY y)&&exC xs a
 |_,_=>true
def Yr(n m:Nat)(ρ:List (Nat×Nat))(i:Nat):Nat:=match Nat.blt i n with | true=>(qf i ρ).getD 0 | false=>m+(i-n)
def eqVC:dm->dm->Bool
 |.c x,.c y=>decide (x=y)
 |.st i,.st j=>Nat.beq i j
 |.fp i,.fp j=>Nat.beq i j
 |.k g,.k h=>Nat.beq g h
 |_,_=>false
def rCP(ρ:Nat->Nat)(n:Nat):CP->CP->Bool
 |.c a,.c b=>decide (a=b)
 |.cx,.cx=>true
 |.hd b,.hd e=>Nat.beq (ρ b) e&&Nat.blt b n
 |.pt b o s,.pt e h g=>Nat.beq (ρ b) e&&(Nat.blt b n&&(Nat.beq o h&&Nat.beq s g))
 |.mr b,.mr e=>Nat.beq (ρ b) e&&Nat.blt b n
 |.fb f b s,.fb i e g=>Nat.beq (ρ b) e&&(Nat.blt b n&&(Nat.beq f i&&Nat.beq s g))
 |.k d,.k j=>eqK d j
 |_,_=>false
def Qq(ρ:Nat->Nat)(n:Nat):List CP->List CP->Bool
 |[],[]=>true
 |p::ps,q::qs=>rCP ρ n p q&&Qq ρ n ps qs
 |_,_=>false
def rRO(ρ:Nat->Nat)(n:Nat):RO->RO->Bool
 |.v a,.v b=>eqVC a b
 |.p a,.p b=>rCP ρ n a b
 |.ag a,.ag b=>Qq ρ n a b
 |_,_=>false
def Um(ρ:Nat->Nat)(n:Nat):List RO->List RO->Bool
 |[],[]=>true
 |p::ps,q::qs=>rRO ρ n p q&&Um ρ n ps qs
 |_,_=>false
def rPC(ρ:Nat->Nat)(m0 n:Nat):PC->PC->Bool
 |.h b j p,.h a d f=>Nat.beq (ρ b) a&&(Nat.blt b m0&&(Nat.beq j d&&rCP ρ n p f))
 |.w b i,.w a g=>Nat.beq (ρ b) a&&(Nat.blt b m0&&Nat.beq i g)
 |.m b j st,.m a d e=>Nat.beq (ρ b) a&&(Nat.blt b m0&&(Nat.beq j d&&st == e))
 |_,_=>false
def BJ(ρ:Nat->Nat)(m0 n:Nat):List PC->List PC->Bool
 |[],[]=>true
 |p::ps,q::qs=>rPC ρ m0 n p q&&BJ ρ m0 n ps qs
 |_,_=>false
def rNB(ρ:Nat->Nat)(n:Nat):NB->NB->Bool
 |.cells a,.cells b=>Qq ρ n a b
 |.row i,.row j=>Nat.beq i j
 |.mp j st,.mp e d=>Nat.beq j e&&st == d
 |_,_=>false
def AE(ρ:Nat->Nat)(n:Nat):List NB->List NB->Bool
 |[],[]=>true
 |p::ps,q::qs=>rNB ρ n p q&&AE ρ n ps qs
 |_,_=>false
def rCT(ρ:Nat->Nat)(m0:Nat)(a b:CT):Bool:=
 Um ρ (m0+a.nb.length) a.out b.out&&(BJ ρ m0 (m0+a.nb.length) a.pl b.pl&&AE ρ (m0+a.nb.length) a.nb b.nb)
def rCTs(ρ:Nat->Nat)(m0:Nat):List CT->List CT->Bool
 |[],[]=>true
 |a::as,b::bs=>rCT ρ m0 a b&&rCTs ρ m0 as bs
 |_,_=>false
theorem Jk:∀{a b:List CT},a.map CT.items=b.map CT.items->qB a=qB b:=by
 intro a;induction a with
 |nil=>simp_all
 |cons x a ih=>
  intro b h;cases b with
  |nil=>simp at h
  |cons y b=>
   simp only[ru,yBT] at h;cases a with
   |nil => cases b with
    |nil=>grind
    |cons _ _=>simp at h
   |cons d a => cases b with
    |nil=>simp at h
    |cons e b=>grind
def inlS(O:ON)(cs:List CT)(d:FuncId)(vs:List TV)(σ:TH):Option (qB cs):=
 match cs with
 |[]=>none
 |a :: cs => match a.H with
  |[(_, k)] => match O[k]? with
   |some (g, s) => match Nat.beq g d, absS s.AZ σ vs with
    |true, some (ρ, x) => match mY s.AZ [] x with
     |some (_, b) => match Zs σ ρ 0 b && rCTs (Yr s.AZ.nb.length σ.length ρ) s.AZ.nb.length s.QY (a :: cs) with
      |true => match decEq (s.QY.map CT.items) ((a :: cs).map CT.items) with
       |.isTrue h=>cast (Dr Option (Jk h)) (s.f x)
       |.isFalse _=>none
      |false=>none
     |none=>none
    |_,_=>none
   |none=>none
  |_=>none
abbrev EZ:=List CT->FuncId->List TV->TH->List CT
abbrev dj:=(a:List CT)->FuncId->List TV->TH->Option (qB a)
def SP(ρ:Nat->Nat):CP->CP
 |.hd b=>.hd (ρ b)
 |.pt b o s=>.pt (ρ b) o s
 |.mr b=>.mr (ρ b)
 |.fb f b s=>.fb f (ρ b) s
 |p=>p
def renRO(ρ:Nat->Nat):RO->RO
 |.p p=>.p (SP ρ p)
 |.ag a=>.ag (a.map (SP ρ))
 |o=>o
def renPC(ρ:Nat->Nat):PC->PC
 |.h b j p=>.h (ρ b) j (SP ρ p)
 |.w b i=>.w (ρ b) i
 |.m b j st=>.m (ρ b) j st
def renNB(ρ:Nat->Nat):NB->NB
 |.cells a=>.cells (a.map (SP ρ))
 |n=>n
def renCT(ρ:Nat->Nat)(H:List (Nat×Nat))(c:CT):CT:=.mk (c.out.map (renRO ρ)) (c.pl.map (renPC ρ)) (c.nb.map (renNB ρ)) H [] []
def resK(O:ON)(a:FuncId)(vs:List TV)(σ:TH):List (Nat×Nat)->List CT
 |[]=>[]
 |(q, k) :: H => match Nat.beq q 1000000, O[k]? with
  |true, some (g, s) => match Nat.beq g a, absS s.AZ σ vs with
   |true,some (ρ,_)=>s.QY.map (renCT (Yr s.AZ.nb.length σ.length ρ) [(1000000,k)])
   |_,_=>resK O a vs σ H
  |_,_=>resK O a vs σ H
def resO(O:ON):EZ:=λa b d σ=>match a with
 |[.mk [] [] [] (p :: H) [] []] => match Nat.beq p.1 1000000 with
  |true=>resK O b d σ (p::H)
  |false=>a
 |a=>a
def isOS(ct:CT):Bool:=match ct.H with
 |[(k,_)]=>Nat.beq k 1000000
 |_=>false
abbrev OI:=CT->FuncId->List TV->TH->Option (List TV×TH)
def Zb(n:Nat):TC->Bool
 |.d x=>x.low n
 |.b _=>true
 |.sl _ _=>true
 |.fp _ _ _=>true
 |.fl _=>true
 |.cx _ _=>true
 |_=>false
def exV(n:Nat):TV->Bool
 |.c x=>Zb n x
 |.agg a=>a.all (Zb n)
 |.aS _=>false
def sBlk(n:Nat):TB->Bool
 |.cells w a=>a.all λp=>Zb n p.2&&Nat.ble p.1 w
 |_=>false
def inl1(P:Program)(S:sV)(N:Nat)(B:dj)(i:EZ)(I:dj)(X:OI):dj:=λb g e σ=>
 match b with
 |[]=>none
 |a :: b=>
  match isOS a with
  |true=>B (a::b) g e σ
  |false=>
  match P.funcs[g]? with
  |some f => match iG P f true with
   |some d => match aV P g && Nat.ble e.length d.ntmps with
    |true => tC ⟨P, S, a.H, a.J, a.C, d.ntmps, N, I, X, i⟩ d.body 1 (Bs 0 e) σ λx h σ1 => match x with
     |.exit _=>none
     |_ => match GA (Gq h σ1) d.results with
      |some rs=>UU σ σ1 rs (a::b)
      |none=>none
    |false=>none
   |none=>none
  |none=>none
def ex1(P:Program)(S:sV)(N:Nat)(h:EZ)(I:dj)(X:OI):OI:=λb g e σ=>
 match P.funcs[g]? with
 |some f => match iG P f true with
  |some a => match aV P g && Nat.ble e.length a.ntmps with
   |true => (tC (R := List TV × TH) ⟨P, S, b.H, b.J, b.C, a.ntmps, N, I, X, h⟩ a.body 1 (Bs 0 e) σ λx d σ1 => match x with
    |.exit _=>none
    |_ => match GA (Gq d σ1) a.results with
     |some rs=>some (rs,σ1)
     |none => none).bind λp => match p.1.all (exV p.2.length) && (eI [] 0 σ p.2 && (p.2.drop σ.length).all (sBlk p.2.length)) with
      |true=>some (p.1,σ++p.2.drop σ.length)
      |false=>none
   |false=>none
  |none=>none
 |none=>none
def Rl(P:Program)(S:sV)(N:Nat)(B:dj)(a:EZ):Nat->dj×OI
 |0=>(λ_ _ _ _=>none,λ_ _ _ _=>none)
 |d+1=>(inl1 P S N B a (Rl P S N B a d).1 (Rl P S N B a d).2,ex1 P S N a (Rl P S N B a d).1 (Rl P S N B a d).2)
def tF(P:Program)(S:sV)(B:dj)(d:EZ)(H:List (Nat×Nat))(J:List (Nat×JH))(C:List (Nat×List CT))(e:Nat)(f:lh)(b out:List dm)(N:Nat)(a:tB b):Option (lL out):=
 tC ⟨P,S,H,J,C,f.ntmps,N,(Rl P S N B d e).1,(Rl P S N B d e).2,d⟩ f.body 1 (Bs 0 (tvV b a)) [] λx g σ=>
  match x with
  |.exit _=>none
  |_ => match GA (Gq g σ) f.results with
   |some rs=>xW σ out rs
   |none=>none
end
end Go.Abs
end
section
namespace Go.Abs
section
variable[Gl][Y:Ty]
def GC(σ:TH):TC->Prop
 |.own i c v n=>∃blk,σ[c]? = some blk/\∀j l b d,blk=.row j l b d->v<=b/\(v=b->j=i/\n=l.length)
 |.op i c v n k a _=>∃blk,σ[c]? = some blk/\∀j l b d,blk=.row j l b d->v<=d/\(v=d->∃m:List (TT i),fA l=some m/\n=m.length/\aB m k=some a)
 |.ap c _ _ _ _=>c<σ.length
 |.os i c v n e len=>∃blk,σ[c]? = some blk/\∀j l b d,blk=.row j l b d->v<=b/\(v=b->j=i/\n=l.length/\e+len<=n)
 |.d x=>x.low σ.length=true
 |.GX _ f=>f.all (CV.low σ.length)=true
 |_=>True
def GV(σ:TH):TV->Prop
 |.c x=>GC σ x
 |.agg a=>∀x∈a,GC σ x
 |.aS a=>∀p∈a,∀x∈p.2,GC σ x
structure RH (σ:TH) (σD:ar):Prop where
 len:σD.length=σ.length
 hp:∀(b:Nat) blk,σ[b]? = some blk->∃ob,σD[b]? = some ob/\RB blk ob
 hg:∀(b:Nat) w cs,σ[b]? = some (.cells w cs)->∀p∈cs,GC σ p.2/\p.1<=w
def BE:TB->TB->Prop
 |.cells w p,a=>∃w1 d,a=.cells w1 d/\w<=w1/\d.length=p.length/\∀(j:Nat) v x e q,p[j]? = some (v,x)->d[j]? = some (e,q)->(e=v/\q=x)∨w<e
 |.row i l h s,a=>∃g b f,a=.row i g b f/\h<=b/\s<=f/\(h=b->g.length=l.length)/\(s=f->g=l/\b=h)
 |.mp j st l v,a=>∃t m g e,a=.mp t m g e/\v<=e/\(v=e->a=.mp j st l v)
def Ext(σ σ1:TH):Prop:=∀(b:Nat) blk,σ[b]? = some blk->∃a,σ1[b]? = some a/\BE blk a
theorem BE.refl(blk:TB):BE blk blk:=by
 cases blk with
 |cells w s=>exact ⟨w,s,rfl,cX _,rfl,λj v x A E h F=>.inl (by simp_all)⟩
 |row i l u z=>exact ⟨l,u,z,rfl,cX _,cX _,λ_=>rfl,λ_=>⟨rfl,rfl⟩⟩
 |mp j st l v=>exact ⟨j,st,l,v,rfl,cX _,λ_=>rfl⟩
theorem Ext.refl(σ:TH):Ext σ σ:=λ_ blk h=>⟨blk,h,BE.refl blk⟩
theorem BE.trans{a b c:TB}(u:BE a b)(s:BE b c)(ha:∀w cs,a=.cells w cs->∀p∈cs,p.1<=w):BE a c:=by
 cases a with
 |cells w cs=>
  obtain ⟨w1,M,rfl,hw,hl,hc⟩:=u;obtain ⟨w2,z,rfl,O,U,W⟩:=s;refine ⟨w2,z,rfl,by omega,by omega,λj v x K x2 h s=>?_⟩
  grind
 |row i l lv cv=>
  obtain ⟨X,Z,aa,rfl,h3,h4,h5,h6⟩:=u;obtain ⟨A,E,F,rfl,h7,h8,h9,ab⟩:=s;refine ⟨A,E,F,rfl,by omega,by omega,λe=>?_,λe=>?_⟩
  ·omega
  grind
 |mp j st l v=>
  obtain ⟨j1,ad,X,v1,rfl,h3,h4⟩:=u;obtain ⟨j2,G,A,K,rfl,h5,h6⟩:=s;refine ⟨j2,G,A,K,rfl,by omega,λe=>?_⟩
  grind
theorem RH.R_{σ:TH}{σD:ar}(H:RH σ σD){b:Nat}{blk:TB}(h:σ[b]? = some blk):∀w cs,blk=.cells w cs->∀p∈cs,p.1<=w:=λw cs e p i=>by subst e;exact (H.hg b w cs h p i).2
theorem Ext.trans{σ σ1 s:TH}{σD:ar}(H:RH σ σD)(u:Ext σ σ1)(x:Ext σ1 s):Ext σ s:=λb blk h=>by obtain ⟨i,z,A⟩:=u b blk h;obtain ⟨j,E,F⟩:=x b i z;exact ⟨j,E,A.trans F (H.R_ h)⟩
theorem Ext.len{σ σ1:TH}(h:Ext σ σ1):σ.length<=σ1.length:=by
 rcases sO σ1.length σ.length with i | j
 ·obtain ⟨blk,s,_⟩:=h σ1.length _ (eS i)
  simp_all
 omega
theorem D.eJ{m m':Nat}(hm:m<=m'){d:D}(h:d.low m=true):d.low m'=true:=by
 have i:∀(k:Nat)(d:D),SizeOf.sizeOf d<k->d.low m=true->d.low m'=true:=by
  intro k;induction k with
  |zero=>omega
  |succ k ih=>
   have cV:∀(ds:List D),SizeOf.sizeOf ds<k+1->D.low.cV m ds=true->D.low.cV m' ds=true:=by
    intro ds;induction ds with
    |nil=>intro _ _;rfl
    |cons x ds j=>
     intro hs h;simp only[D.low.cV,bN,List.cons.sizeOf_spec] at h hs ⊢
     grind
   intro d hs h;cases d with
   |c x=>rfl
   |any=>rfl
   |ptr b o s=>simp only[D.low,bA] at h ⊢;omega
   |sl b o l e s=>simp only[D.low,bA] at h ⊢;omega
   |mp b=>simp only[D.low,bA] at h ⊢;omega
   |fn f a b=>
    simp only[D.low,bN,D.fn.sizeOf_spec] at h hs ⊢
    grind
   |agg ds=>grind [D.low]
   |aS ds=>grind [D.low]
 exact i (SizeOf.sizeOf d+1) d (Nat.lt_succ_self _) h
theorem CV.eJ{m m':Nat}(hm:m<=m'){xs:List CV}(h:xs.all (CV.low m)=true):xs.all (CV.low m')=true:=by
 rw[iR] at h ⊢;intro x j;have:=h x j;cases x with
 |d x=>exact D.eJ hm this
 |b e=>rfl
 |sl i l=>rfl
theorem Dt{m g:Nat}{xs:List CV}(h:xs.all (CV.low m)=true):(TC.GX g xs).er.low m=true:=by
 have:D.low.cV m (xs.map CV.er)=true:=by
  induction xs with
  |nil=>rfl
  |cons x xs ih=>
   simp only[List.all_cons,bN] at h;simp only[ru,D.low.cV,bN];refine ⟨?_,ih h.2⟩;cases x with
   |d x=>exact h.1
   |b e=>rfl
   |sl i l=>rfl
 grind [TC.er,D.low,D.low.cV]
theorem GC.mono{σ σ1:TH}(h:Ext σ σ1){x:TC}(z:GC σ x):GC σ1 x:=by
 cases x with
 |own i c v n=>
  obtain ⟨blk,A,X⟩:=z;obtain ⟨s,E,u⟩:=h c blk A;refine ⟨s,E,λj l Z cv e=>?_⟩;subst e;cases blk with
  |cells w cs=>obtain ⟨w1,F,e,_⟩:=u;simp at e
  |mp j st l v=>obtain ⟨j1,G,K,v1,e,_⟩:=u;simp at e
  |row j0 l0 M O=>
   obtain ⟨K,U,W,e,h5,h6,h7,h8⟩:=u
   grind
 |os i c v n lo len=>
  obtain ⟨blk,A,X⟩:=z;obtain ⟨s,E,u⟩:=h c blk A;refine ⟨s,E,λj l Z cv e=>?_⟩;subst e;cases blk with
  |cells w cs=>obtain ⟨w1,F,e,_⟩:=u;simp at e
  |mp j st l v=>obtain ⟨j1,G,K,v1,e,_⟩:=u;simp at e
  |row j0 l0 M O=>
   obtain ⟨K,U,W,e,h5,h6,h7,h8⟩:=u
   grind
 |op i c v n k a off=>
  obtain ⟨blk,A,X⟩:=z;obtain ⟨s,E,u⟩:=h c blk A;refine ⟨s,E,λj l Z cv e=>?_⟩;subst e;cases blk with
  |cells w cs=>obtain ⟨w1,F,e,_⟩:=u;simp at e
  |mp j st l v=>obtain ⟨j1,G,K,v1,e,_⟩:=u;simp at e
  |row j0 l0 M O=>
   obtain ⟨K,U,W,e,h5,h6,h7,h8⟩:=u
   grind
 |ap c off len sz k=>exact FY z h.len
 |d x=>exact D.eJ h.len z
 |GX g xs=>exact CV.eJ h.len z
 |_=>trivial
theorem GV.mono{σ σ1:TH}(h:Ext σ σ1){x:TV}(i:GV σ x):GV σ1 x:=by
 cases x with
 |c x=>exact GC.mono h i
 |agg s=>exact λx j=>GC.mono h (i x j)
 |aS s=>exact λp u x j=>GC.mono h (i p u x j)
theorem Ext.push(σ:TH)(blk:TB):Ext σ (σ++[blk]):=λb i h=>⟨i,by grind,BE.refl _⟩
theorem RH.push{σ:TH}{σD:ar}(H:RH σ σD){blk:TB}{ob:Ob}(h:RB blk ob)(hg:∀w cs,blk=.cells w cs->∀p∈cs,GC σ p.2/\p.1<=w):RH (σ++[blk]) (σD++[ob]):={
 len:=by simp[H.len]
 hp:=λb s i=>by
  rcases sO b σ.length with j | u
  ·rw[HA j] at i;rw[HA (by grind [RH.len])];exact H.hp b s i
  grind [RH.len]
 hg:=λb w cs i p hp=>by
  rcases sO b σ.length with j | u
  ·rw[HA j] at i;obtain ⟨x,z⟩:=H.hg b w cs i p hp;exact ⟨x.mono (Ext.push σ blk),z⟩
  ·rw[OG u] at i;have:b-σ.length=0:=by grind
   rw[this] at i;simp only[List.getElem?_cons_zero,au] at i;obtain ⟨x,z⟩:=hg w cs i p hp;exact ⟨x.mono (Ext.push σ blk),z⟩ }
theorem XJ{α:Type}{l:List α}{b b':Nat}{x y z:α}(h:l[b]? = some x)(a:(l.set b y)[b']? = some z):(b'=b/\z=y)∨(b'≠b/\l[b']? = some z):=by grind
theorem Hs{α:Type}{l:List α}{b:Nat}{x y:α}(h:l[b]? = some x):(l.set b y)[b]? = some y:=by grind
theorem eT{α:Type}{l:List α}{b b':Nat}{y:α}(h:b'≠b):(l.set b y)[b']? = l[b']?:=by grind
theorem Ext.set{σ:TH}{b:Nat}{blk i:TB}(h:σ[b]? = some blk)(s:BE blk i):Ext σ (σ.set b i):=λu j x=>by grind [BE.refl]
theorem RH.set{σ:TH}{σD:ar}(H:RH σ σD){b:Nat}{blk i:TB}{ob:Ob}(s:σ[b]? = some blk)(G:BE blk i)(h:RB i ob)(hg:∀w cs,i=.cells w cs->∀p∈cs,GC σ p.2/\p.1<=w):RH (σ.set b i) (σD.set b ob):={
 len:=by simp[H.len]
 hp:=λz u j=>by
  obtain ⟨K,M,_⟩:=H.hp b blk s;rcases XJ s j with ⟨rfl,rfl⟩ | ⟨x,A⟩
  ·grind
  ·rw[eT x];exact H.hp z u A
 hg:=λz w cs j p hp=>by
  rcases XJ s j with ⟨rfl,e⟩ | ⟨x,A⟩
  ·obtain ⟨E,F⟩:=hg w cs e.symm p hp;exact ⟨E.mono (Ext.set s G),F⟩
  ·obtain ⟨E,F⟩:=H.hg z w cs A p hp;exact ⟨E.mono (Ext.set s G),F⟩ }
def dy(σ:TH)(alD:AL)(rd:aP->Option TV):Prop:=∀x v,rd x=some v->∃d,lx alD x=some d/\RT v d/\GV σ v
def dq(P:Program)(orc:wK)(n:Nat)(alD:AL)(σ:TH)(σD:ar)(o:lm)(Q:TV->TH->Bool->List Nat->Prop):Prop:=
 ∃v σ1 rs wr d σD1,eQ P orc n alD σD o d σD1 wr/\RT v d/\GV σ1 v/\RH σ1 σD1/\Ext σ σ1/\(rs=false->jt σD σD1 wr=true)/\(sQ o=true->σ1=σ/\σD1=σD/\wr=[])/\Q v σ1 rs wr
variable{P:Program}{orc:wK}{n:Nat}{alD:AL}{σ σ1:TH}{σD σD1:ar}{o:lm}{Q:TV->TH->Bool->List Nat->Prop}
theorem dq.pure{v:TV}{d:D}(h:eQ P orc n alD σD o d σD [])(i:RT v d)(j:GV σ v)(H:RH σ σD)(q:Q v σ false []):dq P orc n alD σ σD o Q:=
 ⟨v,σ,false,[],d,σD,h,i,j,H,Ext.refl σ,λ_=>rfl,λ_=>⟨rfl,rfl,rfl⟩,q⟩
theorem dq.new{v:TV}{d:D}{blk:TB}{ob:Ob}(h:eQ P orc n alD σD o d (σD++[ob]) [])(i:RT v d)(j:GV (σ++[blk]) v)(H:RH σ σD)(s:RB blk ob)(u:∀w cs,blk=.cells w cs->∀p∈cs,GC σ p.2/\p.1<=w)
  (q:Q v (σ++[blk]) false []) (x:sQ o=false:=by rfl):dq P orc n alD σ σD o Q:=
 ⟨v,σ++[blk],false,[],d,σD++[ob],h,i,j,H.push s u,Ext.push σ blk,λ_=>rfl,λh=>by simp_all,q⟩
theorem RH.cells(H:RH σ σD){b w:Nat}{cs:List (Nat×TC)}(h:σ[b]? = some (.cells w cs)):∃ds,σD[b]? = some (.cells ds)/\aJ RC (cs.map Prod.snd) ds/\ds.length=cs.length/\ds=cs.map λp=>p.2.er:=by obtain ⟨j,i,rfl⟩:=H.hp b _ h;refine ⟨_,i,?_,by simp,rfl⟩;have:=aJ.er (cs.map Prod.snd);rw[Wd] at this;exact this
theorem RH.row(H:RH σ σD){b i j s:Nat}{l:List (TT i)}(h:σ[b]? = some (.row i l j s)):σD[b]? = some (OB (enc i) l):=by obtain ⟨z,u,x⟩:=H.hp b _ h;rw[u];exact Dr some x
theorem Pc{b sz:Nat}{ds:List D}(h:σD[b]? = some (.cells ds))(hs:ds.length=sz):od σD b sz=some ds:=by grind [od]
theorem zT{m:Option Nat}{cs:List TC}{ds:List D}{off:Nat}{v:TV}(h:Bj m cs off=some v)(a:aJ RC cs ds):∃d,uq m ds off=some d/\RT v d:=by
 cases m with
 |none=>
  simp only[Bj] at h;split at h
  ·rename_i x b;simp only[au] at h;subst h;obtain ⟨d,e,f⟩:=a.get _ _ b;exact ⟨d,e,f⟩
  simp_all
 |some m=>
  simp only[Bj] at h;split at h
  ·rename_i g;simp only[au] at h;subst h;have i:=CY g;refine ⟨.agg ((ds.drop off).take m),?_,_,rfl,(a.drop off).take m⟩;simp only[uq];rw[if_pos (by grind [aJ.len])]
  simp_all
theorem qK{m:Option Nat}{cs:List TC}{off:Nat}{v:TV}(h:Bj m cs off=some v)(b:∀x∈cs,GC σ x):GV σ v:=by
 cases m with
 |none=>
  simp only[Bj] at h;split at h
  ·rename_i x a;simp only[au] at h;subst h;exact b x (Bb a)
  simp_all
 |some m=>
  simp only[Bj] at h;split at h
  ·simp only[au] at h;subst h;exact λx a=>b x (yBb (OH a))
  simp_all
theorem wD(c:CC)(a:c.dn):GC σ (rT c a):=by cases c <;> first | exact True.intro | rfl
theorem Vc:∀(cs:List CC)(x:aS cs),∀y∈uO cs x,GC σ y:=by
 intro cs;induction cs with
 |nil=>grind [uO]
 |cons c cs ih=>grind [uO,wD]
theorem uT(i:Nat)(a:TT i):∀y∈exp i a,GC σ y:=Vc _ _
theorem Tx(i:Nat)(a:TT i):aJ RC (exp i a) ((enc i a).map .c):=by rw[<-vF];exact aJ.er _
theorem HL{x:TC}{d:D}(h:x.scalar=true)(r:RC x d):d.scalar=true/\d=x.er:=by
 rcases r with rfl | rfl
 ·grind [TC.scalar]
 ·refine ⟨?_,rfl⟩;cases x with
  |any=>grind [TC.scalar]
  |d x=>exact h
  |_=>rfl
theorem qS{v:TV}{d:D}{xs:List TC}(h:fq v=some xs)(r:RT v d):d.cells? = some (xs.map TC.er)/\aJ RC xs (xs.map TC.er)/\∀x∈xs,x≠.any:=by
 refine ⟨?_,aJ.er _,?_⟩
 ·cases v with
  |c x=>
   simp only[fq] at h;split at h
   ·rename_i hs;simp only[au] at h;subst h;obtain ⟨j,rfl⟩:=HL hs r;cases g:x.er with
    |agg l=>grind [D.scalar]
    |_=>grind [D.cells?]
   simp_all
  |agg a=>
   simp only[fq] at h;split at h
   ·rename_i hs;simp only[au] at h;subst h;obtain ⟨ds,rfl,i⟩:=r;rw[iR] at hs;have b:∀y∈a,y≠.any:=λy f e=>by grind [TC.scalar]
    rw[i.eq b];simp only[D.cells?];rw[if_pos];rw[iR];intro d hd;rw[gD] at hd;obtain ⟨y,f,rfl⟩:=hd;exact (HL (hs y f) (.inr rfl)).1
   simp_all
  |aS a=>grind [fq]
 ·intro x g e;subst e;cases v with
  |c y=>grind [fq,TC.scalar]
  |agg a=>grind [fq,TC.scalar]
  |aS a=>grind [fq]
theorem vS{v:TV}{xs:List TC}(h:fq v=some xs)(g:GV σ v):∀x∈xs,GC σ x:=by
 cases v with
 |c x=>
  simp only[fq] at h;split at h
  ·simp only[au] at h;subst h;intro y a;simp only[zi] at a;subst a;exact g
  simp_all
 |agg b=>
  simp only[fq] at h;split at h
  ·simp only[au] at h;subst h;exact g
  simp_all
 |aS b=>grind [fq]
theorem aJ.put{α j:Type}{R:α->j->Prop}{cs xs:List α}{ds i:List j}(h:aJ R cs ds)(s:aJ R xs i)(off:Nat):aJ R (tq cs off xs) (ds.take off++i++ds.drop (off+i.length)):=by unfold tq;rw[s.len];exact ((h.take off).app s).app (h.drop _)
theorem Oh{α:Type}{cs xs:List α}{off:Nat}{x:α}(h:x∈tq cs off xs):x∈cs∨x∈xs:=by grind [tq]
theorem FE{rd:aP->Option TV}(j:dy σ alD rd):∀{ps:List (Nat×Nat×aP)}{cs a:List TC}{ds:List D},Er rd cs ps=some a->aJ RC cs ds->(∀x∈cs,GC σ x)->∃b,Cd alD ds ps=some b/\aJ RC a b/\∀x∈a,GC σ x:=by
 intro ps;induction ps with
 |nil=>intro cs a ds h e i;simp only[Er,au] at h;subst h;exact ⟨ds,rfl,e,i⟩
 |cons p ps ih=>
  intro cs a ds h e i;obtain ⟨o,m,x⟩:=p;simp only[Er] at h;split at h
  ·rename_i v l;split at h
   ·rename_i A f;split at h
    ·rename_i g;obtain ⟨d,q,s,E⟩:=j x v l;obtain ⟨t,u,F⟩:=qS f s;simp only[bN] at g;have G:=cY g.1;have K:=CY g.2;obtain ⟨b,w,z⟩:=ih h (e.put u o) λy L=>by
      grind [Oh,vS]
     refine ⟨b,?_,z⟩;simp only[Cd,q,Option.bind_some,t];rw[if_neg (by grind [aJ.len])];exact w
    simp_all
   simp_all
  simp_all
end
end Go.Abs
end
section
namespace Go.Abs
open Go.Fl
theorem Ie{a b:Int}(d:a.natAbs<2 ^ 52)(f:b.natAbs<2 ^ 52):Op.Complex.arith .add .f64 (fl a) (fl b)=pure (fl (a+b)):=by
 have h:FloatKind.f64.format.add (fl a) (fl b)=some (fl (a+b)):=fl_add d f;have e:Op.floatArith .add .f64 (fl a) (fl b)=pure (.float .f64 (fl (a+b))):=by show (match FloatKind.f64.format.add (fl a) (fl b) with | some r=>(pure (.float .f64 r):Go.Sem Value) | none=>_)=_;rw[h]
 grind [Go.Op.Complex.arith]
theorem Ir{a b:Int}(d:a.natAbs<2 ^ 52)(f:b.natAbs<2 ^ 52):Op.Complex.arith .sub .f64 (fl a) (fl b)=pure (fl (a-b)):=by
 have h:FloatKind.f64.format.sub (fl a) (fl b)=some (fl (a-b)):=fl_sub d f;have e:Op.floatArith .sub .f64 (fl a) (fl b)=pure (.float .f64 (fl (a-b))):=by show (match FloatKind.f64.format.sub (fl a) (fl b) with | some r=>(pure (.float .f64 r):Go.Sem Value) | none=>_)=_;rw[h]
 grind [Go.Op.Complex.arith]
theorem vZ{a b:Int}(d:0<=a)(f:0<=b)(g:a.natAbs<2 ^ 53)(i:b.natAbs<2 ^ 53)(hm:(a * b).natAbs<2 ^ 53):Op.Complex.arith .mul .f64 (fl a) (fl b)=pure (fl (a * b)):=by
 have h:FloatKind.f64.format.mul (fl a) (fl b)=some (fl (a * b)):=fl_mul d f g i hm;have e:Op.floatArith .mul .f64 (fl a) (fl b)=pure (.float .f64 (fl (a * b))):=by show (match FloatKind.f64.format.mul (fl a) (fl b) with | some r=>(pure (.float .f64 r):Go.Sem Value) | none=>_)=_;rw[h]
 grind [Go.Op.Complex.arith]
theorem Mh{a b c d:Int}(e:a.natAbs<2 ^ 52)(f:b.natAbs<2 ^ 52)(g:c.natAbs<2 ^ 52)(hd:d.natAbs<2 ^ 52) :
  Op.complexOp .add .f64 (fl a) (fl b) (fl c) (fl d)=pure (.complex .f64 (fl (a+c)) (fl (b+d))):=by
 grind [Go.Op.complexOp,Ie]
theorem Lo{a b c d:Int}(e:a.natAbs<2 ^ 52)(f:b.natAbs<2 ^ 52)(g:c.natAbs<2 ^ 52)(hd:d.natAbs<2 ^ 52) :
  Op.complexOp .sub .f64 (fl a) (fl b) (fl c) (fl d)=pure (.complex .f64 (fl (a-c)) (fl (b-d))):=by
 grind [Go.Op.complexOp,Ir]
theorem prod_of{a b d e A B z:Nat}(p1:Op.Complex.arith .mul .f64 a d=pure A)(f:Op.Complex.arith .mul .f64 b e=pure z)(g:Op.Complex.arith .mul .f64 a e=pure z)(h:Op.Complex.arith .mul .f64 b d=pure B)
  (i:Op.Complex.arith .sub .f64 A z=pure A) (j:Op.Complex.arith .add .f64 z B=pure B):Op.Complex.product a b d e=pure (A,B):=by
 unfold Op.Complex.product Op.Complex.mul Op.Complex.sub Op.Complex.add
 simp_all
theorem cop_of{a b d g A B:Nat}(h:Op.Complex.product a b d g=pure (A,B)):Op.complexOp .mul .f64 a b d g=pure (.complex .f64 A B):=by unfold Op.complexOp;show (do let (e,f) <-Op.Complex.product a b d g;pure (.complex .f64 (<-Op.Complex.conv .f64 e .f64) (<-Op.Complex.conv .f64 f .f64)):Go.Sem Value)=_;rw[h];rfl
theorem Mm{a b n:Int}(e:0<=a)(f:0<=b)(d:0<=n)(j:a<=1048576)(l:b<=1048576)(g:n<=1048576) :
  Op.complexOp .mul .f64 (fl a) (fl b) (fl n) (fl 0)=pure (.complex .f64 (fl (a * n)) (fl (b * n))):=by
 have m1:0<=a * n/\a * n<=1048576 * 1048576:=⟨yBO e d,Int.mul_le_mul j g d (by omega)⟩;have m:0<=b * n/\b * n<=1048576 * 1048576:=⟨yBO f d,Int.mul_le_mul l g d (by omega)⟩;have z:(0:Int).natAbs<2 ^ 53:=by omega
 have i:(0:Int).natAbs<2 ^ 52:=by omega
 refine cop_of (prod_of (z:=fl 0) ?_ ?_ ?_ ?_ ?_ ?_)
 ·grind [vZ]
 ·have h:=vZ (a:=b) (b:=0) f (Jz _) (by omega) z (by omega)
  simp_all
 ·have h:=vZ (a:=a) (b:=0) e (Jz _) (by omega) z (by omega)
  simp_all
 ·grind [vZ]
 ·have h:=Ir (a:=a * n) (b:=0) (by omega) i
  simp_all
 ·have h:=Ie (a:=0) (b:=b * n) i (by omega)
  simp_all
theorem UW{n:Int}(h:n.natAbs<2 ^ 53):Conv.floatToInt .f64 (fl n) .i64=pure (.int .i64 n):=by
 unfold Conv.floatToInt;have e:(FloatKind.f64.decode (fl n)).toInt .zero=some n:=fl_int h;simp only[e];have a:IntKind.i64.min=-9223372036854775808:=rfl;have b:IntKind.i64.max=9223372036854775807:=rfl
 grind
end Go.Abs
end
section
namespace Go.Abs
section
variable[Gl][Y:Ty]
variable{P:Program}{orc:wK}{n:Nat}{alD:AL}{σ σ1:TH}{σD σD1:ar}{o:lm}{Q:TV->TH->Bool->List Nat->Prop}{rd:aP->Option TV}
theorem IK(a:dy σ alD rd){x:Operand}{v:TV}(h:xx rd x=some v):∃d,Bc alD x=some d/\RT v d/\GV σ v:=by
 unfold xx at h;split at h
 ·rename_i o b;obtain ⟨d,e,f⟩:=a o v h
  grind [Bc]
 simp_all
theorem rE{v:TV}{d:D}{a:Value}(h:PE v=some a)(r:RT v d):d.de = some a/\d=.c (.lit a):=by
 unfold PE at h;split at h
 ·simp only[au] at h;subst h;rcases r with r | rfl
  ·simp at r
  ·exact ⟨rfl,rfl⟩
 ·simp only[au] at h;subst h;rcases r with r | rfl
  ·simp at r
  ·exact ⟨rfl,rfl⟩
 simp_all
def flat:Value->Bool
 |.agg _ | .tuple _=>false
 |_=>true
theorem Th{v:Value}(h:flat v=true):RT (EY v) (dH v)/\GV σ (EY v):=by
 unfold EY;split
 ·exact ⟨.inr rfl,True.intro⟩
 ·refine ⟨.inr ?_,rfl⟩;cases v <;> first | rfl | grind [flat]
theorem valC_ok{x:TC}{d:D}{a:Value}(h:valC x=some a)(r:RC x d):gN d=some a:=by
 unfold valC at h;split at h
 ·simp only[au] at h;subst h;rcases r with r | rfl
  ·simp at r
  ·rfl
 ·simp only[au] at h;subst h;rcases r with r | rfl
  ·simp at r
  ·rfl
 simp_all
theorem NU:∀{xs:List TC}{ds:List D}{vs:List Value},IC xs=some vs->aJ RC xs ds->ds.mapM gN=some vs:=by
 intro xs ds vs h r;induction r generalizing vs with
 |nil=>grind [IC]
 |cons a _ ih=>grind [IC,valC_ok]
theorem eqF0xok{xs g:Array Value}{d:Nat}:∀{e:List Field}{r:Bool},ZD P xs g e=some r->fE P (Op.eqFields (d+1) xs g e)=some r:=by
 intro e;induction e with
 |nil=>intro r h;simp only[ZD,au] at h;subst h;rfl
 |cons f e ih=>
  intro r h;simp only[ZD] at h;split at h
  ·rename_i k a i b j q l m p s t;split at h
   ·grind [uX,eq_int]
   simp_all
  ·grind [uX,Dj]
  simp_all
theorem eqFs_ok{xs i:Array Value}{d:Nat}:∀{e:List Field}{r:Bool},Zh P xs i e=some r->fE P (Op.eqFields (d+2) xs i e)=some r:=by
 intro e;induction e with
 |nil=>intro r h;simp only[Zh,au] at h;subst h;rfl
 |cons f e ih=>
  intro r h;simp only[Zh] at h;split at h
  ·rename_i k a w b x q j l m g p;split at h
   ·grind [uX,eq_int]
   simp_all
  ·grind [uX,Dj]
  ·rename_i a b t q j l m g p;split at h
   ·rename_i y u v;simp only[au] at h;subst h;have s:P.fieldsOf f.type=t:=by simp[Go.Program.fieldsOf,g]
    exact uX j l m (Xb (d:=d+1) (by rw[s];exact g) u (by rw[s];exact eqF0xok v)) (ih p)
   simp_all
  simp_all
theorem eqT_ok{t:TypeId}{xs b:List TC}{ds es:List D}{r:Bool}(h:eqT P t xs b=some r)(e:aJ RC xs ds)(f:aJ RC b es) :
  ∃vs a,(D.agg ds).de = some (.agg vs)/\(D.agg es).de = some (.agg a)/\P.eqGuardType P.depth t=false/\fE P (Op.equalIn 10000 t (.agg vs) (.agg a))=some r:=by
 unfold eqT at h;split at h
 ·rename_i vs a g i j l d m;refine ⟨vs.toArray,a.toArray,?_,?_,d,?_⟩
  ·grind [D.de,NU]
  ·grind [D.de,NU]
  grind [Go.Program.fieldsOf,Xb,eqFs_ok]
 simp_all
theorem Bg{α d:Type}{o:Option α}{f:α->Option d}{b:d}(h:o.bind f=some b):∃a,o=some a/\f a=some b:=cM.1 h
theorem IE{o:BinOp}{t:TypeId}{x y:Operand}{a b c d:Nat}{v:Value}(i:o≠.eql)(e:o≠.neq)(f:o≠.shl)(g:o≠.shr)(h:Op.complexOp o .f64 a b c d=pure v):gT P o t x y (.complex .f64 a b) (.complex .f64 c d)=some v:=by
 unfold gT;rw[xX];have j:fE P (eqGuard o t x y (.complex .f64 a b) (.complex .f64 c d))=some ():=by cases o <;> first | rfl | exact absurd rfl i | exact absurd rfl e
 rw[j,aD];have:binOp o t (.complex .f64 a b) (.complex .f64 c d)=Op.complexOp o .f64 a b c d:=by cases o <;> first | rfl | exact absurd rfl i | exact absurd rfl e | exact absurd rfl f | exact absurd rfl g
 rw[this,h];rfl
theorem Sb{a b c:Int}(h:SO a b=some c):a.natAbs<2 ^ 52/\b.natAbs<2 ^ 52/\c=a+b:=by
 unfold SO at h
 simp_all
theorem Ti{a b c:Int}(h:yl a b=some c):a.natAbs<2 ^ 52/\b.natAbs<2 ^ 52/\c=a-b:=by
 unfold yl at h
 simp_all
theorem Sx{a b c:Int}(h:yd a b=some c):0<=a/\a<=1048576/\0<=b/\b<=1048576/\c=a * b:=by
 unfold yd at h
 simp_all
theorem valO_ok(b:dy σ alD rd){x:Operand}{a:Value}(h:TZ (xx rd) x=some a):(Bc alD x).bind D.de = some a:=by grind [TZ,IK,rE]
theorem RU(g:dy σ alD rd){op:Op}{ty:TypeId}{v:Value}(d:∀cs b,op≠.select cs b)(h:genV P op ty (xx rd)=some v):Gh P op ty alD=some (dH v):=by
 unfold genV at h;split at h
 ·rename_i a;rw[iR] at a;have f:∀x∈op.operands.toList,(Bc alD x).bind D.de = TZ (xx rd) x:=λx e=>by
   have:=a x e;rw[yBj] at this
   grind [valO_ok]
  unfold Gh;rw[if_pos (by simp_all)];rw[execOp_congr (ρ:=λx=>(((Bc alD x).bind D.de).getD undef)) (ρ':=λx=>(TZ (xx rd) x).getD undef) { dst:=none,op:=op,type:=ty,pos:="",after:=#[],guard:=none } d (λx e=>by simp_all)]
  grind
 simp_all
theorem conv_fl{t b:TypeId}{d:IntKind}{a:Int}(e:P.underlying b=some (.float .f64))(hs:(P.underlying t).isSome=true):fE P (convert t b (.int d a))=some (.float .f64 (Fl.fl a)):=by obtain ⟨u,f⟩:=yBj.1 hs;unfold convert;rw[xX,zbS f,aD,xX,zbS e,aD];cases u <;> rfl
theorem XL{t d:TypeId}{a b:Int}(f:P.underlying d=some (.int .i64))(hs:(P.underlying t).isSome=true)(h:Ao a=some b):fE P (convert t d (.float .f64 (Fl.fl a)))=some (.int .i64 b):=by
 unfold Ao at h;split at h
 ·rename_i g;simp only[au] at h;subst h;obtain ⟨u,i⟩:=yBj.1 hs;unfold convert;rw[xX,zbS i,aD,xX,zbS f,aD];have e:fE P (Conv.floatToInt .f64 (Fl.fl a) .i64)=some (.int .i64 a):=by rw[UW g];rfl
  omega
 simp_all
theorem PT{c:Call}{ty:TypeId}{b:Builtin}{v:Value}(e:c.callee=.builtin b)(a:∀x∈c.args.toList,((Bc alD x).bind D.de).isSome=true)
  (h:fE P (builtin b c.argTypes ty (c.args.map λ| .const _=>true | _=>false) (c.args.map λx=>((Bc alD x).bind D.de).getD undef))=some (.value v)):Gh P (.call c) ty alD=some (dH v):=by
 obtain ⟨d,args,f⟩:=c;dsimp only at e a h;subst e;have g:(Op.operands (.call ⟨.builtin b,args,f⟩)).toList=args.toList:=by simp[Op.operands,Call.operands]
 unfold Gh;rw[if_pos (by simp_all)];have:fE P (execOp (λx=>((Bc alD x).bind D.de).getD undef) { dst:=none,op:=.call ⟨.builtin b,args,f⟩,type:=ty,pos:="",after:=#[],guard:=none })=some (.value v):=h
 rw[this]
theorem Cm{c:Call}{ty:TypeId}{x y:Operand}{a b:Nat}(e:c.callee=.builtin .complex)(g:c.args.toList=[x,y])(h:Bc alD x=some (.c (.lit (.float .f64 a))))(i:Bc alD y=some (.c (.lit (.float .f64 b)))) :
  Gh P (.call c) ty alD=some (.c (.lit (.complex .f64 a b))):=by
 have d:c.args=#[x,y]:=by grind
 refine PT (v:=.complex .f64 a b) e (by grind [D.de]) ?_;rw[d];have f:(#[x,y].map λx=>((Bc alD x).bind D.de).getD undef)=#[.float .f64 a,.float .f64 b]:=by grind [D.de]
 rw[f];rfl
theorem X_{c:Call}{ty:TypeId}{x:Operand}{a b:Nat}(e:c.callee=.builtin .real)(g:c.args.toList=[x])(h:Bc alD x=some (.c (.lit (.complex .f64 a b)))) :
  Gh P (.call c) ty alD=some (.c (.lit (.float .f64 a))):=by
 have d:c.args=#[x]:=by grind
 refine PT (v:=.float .f64 a) e (by grind [D.de]) ?_;rw[d];have f:(#[x].map λx=>((Bc alD x).bind D.de).getD undef)=#[.complex .f64 a b]:=by grind [D.de]
 rw[f];rfl
theorem Xm{c:Call}{ty:TypeId}{x:Operand}{a b:Nat}(e:c.callee=.builtin .imag)(g:c.args.toList=[x])(h:Bc alD x=some (.c (.lit (.complex .f64 a b)))) :
  Gh P (.call c) ty alD=some (.c (.lit (.float .f64 b))):=by
 have d:c.args=#[x]:=by grind
 refine PT (v:=.float .f64 b) e (by grind [D.de]) ?_;rw[d];have f:(#[x].map λx=>((Bc alD x).bind D.de).getD undef)=#[.complex .f64 a b]:=by grind [D.de]
 rw[f];rfl
theorem Si{v:Value}(h:pK v=true):flat v=true:=by cases v <;> first | rfl | grind [pK]
variable{R:Type}{k:KO R}{r:R}
theorem dq.one{x:TC}{d:D}(q:Q (.c x) σ false [])(h:eQ P orc n alD σD o d σD [])(hd:d=x.er)(i:GC σ x)(H:RH σ σD):dq P orc n alD σ σD o Q:=
 dq.pure h (v:=.c x) (Or.inr hd) i H q
theorem dq.vt{v:Value}(q:Q (EY v) σ false [])(h:eQ P orc n alD σD o (dH v) σD [])(i:pK v=true)(H:RH σ σD):dq P orc n alD σ σD o Q:=
 dq.pure h (Th (σ:=σ) (Si i)).1 (Th (Si i)).2 H q
theorem genT_ok{op:Op}{ty:TypeId}(m:dy σ alD rd)(H:RH σ σD)(h:genT P op ty rd σ k=some r):dq P orc n alD σ σD (.gen op ty) (λv σ1 rs wr=>k v σ1 rs wr=some r):=by
 unfold genT at h;split at h
 ·
  rename_i o t x y X;split at h
  ·
   rename_i Z a kb b p A;obtain ⟨E,f,g,_⟩:=IK m p;obtain ⟨G,j,s,_⟩:=IK m A;rcases g with g | rfl
   ·grind
   rcases s with s | rfl
   ·grind
   split at h
   ·split at h
    ·rename_i e _;subst e;obtain ⟨v,i,l⟩:=Bg h;exact dq.one l (dS f j rfl rfl (bin_quo i) rfl) rfl rfl H
    simp_all
   ·split at h
    ·rename_i e _;subst e;obtain ⟨v,i,l⟩:=Bg h;exact dq.one l (dS f j rfl rfl (bin_rem i) rfl) rfl rfl H
    simp_all
   ·obtain ⟨v,i,l⟩:=Bg h;exact dq.one l (dS f j rfl rfl (bin_shr i) rfl) rfl rfl H
   ·obtain ⟨v,i,l⟩:=Bg h;exact dq.one l (dS f j rfl rfl (bin_shl i) rfl) rfl rfl H
   ·split at h
    ·rename_i v hv;split at h
     ·rename_i O;exact dq.vt h (dS f j rfl rfl hv rfl) O H
     simp_all
    simp_all
  ·
   rename_i xs ys p A;obtain ⟨E,f,⟨ds,rfl,a1⟩,_⟩:=IK m p;obtain ⟨G,j,⟨es,rfl,a2⟩,_⟩:=IK m A;split at h
   ·rename_i q hq;obtain ⟨vs,ws,i,l,U,W⟩:=eqT_ok hq a1 a2;split at h
    ·exact dq.one h (dS f j i l (bin_eql U W) rfl) rfl True.intro H
    ·exact dq.one h (dS f j i l (bin_neq U W) rfl) rfl True.intro H
    simp_all
   simp_all
  ·
   rename_i a b c d p A;obtain ⟨E,f,g,_⟩:=IK m p;obtain ⟨G,j,s,_⟩:=IK m A;rcases g with g | rfl
   ·grind
   rcases s with s | rfl
   ·grind
   split at h
   ·obtain ⟨u,i,h⟩:=Bg h;obtain ⟨v,l,h⟩:=Bg h;obtain ⟨p1,K,rfl⟩:=Sb i;obtain ⟨L,M,rfl⟩:=Sb l;exact dq.one h (dS f j rfl rfl (IE (by simp) (by simp) (by simp) (by simp) (Mh p1 L K M)) rfl) rfl True.intro H
   ·obtain ⟨u,i,h⟩:=Bg h;obtain ⟨v,l,h⟩:=Bg h;obtain ⟨p1,K,rfl⟩:=Ti i;obtain ⟨L,M,rfl⟩:=Ti l;exact dq.one h (dS f j rfl rfl (IE (by simp) (by simp) (by simp) (by simp) (Lo p1 L K M)) rfl) rfl True.intro H
   ·split at h
    ·obtain ⟨u,i,h⟩:=Bg h;obtain ⟨v,l,h⟩:=Bg h;obtain ⟨p1,K,L,M,rfl⟩:=Sx i;obtain ⟨p5,p6,_,_,rfl⟩:=Sx l;exact dq.one h (dS f j rfl rfl (IE (by simp) (by simp) (by simp) (by simp) (Mm p1 p5 L K p6 M)) rfl) rfl True.intro H
    simp_all
   simp_all
  ·
   rename_i u v _ _ _ p A;obtain ⟨E,f,g,_⟩:=IK m p;obtain ⟨G,j,s,_⟩:=IK m A;split at h
   ·rename_i a b z S;obtain ⟨i,rfl⟩:=rE z g;obtain ⟨l,rfl⟩:=rE S s;split at h
    ·rename_i N;exact dq.one h (dS f j rfl rfl (W_ N) rfl) rfl True.intro H
    ·rename_i N;exact dq.one h (dS f j rfl rfl (Zw N) rfl) rfl True.intro H
    simp_all
   ·grind [rE,dq.vt,dS]
   simp_all
  simp_all
 ·
  rename_i o t x;split at h
  ·rename_i u N;obtain ⟨E,f,g,_⟩:=IK m N;split at h
   ·rename_i e he;obtain ⟨i,rfl⟩:=rE he g;exact dq.one h (YZ f rfl rfl rfl) rfl True.intro H
   ·grind [rE,dq.vt,YZ]
   simp_all
  simp_all
 ·
  rename_i t X x;split at h
  ·rename_i Z a z;obtain ⟨E,f,g,_⟩:=IK m z;rcases g with g | rfl
   ·grind
   split at h
   ·rename_i T;split at h
    ·rename_i hs;exact dq.one h (Do f rfl (v:=.float .f64 (Fl.fl a)) (conv_fl T hs) rfl) rfl True.intro H
    simp_all
   ·split at h
    ·rename_i w hw;split at h
     ·rename_i O;exact dq.vt h (Do f rfl hw rfl) O H
     simp_all
    simp_all
  ·rename_i a z;obtain ⟨E,f,g,_⟩:=IK m z;rcases g with g | rfl
   ·grind
   split at h
   ·rename_i T hs;obtain ⟨b,i,l⟩:=Bg h;exact dq.one l (Do f rfl (v:=.int .i64 b) (XL T hs i) rfl) rfl rfl H
   simp_all
  ·grind [IK,rE,dq.vt,Do]
  simp_all
 ·
  rename_i c;split at h
  ·grind [dq.vt,gh,RU]
  ·grind [dq.vt,gh,RU]
  ·rename_i x y F z;split at h
   ·rename_i a b p A;obtain ⟨E,f,g,_⟩:=IK m p;obtain ⟨G,j,s,_⟩:=IK m A;rcases g with g | rfl
    ·grind
    rcases s with s | rfl
    ·grind
    exact dq.one h (gh (Cm F z f j)) rfl True.intro H
   ·rename_i a b p A;obtain ⟨E,f,g,_⟩:=IK m p;obtain ⟨G,j,s,_⟩:=IK m A;rcases g with g | rfl
    ·grind
    rcases s with s | rfl
    ·grind
    split at h
    ·rename_i S;have:=cY S;subst this;exact dq.one h (gh (Cm F z f j)) rfl True.intro H
    simp_all
   simp_all
  ·rename_i x F z;split at h
   ·rename_i a b p;obtain ⟨E,f,g,_⟩:=IK m p;rcases g with g | rfl
    ·grind
    exact dq.one h (gh (X_ F z f)) rfl True.intro H
   simp_all
  ·rename_i x F z;split at h
   ·rename_i a b p;obtain ⟨E,f,g,_⟩:=IK m p;rcases g with g | rfl
    ·grind
    exact dq.one h (gh (Xm F z f)) rfl True.intro H
   simp_all
  simp_all
 simp_all
end
end Go.Abs
end
section
namespace Go.Abs
open Go.RowKit
variable[Gl]{P:Program}
structure xM (B:Nat) (J:(Nat->Prop)->(Nat->Prop)->World->Prop):Prop where
 rel:∀F U W,J F U W->Rel [] (λ_=>none) F W
 sub:∀F U W,J F U W->∀c,F c->U c
 lt:∀F U W,J F U W->∀c,U c->c<W.heap.size
 le:∀F U W,J F U W->B<=W.heap.size
 off:∀F U W W',J F U W->W.heap.size<=W'.heap.size->(∀c:Nat,U c∨c<B->W'.heap[c]? = W.heap[c]?)->(W'.os=W.os/\W'.tape=W.tape/\W'.output=W.output)->J F U W'
 grow:∀F U W F',J F U W->(∀c,F c->F' c)->(∀c,F' c->F c∨(¬U c/\B<=c/\c<W.heap.size))->J F' (λc=>U c∨F' c) W
structure Kept (F U:Nat->Prop) (W:World) (F' U':Nat->Prop) (W':World):Prop where
 size:W.heap.size<=W'.heap.size
 off:∀c:Nat,c<W.heap.size->¬U c->W'.heap[c]? = W.heap[c]?/\¬U' c
 fz:∀c:Nat,F c->F' c/\W'.heap[c]? = W.heap[c]?
 out:W'.os=W.os/\W'.tape=W.tape/\W'.output=W.output
theorem Kept.trans{F U x z A E:Nat->Prop}{W G K:World}(h:Kept F U W x z G)(i:Kept x z G A E K):Kept F U W A E K:={
 size:=lK h.size i.size
 off:=λc j M=>by obtain ⟨a,b⟩:=h.off c j M;obtain ⟨s,u⟩:=i.off c (FY j h.size) b;exact ⟨s.trans a,u⟩
 fz:=λc j=>by obtain ⟨a,b⟩:=h.fz c j;obtain ⟨s,u⟩:=i.fz c a;exact ⟨s,u.trans b⟩
 out:=⟨i.out.1.trans h.out.1,i.out.2.1.trans h.out.2.1,i.out.2.2.trans h.out.2.2⟩ }
def Caps(F:Nat->Prop)(W:World)(caps:List (List C))(e:Array Value):Prop:=
 e.size=caps.length/\∀(i:Nat) b v,caps[i]? = some b->e[i]? = some v->∃c:Nat,v=.pointer (some ⟨c,0,none⟩)/\∃a T,W.heap[c]? = some (.cells a T (0,0))/\b.length<=a.size/\∀(j:Nat) d u,b[j]? = some d->a[j]? = some u->VC F W d u/\u.oneCell'=true
def Vals(F:Nat->Prop)(W:World)(ds:List D)(vs:Array Value):Prop:=
 vs.size=ds.length/\∀(k:Nat) d v,ds[k]? = some d->vs[k]? = some v->V [] (λ_=>none) F W d v
def ItOk (P:Program) (j:Nat) (caps:List (List C)) (items:List (List D)):Prop:=
 ∀ (l B : Nat) (g : Array Value) (J : Nat → (Nat → Prop) → (Nat → Prop) → World → Prop) (f : (Nat → Prop) → (Nat → Prop) → World → Prop) (W : World) (F U : Nat → Prop),
  (∀i,xM B (J i))→xM B f→(∀i F U W,J i F U W→Caps F W caps g) →
  (∀i ds F U W h,items[i]? = some ds→J i F U W→Vals F W ds h →
   YieldAt Fence.wide 0 P l h W fun e a=>∃b d,Kept F U W b d a∧((e=.returned (.bool true)∧J (i+1) b d a)∨(e=.returned (.bool false)∧f b d a))) →
  J 0 F U W →
  Calls P j (#[.func (.yield l) #[] #[]]++g) W fun e a=>(∃v,e=.returned v)∧∃b d,J items.length b d a∨f b d a
def rpost(I:Nat->(Nat->Prop)->(Nat->Prop)->World->Prop)(e:Code->(Nat->Prop)->(Nat->Prop)->World->Prop)(i:Nat)(F U:Nat->Prop)(W:World):Exit->Act->World->Prop
 |.normal,_,a=>∃b d,Kept F U W b d a/\I (i+1) b d a
 |.ret,_,a=>∃b d,Kept F U W b d a/\e .ret b d a
 |.exit id,_,a=>∃b d,Kept F U W b d a/\e (.exit id) b d a
 |.goto t,_,a=>∃b d,Kept F U W b d a/\e (.goto t) b d a
 |.panic _,_,_=>False
 |.outgrown,_,_=>False
theorem zdD{W:World}{l:Nat}{o:Obj}{c:Nat}(h:c≠l):(W.putObj l o).heap[c]? = W.heap[c]?:=World.putObj_heap_other h
theorem YG {g:Operand} {ps:Array Tmp} {assign body:Code} {Q:Exit→Act→World→Prop} {a:Act} {w:World} {gf:Nat} {lb:Array Value} {caps:List (List C)} {items:List (List D)} {F0 U0:Nat→Prop}
  (hg:a.eval g=.func (.func gf) #[] lb) (eg:∀args w,(callFunc gf args).run P w=.ok (.enter gf args) w) (it:ItOk P gf caps items) (a5:∀ds∈items,ds.length=ps.size)
  (I:Nat→(Nat→Prop)→(Nat→Prop)→World→Prop) (Ix:Code→(Nat→Prop)→(Nat→Prop)→World→Prop) (hI:∀i,xM w.heap.size (I i)) (s:∀c,xM w.heap.size (Ix c))
  (d:∀i F U W,I i F U W→Caps F W caps lb) (h0:I 0 F0 U0 w)
  (ab:∀(l i:Nat) ds F U W vs,items[i]? = some ds→I i F U W→Vals F W ds vs →
   assign.wpIn (Fence.wide.inRound l) 0 P (Exit.then (fun a1 w1=>∃F1 U1,Kept F U W F1 U1 w1∧(∀c,U1 c→c<w1.heap.size) ∧
    ∀ w2, w1.heap.size = w2.heap.size → (∀ c : Nat, U1 c ∨ c < w.heap.size → w2.heap[c]? = w1.heap[c]?) → (w2.os = w1.os ∧ w2.tape = w1.tape ∧ w2.output = w1.output) →
     body.wpIn (Fence.wide.inRound l) 0 P (rpost I Ix i F U1 w2) a1 w2) (fun _ _ _=>False))
    { tmps:=(ps.zip vs).foldl (fun t (p,v)=>t.setIfInBounds p v) a.tmps,defers:=[] } W)
  (ad:∀(D:Nat) F U W,w.heap.size≤D→D<W.heap.size→¬U D→W.heap[D]? = some (.deferred (some []))→I items.length F U W→Q .normal { a with defers:=mark D::a.defers } W)
  (af:∀(D:Nat) c F U W,w.heap.size≤D→D<W.heap.size→¬U D→W.heap[D]? = some (.deferred (some []))→Ix c F U W→c.wp P Q { a with defers:=mark D::a.defers } W) :
  (Code.rangeFunc g ps assign body).wp P Q a w:=by
 refine (wpIn_wide (n:=0)).1 (wpIn_rangeFunc ?_)
 intro fn a6
 have a7:Fence.wide.round=none:=rfl
 rw [a7]
 obtain ⟨rec,f⟩:∃rec:LoopState→Option Code→Loop,rec=fun st pe=>{ state:=st,pending:=pe,fn,tmps:=a.tmps,params:=ps,assign,body,defers:=w.heap.size }:=⟨_,rfl⟩
 obtain ⟨Z,N⟩:∃Z,(w.alloc (.deferred (some []))).alloc (.loop (rec .ready none))=Z:=⟨_,rfl⟩
 have a8:Z.heap[w.heap.size+1]? = some (.loop (rec .ready none)):=by
  rw [←N]; have:=World.alloc_heap_new (w.alloc (.deferred (some []))) (.loop (rec .ready none)); rwa [World.size_alloc] at this
 have a9:Z.heap[w.heap.size]? = some (.deferred (some [])):=by
  rw [←N]; exact (Below.heap_alloc _ _ _ (by simp)).trans (World.alloc_heap_new w _)
 have b0:Z.heap.size=w.heap.size+2:=by rw [←N]; simp
 have bb:I 0 F0 U0 Z:=by
  refine (hI 0).off _ _ w Z h0 (by omega) (fun c d=>?_) (by rw [←N]; exact ⟨rfl,rfl,rfl⟩)
  have bc:c<w.heap.size:=d.elim ((hI 0).lt _ _ _ h0 c) id
  rw [←N,Below.heap_alloc _ _ _ (by simp; omega),Below.heap_alloc _ _ _ bc]
 have bd:¬U0 (w.heap.size+1):=fun h=>by have:=(hI 0).lt _ _ _ h0 _ h; omega
 have be:¬U0 w.heap.size:=fun h=>by have:=(hI 0).lt _ _ _ h0 _ h; omega
 obtain ⟨bk,K⟩:∃bk:(Obj→Prop)→((Nat→Prop)→(Nat→Prop)→World→Prop)→(Nat→Prop)→(Nat→Prop)→World→Prop,bk=fun o X F U W=>∃m,X F m W∧U=(fun c=>m c∨c=w.heap.size∨c=w.heap.size+1) ∧
  ¬m w.heap.size∧¬m (w.heap.size+1)∧w.heap.size+1<W.heap.size∧(∃x,W.heap[w.heap.size+1]? = some x∧o x)∧W.heap[w.heap.size]? = some (.deferred (some [])):=⟨_,rfl⟩
 have bh:∀o X,xM w.heap.size X→xM w.heap.size (bk o X):=fun o X hX=>by
  subst K
  have gr:∀{F m T:Nat→Prop} {W:World},X F m W→(∀c,T c→F c∨(¬(m c∨c=w.heap.size∨c=w.heap.size+1)∧w.heap.size≤c∧c<W.heap.size))→¬m w.heap.size→¬m (w.heap.size+1)→¬T w.heap.size∧¬T (w.heap.size+1):=fun h hf A z=>
   ⟨fun b=>(hf _ b).elim (fun e=>A (hX.sub _ _ _ h _ e)) fun e=>e.1 (.inr (.inl rfl)),fun b=>(hf _ b).elim (fun e=>z (hX.sub _ _ _ h _ e)) fun e=>e.1 (.inr (.inr rfl))⟩
  refine ⟨fun F U W ⟨m,h,_⟩=>hX.rel _ _ _ h,fun F U W ⟨m,h,e,_⟩ c d=>by rw [e]; exact .inl (hX.sub _ _ _ h c d),fun F U W ⟨m,h,e,_,_,hs,_⟩ c d=>?_,fun F U W ⟨m,h,_⟩=>hX.le _ _ _ h,fun F U W W' ⟨m,h,e,A,z,h3,⟨x,h4,ak⟩,O⟩ an j aa=>?_,fun F U W T ⟨m,h,e,A,z,h3,h4,O⟩ ha hb=>?_⟩
  rotate_left
  rotate_left
  ·rw [e] at hb ⊢
   obtain ⟨g1,g2⟩:=gr h hb A z
   exact ⟨fun c=>m c∨T c,hX.grow _ _ _ _ h ha fun c d=>(hb c d).imp id fun ⟨q,r⟩=>⟨fun hu=>q (.inl hu),r⟩,funext fun c=>propext ⟨fun b=>b.elim (fun b=>b.elim (fun b=>.inl (.inl b)) .inr) fun b=>.inl (.inr b),fun b=>b.elim (fun b=>b.elim (fun b=>.inl (.inl b)) .inr) fun b=>.inl (.inr b)⟩,fun b=>b.elim A g1,fun b=>b.elim z g2,h3,h4,O⟩
  ·rw [e] at d
   rcases d with d | rfl | rfl
   ·exact hX.lt _ _ _ h c d
   ·omega
   ·omega
  ·rw [e] at j
   refine ⟨m,hX.off _ _ W W' h an (fun c d=>j c (d.imp .inl id)) aa,e,A,z,by omega,⟨x,?_,ak⟩,?_⟩
   ·rw [j _ (.inl (.inr (.inr rfl)))]; exact h4
   ·rw [j _ (.inl (.inr (.inl rfl)))]; exact O
 refine ⟨w.heap.size+1,[{ target:=.collected w.heap.size,args:=#[] }],Z,{ target:=.fn (.func gf) lb,args:=#[.func (.yield (w.heap.size+1)) #[] #[]] },Z,gf,
  #[.func (.yield (w.heap.size+1)) #[] #[]]++lb,Z,?_,?_,?_,?_,fun h=>by simp [Fence.wide] at h,?_⟩
 ·rw [←N,f]; exact run_enterLoop_outer _ _ _ _ _
 ·simp only [resolve,hg]
  simp [go_sem]
 ·intro f' b1; trivial
 ·simp [invoke,go_sem,eg]
 ·have C:=it (w.heap.size+1) w.heap.size lb (fun i=>bk (fun x=>x=.loop (rec .ready none)) (I i)) (bk (fun x=>True) fun F U W=>∃c,Ix c F U W∧W.heap[w.heap.size+1]? = some (.loop (rec .done (some c)))) Z F0 (fun c=>U0 c∨c=w.heap.size∨c=w.heap.size+1)
   (fun i=>bh _ _ (hI i)) ?_ ?_ ?_ ?_
  ·refine callsIn_wide.2 (C.mono ?_)
   rintro e W2 ⟨⟨v,rfl⟩,T,m,h | h⟩
   ·subst K
    obtain ⟨U2,hi,e,A,z,h3,⟨x,hx,rfl⟩,O⟩:=h
    refine ⟨none,_,by have:=run_endLoop (P:=P) hx (by rw [f]; simp); rw [f] at this; exact this,?_⟩
    refine ad w.heap.size T U2 _ (cX _) (by simp; omega) A ((World.putObj_heap_other (by omega)).trans O) ((hI _).off _ _ W2 _ hi (by simp) (fun c d=>zdD ?_) ⟨rfl,rfl,rfl⟩)
    rintro rfl
    exact d.elim z (by omega)
   ·subst K
    obtain ⟨U2,⟨c,hi,hx⟩,e,A,z,h3,_,O⟩:=h
    refine ⟨some c,_,by have:=run_endLoop (P:=P) hx (by rw [f]; simp); rw [f] at this; exact this,?_⟩
    refine wpIn_wide.2 (af w.heap.size c T U2 _ (cX _) (by simp; omega) A ((World.putObj_heap_other (by omega)).trans O) ((s _).off _ _ W2 _ hi (by simp) (fun c d=>zdD ?_) ⟨rfl,rfl,rfl⟩))
    rintro rfl
    exact d.elim z (by omega)
  ·
   subst K
   refine ⟨fun F U W ⟨m,⟨c,h,_⟩,_⟩=>(s c).rel _ _ _ h,fun F U W ⟨m,⟨c,h,_⟩,e,_⟩ c' d=>by rw [e]; exact .inl ((s c).sub _ _ _ h c' d),fun F U W ⟨m,⟨c,h,_⟩,e,_,_,hs,_⟩ c' d=>?_,fun F U W ⟨m,⟨c,h,_⟩,_⟩=>(s c).le _ _ _ h,
    fun F U W W' ⟨m,⟨c,h,hr⟩,e,A,z,h3,⟨x,h4,ak⟩,O⟩ an j aa=>?_,fun F U W T ⟨m,⟨c,h,hr⟩,e,A,z,h3,h4,O⟩ ha hb=>?_⟩
   rotate_left
   rotate_left
   ·rw [e] at hb ⊢
    have g1:¬T w.heap.size:=fun b=>(hb _ b).elim (fun e=>A ((s c).sub _ _ _ h _ e)) fun e=>e.1 (.inr (.inl rfl))
    have g2:¬T (w.heap.size+1):=fun b=>(hb _ b).elim (fun e=>z ((s c).sub _ _ _ h _ e)) fun e=>e.1 (.inr (.inr rfl))
    exact ⟨fun c=>m c∨T c,⟨c,(s c).grow _ _ _ _ h ha fun c d=>(hb c d).imp id fun ⟨q,r⟩=>⟨fun hu=>q (.inl hu),r⟩,hr⟩,funext fun c=>propext ⟨fun b=>b.elim (fun b=>b.elim (fun b=>.inl (.inl b)) .inr) fun b=>.inl (.inr b),fun b=>b.elim (fun b=>b.elim (fun b=>.inl (.inl b)) .inr) fun b=>.inl (.inr b)⟩,fun b=>b.elim A g1,fun b=>b.elim z g2,h3,h4,O⟩
   ·rw [e] at d
    rcases d with d | rfl | rfl
    ·exact (s c).lt _ _ _ h c' d
    ·omega
    ·omega
   ·rw [e] at j
    have av:=j _ (.inl (.inr (.inr rfl)))
    refine ⟨m,⟨c,(s c).off _ _ W W' h an (fun c d=>j c (d.imp .inl id)) aa,av.trans hr⟩,e,A,z,by omega,⟨x,av.trans h4,ak⟩,(j _ (.inl (.inr (.inl rfl)))).trans O⟩
  ·intro i F U W h
   subst K
   obtain ⟨m,h,_⟩:=h
   exact d i F m W h
  ·
   intro i ds F U W vs hi h ax
   subst K
   obtain ⟨U2,a0,e,A,z,h3,⟨x,hx,rfl⟩,O⟩:=h
   have hy:=run_yield (P:=P) (args:=vs) hx (by rw [f,ax.1]; exact a5 ds (Bb hi))
   rw [f] at hy
   refine ⟨fn,_,assign,body,hy,roundIn_of_wpIn a6 (wpIn_mono (ab _ i ds F U2 W vs hi a0 ax) ?_)⟩
   intro ex a1 w1 S
   cases ex with
   | normal =>
    obtain ⟨F1,U1,k1,b2,hb⟩:=S
    obtain ⟨o1,u1⟩:=k1.off _ (by omega) z
    obtain ⟨o2,u2⟩:=k1.off _ (by omega) A
    have bi:w1.heap[w.heap.size+1]? = some (.loop (rec .ready none)):=o1.trans hx
    refine ⟨_,run_beginRound bi (by rw [f]),?_⟩
    have b3:=k1.size
    have B:=hb (w1.putObj (w.heap.size+1) (.loop { rec .ready none with state:=.busy })) (by simp) (fun c d=>zdD (by rintro rfl; exact d.elim u1 (by omega))) ⟨rfl,rfl,rfl⟩
    refine wpIn_mono B ?_
    have bl:(w1.putObj (w.heap.size+1) (.loop { rec .ready none with state:=.busy })).heap[w.heap.size+1]? = some (.loop { rec .ready none with state:=.busy }):=World.putObj_heap_same (by omega)
    have bt:(w1.putObj (w.heap.size+1) (.loop { rec .ready none with state:=.busy })).heap[w.heap.size]? = some (.deferred (some [])):=(zdD (by omega)).trans (o2.trans O)
    have fin:∀(u:Option Code) (X:(Nat→Prop)→(Nat→Prop)→World→Prop) (hX:xM w.heap.size X) E y (W3:World),Kept F U1 (w1.putObj (w.heap.size+1) (.loop { rec .ready none with state:=.busy })) E y W3→X E y W3 →
      ∃ M, (Instr.endRound (w.heap.size + 1) u).run P W3 = .ok (.bool u.isNone) M ∧ M.heap[w.heap.size + 1]? = some (.loop (rec (if u.isNone then .ready else .done) u)) ∧ M.heap[w.heap.size]? = some (.deferred (some [])) ∧ X E y M ∧
       ¬y w.heap.size∧¬y (w.heap.size+1)∧w.heap.size+1<M.heap.size∧Kept F U W E (fun c=>y c∨c=w.heap.size∨c=w.heap.size+1) M:=fun u X hX E y W3 G bu=>by
     obtain ⟨p1,q1⟩:=G.off (w.heap.size+1) (by simp; omega) u1
     obtain ⟨p2,q2⟩:=G.off w.heap.size (by simp; omega) u2
     have bv:=p1.trans bl
     have bw:=G.size
     simp only [World.putObj_size] at bw
     have:=run_endRound (P:=P) u bv
     rw [f] at this ⊢
     refine ⟨_,this,World.putObj_heap_same (by omega),(zdD (by omega)).trans (p2.trans bt),hX.off _ _ W3 _ bu (by simp) (fun c d=>zdD (by rintro rfl; exact d.elim q1 (by omega))) ⟨rfl,rfl,rfl⟩,q2,q1,by simp; omega,?_⟩
     refine ⟨by simp; omega,fun c d hu=>?_,fun c d=>?_,⟨G.out.1.trans k1.out.1,G.out.2.1.trans k1.out.2.1,G.out.2.2.trans k1.out.2.2⟩⟩
     ·rw [e] at hu
      simp only [not_or] at hu
      obtain ⟨m1,m2⟩:=k1.off c d hu.1
      obtain ⟨m3,m4⟩:=G.off c (by simp; omega) m2
      exact ⟨by rw [zdD hu.2.2,m3,zdD hu.2.2,m1],by simp only [not_or]; exact ⟨m4,hu.2⟩⟩
     ·have a2:c≠w.heap.size+1:=by rintro rfl; exact z ((hI i).sub _ _ _ a0 _ d)
      obtain ⟨m1,m2⟩:=k1.fz c d
      obtain ⟨m3,m4⟩:=G.fz c d
      exact ⟨m3,by rw [zdD a2,m4,zdD a2,m2]⟩
    rintro ex a3 W3 S
    cases ex with
    | normal =>
     obtain ⟨E,y,G,L⟩:=S
     obtain ⟨M,r1,r2,r3,r4,r5,r6,r7,r8⟩:=fin none _ (hI (i+1)) E y W3 G L
     exact ⟨_,M,r1,E,_,r8,.inl ⟨rfl,y,r4,rfl,r5,r6,r7,⟨_,r2,rfl⟩,r3⟩⟩
    | ret =>
     obtain ⟨E,y,G,L⟩:=S
     obtain ⟨M,r1,r2,r3,r4,r5,r6,r7,r8⟩:=fin (some .ret) _ (s .ret) E y W3 G L
     exact ⟨_,M,r1,E,_,r8,.inr ⟨rfl,y,⟨.ret,r4,r2⟩,rfl,r5,r6,r7,⟨_,r2,trivial⟩,r3⟩⟩
    | exit id =>
     obtain ⟨E,y,G,L⟩:=S
     obtain ⟨M,r1,r2,r3,r4,r5,r6,r7,r8⟩:=fin (some (.exit id)) _ (s (.exit id)) E y W3 G L
     exact ⟨_,M,r1,E,_,r8,.inr ⟨rfl,y,⟨.exit id,r4,r2⟩,rfl,r5,r6,r7,⟨_,r2,trivial⟩,r3⟩⟩
    | goto t =>
     obtain ⟨E,y,G,L⟩:=S
     obtain ⟨M,r1,r2,r3,r4,r5,r6,r7,r8⟩:=fin (some (.goto t)) _ (s (.goto t)) E y W3 G L
     exact ⟨_,M,r1,E,_,r8,.inr ⟨rfl,y,⟨.goto t,r4,r2⟩,rfl,r5,r6,r7,⟨_,r2,trivial⟩,r3⟩⟩
    | panic ch=>exact S.elim
    | outgrown=>exact S.elim
   | exit id=>exact S.elim
   | goto t=>exact S.elim
   | ret=>exact S.elim
   | panic ch=>exact S.elim
   | outgrown=>exact S.elim
  ·subst K
   exact ⟨U0,bb,rfl,be,bd,by omega,⟨_,a8,rfl⟩,a9⟩
end Go.Abs
end
section
namespace Go.Abs
noncomputable section
variable[Gl][Y:Ty]
def tA:(cs:List dm)->lL cs->List D
 |[],_=>[]
 |[c],x=>[c.enc x]
 |c::d::cs,x=>c.enc x.1::tA (d::cs) x.2
def tZ(cs:List dm)(x:lL cs):D:=one (tA cs x)
def bL(P:Program)(g:Nat)(s:bD):Prop:=∀a r,s.f a=some r->Pure P g (ud s.ins a) (tZ s.out r)
def Wm(P:Program)(g:Nat):bD->Prop
 | ⟨[.c (.sl i)],[.c (.sl j)],f⟩=>∀l r,f (l,())=some r->ItOk P g [[.cJ false (l.map (enc i))]] (r.map λa=>[ST (enc j a)])
 |_=>True
def fw(P:Program)(S:sV):Prop:=∀p∈S,(Nat.blt p.1 1048576=true->bL P p.1 p.2)/\(Nat.blt p.1 1048576=false->Wm P (p.1-1048576) p.2)
theorem tsk_mem{g:Nat}{s:bD}:∀{S:sV},tsk g S=some s->(g,s)∈S:=by
 intro S;induction S with
 |nil=>grind [tsk]
 |cons p S ih=>
  intro h;obtain ⟨q,b⟩:=p;simp only[tsk] at h;split at h
  ·rename_i a;have:=cY a;subst this
   simp_all
  ·exact lI _ (ih h)
theorem fw.iter{P:Program}{S:sV}(h:fw P S){g:Nat}{s:bD}(hs:tsk (g+1048576) S=some s):Wm P g s:=by have:=(h _ (tsk_mem hs)).2 (by show Nat.blt (g+1048576) 1048576=false;exact Bool.eq_false_iff.2 λe=>by have:=ug.mp e;omega);simpa using this
def Ho(S:sV):ye:=(S.filter λp=>Nat.blt p.1 1048576).map λp=>(p.1,spec (ud p.2.ins) (tZ p.2.out) p.2.f)
theorem dm.inj{c:dm}{a b:c.dn}(h:c.enc a=c.enc b):a=b:=by
 cases c with
 |c x=>grind [dm.enc,Nn,Jl]
 |st i=>exact ST_inj (λ{a b}=>Jl i a b) h
 |fp i=>simp only[dm.enc,D.c.injEq,C.cK.injEq,Oa] at h;grind [Jl]
 |k g=>rfl
theorem Nb:∀{cs:List dm}{a b:tB cs},ud cs a=ud cs b->a=b:=by
 intro cs;induction cs with
 |nil=>simp_all
 |cons c cs ih=>grind [ud,dm.inj]
theorem QZ{P:Program}{S:sV}(h:fw P S):sG P (Ho S):=by intro p a ds r b;simp only[Ho,gD,SE] at a;obtain ⟨q,⟨d,e⟩,rfl⟩:=a;exact spec_ok ((h q d).1 e) ds r b
theorem spk_of0{g:Nat}{s:bD}(d:Nat.blt g 1048576=true):∀{S:sV},tsk g S=some s->VY g (Ho S)=some (spec (ud s.ins) (tZ s.out) s.f):=by
 intro S;induction S with
 |nil=>grind [tsk]
 |cons p S ih=>
  intro h;obtain ⟨q,i⟩:=p;simp only[tsk] at h;split at h
  ·rename_i a;have:=cY a;subst this;simp only[au] at h;subst h;simp only[Ho,List.filter_cons,d,if_true,ru,VY];split
   ·rfl
   ·rename_i f;simp at f
  ·rename_i a;have e:=ih h;cases b:Nat.blt q 1048576 with
   |false=>simpa only[Ho,List.filter_cons,b,b_,cw] using e
   |true=>simp only[Ho,List.filter_cons,b,if_true,ru,VY];rw[a];exact e
theorem ZH{g:Nat}{s:bD}{S:sV}(h:ZR g S=some s):VY g (Ho S)=some (spec (ud s.ins) (tZ s.out) s.f):=by
 unfold ZR at h;split at h
 ·rename_i a;exact spk_of0 a h
 ·simp at h
theorem Ls{i:Nat}{xs:List TC}{a:TT i}(h:CZ i (.agg xs)=some a):∃x,Fp (Y.fl i) xs=some x/\a=Y.mkt i x:=by
 simp only[CZ] at h
 grind
theorem QE{c:dm}{v:TV}{d:D}{a:c.dn}(h:ry c v=some a)(r:RT v d):CJ d=c.enc a/\d.low 0=true/\d.plain=true:=by
 cases c with
 |c x=>
  cases v with
  |c y=>
   simp only[ry,Ky] at h;obtain ⟨p,b⟩:=pR h;rcases r with r | rfl
   ·simp_all
   ·obtain ⟨q,w⟩:∃q,y.er=.c q:=by
     cases F:y.er with
     |c q=>simp_all
     |_=>grind [xF]
    rw[w] at b ⊢;exact ⟨b,rfl,rfl⟩
  |agg f=>grind [ry,Ky]
  |aS f=>grind [ry,Ky]
 |st i=>
  cases v with
  |c y=>grind [ry,CZ]
  |agg f=>
   obtain ⟨x,p,rfl⟩:=Ls h;obtain ⟨b,z⟩:=PS p;obtain ⟨ds,rfl,A⟩:=r;rw[A.eq b];have j:∀(l:List D)(m:List C),l.map xF=m.map .c->D.low.cV 0 l=true/\(l.all λd=>match d with | .fn ..=>false | _=>true)=true:=by
    intro l;induction l with
    |nil=>intro m _;exact ⟨rfl,rfl⟩
    |cons d l ih=>
     intro m s;cases m with
     |nil=>grind
     |cons c m=>
      simp only[ru,yBT] at s;obtain ⟨t,u⟩:=ih m s.2;cases d with
      |c x=>grind [D.low.cV,D.low]
      |_=>grind [xF]
   obtain ⟨t,u⟩:=j _ _ z;refine ⟨?_,t,u⟩
   grind [CJ,dm.enc,vg,Ty.pm]
  |aS f=>grind [ry,CZ]
 |fp i=>
  simp only[ry] at h;unfold CQ at h;split at h
  ·split at h
   ·rename_i e _;subst e;simp only[au] at h;subst h;rcases r with r | rfl
    ·simp at r
    ·exact ⟨rfl,rfl,rfl⟩
   simp_all
  simp_all
 |k g=>
  simp only[ry] at h;unfold PW at h;split at h
  ·split at h
   ·rename_i E;have:=cY E;subst this;rcases r with r | rfl
    ·simp at r
    ·exact ⟨rfl,rfl,rfl⟩
   simp_all
  simp_all
inductive fP:List TV->List D->Prop where
 |nil:fP [] []
 |cons {v:TV} {d:D} {vs:List TV} {ds:List D} (h:RT v d) (r:fP vs ds):fP (v::vs) (d::ds)
theorem Sf:∀{cs:List dm}{vs:List TV}{ds:List D}{a:tB cs},zp cs vs=some a->fP vs ds->ds.map CJ=ud cs a/\(ds.all λd=>d.low 0&&d.plain)=true:=by
 intro cs;induction cs with
 |nil=>
  intro vs ds a h r;cases r with
  |nil=>exact ⟨rfl,rfl⟩
  |cons _ _=>grind [zp]
 |cons c cs ih=>
  intro vs ds a h r;cases r with
  |nil=>grind [zp]
  |cons b r=>
   simp only[zp] at h
   grind [QE,ud]
theorem dm.Kh(c:dm)(a:c.dn):(c.enc a).low 0=true:=by
 cases c with
 |c x=>rfl
 |st i=>exact Wz _
 |fp i=>rfl
 |k g=>rfl
theorem YN:∀(cs:List dm)(x:lL cs),D.low.cV 0 (tA cs x)=true:=by
 intro cs;induction cs with
 |nil=>intro x;rfl
 |cons c cs ih=>
  intro x;cases cs with
  |nil=>grind [tA,D.low.cV,dm.Kh]
  |cons d cs=>simp only[tA,D.low.cV,dm.Kh,yCn];simp_all
theorem YY(cs:List dm)(x:lL cs):(tZ cs x).low 0=true:=by
 have:=YN cs x;unfold tZ one;split
 ·rename_i d h;rw[h] at this;simp only[D.low.cV,Np] at this;omega
 ·exact this
theorem te_ok(c:dm)(a:c.dn):RE (c.te a) (c.enc a):=by
 cases c with
 |c x=>exact ⟨_,rfl,.inr (lO x a).symm⟩
 |st i=>exact ⟨_,rfl,Tx i a⟩
 |fp i=>exact ⟨_,rfl,.inr rfl⟩
 |k g=>exact ⟨_,rfl,.inr rfl⟩
theorem outL_ok:∀(cs:List dm)(x:lL cs),aJ RE (Oy cs x) (tA cs x):=by
 intro cs;induction cs with
 |nil=>intro x;exact .nil
 |cons c cs ih=>
  intro x;cases cs with
  |nil=>exact .cons (te_ok c x) .nil
  |cons d cs=>exact .cons (te_ok c x.1) (ih x.2)
theorem SM(cs:List dm)(x:lL cs):RT (outT cs x) (tZ cs x):=by
 cases cs with
 |nil=>exact ⟨[],rfl,.nil⟩
 |cons c cs=>
  cases cs with
  |nil=>exact c.ET x
  |cons d cs=>refine ⟨tA (c::d::cs) x,?_,outL_ok (c::d::cs) x⟩;cases cs <;> rfl
theorem RK{σ:TH}(c:dm)(a:c.dn):∀x∈(c.te a).2,GC σ x:=by
 cases c with
 |c x=>grind [dm.te,wD]
 |st i=>exact uT i a
 |fp i=>intro y b;simp only[dm.te,zi] at b;subst b;trivial
 |k g=>intro y b;simp only[dm.te,zi] at b;subst b;rfl
theorem VE{σ:TH}:∀(cs:List dm)(x:lL cs),∀p∈Oy cs x,∀y∈p.2,GC σ y:=by
 intro cs;induction cs with
 |nil=>grind [Oy]
 |cons c cs ih=>
  intro x p a;cases cs with
  |nil=>grind [Oy,RK]
  |cons d cs=>grind [Oy,RK]
theorem Dz{σ:TH}(c:dm)(a:c.dn):GV σ (c.tv a):=by
 cases c with
 |c x=>exact wD x a
 |st i=>exact uT i a
 |fp i=>trivial
 |k g=>rfl
theorem Ig{σ:TH}(cs:List dm)(x:lL cs):GV σ (outT cs x):=by
 cases cs with
 |nil=>intro p a;grind [Oy]
 |cons c cs=>
  cases cs with
  |nil=>exact Dz c x
  |cons d cs=>exact VE (c::d::cs) x
variable{P:Program}{orc:wK}{n:Nat}{alD:AL}{σ σ1:TH}{σD σD1:ar}{o:lm}{Q:TV->TH->Bool->List Nat->Prop}{rd:aP->Option TV}
theorem PP{c:CC}{x:TC}{a:c.dn}(h:DE c x=some a):∃q,x.er=.c q:=by
 obtain ⟨_,b⟩:=pR h;cases d:x.er with
 |c q=>simp_all
 |_=>grind [xF]
theorem YU(H:RH σ σD){x:TC}(g:GC σ x){c:CC}{a:c.dn}(h:DE c (Da σ x)=some a):∃q,fN σD 0 100 x.er=some q/\xF (.c q)=.c (tn enc c a):=by
 have other:Da σ x=x->∃q,fN σD 0 100 x.er=some q/\xF (.c q)=.c (tn enc c a):=λe=>by rw[e] at h;obtain ⟨_,p⟩:=pR h;obtain ⟨q,t⟩:=PP h;rw[t] at p;exact ⟨q,by rw[t];rfl,p⟩
 cases x with
 |own i b v m=>
  have bad:∀{z:TC}{a:c.dn},z=.own i b v m->DE c z=some a->False:=λe h=>by grind [DE]
  cases d:σ[b]? with
  |none=>simp only[Da,d] at h;simp_all
  |some blk=>
   cases blk with
   |row j l u y=>
    cases f:Nat.beq u v with
    |false=>simp only[Da,d,f] at h;simp_all
    |true=>simp only[Da,d,f] at h;have f:=cY f;obtain ⟨blk,s,p⟩:=g;rw[d] at s;simp only[au] at s;obtain ⟨_,A⟩:=p j l u y s.symm;obtain ⟨rfl,rfl⟩:=A f.symm;refine ⟨_,Ed (k:=98) (sE j) (Y.ps j) (H.row d) rfl,?_⟩;obtain ⟨_,E⟩:=pR h;rw[<-E];rfl
   |cells w F=>simp only[Da,d] at h;simp_all
   |mp j st l w=>simp only[Da,d] at h;simp_all
 |_=>exact other rfl
theorem frTs_ok(H:RH σ σD):∀{cs:List CC}{xs:List TC}{a:aS cs},(∀x∈xs,GC σ x)->Fp cs (xs.map (Da σ))=some a->∃b,(xs.map TC.er).mapM (fN σD 0 100)=some b/\(b.map D.c).map xF=(nK enc cs a).map .c:=by
 intro cs;induction cs with
 |nil=>
  intro xs a _ h;cases xs with
  |nil=>exact ⟨[],rfl,rfl⟩
  |cons x xs=>grind [Fp]
 |cons c cs ih=>
  intro xs a g h;cases xs with
  |nil=>grind [Fp]
  |cons x xs=>
   simp only[ru,Fp] at h;split at h
   ·rename_i i j d e;simp only[au] at h;subst h;obtain ⟨q,l,m⟩:=YU H (g x (ql ..)) d;obtain ⟨b,p,s⟩:=ih (λy f=>g y (lI _ f)) e;refine ⟨q::b,?_,?_⟩
    ·simp_all
    grind [nK]
   simp_all
theorem On(σ:TH):∀{cs:List CC}{xs:List TC}{a:aS cs},Fp cs (xs.map (Da σ))=some a->∀y∈xs,y≠.any:=by intro cs xs a h y b e;subst e;have:=(PS h).1 (Da σ .any) (List.mem_map_of_mem b);exact this rfl
theorem RW{i b v m:Nat}:(∃j l,Da σ (.own i b v m)=.sl j l)∨Da σ (.own i b v m)=.own i b v m:=by grind [Da]
theorem QG(H:RH σ σD){c:dm}{v:TV}{d:D}{a:c.dn}(g:GV σ v)(r:RT v d)(h:ry c (fU σ v)=some a):∃p,pu σD 0 100 d=some p/\wT σD 0 100 d=some p/\CJ p=c.enc a:=by
 have same:fU σ v=v->(∃q,d=.c q)->∃p,pu σD 0 100 d=some p/\wT σD 0 100 d=some p/\CJ p=c.enc a:=λe ⟨q,A⟩=>by rw[e] at h;subst A;exact ⟨_,rfl,rfl,(QE h r).1⟩
 cases v with
 |c x=>
  cases c with
  |c cc=>
   simp only[fU,ry,Ky] at h;have E:x≠.any:=λe=>by subst e;exact (pR h).1 rfl
   rcases r with r | rfl
   ·simp_all
   obtain ⟨q,t,u⟩:=YU H g h;have s:pu σD 0 100 x.er=some (.c q):=by
    cases w:x.er with
    |agg F=>grind [fN]
    |_=>grind [pu]
   refine ⟨.c q,s,?_,u⟩;cases w:x.er with
   |aS F=>grind [fN]
   |_=>rw[w] at s;exact s
  |st i=>grind [fU,ry,CZ]
  |fp i=>
   cases x with
   |fp j b off=>
    rcases r with r | rfl
    ·simp at r
    exact same rfl ⟨_,rfl⟩
   |own i b v m=>exfalso;simp only[fU,ry] at h;rcases RW (σ:=σ) (i:=i) (b:=b) (v:=v) (m:=m) with ⟨j,l,e⟩ | e <;> rw[e] at h <;> simp[CQ] at h
   |_=>grind [fU,Da,ry,CQ]
  |k f=>
   cases x with
   |d y=>
    rcases r with r | rfl
    ·simp at r
    refine same rfl ?_;simp only[fU,Da,ry,PW] at h
    grind
   |own i b v m=>exfalso;simp only[fU,ry] at h;rcases RW (σ:=σ) (i:=i) (b:=b) (v:=v) (m:=m) with ⟨j,l,e⟩ | e <;> rw[e] at h <;> simp[PW] at h
   |_=>grind [fU,Da,ry,PW]
 |agg G=>
  cases c with
  |st i=>
   obtain ⟨y,t,rfl⟩:=Ls h;obtain ⟨ds,rfl,K⟩:=r;rw[K.eq (On σ t)];obtain ⟨L,u,s⟩:=frTs_ok H g t;have z:=frz_agg (σ:=σD) u;refine ⟨_,z,z,?_⟩
   grind [CJ,dm.enc,vg,Ty.pm]
  |c x=>grind [fU,ry,Ky]
  |fp i=>grind [fU,ry,CQ]
  |k i=>grind [fU,ry,PW]
 |aS G=>grind [fU,ry,CZ,Ky,CQ,PW]
theorem frVs_ok(H:RH σ σD):∀{cs:List dm}{vs:List TV}{ds:List D}{a:tB cs},(∀v∈vs,GV σ v)->fP vs ds->zp cs (vs.map (fU σ))=some a->∃b,ds.mapM (wT σD 0 100)=some b/\b.map CJ=ud cs a:=by
 intro cs;induction cs with
 |nil=>
  intro vs ds a _ r h;cases r with
  |nil=>exact ⟨[],rfl,rfl⟩
  |cons _ _=>grind [zp]
 |cons c cs ih=>
  intro vs ds a g r h;cases r with
  |nil=>grind [zp]
  |cons d r=>
   simp only[ru,zp] at h;split at h
   ·rename_i x y e f;simp only[au] at h;subst h;obtain ⟨i,_,j,p⟩:=QG H (g _ (ql ..)) d e;obtain ⟨b,l,q⟩:=ih (λv m=>g v (lI _ m)) r f;exact ⟨i::b,mapM_c j l,by grind [ud]⟩
   simp_all
theorem TS{cs:List dm}(h:cs.all dm.gr=true)(x:lL cs):(tZ cs x).ground=true:=by
 have cc:∀(c:CC)(a:c.dn),c.gr=true->(D.c (tn enc c a)).ground=true:=by intro c a h;cases c <;> first | rfl | grind [CC.gr]
 have b:∀(cs:List CC)(x:aS cs),cs.all CC.gr=true->D.ground.hY ((nK enc cs x).map .c)=true:=by
  intro cs;induction cs with
  |nil=>intro x _;rfl
  |cons c cs ih=>
   intro x h;simp only[List.all_cons,bN] at h
   grind [nK,D.ground.hY]
 have e:∀(c:dm)(a:c.dn),c.gr=true->(c.enc a).ground=true:=by
  intro c a h;cases c with
  |c x=>exact cc x a h
  |st i=>simp only[dm.enc,D.ground,vg];exact b _ _ h
  |fp i=>grind [dm.gr]
  |k g=>grind [dm.gr]
 have f:∀(cs:List dm)(x:lL cs),cs.all dm.gr=true->D.ground.hY (tA cs x)=true:=by
  intro cs;induction cs with
  |nil=>intro x _;rfl
  |cons c cs ih=>
   intro x h;simp only[List.all_cons,bN] at h;cases cs with
   |nil=>grind [tA,D.ground.hY]
   |cons d cs=>simp only[tA,D.ground.hY,e c x.1 h.1,yCn];simp_all
 have:=f cs x h;unfold tZ one;split
 ·rename_i d h;rw[h] at this;simp only[D.ground.hY,Np] at this;omega
 ·exact this
theorem spc_ok{S:sV}{g:Nat}{s:bD}{vs:List TV}{ds:List D}{a:tB s.ins}{r:lL s.out}(hs:ZR g S=some s)(d:fP vs ds)(e:zp s.ins vs=some a)(f:s.f a=some r) :
  Dn (Ho S) g ds σD=some (tZ s.out r,σD,[]):=by
 obtain ⟨h,i⟩:=Sf e d;exact AN (ZH hs) i h (SQ (λa b=>Nb) f) (YY s.out r)
theorem own_low{v:TV}{d:D}(h:yO v=true)(r:RT v d):d.low 0=false:=by
 cases v with
 |c x=>
  cases x <;> simp[yO,Se] at h
  rcases r with r | rfl
  ·simp at r
  ·simp[TC.er,D.low]
 |agg f=>
  obtain ⟨ds,rfl,g⟩:=r;simp only[yO] at h;simp only[D.low];induction g with
  |nil=>simp at h
  |cons e _ ih=>
   rename_i a b l m _;simp only[List.any_cons,gF] at h;simp only[D.low.cV];rcases h with h | h
   ·cases a <;> simp[Se] at h
    rcases e with e | rfl
    ·grind
    ·simp[TC.er,D.low]
   simp_all
 |aS f=>grind [yO]
theorem XQ{vs:List TV}{ds:List D}(r:fP vs ds)(h:vs.any yO=true):(ds.all λd=>d.low 0&&d.plain)=false:=by
 induction r with
 |nil=>simp at h
 |cons a _ ih=>
  simp only[List.any_cons,gF] at h;simp only[List.all_cons];rcases h with h | h
  ·grind [own_low]
  simp_all
theorem YD{S:sV}(H:RH σ σD){g:Nat}{s:bD}{vs:List TV}{ds:List D}{a:tB s.ins}{r:lL s.out}(hs:ZR g S=some s)(e:∀v∈vs,GV σ v)(d:fP vs ds)(f:s.out.all dm.gr=true)(h:vs.any yO=true)
  (i:zp s.ins (vs.map (fU σ))=some a) (j:s.f a=some r):Dn (Ho S) g ds σD=some (tZ s.out r,σD,[]):=by
 obtain ⟨l,m,p⟩:=frVs_ok H e d i;exact Ku (ZH hs) (XQ d h) m p (SQ (λa b=>Nb) j) (TS f r)
end
end Go.Abs
end
section
namespace Go.Abs
noncomputable section
variable[Gl][Y:Ty]
variable{P:Program}{orc:wK}{n:Nat}{alD:AL}{σ σ1:TH}{σD σD1:ar}{o:lm}{Q:TV->TH->Bool->List Nat->Prop}{rd:aP->Option TV}
theorem rt0:RT (.aS []) (.aS []):=⟨[],rfl,.nil⟩
theorem EA:∀{z:List D}{m:Nat},D.low.cV 0 z=true->∀d∈z,d.low m=true:=by
 intro z;induction z with
 |nil=>simp_all
 |cons x z ih=>
  intro m h d hd;simp only[D.low.cV,bN] at h;rcases gq.1 hd with rfl | hd
  ·exact D.eJ (Px _) h.1
  simp_all
theorem aJ.ds:∀(z:List D),aJ RC (z.map .d) z:=by
 intro z;induction z with
 |nil=>exact .nil
 |cons d z ih=>exact .cons (.inr rfl) ih
theorem JZ{z:List D}(h:D.low.cV 0 z=true):∀x∈z.map TC.d,GC σ x:=by intro x a;rw[gD] at a;obtain ⟨d,hd,rfl⟩:=a;exact EA h d hd
theorem ID{z:List D}(h:D.low.cV 0 z=true)(k:Nat):∀x∈(uf k z).map TC.d,GC σ x:=by intro x a;rw[gD] at a;obtain ⟨d,hd,rfl⟩:=a;simp only[uf,List.mem_flatten,List.mem_replicate] at hd;obtain ⟨l,⟨_,rfl⟩,hd⟩:=hd;exact EA h d hd
theorem WI:∀{cs:List CC}{xs:List TC}{a:aS cs},Ss xs=true->Fp cs xs=some a->xs.map TC.er=(nK enc cs a).map .c:=by
 intro cs;induction cs with
 |nil=>
  intro xs a _ h;cases xs with
  |nil=>rfl
  |cons x xs=>grind [Fp]
 |cons c cs ih=>
  intro xs a b h;cases xs with
  |nil=>grind [Fp]
  |cons x xs=>grind [Fp,Ss,List.cons.injEq,Qi,nK]
theorem BZ{i:Nat}{xs:List TC}{a:TT i}(h:mkT i xs=some a):xs.map TC.er=(enc i a).map .c/\∀x∈xs,x≠.any:=by grind [mkT,vg,Ty.pm,WI,PS]
theorem Y_{i:Nat}:∀{k:Nat}{xs:List TC}{l:List (TT i)}{ds:List D},Hf i k xs=some l->aJ RC xs ds->ds=(l.flatMap (enc i)).map .c/\l.length=k:=by
 intro k;induction k with
 |zero=>
  intro xs l ds h r;cases xs with
  |nil=>simp only[Hf,au] at h;subst h;cases r;simp_all
  |cons x xs=>grind [Hf]
 |succ k ih=>
  intro xs l ds h r;simp only[Hf] at h;split at h
  ·rename_i a f b d;simp only[au] at h;subst h;obtain ⟨g,e⟩:=BZ b;obtain ⟨j,m⟩:=ih d (r.drop (aw i));have p:=(r.take (aw i)).eq e
   grind [List.take_append_drop]
  simp_all
theorem RY{v:TV}{d:D}{q:Int}(h:kR v=some q)(r:RT v d):d=I q:=by
 unfold kR at h;split at h
 ·simp only[au] at h;subst h;rcases r with r | rfl
  ·simp at r
  ·rfl
 simp_all
theorem RT.c1{x:TC}{d:D}(i:x≠.any)(r:RT (.c x) d):d=x.er:=by
 rcases r with r | r
 ·simp_all
 omega
theorem IN{k:IntKind}:∀{xs:List TC}{l:List Int}{ds:List D},ints k xs=some l->aJ RC xs ds->ds=l.map λz=>.c (.lit (.int k z)):=by
 intro xs l ds h r;induction r generalizing l with
 |nil=>grind [ints]
 |cons b _ ih=>
  simp only[ints] at h;split at h
  ·rename_i a g d f;simp only[au] at h;subst h;obtain ⟨i,_⟩:=pR d;rw[ih f,ru];congr 1;rcases b with b | rfl
   ·simp_all
   ·rcases Qi d with e | e
    ·grind [DE]
    ·rw[e];rfl
  simp_all
theorem dy.c{x:aP}{y:TC}(i:dy σ alD rd)(h:rd x=some (.c y))(s:y≠.any):lx alD x=some y.er/\GC σ y:=by obtain ⟨d,u,z,j⟩:=i x _ h;exact ⟨by grind [RT.c1],j⟩
theorem dy.int{x:aP}{v:TV}{q:Int}(i:dy σ alD rd)(h:rd x=some v)(j:kR v=some q):lx alD x=some (I q):=by
 obtain ⟨d,s,u,_⟩:=i x _ h
 grind [RY]
theorem dy.all(i:dy σ alD rd):∀{xs:List aP}{vs:List TV},NV rd xs=some vs->∃ds,VX alD xs=some ds/\fP vs ds/\∀v∈vs,GV σ v:=by
 intro xs;induction xs with
 |nil=>intro vs h;simp only[NV,au] at h;subst h;exact ⟨[],rfl,.nil,by simp⟩
 |cons x xs ih=>
  intro vs h;simp only[NV] at h;split at h
  ·rename_i a b j s;simp only[au] at h;subst h;obtain ⟨d,A,u,E⟩:=i x a j;obtain ⟨ds,F,z,G⟩:=ih s;refine ⟨d::ds,by grind [VX],.cons u z,λv K=>?_⟩
   grind
  simp_all
theorem castL_len{i j:Nat}{l:List (TT j)}{m:List (TT i)}(h:fA l=some m):m.length=l.length:=by grind [RQ]
theorem AU(H:RH σ σD){b i j a d:Nat}{l:List (TT j)}{m:List (TT i)}(e:σ[b]? = some (.row j l a d))(h:fA l=some m):σ[b]? = some (.row i m a d):=by grind [RQ]
theorem Jh(H:RH σ σD){i:Nat}{v:TV}{d:D}{m:List (TT i)}(h:EU i σ v=some m)(r:RT v d)(g:GV σ v):Src σD (enc i) (aw i) d m:=by
 unfold EU at h;split at h
 ·rename_i j l;obtain ⟨rfl,rfl⟩:=RQ h;rw[RT.c1 (by simp) r];exact DH (sE j)
 ·simp only[au] at h;subst h;rw[RT.c1 (by simp) r];exact src_nil
 ·rename_i j b v q;split at h
  ·rename_i t l u w f;split at h
   ·rename_i a;have a:=cY a;obtain ⟨blk,e,p⟩:=g;rw[f] at e;simp only[au] at e;obtain ⟨_,s⟩:=p _ _ _ _ e.symm;obtain ⟨rfl,rfl⟩:=s a.symm;obtain ⟨rfl,rfl⟩:=RQ h;rw[RT.c1 (by simp) r];exact Sy (sE _) (H.row f) rfl
   simp_all
  simp_all
 simp_all
theorem srcN_ok(H:RH σ σD){i:Nat}{v:TV}{d:D}{m:List (TT i)}(h:EU i σ v=some m)(r:RT v d)(g:GV σ v):Wi σD (enc i) (aw i) d m:=by
 unfold EU at h;split at h
 ·rename_i j l;obtain ⟨rfl,rfl⟩:=RQ h;rw[RT.c1 (by simp) r];exact WS (sE j)
 ·simp only[au] at h;subst h;rw[RT.c1 (by simp) r];exact XN
 ·rename_i j b v q;split at h
  ·rename_i t l u w f;split at h
   ·rename_i a;have a:=cY a;obtain ⟨blk,e,p⟩:=g;rw[f] at e;simp only[au] at e;obtain ⟨_,s⟩:=p _ _ _ _ e.symm;obtain ⟨rfl,rfl⟩:=s a.symm;obtain ⟨rfl,rfl⟩:=RQ h;rw[RT.c1 (by simp) r];exact Za (sE _) (H.row f) rfl
   simp_all
  simp_all
 simp_all
theorem os_row(H:RH σ σD){i b v q lo len j a e:Nat}{l:List (TT j)}(g:GC σ (.os i b v q lo len))(f:σ[b]? = some (.row j l a e))(d:Nat.beq a v=true):j=i/\q=l.length/\lo+len<=q:=by
 have d:=cY d;obtain ⟨blk,h,m⟩:=g
 grind
theorem rI(H:RH σ σD){i b v q j a e:Nat}{l:List (TT j)}(g:GC σ (.own i b v q))(f:σ[b]? = some (.row j l a e))(d:Nat.beq a v=true):j=i/\q=l.length:=by
 have d:=cY d;obtain ⟨blk,h,m⟩:=g
 grind
theorem XY(H:RH σ σD){i b v q j f d off:Nat}{k:Int}{a:TT i}{l:List (TT j)}(g:GC σ (.op i b v q k a off))(h:σ[b]? = some (.row j l f d))(e:Nat.beq d v=true):∃m:List (TT i),fA l=some m/\q=m.length/\aB m k=some a:=by
 have e:=cY e;obtain ⟨blk,p,s⟩:=g
 simp_all
theorem Oz{m:Option Nat}{i:Nat}{a:TT i}{off:Nat}{v:TV}(h:Bj m (exp i a) off=some v):∃d,uq m ((enc i a).map .c) off=some d/\RT v d/\GV σ v:=by
 obtain ⟨d,b,e⟩:=zT h (Tx i a)
 grind [qK,uT]
variable{R:Type}{k:KO R}{r:R}
theorem Yo:∀{xs:List Value}{l:List Int},Ns xs=some l->xs=l.map λz=>.int .i64 z:=by
 intro xs;induction xs with
 |nil=>grind [Ns]
 |cons x xs ih=>
  intro l h;unfold Ns at h
  grind
theorem ZN:∀{xs:List C}{l:List Int},NF xs=some l->xs=l.map λz=>.lit (.int .i64 z):=by
 intro xs;induction xs with
 |nil=>grind [NF]
 |cons x xs ih=>
  intro l h;unfold NF at h
  grind
theorem ZG{S:sV}{G:Nat}{m:Option Nat}{x:aP}(K:dy σ alD rd)(H:RH σ σD)(h:gE P S G (.load m x) rd σ k=some r):dq P orc n alD σ σD (.load m x) (λv σ1 rs wr=>k v σ1 rs wr=some r):=by
 simp only[gE] at h;split at h
 ·rename_i b off sz f;obtain ⟨s,_⟩:=K.c f (by simp);split at h
  ·rename_i w N t;obtain ⟨ds,u,A,L,_⟩:=H.cells t;split at h
   ·rename_i v hs E;obtain ⟨d,M,F⟩:=zT E A;refine dq.pure (rU s (Pc u (by simp_all)) M) F (qK E λy X=>?_) H h;rw[gD] at X;obtain ⟨p,Z,rfl⟩:=X;exact (H.hg b w N t p Z).1
   simp_all
  simp_all
 ·rename_i i a off f;obtain ⟨s,_⟩:=K.c f (by simp);split at h
  ·rename_i v E;obtain ⟨d,u,A,L⟩:=Oz (σ:=σ) E;exact dq.pure (Es s u) A L H h
  simp_all
 ·rename_i i b v q z a off f;obtain ⟨s,g⟩:=K.c f (by simp);split at h
  ·rename_i j l lv cv t;split at h
   ·rename_i v' E O;obtain ⟨m',u,rfl,A⟩:=XY H g t E;have T:=AU H t u;obtain ⟨d,L,M,F⟩:=Oz (σ:=σ) O;exact dq.pure (Zj (sE i) s rfl (H.row T) rfl (YW A) L) M F H h
   simp_all
  simp_all
 ·rename_i b off len sz i f;obtain ⟨s,g⟩:=K.c f (by simp);split at h
  ·rename_i w N t;obtain ⟨ds,u,A,L,_⟩:=H.cells t;split at h
   ·rename_i l hs U;simp only[bN] at hs;obtain ⟨a,W,hk⟩:=Bg h;have M:=IN U ((A.drop off).take len);obtain ⟨a1,a2,a3⟩:=pA W;refine dq.one hk (rU s (Pc u (by simp_all)) (d:=I a) ?_) rfl rfl H;have F:((ds.drop off).take len)[i.toNat]? = some (I a):=by simp_all
    have h7:i.toNat<len:=by grind
    rw[yBt h7,yBF] at F;simp only[uq,Nat.mul_one];exact F
   simp_all
  simp_all
 ·rename_i N off f;obtain ⟨s,g⟩:=K.c f (by simp);split at h
  ·rename_i l U;obtain ⟨a,W,hk⟩:=Bg h;obtain ⟨a1,a2,a3⟩:=pA W;have e:=ZN U;subst e;refine dq.one hk (Es s (d:=I a) ?_) rfl rfl H
   grind [uq]
  simp_all
 simp_all
theorem Uc{S:sV}{O:Nat}{m:Nat}{x y:aP}(U:dy σ alD rd)(H:RH σ σD)(h:gE P S O (.store m x y) rd σ k=some r):dq P orc n alD σ σD (.store m x y) (λv σ1 rs wr=>k v σ1 rs wr=some r):=by
 simp only[gE] at h;split at h
 ·rename_i b off sz v hx hv;obtain ⟨h1,_⟩:=U.c hx (by simp);obtain ⟨d,h2,h3,h4⟩:=U _ _ hv;split at h
  ·rename_i w E f L A;obtain ⟨ds,h5,h6,h7,aa⟩:=H.cells L;obtain ⟨h8,h9,ab⟩:=qS A h3;split at h
   ·rename_i u;simp only[bN] at u;have c1:=cY u.1;have c2:=cY u.2.1;have c3:=CY u.2.2;have F:(tq E off (f.map λx=>(w+1,x))).length=E.length:=by
     grind [tq]
    have s:BE (.cells w E) (.cells (w+1) (tq E off (f.map λx=>(w+1,x)))):=by
     refine ⟨w+1,_,rfl,by omega,F,λj v x v1 x1 W X=>?_⟩;by_cases hj:j<off
     ·grind [tq]
     ·by_cases ak:j<off+f.length
      ·right;simp only[tq] at X
       grind
      ·left;simp only[tq] at X
       grind
    have M:∀w' N,TB.cells (w+1) (tq E off (f.map λx=>(w+1,x)))=.cells w' N->∀p∈N,GC σ p.2/\p.1<=w':=by
     intro w' N e p G;simp only[TB.cells.injEq] at e;obtain ⟨rfl,rfl⟩:=e;rcases Oh G with G | G
     ·obtain ⟨q1,q2⟩:=H.hg b w E L p G
      grind
     ·rw[gD] at G;obtain ⟨y,hy,rfl⟩:=G;exact ⟨vS A h4 y hy,cX _⟩
    have ad:RB (.cells (w+1) (tq E off (f.map λx=>(w+1,x)))) (.cells (put ds off (f.map TC.er))):=by unfold RB TB.er;rw[aa];simp[put,tq,Function.comp_def]
    refine ⟨_,_,_,_,.aS [],σD.set b (.cells (put ds off (f.map TC.er))),DL h1 (Pc h5 (by omega)) h2 h8 ⟨by simp_all,c3⟩ rfl,rt0,?_,H.set L s ad M,Ext.set L s,λ_=>?_,λe=>by grind [sQ],h⟩
    ·intro p G;grind
    ·simp only[jt,List.all_cons,List.all_nil,Np];rw[h5,Hs h5];simp only[Ob.sz,nB]
     grind [put]
   simp_all
  simp_all
 ·rename_i i b v q z a off xv hx hv;obtain ⟨h1,g⟩:=U.c hx (by simp);obtain ⟨d,h2,h3,h4⟩:=U _ _ hv;split at h
  ·rename_i j l lv cv f L A;obtain ⟨h8,h9,ab⟩:=qS A h3;split at h
   ·rename_i Z l' u ha hl;simp only[bN] at u;obtain ⟨m',W,rfl,X⟩:=XY H g L u.1;rw[hl] at W;simp only[au] at W;subst W;have t:=AU H L hl;have c2:=cY u.2.1;obtain ⟨e3,e4⟩:=BZ ha;have K:(tq (exp i a) off f).map TC.er=((exp i a).map TC.er).take off++f.map TC.er++((exp i a).map TC.er).drop (off+f.length):=by
     simp[tq]
    rw[e3,vF] at K;obtain ⟨T,af⟩:∃T:List C,f.map TC.er=T.map .c:=by
     have c3:=CY u.2.2;refine ⟨((enc i Z).drop off).take f.length,?_⟩;rw[yCe,List.map_drop,K];have l1:(((enc i a).map D.c).take off).length=off:=by grind [sE]
     simp_all
    have F:T.length=f.length:=by have:=Dr List.length af;grind
    have he:enc i Z=(enc i a).take off++T++(enc i a).drop (off+T.length):=by
     apply Mg
     simp_all
    have s:BE (.row i l' lv cv) (.row i (l'.set z.toNat Z) lv (cv+1)):=⟨_,_,_,rfl,cX _,by omega,λ_=>by simp,λe=>by omega⟩;refine ⟨_,_,_,_,.aS [],σD.set b (OB (enc i) (l'.set z.toNat Z)),Vy (sE i) h1 rfl (H.row t) rfl (YW X) h2 (by simp_all) (by omega) u.2.2 he rfl rfl,rt0,?_,H.set t s rfl (λw E e=>by simp at e),Ext.set t s,λ_=>?_,λe=>by grind [sQ],h⟩
    ·intro p G;grind
    ·simp only[jt,List.all_cons,List.all_nil,Np];rw[H.row t,Hs (H.row t)];simp[Ob.sz,eK (sE i)]
   simp_all
  simp_all
 simp_all
end
end Go.Abs
end
