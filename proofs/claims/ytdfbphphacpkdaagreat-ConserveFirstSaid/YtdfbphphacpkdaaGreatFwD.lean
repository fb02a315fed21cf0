/- DfwPa, DfwPb, DfwPc, DfwCx, DfwPd, DfwRf, DfwPe, DfwPf -/
import Derived.Test.YtdfbphphacpkdaaGreatFwC
import Derived.Test.YtdfbphphacpkdaaGreatFwB
import Derived.RangeFuncStops
import Derived.ControlIn
set_option linter.all false
section
namespace Go.Abs
variable[Gl]
inductive CC where
 |int (k:IntKind)
 |bool
 |str
 |sl (i:Nat)
 |fk (gs:List Nat)
 deriving DecidableEq,Inhabited
@[reducible] def CC.den(T:Nat->Type):CC->Type
 |.int _=>Int
 |.bool=>Bool
 |.str=>ByteArray
 |.sl i=>List (T i)
 |.fk _=>Nat
@[reducible] def tupT(T:Nat->Type):List CC->Type
 |[]=>Unit
 |c::a=>c.den T×tupT T a
def okL(i:Nat):List CC->Bool
 |[]=>true
 |.sl j::l=>Nat.blt j i&&okL i l
 |_::l=>okL i l
theorem yM{i j:Nat}:∀{l:List CC},okL i l=true->CC.sl j∈l->j<i:=by
 intro l;induction l with
 |nil=>intro _ h;simp at h
 |cons c l ih=>
  intro e h;cases c <;> simp only[okL,bG,gn,reduceCtorEq,false_or,CC.sl.injEq] at e h
  case sl=>rcases h with rfl | h;exact tM.mp e.1;exact ih e.2 h
  all_goals exact ih e h
class Ty where
 T:Nat->Type
 fl:Nat->List CC
 prj:∀i,T i->tupT T (fl i)
 mkt:∀i,tupT T (fl i)->T i
 mp:∀i a,mkt i (prj i a)=a
 pm:∀i x,prj i (mkt i x)=x
 dn:∀i j,CC.sl j∈fl i->j<i
 ps:∀i,0<(fl i).length
section
variable[Y:Ty]
abbrev TT(i:Nat):Type:=Y.T i
abbrev CC.dn(c:CC):Type:=c.den Y.T
abbrev aQ(cs:List CC):Type:=tupT Y.T cs
abbrev aw(i:Nat):Nat:=(Y.fl i).length
def sK(rec:(j:Nat)->TT j->List C):(c:CC)->c.dn->C
 |.int k,n=>.lit (.int k n)
 |.bool,b=>.lit (.bool b)
 |.str,s=>.lit (.string s)
 |.sl j,l=>.cB false (l.map (rec j))
 |.fk _,g=>.fn (.func g) [] []
def nE(rec:(j:Nat)->TT j->List C):(cs:List CC)->aQ cs->List C
 |[],_=>[]
 |c::cs,x=>sK rec c x.1::nE rec cs x.2
def MO:Nat->(i:Nat)->TT i->List C
 |0,_,_=>[]
 |k+1,i,a=>nE (MO k) (Y.fl i) (Y.prj i a)
def enc(i:Nat)(a:TT i):List C:=MO (i+1) i a
theorem Ek{a b:(j:Nat)->TT j->List C}:∀(cs:List CC)(x:aQ cs),(∀j,CC.sl j∈cs->a j=b j)->nE a cs x=nE b cs x:=by
 intro cs;induction cs with
 |nil=>intro x _;rfl
 |cons c cs ih=>
  intro x h;simp only[nE];rw[ih x.2 λj d=>h j (oD _ d)];congr 1;cases c with
  |sl j=>grind [sK]
  |_=>rfl
theorem WL:∀(k i:Nat),i<k->MO (Y:=Y) k i=enc i:=by
 intro k;induction k using Nat.strongRecOn with
 |_ k ih=>
  intro i e;funext a;cases k with
  |zero=>omega
  |succ k=>
   simp only[enc,MO];refine Ek _ _ λj b=>?_;have d:=Y.dn i j b
   grind
theorem vl(i:Nat)(a:TT i):enc i a=nE enc (Y.fl i) (Y.prj i a):=by show nE (MO i) (Y.fl i) (Y.prj i a)=_;exact Ek _ _ λj b=>WL i j (Y.dn i j b)
theorem YH{r:(j:Nat)->TT j->List C}:∀(cs:List CC)(x:aQ cs),(nE r cs x).length=cs.length:=by
 intro cs;induction cs with
 |nil=>intro x;rfl
 |cons c cs ih=>grind [nE]
theorem rT(i:Nat)(a:TT i):(enc i a).length=aw i:=by rw[vl,YH]
theorem Mn{r:(j:Nat)->TT j->List C}{c:CC}(d:∀j,c=.sl j->∀a b,r j a=r j b->a=b){a b:c.dn}(h:sK r c a=sK r c b):a=b:=by
 cases c with
 |int k=>grind [sK]
 |bool=>grind [sK]
 |str=>grind [sK]
 |sl j=>simp only[sK,C.cB.injEq,true_and] at h;exact map_inj (λ{a b}=>d j rfl a b) h
 |fk e=>simpa[sK] using h
theorem Yg{r:(j:Nat)->TT j->List C}:∀{cs:List CC},(∀j,CC.sl j∈cs->∀a b,r j a=r j b->a=b)->∀{x y:aQ cs},nE r cs x=nE r cs y->x=y:=by
 intro cs;induction cs with
 |nil=>simp_all
 |cons c cs ih=>grind [nE,Mn]
theorem JK:∀(i:Nat)(a b:TT i),enc i a=enc i b->a=b:=by
 intro i;induction i using Nat.strongRecOn with
 |_ i ih=>intro a b h;rw[vl,vl] at h;have:=Yg (λj d=>ih j (Y.dn i j d)) h;rw[<-Y.mp i a,<-Y.mp i b,this]
inductive CV where
 |d (x:D)
 |b (e:Bool)
 |sl (i:Nat) (l:List (TT i))
def CV.er:CV->D
 |.d x=>x
 |.b e=>B e
 |.sl i l=>.c (.cB false (l.map (enc i)))
def CV.low(m:Nat):CV->Bool
 |.d x=>x.low m
 |_=>true
inductive TC where
 |any
 |d (x:D)
 |b (e:Bool)
 |sl (i:Nat) (l:List (TT i))
 |own (i b v n:Nat)
 |fp (i:Nat) (a:TT i) (off:Nat)
 |op (i b v n:Nat) (k:Int) (a:TT i) (off:Nat)
 |ap (b off len sz:Nat) (k:Int)
 |os (i b v n lo len:Nat)
 |fl (n:Int)
 |cx (x y:Int)
 |FQ (g:FuncId) (xs:List CV)
def TC.er:TC->D
 |.any=>.any
 |.d x=>x
 |.b e=>B e
 |.sl i l=>.c (.cB false (l.map (enc i)))
 |.own i c _ n=>OS (aw i) c n
 |.fp i a off=>.c (.cD (enc i a) off)
 |.op i c _ n k _ off=>.ptr c (k.toNat * aw i+off) (n * aw i)
 |.ap c off _ sz k=>.ptr c (off+k.toNat * 1) sz
 |.os i c _ n j len=>.sl c (0+j * aw i) len (aw i) (n * aw i)
 |.fl n=>.c (.lit (.float .f64 (Fl.fl n)))
 |.cx x y=>.c (.lit (.complex .f64 (Fl.fl x) (Fl.fl y)))
 |.FQ g s=>.fn (.func g) [.agg (s.map CV.er)] []
def RC(x:TC)(d:D):Prop:=x=.any∨d=x.er
inductive TV where
 |c (x:TC)
 |agg (xs:List TC)
 |aQ (xs:List (Bool×List TC))
inductive aJ {α β:Type} (R:α->β->Prop):List α->List β->Prop where
 |nil:aJ R [] []
 |cons {a:α} {b:β} {l:List α} {m:List β} (h:R a b) (r:aJ R l m):aJ R (a::l) (b::m)
def RE(p:Bool×List TC)(d:D):Prop:=
 match p with
 |(true,xs)=>∃ds,d=.agg ds/\aJ RC xs ds
 |(false,xs)=>∃x,xs=[x]/\RC x d
def RT:TV->D->Prop
 |.c x,d=>RC x d
 |.agg xs,d=>∃ds,d=.agg ds/\aJ RC xs ds
 |.aQ xs,d=>∃ds,d=.aQ ds/\aJ RE xs ds
inductive RV where
 |v (x:TV)
 |g (c want:Bool) (p:Nat) (x:TV)
def RR:RV->D->Prop
 |.v x,d=>RT x d
 |.g c want _ x,d=>if c=want then RT x d else d=.aQ []
inductive TB where
 |cells (w:Nat) (cs:List (Nat×TC))
 |row (i:Nat) (l:List (TT i)) (lv cv:Nat)
 |mp (j:Nat) (st:Bool) (l:List (Int×TT j)) (v:Nat)
def K_(j:Nat)(st:Bool)(a:TT j):D:=if st then .agg ((enc j a).map .c) else .c ((enc j a).headD (.lit undef))
def TB.er:TB->Ob
 |.cells _ s=>.cells (s.map λp=>p.2.er)
 |.row i l _ _=>OB (enc i) l
 |.mp j st l _=>MB (K_ j st) l
def RB(blk:TB)(ob:Ob):Prop:=ob=blk.er
abbrev TH:=List TB
abbrev TA:=List (Nat×RV)
def PV(t:Nat):TA->Option RV
 |[]=>none
 |(s,x)::a=>match Nat.beq s t with | true=>some x | false=>PV t a
def iC(t:Nat):TA->Option (RV×Nat)
 |[]=>none
 |(s,x)::a=>match Nat.beq s t with | true=>some (x,a.length) | false=>iC t a
def qX:(c:CC)->c.dn->TC
 |.int k,n=>.d (.c (.lit (.int k n)))
 |.bool,b=>.b b
 |.str,s=>.d (.c (.lit (.string s)))
 |.sl j,l=>.sl j l
 |.fk _,g=>.d (.c (.fn (.func g) [] []))
def vj:(cs:List CC)->aQ cs->List TC
 |[],_=>[]
 |c::cs,x=>qX c x.1::vj cs x.2
def exp(i:Nat)(a:TT i):List TC:=vj (Y.fl i) (Y.prj i a)
theorem ld(c:CC)(a:c.dn):(qX c a).er=.c (sK enc c a):=by cases c <;> rfl
theorem expT_er:∀(cs:List CC)(x:aQ cs),(vj cs x).map TC.er=(nE enc cs x).map .c:=by
 intro cs;induction cs with
 |nil=>intro x;rfl
 |cons c cs ih=>grind [vj,nE,ld]
theorem vp(i:Nat)(a:TT i):(exp i a).map TC.er=(enc i a).map .c:=by rw[exp,expT_er,vl]
theorem aJ.er:∀(xs:List TC),aJ RC xs (xs.map TC.er):=by
 intro xs;induction xs with
 |nil=>exact .nil
 |cons x xs ih=>exact .cons (.inr rfl) ih
theorem aJ.eq:∀{xs:List TC}{ds:List D},aJ RC xs ds->(∀y∈xs,y≠.any)->ds=xs.map TC.er:=by
 intro xs ds h;induction h with
 |nil=>simp_all
 |cons h r ih=>
  intro i;rcases h with h | h
  ·simp_all
  simp_all
theorem aJ.len{α i:Type}{R:α->i->Prop}{l:List α}{m:List i}(h:aJ R l m):l.length=m.length:=by
 induction h with
 |nil=>rfl
 |cons _ _ ih=>simp[ih]
theorem aJ.get{α j:Type}{R:α->j->Prop}{l:List α}{m:List j}(h:aJ R l m):∀(i:Nat) a,l[i]? = some a->∃b,m[i]? = some b/\R a b:=by
 induction h with
 |nil=>simp_all
 |cons h _ ih=>grind
theorem aJ.get'{α j:Type}{R:α->j->Prop}{l:List α}{m:List j}(h:aJ R l m):∀(i:Nat) b,m[i]? = some b->∃a,l[i]? = some a/\R a b:=by
 induction h with
 |nil=>simp_all
 |cons h _ ih=>grind
theorem aJ.YI{α i:Type}{R:α->i->Prop}{l j:List α}{m m':List i}(h:aJ R l m)(s:aJ R j m'):aJ R (l++j) (m++m'):=by
 induction h with
 |nil=>exact s
 |cons h _ ih=>exact .cons h ih
theorem aJ.take{α i:Type}{R:α->i->Prop}{l:List α}{m:List i}(h:aJ R l m):∀n:Nat,aJ R (l.take n) (m.take n):=by
 induction h with
 |nil=>intro n;simp;exact .nil
 |cons h _ ih=>
  intro n;cases n with
  |zero=>exact .nil
  |succ n=>exact .cons h (ih n)
theorem aJ.drop{α i:Type}{R:α->i->Prop}{l:List α}{m:List i}(h:aJ R l m):∀n:Nat,aJ R (l.drop n) (m.drop n):=by
 induction h with
 |nil=>intro n;simp;exact .nil
 |cons h r ih=>
  intro n;cases n with
  |zero=>exact .cons h r
  |succ n=>grind
def fo{i j:Nat}(l:List (TT j)):Option (List (TT i)):=match decEq j i with | .isTrue h=>some (h▸l) | .isFalse _=>none
theorem Rt{i j:Nat}{l:List (TT j)}{m:List (TT i)}(h:fo l=some m):∃e:j=i,m=e▸l:=by
 unfold fo at h;split at h
 ·simp_all
 simp_all
def Cz:(c:CC)->TC->Option c.dn
 |.int k,.d (.c (.lit (.int a n)))=>match decEq a k with | .isTrue _=>some n | .isFalse _=>none
 |.bool,.b e=>some e
 |.bool,.d (.c (.lit (.bool e)))=>some e
 |.str,.d (.c (.lit (.string s)))=>some s
 |.sl _,.sl _ l=>fo l
 |.sl _,.d (.c (.lit (.slice none 0 0)))=>some []
 |.sl _,.d (.c (.cB false []))=>some []
 |.fk _,.d (.c (.fn (.func g) [] []))=>some g
 |_,_=>none
def Dw:(cs:List CC)->List TC->Option (aQ cs)
 |[],[]=>some ()
 |c :: cs, x :: xs => match Cz c x, Dw cs xs with
  |some a,some b=>some (a,b)
  |_,_=>none
 |_,_=>none
theorem oZ{c:CC}{x:TC}{a:c.dn}(h:Cz c x=some a):x≠.any/\wK x.er=.c (sK enc c a):=by
 unfold Cz at h;split at h
 ·split at h
  ·rename_i e _;subst e;simp only[au] at h;subst h;exact ⟨by simp,rfl⟩
  simp_all
 ·simp only[au] at h;subst h;exact ⟨by simp,rfl⟩
 ·simp only[au] at h;subst h;exact ⟨by simp,rfl⟩
 ·simp only[au] at h;subst h;exact ⟨by simp,rfl⟩
 ·obtain ⟨rfl,rfl⟩:=Rt h;exact ⟨by simp,rfl⟩
 ·simp only[au] at h;subst h;exact ⟨by simp,rfl⟩
 ·simp only[au] at h;subst h;exact ⟨by simp,rfl⟩
 ·simp only[au] at h;subst h;exact ⟨by simp,rfl⟩
 ·simp at h
theorem Pd{c:CC}{x:TC}{a:c.dn}(h:Cz c x=some a):x=.d (.c (.lit (.slice none 0 0)))∨x.er=.c (sK enc c a):=by
 unfold Cz at h;split at h
 ·split at h
  ·rename_i e _;subst e;simp only[au] at h;subst h;exact .inr rfl
  simp_all
 ·simp only[au] at h;subst h;exact .inr rfl
 ·simp only[au] at h;subst h;exact .inr rfl
 ·simp only[au] at h;subst h;exact .inr rfl
 ·obtain ⟨rfl,rfl⟩:=Rt h;exact .inr rfl
 ·simp only[au] at h;subst h;exact .inl rfl
 ·simp only[au] at h;subst h;exact .inr rfl
 ·simp only[au] at h;subst h;exact .inr rfl
 ·simp at h
theorem Qj:∀{cs:List CC}{xs:List TC}{a:aQ cs},Dw cs xs=some a->(∀y∈xs,y≠.any)/\(xs.map TC.er).map wK=(nE enc cs a).map .c:=by
 intro cs;induction cs with
 |nil=>
  intro xs a h;cases xs with
  |nil=>exact ⟨by simp,rfl⟩
  |cons x xs=>grind [Dw]
 |cons c cs ih=>
  intro xs a h;cases xs with
  |nil=>grind [Dw]
  |cons x xs=>grind [Dw,oZ,nE]
inductive de where
 |c (x:CC)
 |st (i:Nat)
 |fp (i:Nat)
 |k (g:Nat)
@[reducible] def de.dn:de->Type
 |.c x=>x.dn
 |.st i=>TT i
 |.fp i=>TT i
 |.k _=>Unit
def de.enc:(c:de)->c.dn->D
 |.c x,a=>.c (sK Go.Abs.enc x a)
 |.st i,a=>ST (Go.Abs.enc i a)
 |.fp i,a=>.c (.cD (Go.Abs.enc i a) 0)
 |.k x,_=>.c (.fn (.func x) [] [])
def de.tv:(c:de)->c.dn->TV
 |.c x,a=>.c (qX x a)
 |.st i,a=>.agg (exp i a)
 |.fp i,a=>.c (.fp i a 0)
 |.k x,_=>.c (.d (.c (.fn (.func x) [] [])))
theorem de.ER(c:de)(a:c.dn):RT (c.tv a) (c.enc a):=by
 cases c with
 |c x=>exact .inr (ld x a).symm
 |st i=>exact ⟨_,rfl,by rw[<-vp];exact aJ.er _⟩
 |fp i=>exact .inr rfl
 |k x=>exact .inr rfl
@[reducible] def tf:List de->Type
 |[]=>Unit
 |c::a=>c.dn×tf a
def sJ:(cs:List de)->tf cs->List D
 |[],_=>[]
 |c::cs,x=>c.enc x.1::sJ cs x.2
def tvV:(cs:List de)->tf cs->List TV
 |[],_=>[]
 |c::cs,x=>c.tv x.1::tvV cs x.2
@[reducible] def lI:List de->Type
 |[]=>Unit
 |[c]=>c.dn
 |c::d::a=>c.dn×lI (d::a)
def Ce(i:Nat):TV->Option (TT i)
 |.c (.fp j a 0)=>match decEq j i with | .isTrue h=>some (h▸a) | .isFalse _=>none
 |_=>none
def Pk(g:Nat):TV->Option Unit
 |.c (.d (.c (.fn (.func a) [] [])))=>match Nat.beq a g with | true=>some () | false=>none
 |_=>none
def IP(x:CC):TV->Option x.dn
 |.c y=>Cz x y
 |_=>none
def Cr(i:Nat):TV->Option (TT i)
 |.agg a=>match Dw (Y.fl i) a with | some x=>some (Y.mkt i x) | none=>none
 |_=>none
def qI:(c:de)->TV->Option c.dn
 |.c x,v=>IP x v
 |.st i,v=>Cr i v
 |.fp i,v=>Ce i v
 |.k g,v=>Pk g v
end
end Go.Abs
end
section
namespace Go.Abs
noncomputable section
variable[Gl][Y:Ty]
structure bz where
 ins:List de
 out:List de
 f:tf ins->Option (lI out)
abbrev tH:=List (Nat×bz)
def ZG(g:Nat):tH->Option bz
 |[]=>none
 |(s,f)::l=>match Nat.beq s g with | true=>some f | false=>ZG g l
def Zc(g:Nat)(S:tH):Option bz:=match Nat.blt g 1048576 with | true=>ZG g S | false=>none
def yu:(cs:List de)->List TV->Option (tf cs)
 |[],[]=>some ()
 |c :: cs, x :: xs => match qI c x, yu cs xs with
  |some a,some b=>some (a,b)
  |_,_=>none
 |_,_=>none
def de.te:(c:de)->c.dn->Bool×List TC
 |.c x,a=>(false,[qX x a])
 |.st i,a=>(true,exp i a)
 |.fp i,a=>(false,[.fp i a 0])
 |.k x,_=>(false,[.d (.c (.fn (.func x) [] []))])
def Nu:(cs:List de)->lI cs->List (Bool×List TC)
 |[],_=>[]
 |[c],x=>[c.te x]
 |c::d::cs,x=>c.te x.1::Nu (d::cs) x.2
def outT:(cs:List de)->lI cs->TV
 |[c],x=>c.tv x
 |cs,x=>.aQ (Nu cs x)
def HF:D->TV
 |.agg ds=>.agg (ds.map .d)
 |d=>.c (.d d)
abbrev Kn:=List (Nat×Bool)
def Az(p:Nat):Kn->Option Bool
 |[]=>none
 |(q,b)::l=>match Nat.beq q p with | true=>some b | false=>Az p l
def TF(d:Kn)(a:Option (Nat×Bool))(p:Nat)(w:Bool):Bool:=
 match Az p d with
 |some b=>b == w
 |none => match a with
  |some (q,e)=>Nat.beq q p&&e == w
  |none=>false
def FG(al:TA)(b:Kn)(a:Option (Nat×Bool)):aN->Option TV
 |.k d=>match d.low 0 with | true=>some (HF d) | false=>none
 |.t n => match iC n al with
  |some (.v x,_)=>some x
  |some (.g _ w p x,_)=>match TF b a p w with | true=>some x | false=>none
  |none=>none
def Kp(rd:aN->Option TV):List aN->Option (List TV)
 |[]=>some []
 |x :: xs => match rd x, Kp rd xs with
  |some a,some b=>some (a::b)
  |_,_=>none
def TC.scalar:TC->Bool
 |.any=>false
 |.d x=>x.scalar
 |_=>true
def eV:TV->Option (List TC)
 |.c x=>match x.scalar with | true=>some [x] | false=>none
 |.agg a=>match a.all TC.scalar with | true=>some a | false=>none
 |.aQ _=>none
def sH{α:Type}(cs:List α)(off:Nat)(xs:List α):List α:=cs.take off++xs++cs.drop (off+xs.length)
def DK(rd:aN->Option TV):List TC->List (Nat×Nat×aN)->Option (List TC)
 |a,[]=>some a
 |a, (o, n, x) :: rest=>
  match rd x with
  |some v => match eV v with
   |some b => match Nat.beq b.length n && Nat.ble (o + n) a.length with
    |true=>DK rd (sH a o b) rest
    |false=>none
   |none=>none
  |none=>none
def Be(n:Option Nat)(cs:List TC)(off:Nat):Option TV:=
 match n with
 |none=>match cs[off]? with | some x=>some (.c x) | none=>none
 |some n=>match Nat.ble (off+n) cs.length with | true=>some (.agg ((cs.drop off).take n)) | false=>none
def Qq:List TC->Bool
 |[]=>true
 |.d (.c (.lit (.slice none 0 0)))::_=>false
 |_::xs=>Qq xs
def isAny:TC->Bool
 |.any=>true
 |_=>false
def Su:List TC->Bool
 |[]=>true
 |x::xs=>!(isAny x)&&Su xs
def mkT(i:Nat)(cs:List TC):Option (TT i):=match Qq cs,Dw (Y.fl i) cs with | true,some x=>some (Y.mkt i x) | _,_=>none
def VH(i:Nat):List TC->Option (List (TT i))
 |[]=>some []
 |c :: b => match mkT i [c], VH i b with
  |some a,some l=>some (a::l)
  |_,_=>none
def Gx(i:Nat):Nat->List TC->Option (List (TT i))
 |0,[]=>some []
 |0,_::_=>none
 |k + 1, b => match mkT i (b.take (aw i)), Gx i k (b.drop (aw i)) with
  |some a,some l=>some (a::l)
  |_,_=>none
def Ql:TV->Option Value
 |.c (.d (.c (.lit v)))=>some v
 |.c (.b e)=>some (.bool e)
 |_=>none
def ED:Value->TV
 |.bool e=>.c (.b e)
 |v=>.c (.d (.c (.lit v)))
inductive BX where
 |t
 |f
 |e (x:Bool)
def TZ:TV->Option BX
 |.c (.b e)=>some (.e e)
 |.c (.d (.c (.lit (.bool true))))=>some .t
 |.c (.d (.c (.lit (.bool false))))=>some .f
 |_=>none
def BX.val:BX->Bool
 |.t=>true
 |.f=>false
 |.e x=>x
def pk(c:Bool):BX->BX->Bool
 |.t,.e y=>c || y
 |.e x,.f=>c&&x
 |x,y=>bif c then x.val else y.val
def pkV(c:Bool):BX->BX->TV
 |.t,.t=>.c (.d (.c (.lit (.bool true))))
 |.f,.f=>.c (.d (.c (.lit (.bool false))))
 |x,y=>.c (.b (pk c x y))
def ints(k:IntKind):List TC->Option (List Int)
 |[]=>some []
 |x :: xs => match Cz (.int k) x, ints k xs with
  |some a,some l=>some (a::l)
  |_,_=>none
def Nd:List Value->Option (List Int)
 |[]=>some []
 |.int .i64 a::xs=>match Nd xs with | some l=>some (a::l) | none=>none
 |_::_=>none
def Nf:List C->Option (List Int)
 |[]=>some []
 |.lit (.int .i64 a)::xs=>match Nf xs with | some l=>some (a::l) | none=>none
 |_::_=>none
def valC:TC->Option Value
 |.d (.c (.lit v))=>some v
 |.b e=>some (.bool e)
 |_=>none
def HD:List TC->Option (List Value)
 |[]=>some []
 |x :: xs => match valC x, HD xs with
  |some v,some a=>some (v::a)
  |_,_=>none
def Zb(P:Program)(xs d:Array Value):List Field->Option Bool
 |[]=>some true
 |f :: e => match f.name != "_", fq P (part f.type xs f.offset), fq P (part f.type d f.offset), P.underlying f.type, Zb P xs d e with
  |true,some (.int k a),some (.int g b),some (.int _),some q=>match decEq k g with | .isTrue _=>some (a == b&&q) | .isFalse _=>none
  |true,some (.bool a),some (.bool b),some .bool,some q=>some (a == b&&q)
  |_,_,_,_,_=>none
def WU(P:Program)(xs d:Array Value):List Field->Option Bool
 |[]=>some true
 |f :: e => match f.name != "_", fq P (part f.type xs f.offset), fq P (part f.type d f.offset), P.underlying f.type, WU P xs d e with
  |true,some (.int k a),some (.int g b),some (.int _),some q=>match decEq k g with | .isTrue _=>some (a == b&&q) | .isFalse _=>none
  |true,some (.bool a),some (.bool b),some .bool,some q=>some (a == b&&q)
  |true, some (.agg a), some (.agg b), some (.struct gs), some q => match P.stoodInHeld f.type, Zb P a b gs.toList with
   |false,some r=>some (r&&q)
   |_,_=>none
  |_,_,_,_,_=>none
def eqT(P:Program)(t:TypeId)(xs a:List TC):Option Bool:=
 match HD xs,HD a,P.underlying t,P.eqGuardType P.depth t,P.stoodInHeld t with
 |some b,some d,some (.struct e),false,false=>WU P b.toArray d.toArray e.toList
 |_,_,_,_,_=>none
def Sw(a b:Int):Option Int:=if a.natAbs<2 ^ 52/\b.natAbs<2 ^ 52 then some (a+b) else none
def xh(a b:Int):Option Int:=if a.natAbs<2 ^ 52/\b.natAbs<2 ^ 52 then some (a-b) else none
def xA(a n:Int):Option Int:=if 0<=a/\a<=1048576/\0<=n/\n<=1048576 then some (a * n) else none
def yN(a:Int):Option Int:=if a.natAbs<2 ^ 53 then some a else none
variable{R:Type}
abbrev KO(R:Type):=TV->TH->Bool->List Nat->Option R
def TE(val:Operand->Option TV)(x:Operand):Option Value:=match val x with | some v=>Ql v | none=>none
def genV(P:Program)(op:Op)(ty:TypeId)(val:Operand->Option TV):Option Value:=
 if op.operands.toList.all (λx=>(TE val x).isSome) then
  match fq P (execOp (λx=>(TE val x).getD undef) { dst:=none,op:=op,type:=ty,pos:="",after:=#[],guard:=none }) with
  |some (.value v)=>some v
  |_=>none
 else none
def pa:Value->Bool
 |.agg _ | .tuple _=>false
 |_=>true
abbrev wH(rd:aN->Option TV)(x:Operand):Option TV:=match bS x with | some o=>rd o | none=>none
def genT(P:Program)(op:Op)(ty:TypeId)(rd:aN->Option TV)(σ:TH)(k:KO R):Option R:=
 match op with
 |.binOp o t x y _=>
  match wH rd x,wH rd y with
  |some (.c (.d (.c (.lit (.int f a))))), some (.c (.d (.c (.lit (.int h b)))))=>
   match o with
   |.quo => match decEq f h with
    |.isTrue _=>(MG f a b).bind λv=>k (.c (.d (.c (.lit (.int f v))))) σ false []
    |.isFalse _=>none
   |.rem => match decEq f h with
    |.isTrue _=>(XE a b).bind λv=>k (.c (.d (.c (.lit (.int f v))))) σ false []
    |.isFalse _=>none
   |.shr=>(shr? f a b).bind λv=>k (.c (.d (.c (.lit (.int f v))))) σ false []
   |.shl=>(shl? f a b).bind λv=>k (.c (.d (.c (.lit (.int f v))))) σ false []
   |_ => match gV P o t x y (.int f a) (.int h b) with
    |some v=>match pa v with | true=>k (ED v) σ false [] | false=>none
    |none=>none
  |some (.agg xs), some (.agg i)=>
   match eqT P t xs i with
   |some r => match o with
    |.eql=>k (.c (.b r)) σ false []
    |.neq=>k (.c (.b (!r))) σ false []
    |_=>none
   |none=>none
  |some (.c (.cx a b)), some (.c (.cx c d))=>
   match o with
   |.add=>(Sw a c).bind λu=>(Sw b d).bind λv=>k (.c (.cx u v)) σ false []
   |.sub=>(xh a c).bind λu=>(xh b d).bind λv=>k (.c (.cx u v)) σ false []
   |.mul => match d with
    |.ofNat 0=>(xA a c).bind λu=>(xA b c).bind λv=>k (.c (.cx u v)) σ false []
    |_=>none
   |_=>none
  |some u, some v=>
   match Ql u,Ql v with
   |some (.bool a), some (.bool b)=>
    match o,P.underlying t with
    |.eql,some .bool=>k (.c (.b (a == b))) σ false []
    |.neq,some .bool=>k (.c (.b (!(a == b)))) σ false []
    |_,_=>none
   |some a, some b => match gV P o t x y a b with
    |some v=>match pa v with | true=>k (ED v) σ false [] | false=>none
    |none=>none
   |_,_=>none
  |_,_=>none
 |.unOp o _ x=>
  match wH rd x with
  |some u => match o, Ql u with
   |.not,some (.bool e)=>k (.c (.b (!e))) σ false []
   |o, some a => match fq P (Op.unary o a) with
    |some v=>match pa v with | true=>k (ED v) σ false [] | false=>none
    |none=>none
   |_,_=>none
  |none=>none
 |.convert t g x=>
  match wH rd x with
  |some (.c (.d (.c (.lit (.int f a)))))=>
   match P.underlying g with
   |some (.float .f64)=>match (P.underlying t).isSome with | true=>k (.c (.fl a)) σ false [] | false=>none
   |_ => match fq P (convert t g (.int f a)) with
    |some v=>match pa v with | true=>k (ED v) σ false [] | false=>none
    |none=>none
  |some (.c (.fl a)) => match P.underlying g, (P.underlying t).isSome with
   |some (.int .i64),true=>(yN a).bind λa=>k (.c (.d (.c (.lit (.int .i64 a))))) σ false []
   |_,_=>none
  |some u => match Ql u with
   |some a => match fq P (convert t g a) with
    |some v=>match pa v with | true=>k (ED v) σ false [] | false=>none
    |none=>none
   |none=>none
  |none=>none
 |.call c=>
  match c.callee,c.args.toList with
  |.builtin .min, _ => match genV P (.call c) ty (wH rd) with
   |some v=>match pa v with | true=>k (ED v) σ false [] | false=>none
   |none=>none
  |.builtin .max, _ => match genV P (.call c) ty (wH rd) with
   |some v=>match pa v with | true=>k (ED v) σ false [] | false=>none
   |none=>none
  |.builtin .complex, [x, y] => match wH rd x, wH rd y with
   |some (.c (.fl a)),some (.c (.fl b))=>k (.c (.cx a b)) σ false []
   |some (.c (.fl a)), some (.c (.d (.c (.lit (.float .f64 b))))) => match Nat.beq b (Fl.fl 0) with
    |true=>k (.c (.cx a 0)) σ false []
    |false=>none
   |_,_=>none
  |.builtin .real, [x] => match wH rd x with
   |some (.c (.cx a _))=>k (.c (.fl a)) σ false []
   |_=>none
  |.builtin .imag, [x] => match wH rd x with
   |some (.c (.cx _ b))=>k (.c (.fl b)) σ false []
   |_=>none
  |_,_=>none
 |_=>none
def Ci(σ:TH):TC->TC
 |.own i b v n => match σ[b]? with
  |some (.row j l a _)=>match Nat.beq a v with | true=>.sl j l | false=>.own i b v n
  |_=>.own i b v n
 |x=>x
def fM(σ:TH):TV->TV
 |.c x=>.c (Ci σ x)
 |.agg a=>.agg (a.map (Ci σ))
 |x=>x
def QU:TC->Bool
 |.own ..=>true
 |_=>false
def yg:TV->Bool
 |.c x=>QU x
 |.agg a=>a.any QU
 |_=>false
def CC.gr:CC->Bool
 |.sl _=>false
 |.fk _=>false
 |_=>true
def de.gr:de->Bool
 |.c x=>x.gr
 |.st i=>(Y.fl i).all CC.gr
 |_=>false
def DQ(i:Nat)(σ:TH):TV->Option (List (TT i))
 |.c (.sl _ l)=>fo l
 |.c (.d (.c (.lit (.slice none 0 0))))=>some []
 |.c (.own _ b v _) => match σ[b]? with
  |some (.row _ l a _)=>match Nat.beq a v with | true=>fo l | false=>none
  |_=>none
 |_=>none
def Xn:TC->Option CV
 |.d x=>some (.d x)
 |.b e=>some (.b e)
 |.sl i l=>some (.sl i l)
 |_=>none
def cvT:CV->TC
 |.d x=>.d x
 |.b e=>.b e
 |.sl i l=>.sl i l
def fnaOf:Fn->List TV->List TV->Option (FuncId×List CV)
 |.func g,[.agg xs],[]=>(xs.mapM Xn).map λa=>(g,a)
 |_,_,_=>none
def kC:TV->Option Int
 |.c (.d (.c (.lit (.int .i64 n))))=>some n
 |_=>none
def teT:TV->Bool×List TC
 |.c x=>(false,[x])
 |.agg a=>(true,a)
 |.aQ _=>(false,[])
def mpV(j:Nat)(st:Bool)(a:TT j):TV:=match st with | true=>.agg (exp j a) | false=>.c ((exp j a).headD (.d (.c (.lit undef))))
def mkM(j:Nat)(st:Bool)(v:TV):Option (TT j):=match st,v with
 |true,.agg xs=>mkT j xs
 |false,.c x=>mkT j [x]
 |_,_=>none
def Ml(ok:Bool)(v:TV)(e:Bool):TV:=match ok with
 |true=>.aQ [teT v,(false,[.d (.c (.lit (.bool e)))])]
 |false=>v
def Nx:List Nat->Nat->(Nat->Option R)->Option R
 |[],_,_=>none
 |g::gs,n,f=>cond (Nat.beq n g) (f g) (Nx gs n f)
def splC:(cs:List CC)->aQ cs->(List TC->Option R)->Option R
 |[],_,k=>k []
 |.fk gs::cs,x,k=>Nx gs x.1 λg=>splC cs x.2 λl=>k (.d (.c (.fn (.func g) [] []))::l)
 |c::cs,x,k=>splC cs x.2 λl=>k (qX c x.1::l)
def lkS(b j:Nat)(st:Bool)(a:TT j)(k:TV->Option R):Option R:=match Nat.beq b 1000005,st with
 |true,true=>splC (Y.fl j) (Y.prj j a) λd=>k (.agg d)
 |_,_=>k (mpV j st a)
def gh(P:Program)(S:tH)(e:Nat)(o:kO)(rd:aN->Option TV)(σ:TH)(k:KO R):Option R:=
 match o with
 |.Ai x=>match rd x with | some v=>k v σ false [] | none=>none
 |.gen op ty=>genT P op ty rd σ k
 |.box x => match rd x with
  |some v => match eV v with
   |some h=>k (.c (.d (.ptr σ.length 0 h.length))) (σ++[.cells 0 (h.map λc=>(0,c))]) false []
   |none=>none
  |none=>none
 |.alloc z => match D.low.cL 0 z with
  |true=>k (.c (.d (.ptr σ.length 0 z.length))) (σ++[.cells 0 (z.map λc=>(0,.d c))]) false []
  |false=>none
 |.build z N => match D.low.cL 0 z, DK rd (z.map .d) N with
  |true,some h=>k (.agg h) σ false []
  |_,_=>none
 |.jk p len z N => match Nat.beq e 1000001 with
  |true => match D.low.cL 0 z, DK rd ((tN len z).map .d) N with
   |true, some h => match Su h with
    |true=>k (.c (.d (.sl σ.length 0 len p h.length))) (σ++[.cells 0 (h.map λc=>(0,c))]) false []
    |false=>none
   |_,_=>none
  |false=>match Nat.beq p (aw e)&&D.low.cL 0 z,DK rd ((tN len z).map .d) N with
  |true, some h => match Gx e len h with
   |some l=>k (.c (.own e σ.length 0 len)) (σ++[.row e l 0 0]) false []
   |none=>none
  |_,_=>none
 |.load n a => match rd a with
  |some (.c (.d (.ptr b off sz))) => match σ[b]? with
   |some (.cells _ h) => match Nat.beq h.length sz, Be n (h.map Prod.snd) off with
    |true,some v=>k v σ false []
    |_,_=>none
   |_=>none
  |some (.c (.fp i x off)) => match Be n (exp i x) off with
   |some v=>k v σ false []
   |none=>none
  |some (.c (.op i b v _ _ x off)) => match σ[b]? with
   |some (.row _ _ _ F) => match Nat.beq F v, Be n (exp i x) off with
    |true,some v=>k v σ false []
    |_,_=>none
   |_=>none
  |some (.c (.ap b off len sz i)) => match n, σ[b]? with
   |none, some (.cells _ h) => match Nat.beq h.length sz && Nat.ble (off + len) sz, ints .i64 (((h.map Prod.snd).drop off).take len) with
    |true,some l=>(aB l i).bind λa=>k (.c (.d (.c (.lit (.int .i64 a))))) σ false []
    |_,_=>none
   |_,_=>none
  |some (.c (.d (.c (.cD h off)))) => match n, Nf h with
   |none,some l=>(aB l (off:Int)).bind λa=>k (.c (.d (.c (.lit (.int .i64 a))))) σ false []
   |_,_=>none
  |_=>none
 |.store n a x => match rd a, rd x with
  |some (.c (.d (.ptr b off sz))), some v => match σ[b]?, eV v with
   |some (.cells w h), some xs => match Nat.beq h.length sz && (Nat.beq xs.length n && Nat.ble (off + n) sz) with
    |true=>k (.aQ []) (σ.set b (.cells (w+1) (sH h off (xs.map λx=>(w+1,x))))) false [b]
    |false=>none
   |_,_=>none
  |some (.c (.op i b v _ q a off)), some x => match σ[b]?, eV x with
   |some (.row j l A F), some xs => match Nat.beq F v && (Nat.beq xs.length n && Nat.ble (off + n) (aw i)), mkT i (sH (exp i a) off xs), fo (i := i) l with
    |true,some a',some l=>k (.aQ []) (σ.set b (.row i (l.set q.toNat a') A (F+1))) false [b]
    |_,_,_=>none
   |_,_=>none
  |_,_=>none
 |.nD x => match rd x with
  |some (.c (.d (.ptr b off sz)))=>k (.c (.d (.ptr b off sz))) σ false []
  |some (.c (.d (.c (.fn (.func f) u v))))=>k (.c (.d (.c (.fn (.func f) u v)))) σ false []
  |some (.c (.d (.fn (.func f) u v)))=>k (.c (.d (.fn (.func f) u v))) σ false []
  |some (.c (.fp i a off))=>k (.c (.fp i a off)) σ false []
  |some (.c (.op i b v n q a off))=>k (.c (.op i b v n q a off)) σ false []
  |some (.c (.FQ g xs))=>k (.c (.FQ g xs)) σ false []
  |_=>none
 |.iU W K x => match rd x with
  |some (.c (.d x)) => match isNil W x with
   |some true=>k (.c (.d (.c (.lit (.bool (!K)))))) σ false []
   |some false=>k (.c (.d (.c (.lit (.bool K))))) σ false []
   |none=>none
  |some (.c (.fp ..)) | some (.c (.op ..)) => match W with
   |0=>k (.c (.d (.c (.lit (.bool K))))) σ false []
   |_=>none
  |_=>none
 |.Gq off x => match rd x with
  |some (.c (.d (.ptr b o sz)))=>k (.c (.d (.ptr b (o+off) sz))) σ false []
  |some (.c (.fp i a o))=>k (.c (.fp i a (o+off))) σ false []
  |some (.c (.op i b v n q a o))=>k (.c (.op i b v n q a (o+off))) σ false []
  |_=>none
 |.idx p none x i => match rd x, rd i with
  |some (.c (.sl j l)), some G => match kC G, Nat.beq p (aw j) with
   |some q,true=>(aB l q).bind λa=>k (.c (.fp j a 0)) σ false []
   |_,_=>none
  |some (.c (.own j b v n)), some G => match kC G, Nat.beq p (aw j), σ[b]? with
   |some q, true, some (.row _ l A F) => match Nat.beq A v, fo (i := j) l with
    |true,some l=>(aB l q).bind λa=>k (.c (.op j b F n q a 0)) σ false []
    |_,_=>none
   |_,_,_=>none
  |some (.c (.d (.sl b off len T sz))), some G => match kC G, σ[b]? with
   |some q, some (.cells _ h) => match Nat.beq h.length sz && Nat.beq p T, Bx q len with
    |true,some j=>k (.c (.d (.ptr b (off+j * p) sz))) σ false []
    |_,_=>none
   |_,_=>none
  |_,_=>none
 |.idx p (some len) x (.k i) => match rd x, kC (HF i) with
  |some (.c (.d (.ptr b off sz))), some q => match Bx q len with
   |some j=>k (.c (.d (.ptr b (off+j * p) sz))) σ false []
   |none=>none
  |_,_=>none
 |.idx p (some len) x (.t i) => match rd x, rd (.t i) with
  |some (.c (.d (.ptr b off sz))), some G => match kC G, Nat.beq p 1, σ[b]? with
   |some q, true, some (.cells _ h) => match Nat.beq h.length sz && Nat.ble (off + len) sz, ints .i64 (((h.map Prod.snd).drop off).take len) with
    |true,some l=>(aB l q).bind λ_=>k (.c (.ap b off len sz q)) σ false []
    |_,_=>none
   |_,_,_=>none
  |some (.c (.d (.c (.Va g)))), some G => match kC G, Nat.beq p 1, Nd (Gl.tab g) with
   |some q, true, some (z :: l) => match Nat.beq (z :: l).length len with
    |true=>(aB (z::l) q).bind λ_=>k (.c (.d (.c (.cD ((Gl.tab g).map .lit) (q.toNat * p))))) σ false []
    |false=>none
   |_,_,_=>none
  |_,_=>none
 |.UQ p x O X => match rd x with
  |some (.c (.sl j l))=>
   match Nat.beq p (aw j),(match O with | none=>some (.c (.d (I 0))) | some o=>rd o),(match X with | none=>some (.c (.d (I l.length))) | some o=>rd o) with
   |true, some u, some v => match kC u, kC v with
    |some u,some v=>(slice? l u v).bind λr=>k (.c (.sl j r)) σ false []
    |_,_=>none
   |_,_,_=>none
  |some (.c (.own j b Z n)) => match Nat.beq p (aw j), σ[b]? with
   |true, some (.row _ l A _) => match Nat.beq A Z, (match O with | none => some (.c (.d (I 0))) | some o => rd o), (match X with | none => some (.c (.d (I l.length))) | some o => rd o) with
    |true, some u, some v => match kC u, kC v with
     |some u,some v=>(slice? l u v).bind λ_=>k (.c (.os j b Z l.length u.toNat (v.toNat-u.toNat))) σ false []
     |_,_=>none
    |_,_,_=>none
   |_,_=>none
  |_=>none
 |.Dv m x => match rd x with
  |some (.c (.fp i a off)) => match Nat.ble (off + m) (aw i), VH e (((exp i a).drop off).take m) with
   |true,some l=>k (.c (.sl e l)) σ false []
   |_,_=>none
  |_=>none
 |.uc=>k (.c (.d (.mp σ.length))) (σ++[.mp (e / 2) (Nat.beq (e % 2) 1) [] 0]) false []
 |.lookup E zero m L ok => match E, rd m, rd L, zero.low 0 with
  |.int _, some (.c (.d (.mp b))), some M, true => match σ[b]?, kC M with
   |some (.mp j st l _),some x=>oel (cE l x) (k (Ml ok (HF zero) false) σ false []) (λa=>lkS e j st a λv=>k (Ml ok v true) σ false [])
   |_,_=>none
  |_,_,_,_=>none
 |.sv E m L x => match E, rd m, rd L, rd x with
  |.int _, some (.c (.d (.mp b))), some M, some v => match σ[b]?, kC M with
   |some (.mp j st l RA), some i => match mkM j st v with
    |some a=>k (.aQ []) (σ.set b (.mp j st (jP l i a) (RA+1))) false [b]
    |none=>none
   |_,_=>none
  |_,_,_,_=>none
 |.del E m L => match E, rd m, rd L with
  |.int _, some (.c (.d (.mp b))), some M => match σ[b]?, kC M with
   |some (.mp j st l RA),some i=>k (.aQ []) (σ.set b (.mp j st (Es l i) (RA+1))) false [b]
   |_,_=>none
  |_,_,_=>none
 |.len x => match rd x with
  |some (.c (.sl _ l))=>k (.c (.d (I l.length))) σ false []
  |some (.c (.d (.c (.lit (.slice none 0 0)))))=>k (.c (.d (I 0))) σ false []
  |some (.c (.own _ b v _)) => match σ[b]? with
   |some (.row _ l A _)=>match Nat.beq A v with | true=>k (.c (.d (I l.length))) σ false [] | false=>none
   |_=>none
  |some (.c (.d (.sl b _ len _ sz))) => match σ[b]? with
   |some (.cells _ h)=>match Nat.beq h.length sz with | true=>k (.c (.d (I len))) σ false [] | false=>none
   |_=>none
  |_=>none
 |.mk p t z l c => match Nat.beq p (aw e) && (Nat.ble t 1000 && D.low.cL 0 z), mkT e (z.map .d), rd l, rd c with
  |true, some z0, some u, some v => match kC u, kC v with
   |some u,some v=>(EY z0 u v).bind λr=>k (.c (.own e σ.length 0 r.length)) (σ++[.row e r 0 0]) false []
   |_,_=>none
  |true, none, some (.c (.d (.c (.lit (.int .i64 (.ofNat 0)))))), some v => match kC v with
   |some v=>(mk0? v).bind λr=>k (.c (.own e σ.length 0 r.length)) (σ++[.row e r 0 0]) false []
   |none=>none
  |_,_,_,_=>none
 |.append p t s x => match rd s, rd x with
  |some (.c (.own i b v _)), some y => match σ[b]? with
   |some (.row _ l A F) => match Nat.beq A v && (Nat.beq p (aw i) && Nat.ble t 1000), fo (i := i) l, DQ i σ y with
    |true,some l,some m=>(cr l m).bind λr=>k (.c (.own i b (A+1) r.length)) (σ.set b (.row i r (A+1) (F+1))) true [b]
    |_,_,_=>none
   |_=>none
  |some (.c (.d (.c (.lit (.slice none 0 0))))), some (.c (.own i b v q)) => match Nat.beq p (aw i) && Nat.ble t 1000, DQ i σ (.c (.own i b v q)) with
   |true, some (a :: l) => match Nat.ble (a :: l).length 1000000 with
    |true=>k (.c (.own i σ.length 0 (a::l).length)) (σ++[.row i (a::l) 0 0]) false []
    |false=>none
   |_,_=>none
  |some (.c (.d (.c (.lit (.slice none 0 0))))), some (.c (.sl i l)) => match Nat.beq p (aw i) && Nat.ble t 1000 with
   |true=>(cr [] l).bind λr=>k (.c (.own i σ.length 0 r.length)) (σ++[.row i r 0 0]) false []
   |false=>none
  |_,_=>none
 |.copy p d s => match rd d, rd s with
  |some (.c (.own i b v _)), some y => match σ[b]? with
   |some (.row _ l A F) => match Nat.beq A v && Nat.beq p (aw i), fo (i := i) l, DQ i σ y with
    |true,some l,some m=>k (.c (.d (I ((m.take l.length).length:Int)))) (σ.set b (.row i (cpL l m 0 l.length) A (F+1))) false [b]
    |_,_,_=>none
   |_=>none
  |some (.c (.os i b v _ O len)), some y => match σ[b]? with
   |some (.row _ l A F) => match Nat.beq A v && Nat.beq p (aw i), fo (i := i) l, DQ i σ y with
    |true,some l,some m=>k (.c (.d (I ((m.take len).length:Int)))) (σ.set b (.row i (cpL l m O len) A (F+1))) false [b]
    |_,_,_=>none
   |_=>none
  |_,_=>none
 |.extract x i => match rd x with
  |some (.aQ xs) => match xs[i]? with
   |some (true,h)=>k (.agg h) σ false []
   |some (false,[c])=>k (.c c) σ false []
   |_=>none
  |_=>none
 |.DU f first cap => match Kp rd first, Kp rd cap with
  |some a, some b => match fnaOf f a b with
   |some (g,h)=>k (.c (.FQ g h)) σ false []
   |none => match a.mapM λv => (match v with | .c (.d x) => some x | _ => none), b.mapM λv => (match v with | .c (.d x) => some x | _ => none) with
    |some a,some b=>k (.c (.d (.fn f a b))) σ false []
    |_,_=>none
  |_,_=>none
 |.part off n x => match rd x with
  |some (.agg h) => match Be n h off with
   |some v=>k v σ false []
   |none=>none
  |_=>none
 |.Cb p len n x i => match rd x, rd i with
  |some (.agg h), some G => match i, kC G with
   |.k _, some q => match Bx q len with
    |some j => match Be n h (j * p) with
     |some v=>k v σ false []
     |none=>none
    |none=>none
   |.t _, some q => match n, Nat.beq p 1 && Nat.beq h.length len, ints .i64 h with
    |none,true,some l=>(aB l q).bind λa=>k (.c (.d (.c (.lit (.int .i64 a))))) σ false []
    |_,_,_=>none
   |_,_=>none
  |_,_=>none
 |.call f args => match rd f, Kp rd args with
  |some (.c (.d (.c (.fn (.func g) [] [])))), some U => match Zc g S with
   |some s => match yu s.ins U with
    |some a=>(s.f a).bind λr=>k (outT s.out r) σ false []
    |none => match s.out.all de.gr && U.any yg, yu s.ins (U.map (fM σ)) with
     |true,some a=>(s.f a).bind λr=>k (outT s.out r) σ false []
     |_,_=>none
   |none=>none
  |_,_=>none
 |_=>none
def rZ:kO->Bool
 |.Ai _ | .build .. | .nD _ | .iU .. | .Gq .. | .len _ | .extract .. | .part ..=>true
 |.load _ _=>true
 |.gen (.binOp o ..) _=>match o with | .quo | .rem | .shr=>false | _=>true
 |.gen (.unOp ..) _=>true
 |.gen (.convert ..) _=>true
 |.gen (.call _) _=>true
 |_=>false
inductive GR where
 |TF
 |shut
 |sym (e:Bool) (p:Nat) (w:Bool)
 |spl (e:Bool) (p:Nat)
 |UH (t:Nat) (x:TV)
 |bad
def gdB(d:Kn)(a:Bool)(p:Nat):TV->GR
 |.c (.d (.c (.lit (.bool true))))=>if a then .TF else .shut
 |.c (.d (.c (.lit (.bool false))))=>if a then .shut else .TF
 |.c (.d (.aQ []))=>.shut
 |.c (.b e) => match Az p d with
  |some b=>if b == a then .TF else .shut
  |none=>.sym e p a
 |_=>.bad
def gdC(a:Kn)(p:Nat):TV->GR
 |.c (.d (.c (.lit (.bool true))))=>.TF
 |.c (.d (.c (.lit (.bool false))))=>.shut
 |.c (.b e) => match Az p a with
  |some true=>.TF
  |some false=>.shut
  |none=>.sym e p true
 |_=>.bad
def tGd(al:TA)(a:Kn):Option (Nat×Bool)->GR
 |none=>.TF
 |some (t, want) => match iC t al with
  |some (.v x,p)=>gdB a want p x
  |some (.g c w p x, _) => match Az p a with
   |some b=>if b == w then .UH t x else .shut
   |none=>.spl c p
  |none=>.bad
def blkT(rd:aN->Option TV):kO->Option Nat
 |.load _ x => match rd x with
  |some (.c (.d (.ptr b _ _)))=>some b
  |some (.c (.op _ b ..))=>some b
  |some (.c (.ap b ..))=>some b
  |_=>none
 |_=>none
def hintOf(H:List (Nat×Nat)):Option Nat->Nat
 |none=>0
 |some t=>hk t H
where hk (t:Nat):List (Nat×Nat)->Nat
 |[]=>0
 |(s,i)::l=>match Nat.beq s t with | true=>i | false=>hk t l
abbrev KS(R:Type):=TA->TH->List dW->Option R
def Yl(a:Option Nat)(x:RV)(al:TA):TA:=match a with | some t=>(t,x)::al | none=>al
inductive Pl where
 |r (t:Nat) (c:de)
 |w (b i:Nat)
 |h (b j:Nat) (c:CC)
 |m (b j:Nat) (st:Bool)
@[reducible] def Pl.dn:Pl->Type
 |.r _ c=>c.dn
 |.w _ i=>List (TT i)
 |.h _ _ c=>c.dn
 |.m _ j _=>List (Int×TT j)
@[reducible] def rB:List Pl->Type
 |[]=>Unit
 |[p]=>p.dn
 |p::q::ps=>p.dn×rB (q::ps)
structure JH where
 pl:List Pl
 hs:List (Nat×Nat):=[]
 os:List (Nat×Nat):=[]
 zs:List (Nat×Nat×Nat):=[]
def Ga:List (Nat×Nat)->TA->TH->Option (TA×TH)
  |[],a,σ=>some (a,σ)
  |(t,i)::os,a,σ=>match Nat.ble 1048576 t with
   |true=>match σ[(t-1048576) / 1024]? with
    |some (.cells w b) => match b[(t - 1048576) % 1024]? with
      |some (_,.d (.c (.lit (.slice none 0 0))))=>Ga os a (σ.set ((t-1048576) / 1024) (.cells (w+1) (b.set ((t-1048576) % 1024) (w+1,.own i σ.length 0 0)))++[.row i [] 0 0])
      |some (_,.own ..)=>Ga os a σ
      |_=>none
    |_=>none
   |false=>match PV t a with
    |some (.v (.c (.d (.c (.lit (.slice none 0 0))))))=>Ga os ((t,.v (.c (.own i σ.length 0 0)))::a) (σ++[.row i [] 0 0])
    |some (.v (.c (.own ..)))=>Ga os a σ
    |_=>none
def MJ{i j:Nat}(l:List (Int×TT j)):Option (List (Int×TT i)):=match decEq j i with | .isTrue h=>some (h▸l) | .isFalse _=>none
def l_(ps:List Pl)(b:Nat):Nat->List (Nat×TC)->List (Nat×TC)->Bool
 |_,[],[]=>true
 |j,(v,_)::xs,(w,_)::a=>(Nat.beq v w || ps.any λp=>match p with | .h d e _=>Nat.beq d b&&Nat.beq e j | _=>false)&&l_ ps b (j+1) xs a
 |_,_,_=>false
def za(ps:List Pl)(b:Nat):TB->TB->Bool
 |.cells _ xs,.cells _ d=>l_ ps b 0 xs d
 |.row _ _ _ v,.row _ _ _ w=>Nat.beq v w || ps.any λp=>match p with | .w a _=>Nat.beq a b | _=>false
 |.mp _ _ _ v,.mp _ _ _ w=>Nat.beq v w || ps.any λp=>match p with | .m a _ _=>Nat.beq a b | _=>false
 |_,_=>false
def eC(ps:List Pl):Nat->TH->TH->Bool
 |_,[],_=>true
 |b,x::xs,y::a=>za ps b x y&&eC ps (b+1) xs a
 |_,_::_,[]=>false
def LA:List (Nat×Nat×Nat)->TH->TH
 |[],σ=>σ
 |(b, j, r) :: zs, σ => match σ[b]?, σ[r]? with
  |some (.cells w a),some (.row i l d _)=>LA zs (σ.set b (.cells (w+1) (a.set j (w+1,.own i r d l.length))))
  |_,_=>LA zs σ
def Yf(n:Nat)(σ:TH)(zs:List (Nat×Nat×Nat)):Bool:=
 zs.all λz=>Nat.blt z.1 n&&(Nat.blt z.2.2 n&&match σ[z.1]?,σ[z.2.2]? with
  |some (.cells _ a), some (.row i _ b _) => match a[z.2.1]? with
   |some (_,.own d e v _)=>Nat.beq e z.2.2&&(Nat.beq v b&&Nat.beq d i)
   |_=>false
  |_,_=>false)
def Nj(zs:List (Nat×Nat×Nat)):List Pl:=zs.map λz=>.h z.1 z.2.1 .bool
inductive It where
 |cc (c:CC)
 |st (i:Nat)
 |fp (i:Nat)
 |ls (i:Nat)
 |ml (j:Nat)
 |cx
 deriving DecidableEq
@[reducible] def It.dn:It->Type
 |.cc c=>c.dn
 |.st i=>TT i
 |.fp i=>TT i
 |.ls i=>List (TT i)
 |.ml j=>List (Int×TT j)
 |.cx=>Int×Int
structure kl where
 it:It
 v:it.dn
@[reducible] def dA:List It->Type
 |[]=>Unit
 |[c]=>c.dn
 |c::d::a=>c.dn×dA (d::a)
def mn(c:It)(d:kl):Option c.dn:=match decEq d.it c with | .isTrue h=>some (h▸d.v) | .isFalse _=>none
def uN:(cs:List It)->List kl->Option (dA cs)
 |[],[]=>some ()
 |[c],[d]=>mn c d
 |c :: e :: cs, d :: ds => match mn c d, uN (e :: cs) ds with
  |some a,some b=>some (a,b)
  |_,_=>none
 |_,_=>none
def dL:(cs:List It)->dA cs->List kl
 |[],_=>[]
 |[c],x=>[⟨c,x⟩]
 |c::a::cs,x=>⟨c,x.1⟩::dL (a::cs) x.2
inductive CP where
 |c (c:CC)
 |cx
 |hd (b:Nat)
 |pt (b off sz:Nat)
 |mr (b:Nat)
 |fb (f b sz:Nat)
 |k (d:D)
inductive RO where
 |v (c:de)
 |p (p:CP)
 |ag (ps:List CP)
inductive NB where
 |cells (ps:List CP)
 |row (i:Nat)
 |mp (j:Nat) (st:Bool)
inductive PC where
 |h (b j:Nat) (p:CP)
 |w (b i:Nat)
 |m (b j:Nat) (st:Bool)
inductive CT where
 |mk (out:List RO) (pl:List PC) (nb:List NB) (H:List (Nat×Nat)) (J:List (Nat×JH)) (C:List (Nat×List CT))
def CT.out:CT->List RO | .mk o _ _ _ _ _=>o
def CT.pl:CT->List PC | .mk _ p _ _ _ _=>p
def CT.nb:CT->List NB | .mk _ _ n _ _ _=>n
def CT.H:CT->List (Nat×Nat) | .mk _ _ _ h _ _=>h
def CT.J:CT->List (Nat×JH) | .mk _ _ _ _ j _=>j
def CT.C:CT->List (Nat×List CT) | .mk _ _ _ _ _ c=>c
def ctk(k:Nat):List (Nat×List CT)->Option (List CT)
 |[]=>none
 |(q,c)::l=>match Nat.beq q k with | true=>some c | false=>ctk k l
def CP.ZH:CP->List It
 |.c y=>[.cc y]
 |.cx=>[.cx]
 |_=>[]
def de.it:de->List It
 |.c x=>[.cc x]
 |.st i=>[.st i]
 |.fp i=>[.fp i]
 |.k _=>[]
def RO.ZH:RO->List It
 |.v y=>y.it
 |.p y=>y.ZH
 |.ag i=>i.flatMap CP.ZH
def NB.rts:NB->List It
 |.cells _=>[]
 |.row i=>[.ls i]
 |.mp j _=>[.ml j]
def NB.ZH:NB->List It
 |.cells i=>i.flatMap CP.ZH
 |_=>[]
def PC.rts:PC->List It
 |.h ..=>[]
 |.w _ i=>[.ls i]
 |.m _ j _=>[.ml j]
def PC.ZH:PC->List It
 |.h _ _ y=>y.ZH
 |_=>[]
def CT.items(ct:CT):List It:=ct.pl.flatMap PC.rts++(ct.nb.flatMap NB.rts++(ct.out.flatMap RO.ZH++(ct.pl.flatMap PC.ZH++ct.nb.flatMap NB.ZH)))
@[reducible] def qa:List CT->Type
 |[]=>Empty
 |[c]=>dA c.items
 |c::d::a=>dA c.items ⊕ qa (d::a)
def altK{R:Type}:(cs:List CT)->qa cs->((c:CT)->dA c.items->Option R)->Option R
 |[],_,_=>none
 |[c],x,f=>f c x
 |c :: d :: cs, x, f => match x with
  |.inl a=>f c a
  |.inr b=>altK (d::cs) b f
structure MS where
 ρ:List (Nat×Nat)
 fz:List Nat
 rw:List kl
 cl:List kl
def pd(b:Nat):List (Nat×Nat)->Option Nat
 |[]=>none
 |(q,o)::l=>match Nat.beq q b with | true=>some o | false=>pd b l
def Hj(m b a:Nat)(s:MS):Option MS:=
 match Nat.blt b m with
 |true=>match Nat.beq b a with | true=>some s | false=>none
 |false => match pd b s.ρ with
  |some o=>match Nat.beq o a with | true=>some s | false=>none
  |none=>match Nat.ble m a with | true=>some { s with ρ:=(b,a)::s.ρ } | false=>none
def eqK:D->D->Bool
 |.c (.lit (.pointer none)),.c (.lit (.pointer none))=>true
 |.c (.lit (.map none)),.c (.lit (.map none))=>true
 |.c (.lit .nilFunc),.c (.lit .nilFunc)=>true
 |.c (.lit (.slice none 0 0)),.c (.lit (.slice none 0 0))=>true
 |.c (.fn (.func f) [] []),.c (.fn (.func g) [] [])=>Nat.beq f g
 |.c (.lit (.int k a)),.c (.lit (.int d b))=>decide (k=d)&&decide (a=b)
 |_,_=>false
def mCP(m:Nat)(σ1:TH)(p:CP)(x:TC)(s:MS):Option MS:=
 match p,x with
 |.c c, .own i b v n => match Cz c (Ci σ1 (.own i b v n)) with
  |some a=>some { s with fz:=b::s.fz,cl:=s.cl++[⟨.cc c,a⟩] }
  |none=>none
 |.c c, x => match Cz c x with
  |some a=>some { s with cl:=s.cl++[⟨.cc c,a⟩] }
  |none=>none
 |.cx,.cx u v=>some { s with cl:=s.cl++[⟨.cx,(u,v)⟩] }
 |.hd b, .own _ e v _ => match σ1[e]? with
  |some (.row _ _ j _)=>match Nat.beq j v with | true=>Hj m b e s | false=>none
  |_=>none
 |.pt b off sz,.d (.ptr e h g)=>match Nat.beq off h&&Nat.beq sz g with | true=>Hj m b e s | false=>none
 |.mr b,.d (.mp e)=>Hj m b e s
 |.fb f b sz,.d (.fn (.func l) [] [.ptr e 0 g])=>match Nat.beq f l&&Nat.beq sz g with | true=>Hj m b e s | false=>none
 |.k d,.d q=>match eqK d q with | true=>some s | false=>none
 |_,_=>none
def Mv(m:Nat)(σ1:TH):List CP->List TC->MS->Option MS
 |[],[],s=>some s
 |p :: ps, x :: xs, s => match mCP m σ1 p x s with
  |some s1=>Mv m σ1 ps xs s1
  |none=>none
 |_,_,_=>none
def iI:List TC->List Nat
 |[]=>[]
 |.own _ b _ _::xs=>b::iI xs
 |_::xs=>iI xs
def ownsV:TV->List Nat
 |.c x=>iI [x]
 |.agg a=>iI a
 |_=>[]
def mRO(m:Nat)(σ1:TH)(p:RO)(v:TV)(s:MS):Option MS:=
 match p,v with
 |.v (.c c),v=>match qI (.c c) (fM σ1 v) with | some a=>some { s with fz:=ownsV v++s.fz,cl:=s.cl++[⟨.cc c,a⟩] } | none=>none
 |.v (.st i),v=>match qI (.st i) (fM σ1 v) with | some a=>some { s with fz:=ownsV v++s.fz,cl:=s.cl++[⟨.st i,a⟩] } | none=>none
 |.v (.fp i),v=>match qI (.fp i) (fM σ1 v) with | some a=>some { s with cl:=s.cl++[⟨.fp i,a⟩] } | none=>none
 |.p p,.c x=>mCP m σ1 p x s
 |.ag ps,.agg xs=>Mv m σ1 ps xs s
 |_,_=>none
def Ik(m:Nat)(σ1:TH):List RO->List TV->MS->Option MS
 |[],[],s=>some s
 |p :: ps, x :: xs, s => match mRO m σ1 p x s with
  |some s1=>Ik m σ1 ps xs s1
  |none=>none
 |_,_,_=>none
def FP(m:Nat)(σ σ1:TH):List PC->MS->Option MS
 |[],s=>some s
 |.h b j p :: ps, s => match σ1[b]?, Nat.blt b m with
  |some (.cells _ e), true => match e[j]? with
   |some x => match mCP m σ1 p x.2 s with
    |some s1=>FP m σ σ1 ps s1
    |none=>none
   |none=>none
  |_,_=>none
 |.w b i :: ps, s => match σ1[b]?, Nat.blt b m with
  |some (.row _ l _ _), true => match fo (i := i) l with
   |some a=>FP m σ σ1 ps { s with rw:=s.rw++[⟨.ls i,a⟩] }
   |none=>none
  |_,_=>none
 |.m b j st :: ps, s => match σ1[b]?, Nat.blt b m with
  |some (.mp _ d l _), true => match st == d, MJ (i := j) l with
   |true,some a=>FP m σ σ1 ps { s with rw:=s.rw++[⟨.ml j,a⟩] }
   |_,_=>none
  |_,_=>none
def Dz(m:Nat)(σ1:TH):Nat->List NB->MS->Option MS
 |_,[],s=>some s
 |b, .cells ps :: d, s => match pd b s.ρ with
  |some e => match σ1[e]? with
   |some (.cells _ g) => match Mv m σ1 ps (g.map Prod.snd) s with
    |some s1=>Dz m σ1 (b+1) d s1
    |none=>none
   |_=>none
  |none=>none
 |b, .row i :: d, s => match pd b s.ρ with
  |some e => match σ1[e]? with
   |some (.row _ l _ _) => match fo (i := i) l with
    |some a=>Dz m σ1 (b+1) d { s with rw:=s.rw++[⟨.ls i,a⟩] }
    |none=>none
   |_=>none
  |none=>none
 |b, .mp j st :: d, s => match pd b s.ρ with
  |some e => match σ1[e]? with
   |some (.mp _ f l _) => match st == f, MJ (i := j) l with
    |true,some a=>Dz m σ1 (b+1) d { s with rw:=s.rw++[⟨.ml j,a⟩] }
    |_,_=>none
   |_=>none
  |none=>none
def PC.pl:PC->Pl
 |.h b j _=>.h b j .bool
 |.w b i=>.w b i
 |.m b j st=>.m b j st
def yf:List Nat->Bool
 |[]=>true
 |x::xs=>!(xs.any (Nat.beq x))&&yf xs
def WX(ct:CT)(σ σ1:TH)(rs:List TV):Option (dA ct.items):=
 match eC (ct.pl.map PC.pl) 0 σ σ1 with
 |false=>none
 |true => match Ik σ.length σ1 ct.out rs ⟨[], [], [], []⟩ with
  |none=>none
  |some s1 => match FP σ.length σ σ1 ct.pl s1 with
   |none=>none
   |some a => match Dz σ.length σ1 σ.length ct.nb a with
    |none=>none
    |some s => match yf (s.ρ.map Prod.snd) && (s.fz.all (λb => Nat.ble σ.length b && !((s.ρ.map Prod.snd).any (Nat.beq b))) && s.ρ.all λp => Nat.blt p.1 (σ.length + ct.nb.length)) with
     |true=>uN ct.items (s.rw++s.cl)
     |false=>none
def Tq(σ σ1:TH)(rs:List TV):(cs:List CT)->Option (qa cs)
 |[]=>none
 |[c]=>WX c σ σ1 rs
 |c :: d :: cs => match WX c σ σ1 rs with
  |some a=>some (.inl a)
  |none => match Tq σ σ1 rs (d :: cs) with
   |some b=>some (.inr b)
   |none=>none
def bY(σ:TH):List PC->List kl->Option (TH×List kl)
 |[],ds=>some (σ,ds)
 |.h ..::ps,ds=>bY σ ps ds
 |.w b i :: ps, d :: ds => match mn (.ls i) d, σ[b]? with
  |some l, some (.row j _ a e) => match Nat.beq j i with
   |true=>bY (σ.set b (.row i l (a+1) (e+1))) ps ds
   |false=>none
  |_,_=>none
 |.m b j st :: ps, d :: ds => match mn (.ml j) d, σ[b]? with
  |some l,some (.mp _ _ _ v)=>bY (σ.set b (.mp j st l (v+1))) ps ds
  |_,_=>none
 |_,[]=>none
def du:List NB->List kl->Option (TH×List kl)
 |[],ds=>some ([],ds)
 |.cells _::b,ds=>match du b ds with | some (l,r)=>some (.cells 0 []::l,r) | none=>none
 |.row i::b,d::ds=>match mn (.ls i) d,du b ds with | some a,some (l,r)=>some (.row i a 0 0::l,r) | _,_=>none
 |.mp j st::b,d::ds=>match mn (.ml j) d,du b ds with | some a,some (l,r)=>some (.mp j st a 0::l,r) | _,_=>none
 |_,[]=>none
def wu(e:TH)(p:CP)(ds:List kl):Option (TC×List kl):=
 match p,ds with
 |.c c,d::ds=>match mn (.cc c) d with | some a=>some (qX c a,ds) | none=>none
 |.cx,d::ds=>match mn .cx d with | some a=>some (.cx a.1 a.2,ds) | none=>none
 |.hd b,ds=>match e[b]? with | some (.row i l g _)=>some (.own i b g l.length,ds) | _=>none
 |.pt b off sz,ds=>match Nat.blt b e.length with | true=>some (.d (.ptr b off sz),ds) | false=>none
 |.mr b,ds=>match Nat.blt b e.length with | true=>some (.d (.mp b),ds) | false=>none
 |.fb f b sz,ds=>match Nat.blt b e.length with | true=>some (.d (.fn (.func f) [] [.ptr b 0 sz]),ds) | false=>none
 |.k d,ds=>match d.low 0 with | true=>some (.d d,ds) | false=>none
 |_,_=>none
def zR(a:TH):List CP->List kl->Option (List TC×List kl)
 |[],ds=>some ([],ds)
 |p :: ps, ds => match wu a p ds with
  |some (x, b) => match zR a ps b with
   |some (xs,r)=>some (x::xs,r)
   |none=>none
  |none=>none
def yK(b:TH)(p:RO)(ds:List kl):Option (TV×List kl):=
 match p,ds with
 |.v (.c c),d::ds=>match mn (.cc c) d with | some a=>some (.c (qX c a),ds) | none=>none
 |.v (.st i),d::ds=>match mn (.st i) d with | some a=>some (.agg (exp i a),ds) | none=>none
 |.v (.fp i),d::ds=>match mn (.fp i) d with | some a=>some (.c (.fp i a 0),ds) | none=>none
 |.p p,ds=>match wu b p ds with | some (x,r)=>some (.c x,r) | none=>none
 |.ag ps,ds=>match zR b ps ds with | some (xs,r)=>some (.agg xs,r) | none=>none
 |_,_=>none
def ky(a:TH):List RO->List kl->Option (List TV×List kl)
 |[],ds=>some ([],ds)
 |p :: ps, ds => match yK a p ds with
  |some (x, b) => match ky a ps b with
   |some (xs,r)=>some (x::xs,r)
   |none=>none
  |none=>none
def dO(a:TH):List PC->TH->List kl->Option (TH×List kl)
 |[],σ,ds=>some (σ,ds)
 |.h b j p :: ps, σ, ds => match wu a p ds, σ[b]? with
  |some (x,r),some (.cells w d)=>dO a ps (σ.set b (.cells (w+1) (d.set j (w+1,x)))) r
  |_,_=>none
 |_::ps,σ,ds=>dO a ps σ ds
def dH(a:TH):List NB->TH->List kl->Option TH
 |[],_,_=>some []
 |.cells ps :: d, _ :: bs, ds => match zR a ps ds with
  |some (xs, r) => match dH a d bs r with
   |some l=>some (.cells 0 (xs.map λx=>(0,x))::l)
   |none=>none
  |none=>none
 |_ :: d, b :: bs, ds => match dH a d bs ds with
  |some l=>some (b::l)
  |none=>none
 |_,_,_=>none
def mO(ct:CT)(σ:TH)(x:dA ct.items):Option (List TV×TH):=
 match bY σ ct.pl (dL ct.items x) with
 |none=>none
 |some (iA, d1) => match du ct.nb d1 with
  |none=>none
  |some (nb, d2) => match ky (iA ++ nb) ct.out d2 with
   |none=>none
   |some (a, d3) => match dO (iA ++ nb) ct.pl iA d3 with
    |none=>none
    |some (aA, d4) => match dH (iA ++ nb) ct.nb nb d4 with
     |some l=>some (a,aA++l)
     |none=>none
def wE:List TV->TV
 |[v]=>v
 |a=>.aQ (a.map teT)
def fnT:TV->Option (FuncId×List TV×List TV)
 |.c (.d (.c (.fn (.func g) a b)))=>some (g,a.map (λx=>HF (.c x)),b.map λx=>HF (.c x))
 |.c (.d (.fn (.func g) a b))=>some (g,a.map HF,b.map HF)
 |.c (.FQ g xs)=>some (g,[.agg (xs.map cvT)],[])
 |_=>none
def PC.blk:PC->Nat
 |.h b _ _=>b
 |.w b _=>b
 |.m b _ _=>b
def PC.rs:PC->Bool
 |.w ..=>true
 |_=>false
def okT(al:TA):kO->Bool
 |.load _ (.t a)=>(iC a al).isSome
 |_=>true
structure NK where
 P:Program
 S:tH
 H:List (Nat×Nat)
 J:List (Nat×JH)
 C:List (Nat×List CT)
 n:Nat
 N:Nat
 inl:(cs:List CT)->FuncId->List TV->TH->Option (qa cs)
 exa:CT->FuncId->List TV->TH->Option (List TV×TH)
 rs:List CT->FuncId->List TV->TH->List CT
def exOf:List CT->Option CT
 |[a] => match a.H with
  |(k,_)::_=>match Nat.beq k 1000002 with | true=>some a | false=>none
  |_=>none
 |_=>none
def iL(g:NK)(q:Nat)(o:aH):Option (List CT):=
 match g.C with
 |[]=>none
 |C => match o.op, o.dst with
  |.call _ _,some t=>ctk (q * 65536+t) C
  |_,_=>none
def altOf(g:NK)(q:Nat)(o:aH)(n b:Nat)(cs:List CT):List CT:=
 match o.dst with
 |some t => match ctk (q * 65536 + t + 1099511627776 * (n + 1)) g.C with
  |some a=>a
  |none => match ctk (q * 65536 + t + 1208925819614629174706176 * (b + 1)) g.C with
   |some a=>a
   |none=>cs
 |none=>cs
def Qt(o o':aH):Bool:=match o.dst,o'.dst with | some a,some b=>Nat.beq a b | _,_=>false
def Ab(g:NK)(q:Nat):List aH->Bool
 |[]=>true
 |o :: os => (match iL g q o with
  |some _=>!(os.any (Qt o))
  |none=>!(os.any λa=>Qt o a&&(iL g q a).isSome))&&Ab g q os
def Uf(g:NK)(q:Nat)(os:List aH):Bool:=match g.C with | []=>true | _=>Ab g q os
def BC(a b:Nat)(k:Option R):Option R:=match Nat.beq a b with | true=>k | false=>none
def Ez:TB->TB->Option R->Option R
 |.cells _ xs,.cells _ a,k=>BC xs.length a.length k
 |.row i l _ _,.row j m _ _,k=>match Nat.beq i j with | true=>BC l.length m.length k | false=>none
 |.mp ..,.mp ..,k=>k
 |_,_,_=>none
def Ri(σ σ1:TH):List Nat->Option R->Option R
 |[],k=>k
 |b::bs,k=>match σ[b]?,σ1[b]? with | some x,some y=>Ez x y (Ri σ σ1 bs k) | _,_=>none
def iH(g:NK)(q:Nat):Nat->Nat->List aH->Kn->TA->TH->KS R->Option R
  |0,_,_,_,_,_,_=>none
  |_+1,_,[],_,i,σ,K=>K i σ []
  |l + 1, k, o :: os, kn, i, σ, K=>
    match (match o.dst with | some t=>Nat.blt t g.n | none=>true) with
    |false=>none
    |true=>
    match tGd i kn o.g with
    |.bad=>none
    |.UH t x=>iH g q l k (o::os) kn ((t,.v x)::i) σ K
    |.spl e p=>if e=true then iH g q l k (o::os) ((p,true)::kn) i σ K else iH g q l k (o::os) ((p,false)::kn) i σ K
    |.shut => match o.dst with
      |none=>none
      |some t => match okT i o.op with
        |false=>none
        |true=>iH g q l (k-1) os kn ((t,.v (.c (.d (.aQ []))))::i) σ λd h j=>K d h (ET o 0 none [] σ.length σ.length::j)
    |.sym e p w=>
      match rZ o.op,o.dst with
      |true, some t=>
        match gh (R:=TV) g.P g.S 0 o.op (FG i kn (some (p,w))) σ λv _ _ _=>some v with
        |some v=>iH g q l (k-1) os kn ((t,.g e w p v)::i) σ λd h j=>K d h (ET o (cat o.op) (blkT (FG i kn (some (p,w))) o.op) [] σ.length σ.length::j)
        |none=>none
      |_,_=>if e=true then iH g q l k (o::os) ((p,true)::kn) i σ K else iH g q l k (o::os) ((p,false)::kn) i σ K
    |.TF=>
      match iL g q o with
      |some s=>
        match o.op with
        |.call f args => match FG i kn none f, Kp (FG i kn none) args with
          |some F, some A => match fnT F with
            |some (z,a,b)=>match g.rs (altOf g q o σ.length z s) z (a++A++b) σ with
             |s=>match exOf s with
              |some m=>(g.exa m z (a++A++b) σ).bind λp=>iH g q l (k-1) os kn (Yl o.dst (.v (wE p.1)) i) p.2 λd h j=>K d h (ET o (cat o.op) none [] σ.length p.2.length::j)
              |none=>(g.inl s z (a++A++b) σ).bind λx=>altK s x λm x=>match mO m σ x with
              |some (E, σ1) => match Nat.beq k 0 || !(m.pl.any PC.rs) with
                |true=>iH g q l (k-1) os kn (Yl o.dst (.v (wE E)) i) σ1 λd h j=>K d h (ET o (cat o.op) none (m.pl.map PC.blk) σ.length σ1.length::j)
                |false=>Ri σ σ1 (m.pl.map PC.blk) (iH g q l (k-1) os kn (Yl o.dst (.v (wE E)) i) σ1 λd h j=>K d h (ET o (cat o.op) none (m.pl.map PC.blk) σ.length σ1.length::j))
              |none=>none
            |none=>none
          |_,_=>none
        |_=>none
      |none=>
      match o.op,o.dst with
      |.pick (.t c) x y, some t=>
        match iC c i with
        |some (.v G, p)=>
          match gdC kn p G with
          |.TF => match FG i ((p, true) :: kn) none x with
            |some v=>iH g q l (k-1) os kn ((t,.v v)::i) σ λd h j=>K d h (ET o (cat o.op) none [] σ.length σ.length::j)
            |none=>none
          |.shut => match FG i ((p, false) :: kn) none y with
            |some v=>iH g q l (k-1) os kn ((t,.v v)::i) σ λd h j=>K d h (ET o (cat o.op) none [] σ.length σ.length::j)
            |none=>none
          |.sym e p _ => match FG i kn (some (p, true)) x, FG i kn (some (p, false)) y with
            |some u, some v => match TZ u, TZ v with
              |some u,some v=>iH g q l (k-1) os kn ((t,.v (pkV e u v))::i) σ λd h j=>K d h (ET o (cat o.op) none [] σ.length σ.length::j)
              |_,_=>none
            |_,_=>none
          |_=>none
        |_=>none
      |op,dst=>gh g.P g.S (hintOf g.H dst) op (FG i kn none) σ λv σ1 rs wr=>
          match Nat.beq k 0 || !rs with
          |true=>iH g q l (k-1) os kn (Yl dst (.v v) i) σ1 λd h j=>K d h (ET o (cat op) (blkT (FG i kn none) op) wr σ.length σ1.length::j)
          |false=>none
def Vc(al:TA)(σ:TH):(p:Pl)->Option p.dn
 |.r t c => match PV t al with
  |some (.v x)=>qI c x
  |_=>none
 |.w b _ => match σ[b]? with
  |some (.row _ l _ _)=>fo l
  |_=>none
 |.h b j c => match σ[b]? with
  |some (.cells _ d) => match d[j]? with
   |some x=>Cz c x.2
   |none=>none
  |_=>none
 |.m b _ st => match σ[b]? with
  |some (.mp _ a l _)=>match st == a with | true=>MJ l | false=>none
  |_=>none
def Lk(al:TA)(σ:TH):(ps:List Pl)->Option (rB ps)
 |[]=>some ()
 |[p]=>Vc al σ p
 |p :: q :: ps => match Vc al σ p, Lk al σ (q :: ps) with
  |some a,some b=>some (a,b)
  |_,_=>none
def YQ(p:Pl)(x:p.dn)(al:TA):TA:=
 match p,x with
 |.r t c,x=>(t,.v (c.tv x))::al
 |_,_=>al
def Gz:(ps:List Pl)->rB ps->TA->TA
 |[],_,a=>a
 |[p],x,a=>YQ p x a
 |p::q::ps,x,a=>YQ p x.1 (Gz (q::ps) x.2 a)
def UG(p:Pl)(x:p.dn)(σ:TH):TH:=
 match p,x with
 |.w b i, x => match σ[b]? with
  |some (.row _ _ a d)=>σ.set b (.row i x (a+1) (d+1))
  |_=>σ
 |.h b j c, x => match σ[b]? with
  |some (.cells w e)=>σ.set b (.cells (w+1) (e.set j (w+1,qX c x)))
  |_=>σ
 |.m b j st, x => match σ[b]? with
  |some (.mp _ _ _ v)=>σ.set b (.mp j st x (v+1))
  |_=>σ
 |_,_=>σ
def r_:(ps:List Pl)->rB ps->TH->TH
 |[],_,σ=>σ
 |[p],x,σ=>UG p x σ
 |p::q::ps,x,σ=>UG p x.1 (r_ (q::ps) x.2 σ)
def Oj(σ:TH):List (Nat×Nat)->TA->TA
 |[],a=>a
 |(t, b) :: hs, a => match σ[b]? with
  |some (.row i l d _)=>(t,.v (.c (.own i b d l.length)))::Oj σ hs a
  |_=>Oj σ hs a
def GX(md:List Nat)(al:TA):TA:=(md.filter λt=>(PV t al).isSome).map (λt=>(t,.v (.c .any)))++al
def dJ:aP->List Nat
 |.BZ d=>d.filterMap (·.dst)
 |.HO d _ _ _=>d.filterMap (·.dst)
 |.seq a b=>dJ a++dJ b
 |.cond _ a b=>dJ a++dJ b
 |.block _ b=>dJ b
 |.loop b=>dJ b
 |.U_ _ a r=>dJ a++dJ r
 |_=>[]
def WN(al:TA)(σ:TH)(hs:List (Nat×Nat)):Bool:=
 hs.all λ(t,b)=>match PV t al,σ[b]? with
  |some (.v (.c (.own i a v _))),some (.row j _ d _)=>Nat.beq a b&&(Nat.beq v d&&Nat.beq i j)
  |_,_=>false
def rowAt(σ:TH)(b:Nat):Bool:=match σ[b]? with | some (.row ..)=>true | _=>false
def I_(hs:List (Nat×Nat))(md:List Nat)(al:TA)(σ:TH)(a:TA):Bool:=(a.take (a.length-al.length)).all λp=>md.any (Nat.beq p.1) || hs.any λz=>Nat.beq z.1 p.1&&rowAt σ z.2
def Og(h:JH)(md:List Nat)(al:TA)(σ:TH)(a:TA)(σ1:TH):Option (rB h.pl):=
 match I_ h.hs md al σ a&&(eC (h.pl++Nj h.zs) 0 σ σ1&&(WN a σ1 h.hs&&Yf σ.length σ1 h.zs)) with
 |true=>Lk a σ1 h.pl
 |false=>none
def Cn(m:Nat)(σ:TH):TC->TC
 |.own i b v n => match Nat.blt b m with
  |true=>.own i b v n
  |false => match σ[b]? with
   |some (.row j l e _)=>match Nat.beq e v with | true=>.sl j l | false=>.any
   |_=>.any
 |.op i b v n k a o=>match Nat.blt b m with | true=>.op i b v n k a o | false=>.any
 |.ap b off len sz k=>match Nat.blt b m with | true=>.ap b off len sz k | false=>.any
 |.os i b v n f len=>match Nat.blt b m with | true=>.os i b v n f len | false=>.any
 |.d x=>match x.low m with | true=>.d x | false=>.any
 |.FQ g d=>match d.all (CV.low m) with | true=>.FQ g d | false=>.any
 |x=>x
def Cg(m:Nat)(σ:TH):RV->RV
 |.v (.c x)=>.v (.c (Cn m σ x))
 |.v (.agg xs)=>.v (.agg (xs.map (Cn m σ)))
 |_=>.v (.c .any)
def frzA(m:Nat)(σ:TH):Nat->TA->TA
 |0,a=>a
 |_+1,[]=>[]
 |k+1,(t,x)::a=>(t,Cg m σ x)::frzA m σ k a
def okC(m:Nat):TC->Bool
 |.own _ b _ _=>Nat.blt b m
 |.op _ b _ _ _ _ _=>Nat.blt b m
 |.ap b _ _ _ _=>Nat.blt b m
 |.os _ b _ _ _ _=>Nat.blt b m
 |.d x=>x.low m
 |.FQ _ a=>a.all (CV.low m)
 |_=>true
def okB(m:Nat):TB->Bool
 |.cells _ a=>a.all λp=>okC m p.2
 |_=>true
def Fx(h:JH)(md:List Nat)(al:TA)(σ:TH)(a:TA)(σ1:TH):Option (rB h.pl):=
 match (σ1.take σ.length).all (okB σ.length) with
 |true=>Og h md al σ (frzA σ.length σ1 (a.length-al.length) a) (σ1.take σ.length)
 |false=>Og h md al σ a σ1
def cH(h:JH)(md:List Nat)(al:TA)(σ:TH)(x:rB h.pl):TH:=LA h.zs (r_ h.pl x σ)
def dP(h:JH)(md:List Nat)(al:TA)(σ:TH)(x:rB h.pl):TA:=Gz h.pl x (Oj (r_ h.pl x σ) h.hs (GX md al))
def nrC(t:Nat):TC->Bool
 |.own _ b _ _=>!Nat.beq b t
 |.op _ b _ _ _ _ _=>!Nat.beq b t
 |.ap b _ _ _ _=>!Nat.beq b t
 |.os _ b _ _ _ _=>!Nat.beq b t
 |.d x=>x.low t
 |.FQ _ a=>a.all (CV.low t)
 |_=>true
def nrV(t:Nat):TV->Bool
 |.c x=>nrC t x
 |.agg a=>a.all (nrC t)
 |.aQ a=>a.all λp=>p.2.all (nrC t)
def nrR(t:Nat):RV->Bool
 |.v x=>nrV t x
 |.g _ _ _ x=>nrV t x
def cutC(t:Nat)(x:TC):TC:=match nrC t x with | true=>x | false=>.any
def cutR(t:Nat):RV->RV
 |.v (.c x)=>.v (.c (cutC t x))
 |.v (.agg xs)=>.v (.agg (xs.map (cutC t)))
 |_=>.v (.c .any)
def cutP(t w:Nat)(p:Nat×TC):Nat×TC:=match nrC t p.2 with | true=>p | false=>(w+1,.any)
def cutB(t:Nat):TB->TB
 |.cells w a=>.cells (w+1) (a.map (cutP t w))
 |x=>x
def dflC:(c:CC)->c.dn
 |.int _=>(0:Int)
 |.bool=>false
 |.str=>ByteArray.empty
 |.sl _=>[]
 |.fk _=>0
def dflT:(cs:List CC)->aQ cs
 |[]=>()
 |c::cs=>(dflC c,dflT cs)
def Pz(i:Nat):TT i:=Y.mkt i (dflT (Y.fl i))
def mvA(n t b j:Nat)(al:TA)(σ:TH):Option (TA×TH):=
 match σ[b]? with
 |some (.cells w a) => match a[j]? with
  |some (_, .own _ r v _) => match Nat.beq r t with
   |true=>some (al,σ)
   |false => match σ[r]?, σ[t]? with
    |some (.row i1 l d e), some (.row i2 _ lt f) => match Nat.beq v d && (Nat.beq i2 i1 && (al.drop n).all λp => nrR t p.2) with
     |true => some ((al.take n).map (λp => (p.1, cutR t p.2)) ++ al.drop n,
      (((σ.map (cutB t)).set t (.row i1 l (lt+1) (f+1))).set r (.row i1 (l++[Pz i1]) (d+1) (e+1))).set b (.cells (w+2) ((a.map (cutP t w)).set j (w+2,.own i1 t (lt+1) l.length))))
     |false=>none
    |_,_=>none
  |_=>none
 |_=>none
def mvL(n:Nat):List (Nat×Nat×Nat)->TA->TH->Option (TA×TH)
 |[],a,σ=>some (a,σ)
 |(b, j, t) :: zs, a, σ => match mvA n t b j a σ with
  |some (a,σ)=>mvL n zs a σ
  |none=>none
def mvE:List (Nat×Nat×Nat)->TA->TH->Option (TA×TH)
 |[],a,σ=>some (a,σ)
 |(b, j, t) :: zs, a, σ => match Nat.beq t σ.length, σ[b]? with
  |true, some (.cells _ d) => match d[j]? with
   |some (_, .own i _ _ _) => match mvA 0 t b j a (σ ++ [.row i [] 0 0]) with
    |some (a,σ)=>mvE zs a σ
    |none=>none
   |_=>none
  |_,_=>none
def mvs(m:Nat)(zs:List (Nat×Nat×Nat)):List (Nat×Nat×Nat):=zs.filter λz=>Nat.ble m z.2.2
def jn{X:Type}(r:X->Option R)(b:(X->Option R)->Option R):Option R:=b r
def bB{X:Type}(b:(X->Option R)->X->Option R):Nat->X->Option R
 |0,_=>none
 |n+1,x=>b (bB b n) x
def jhk(p:Nat):List (Nat×JH)->Option JH
 |[]=>none
 |(q,h)::l=>match Nat.beq q p with | true=>some h | false=>jhk p l
def jhl(p n:Nat)(J:List (Nat×JH)):Option JH:=match jhk (p+1099511627776 * (n+1)) J with
 |some h=>some h
 |none=>jhk p J
abbrev KC(R:Type):=mF->TA->TH->Option R
def isApp(os:List aH):Bool:=(os.any λo=>match o.op with | .append ..=>true | _=>false)&&os.any λo=>match o.op with | .sv ..=>true | _=>false
def rsCall(g:NK)(q:Nat)(os:List aH):Bool:=match g.C with
 |[]=>false
 |_ => os.any λo => match iL g q o with
  |some b=>b.any λa=>a.pl.any PC.rs || a.H.any λp=>Nat.beq p.1 1000005
  |none=>false
def lpU{X:Type}(b:(TA->TH->Option X)->TA->TH->Option X):Nat->TA->TH->Option X
 |0,_,_=>none
 |n+1,a,σ=>b (lpU b n) a σ
def capOk(a:Nat)(ps:List Pl):Bool:=ps.all λp=>match p with | .h b _ _=>!Nat.beq b a | _=>true
def itF{X:Type}(i:Nat)(l:List (TT i))(s:bz)(k:(j:Nat)->List (TT j)->Option X):Option X:=match s with
 | ⟨[.c (.sl a)], [.c (.sl j)], f⟩ => match fo (i := a) l with
  |some l=>(f (l,())).bind λr=>k j r
  |none=>none
 |_=>none
def ZC{T X:Type}(b:T->X->(X->Option R)->Option R)(k:X->Option R):List T->X->Option R
 |[],x=>k x
 |a::l,x=>b a x (ZC b k l)
def Vx:List (Nat×Nat)->TA->TH->Option (TA×TH)
 |[],a,σ=>some (a,σ)
 |(t, _) :: os, a, σ => match PV t a with
  |some (.v (.c (.own _ b v _))) => match σ[b]? with
   |some (.row j l d e) => match Nat.beq d v with
    |true=>Vx os ((t,.v (.c (.sl j l)))::a) (σ.set b (.row j (l++[Pz j]) (d+1) (e+1)))
    |false=>none
   |_=>none
  |_=>none
def Ys:List (Nat×Nat)->TA->TH->(TA->Option R)->Option R
 |[],a,_,k=>k a
 |(t, _) :: hs, a, σ, k => match PV t a with
  |some (.v (.c (.own i b _ n))) => match σ[b]? with
   |some (.row j l d _) => match Nat.beq j i with
    |true=>BC n l.length (Ys hs ((t,.v (.c (.own j b d l.length)))::a) σ k)
    |false=>none
   |_=>none
  |_=>none
def unrOf(h:JH):Option Nat:=match h.os with
 |[(k,n)]=>match Nat.beq k 1000003 with | true=>some n | false=>none
 |_=>none
def tC(g:NK):aP->Nat->TA->TH->KC R->Option R
 |.skip,_,d,σ,K=>K .normal d σ
 |.BZ os, q, d, σ, K => match jhl q σ.length g.J with
  |none => match Uf g q os with
   |true=>iH g q 1000 0 os [] d σ λm t _=>K .normal m t
   |false=>none
  |some h => match Vx h.os d σ, Uf g q os with
   |some (d,σ),true=>iH g q 1000 0 os [] d σ λm t _=>Ys h.hs m t λm=>K .normal m t
   |_,_=>none
 |.HO os u k p, q, d, σ, K=>
  match Uf g q os with
  |false=>none
  |true=>
  match isApp os with
  |true=>iH g q 1000 os.length os [] d σ λm t v=>match eR u v&&mh u p os.length os.length&&Nat.ble p os.length with | true=>K .normal m t | false=>none
  |false => match Re os u with
   |some (pi, _, G) => match Uf g q (oj pi os) with
    |true=>iH g q 1000 G (oj pi os) [] d σ λm t v=>match OY u pi v with | true=>K .normal m t | false=>none
    |false=>none
   |none=>match rsCall g q os&&mh u p (UV os) os.length with
   |true=>iH g q 1000 (UV os) os [] d σ λm t v=>match eR u v&&mh u p (UV os) os.length&&Nat.ble p (UV os) with | true=>K .normal m t | false=>none
   |false=>iH g q 1000 k os [] d σ λm t v=>match eR u v&&mh u p k os.length&&Nat.ble p k with | true=>K .normal m t | false=>none
 |.seq a b, q, d, σ, K=>
  match jhl q σ.length g.J with
  |none => tC g a (2 * q) d σ λx f σ1 => match x with
   |.normal=>tC g b (2 * q+1) f σ1 K
   |x=>K x f σ1
  |some h => match Ga h.os d σ with
   |none=>none
   |some (d, σ) => jn (λx => tC g b (2 * q + 1) (dP h (dJ a) d σ x) (cH h (dJ a) d σ x) K) λj=>
    tC g a (2 * q) d σ λx f σ1=>match x with
     |.normal=>match Fx h (dJ a) d σ f σ1 with | some x=>j x | none=>none
     |x=>K x f σ1
 |.cond c a b, q, d, σ, K=>
  match FG d [] none c with
  |some (.c (.d (.c (.lit (.bool true)))))=>tC g a (2 * q) d σ K
  |some (.c (.d (.c (.lit (.bool false)))))=>tC g b (2 * q+1) d σ K
  |some (.c (.b e))=>if e=true then tC g a (2 * q) d σ K else tC g b (2 * q+1) d σ K
  |_=>none
 |.block id b, q, d, σ, K => tC g b (2 * q) d σ λx f σ1 => match x with
  |.exit i=>match Nat.beq i id with | true=>K .normal f σ1 | false=>K (.exit i) f σ1
  |x=>K x f σ1
 |.loop b, q, d, σ, K=>
  match jhl q σ.length g.J with
  |none=>none
  |some h => match unrOf h with
   |some n => lpU (λrec d σ => tC g b (2 * q) d σ λex f σ1 => match ex with
    |.normal=>rec f σ1
    |ex=>K ex f σ1) n d σ
   |none=>match Ga h.os d σ with
   |none=>none
   |some (d,σ)=>match mvs σ.length h.zs with
   |_::_=>none
   |[]=>match Og h (dJ b) d σ d σ with
   |none=>none
   |some w => bB (λrec x=>
    tC g b (2 * q) (dP h (dJ b) d σ x) (cH h (dJ b) d σ x) λex f σ1=>match ex with
     |.normal=>match Fx h (dJ b) (dP h (dJ b) d σ x) (cH h (dJ b) d σ x) f σ1 with | some z=>rec z | none=>none
     |ex=>K ex f σ1) g.N w
 |.exit id,_,d,σ,K=>K (.exit id) d σ
 |.ret,_,d,σ,K=>K .ret d σ
 |.ZK _,_,d,σ,K=>K .normal d σ
 |.U_ l a r, q, d, σ, K=>
  match jhl q σ.length g.J with
  |none => tC g a (2 * q) d σ λex f σ1 => match ex with
   |.exit i => match Nat.beq i (2 * l + 1) with
    |true => tC g r (2 * q + 1) f σ1 λex A E => match ex with
     |.exit i=>match Nat.beq (i % 2) 0 with | true=>K (.exit i) A E | false=>none
     |ex=>K ex A E
    |false=>match Nat.beq (i % 2) 0 with | true=>K (.exit i) f σ1 | false=>none
   |ex=>K ex f σ1
  |some h => tC g a (2 * q) d σ λex f σ1 => match ex with
   |.exit i => match Nat.beq i (2 * l + 1) with
    |true => match Fx h (dJ a ++ dJ r) d σ f σ1 with
     |none=>none
     |some w => bB (λrec x => tC g r (2 * q + 1) (dP h (dJ a ++ dJ r) d σ x) (cH h (dJ a ++ dJ r) d σ x) λex f σ1 => match ex with
      |.exit i => match Nat.beq i (2 * l + 1) with
       |true=>match Fx h (dJ a++dJ r) (dP h (dJ a++dJ r) d σ x) (cH h (dJ a++dJ r) d σ x) f σ1 with | some z=>rec z | none=>none
       |false=>match Nat.beq (i % 2) 0 with | true=>K (.exit i) f σ1 | false=>none
      |ex=>K ex f σ1) g.N w
    |false=>match Nat.beq (i % 2) 0 with | true=>K (.exit i) f σ1 | false=>none
   |ex=>K ex f σ1
 |.UR o ps a b, q, d, σ, K=>
  match jhl q σ.length g.J with
  |none=>none
  |some h => match Ga h.os d σ with
   |none=>none
   |some (d, σ) => match Og h [] d σ d σ, ps with
    |some w, [p] => match FG (dP h [] d σ w) [] none o with
     |some (.c (.d (.fn (.func gf) [] [.ptr F 0 1]))) => match σ[F]?, ZG (gf + 1048576) g.S, Nat.blt p g.n && (aS g.P gf && capOk F (h.pl ++ Nj h.zs)) with
      |some (.cells _ [(_,.sl i l)]),some s,true=>itF i l s λj items=>ZC (λy x rec=>tC g a (2 * q) ((p,.v (.agg (exp j y)))::dP h [] d σ x) (cH h [] d σ x) λex f σ1=>match ex with
        |.normal => tC g b (2 * q + 1) f σ1 λex _ E => match ex with
         |.normal=>match Fx h [] (dP h [] d σ x) (cH h [] d σ x) (dP h [] d σ x) E with | some z=>rec z | none=>none
         |ex=>K ex (dP h [] d σ x) E
        |_=>none) (λx=>K .normal (dP h [] d σ x) (cH h [] d σ x)) items w
      |_,_,_=>none
     |_=>none
    |_,_=>none
 |.stuck,_,_,_,_=>none
def AK:Nat->List TV->TA
 |_,[]=>[]
 |i,d::ds=>(i,.v d)::AK (i+1) ds
def FV(al:TA)(σ:TH):Nat×Option (Option Nat)->Option TV
 |(t,none)=>match PV t al with | some (.v x)=>some x | _=>none
 |(t, some n) => match PV t al with
  |some (.v (.c (.d (.ptr b off sz)))) => match σ[b]? with
   |some (.cells _ a)=>match Nat.beq a.length sz with | true=>Be n (a.map Prod.snd) off | false=>none
   |_=>none
  |_=>none
def xk(σ:TH):(cs:List de)->List TV->Option (lI cs)
 |[],[]=>some ()
 |[c],[x]=>qI c (fM σ x)
 |c :: d :: cs, x :: xs => match qI c (fM σ x), xk σ (d :: cs) xs with
  |some a,some b=>some (a,b)
  |_,_=>none
 |_,_=>none
def FC{α d:Type}(f:α->Option d):List α->Option (List d)
 |[]=>some []
 |x :: xs => match f x, FC f xs with
  |some a,some b=>some (a::b)
  |_,_=>none
structure dq where
 Ah:CT
 OK:List CT
 f:dA Ah.items->Option (qa OK)
abbrev NI:=List (Nat×dq)
def absS(a:CT)(σ:TH)(vs:List TV):Option (List (Nat×Nat)×dA a.items):=
 match Ik 0 σ a.out vs ⟨[],[],[],[]⟩ with
 |none=>none
 |some s1 => match Dz 0 σ 0 a.nb s1 with
  |none=>none
  |some s => match yf (s.ρ.map Prod.snd) && (s.fz.isEmpty && (a.pl.isEmpty && s.ρ.all λp => Nat.blt p.1 (0 + a.nb.length))) with
   |true => match uN a.items (s.rw ++ s.cl) with
    |some x=>some (s.ρ,x)
    |none=>none
   |false=>none
def yj:TC->Bool
 |.d (.c (.lit (.slice none 0 0)))=>true
 |_=>false
def Yd(σ:TH)(ρ:List (Nat×Nat)):Nat->TH->Bool
 |_,[]=>true
 |i, .cells _ a :: bs => (match σ[(pd i ρ).getD 0]? with
  |some (.cells _ xs)=>exC xs a
  |_=>false)&&Yd σ ρ (i+1) bs
 |i,_::bs=>Yd σ ρ (i+1) bs
where exC:List (Nat×TC)->List (Nat×TC)->Bool
 |(_,x)::xs,(_,y)::a=>(!(yj x) || yj y)&&exC xs a
 |_,_=>true
def YM(n m:Nat)(ρ:List (Nat×Nat))(i:Nat):Nat:=match Nat.blt i n with | true=>(pd i ρ).getD 0 | false=>m+(i-n)
def eqVC:de->de->Bool
 |.c x,.c y=>decide (x=y)
 |.st i,.st j=>Nat.beq i j
 |.fp i,.fp j=>Nat.beq i j
 |.k g,.k h=>Nat.beq g h
 |_,_=>false
def rCP(ρ:Nat->Nat)(n:Nat):CP->CP->Bool
 |.c a,.c b=>decide (a=b)
 |.cx,.cx=>true
 |.hd b,.hd e=>Nat.beq (ρ b) e&&Nat.blt b n
 |.pt b o s,.pt e h g=>Nat.beq (ρ b) e&&(Nat.blt b n&&(Nat.beq o h&&Nat.beq s g))
 |.mr b,.mr e=>Nat.beq (ρ b) e&&Nat.blt b n
 |.fb f b s,.fb i e g=>Nat.beq (ρ b) e&&(Nat.blt b n&&(Nat.beq f i&&Nat.beq s g))
 |.k d,.k j=>eqK d j
 |_,_=>false
def PA(ρ:Nat->Nat)(n:Nat):List CP->List CP->Bool
 |[],[]=>true
 |p::ps,q::qs=>rCP ρ n p q&&PA ρ n ps qs
 |_,_=>false
def rRO(ρ:Nat->Nat)(n:Nat):RO->RO->Bool
 |.v a,.v b=>eqVC a b
 |.p a,.p b=>rCP ρ n a b
 |.ag a,.ag b=>PA ρ n a b
 |_,_=>false
def SZ(ρ:Nat->Nat)(n:Nat):List RO->List RO->Bool
 |[],[]=>true
 |p::ps,q::qs=>rRO ρ n p q&&SZ ρ n ps qs
 |_,_=>false
def rPC(ρ:Nat->Nat)(m0 n:Nat):PC->PC->Bool
 |.h b j p,.h a d f=>Nat.beq (ρ b) a&&(Nat.blt b m0&&(Nat.beq j d&&rCP ρ n p f))
 |.w b i,.w a g=>Nat.beq (ρ b) a&&(Nat.blt b m0&&Nat.beq i g)
 |.m b j st,.m a d e=>Nat.beq (ρ b) a&&(Nat.blt b m0&&(Nat.beq j d&&st == e))
 |_,_=>false
def Ay(ρ:Nat->Nat)(m0 n:Nat):List PC->List PC->Bool
 |[],[]=>true
 |p::ps,q::qs=>rPC ρ m0 n p q&&Ay ρ m0 n ps qs
 |_,_=>false
def rNB(ρ:Nat->Nat)(n:Nat):NB->NB->Bool
 |.cells a,.cells b=>PA ρ n a b
 |.row i,.row j=>Nat.beq i j
 |.mp j st,.mp e d=>Nat.beq j e&&st == d
 |_,_=>false
def yU(ρ:Nat->Nat)(n:Nat):List NB->List NB->Bool
 |[],[]=>true
 |p::ps,q::qs=>rNB ρ n p q&&yU ρ n ps qs
 |_,_=>false
def rCT(ρ:Nat->Nat)(m0:Nat)(a b:CT):Bool:=
 SZ ρ (m0+a.nb.length) a.out b.out&&(Ay ρ m0 (m0+a.nb.length) a.pl b.pl&&yU ρ (m0+a.nb.length) a.nb b.nb)
def rCTs(ρ:Nat->Nat)(m0:Nat):List CT->List CT->Bool
 |[],[]=>true
 |a::as,b::bs=>rCT ρ m0 a b&&rCTs ρ m0 as bs
 |_,_=>false
theorem Iy:∀{a b:List CT},a.map CT.items=b.map CT.items->qa a=qa b:=by
 intro a;induction a with
 |nil=>simp_all
 |cons x a ih=>
  intro b h;cases b with
  |nil=>simp at h
  |cons y b=>
   simp only[tn,yBP] at h;cases a with
   |nil => cases b with
    |nil=>grind
    |cons _ _=>simp at h
   |cons d a => cases b with
    |nil=>simp at h
    |cons e b=>grind
def inlS(O:NI)(cs:List CT)(d:FuncId)(vs:List TV)(σ:TH):Option (qa cs):=
 match cs with
 |[]=>none
 |a :: cs => match a.H with
  |[(_, k)] => match O[k]? with
   |some (g, s) => match Nat.beq g d, absS s.Ah σ vs with
    |true, some (ρ, x) => match mO s.Ah [] x with
     |some (_, b) => match Yd σ ρ 0 b && rCTs (YM s.Ah.nb.length σ.length ρ) s.Ah.nb.length s.OK (a :: cs) with
      |true => match decEq (s.OK.map CT.items) ((a :: cs).map CT.items) with
       |.isTrue h=>cast (Ja Option (Iy h)) (s.f x)
       |.isFalse _=>none
      |false=>none
     |none=>none
    |_,_=>none
   |none=>none
  |_=>none
abbrev Ew:=List CT->FuncId->List TV->TH->List CT
abbrev cY:=(a:List CT)->FuncId->List TV->TH->Option (qa a)
def Qz(ρ:Nat->Nat):CP->CP
 |.hd b=>.hd (ρ b)
 |.pt b o s=>.pt (ρ b) o s
 |.mr b=>.mr (ρ b)
 |.fb f b s=>.fb f (ρ b) s
 |p=>p
def renRO(ρ:Nat->Nat):RO->RO
 |.p p=>.p (Qz ρ p)
 |.ag a=>.ag (a.map (Qz ρ))
 |o=>o
def renPC(ρ:Nat->Nat):PC->PC
 |.h b j p=>.h (ρ b) j (Qz ρ p)
 |.w b i=>.w (ρ b) i
 |.m b j st=>.m (ρ b) j st
def renNB(ρ:Nat->Nat):NB->NB
 |.cells a=>.cells (a.map (Qz ρ))
 |n=>n
def renCT(ρ:Nat->Nat)(H:List (Nat×Nat))(c:CT):CT:=.mk (c.out.map (renRO ρ)) (c.pl.map (renPC ρ)) (c.nb.map (renNB ρ)) H [] []
def resK(O:NI)(a:FuncId)(vs:List TV)(σ:TH):List (Nat×Nat)->List CT
 |[]=>[]
 |(q, k) :: H => match Nat.beq q 1000000, O[k]? with
  |true, some (g, s) => match Nat.beq g a, absS s.Ah σ vs with
   |true,some (ρ,_)=>s.OK.map (renCT (YM s.Ah.nb.length σ.length ρ) [(1000000,k)])
   |_,_=>resK O a vs σ H
  |_,_=>resK O a vs σ H
def resO(O:NI):Ew:=λa b d σ=>match a with
 |[.mk [] [] [] (p :: H) [] []] => match Nat.beq p.1 1000000 with
  |true=>resK O b d σ (p::H)
  |false=>a
 |a=>a
def isOS(ct:CT):Bool:=match ct.H with
 |[(k,_)]=>Nat.beq k 1000000
 |_=>false
abbrev NQ:=CT->FuncId->List TV->TH->Option (List TV×TH)
def Zg(n:Nat):TC->Bool
 |.d x=>x.low n
 |.b _=>true
 |.sl _ _=>true
 |.fp _ _ _=>true
 |.fl _=>true
 |.cx _ _=>true
 |_=>false
def ZB(n:Nat):TV->Bool
 |.c x=>Zg n x
 |.agg a=>a.all (Zg n)
 |.aQ _=>false
def sBlk(n:Nat):TB->Bool
 |.cells w a=>a.all λp=>Zg n p.2&&Nat.ble p.1 w
 |_=>false
def inl1(P:Program)(S:tH)(N:Nat)(B:cY)(i:Ew)(I:cY)(X:NQ):cY:=λb g e σ=>
 match b with
 |[]=>none
 |a :: b=>
  match isOS a with
  |true=>B (a::b) g e σ
  |false=>
  match P.funcs[g]? with
  |some f => match gM P f true with
   |some d => match aS P g && Nat.ble e.length d.ntmps with
    |true => tC ⟨P, S, a.H, a.J, a.C, d.ntmps, N, I, X, i⟩ d.body 1 (AK 0 e) σ λx h σ1 => match x with
     |.exit _=>none
     |_ => match FC (FV h σ1) d.results with
      |some rs=>Tq σ σ1 rs (a::b)
      |none=>none
    |false=>none
   |none=>none
  |none=>none
def ex1(P:Program)(S:tH)(N:Nat)(h:Ew)(I:cY)(X:NQ):NQ:=λb g e σ=>
 match P.funcs[g]? with
 |some f => match gM P f true with
  |some a => match aS P g && Nat.ble e.length a.ntmps with
   |true => (tC (R := List TV × TH) ⟨P, S, b.H, b.J, b.C, a.ntmps, N, I, X, h⟩ a.body 1 (AK 0 e) σ λx d σ1 => match x with
    |.exit _=>none
    |_ => match FC (FV d σ1) a.results with
     |some rs=>some (rs,σ1)
     |none => none).bind λp => match p.1.all (ZB p.2.length) && (eC [] 0 σ p.2 && (p.2.drop σ.length).all (sBlk p.2.length)) with
      |true=>some (p.1,σ++p.2.drop σ.length)
      |false=>none
   |false=>none
  |none=>none
 |none=>none
def Qg(P:Program)(S:tH)(N:Nat)(B:cY)(a:Ew):Nat->cY×NQ
 |0=>(λ_ _ _ _=>none,λ_ _ _ _=>none)
 |d+1=>(inl1 P S N B a (Qg P S N B a d).1 (Qg P S N B a d).2,ex1 P S N a (Qg P S N B a d).1 (Qg P S N B a d).2)
def tF(P:Program)(S:tH)(B:cY)(d:Ew)(H:List (Nat×Nat))(J:List (Nat×JH))(C:List (Nat×List CT))(e:Nat)(f:kS)(b out:List de)(N:Nat)(a:tf b):Option (lI out):=
 tC ⟨P,S,H,J,C,f.ntmps,N,(Qg P S N B d e).1,(Qg P S N B d e).2,d⟩ f.body 1 (AK 0 (tvV b a)) [] λx g σ=>
  match x with
  |.exit _=>none
  |_ => match FC (FV g σ) f.results with
   |some rs=>xk σ out rs
   |none=>none
end
end Go.Abs
end
section
namespace Go.Abs
section
variable[Gl][Y:Ty]
def GC(σ:TH):TC->Prop
 |.own i c v n=>∃blk,σ[c]? = some blk/\∀j l b d,blk=.row j l b d->v<=b/\(v=b->j=i/\n=l.length)
 |.op i c v n k a _=>∃blk,σ[c]? = some blk/\∀j l b d,blk=.row j l b d->v<=d/\(v=d->∃m:List (TT i),fo l=some m/\n=m.length/\aB m k=some a)
 |.ap c _ _ _ _=>c<σ.length
 |.os i c v n e len=>∃blk,σ[c]? = some blk/\∀j l b d,blk=.row j l b d->v<=b/\(v=b->j=i/\n=l.length/\e+len<=n)
 |.d x=>x.low σ.length=true
 |.FQ _ f=>f.all (CV.low σ.length)=true
 |_=>True
def GV(σ:TH):TV->Prop
 |.c x=>GC σ x
 |.agg a=>∀x∈a,GC σ x
 |.aQ a=>∀p∈a,∀x∈p.2,GC σ x
structure RH (σ:TH) (σD:ar):Prop where
 len:σD.length=σ.length
 hp:∀(b:Nat) blk,σ[b]? = some blk->∃ob,σD[b]? = some ob/\RB blk ob
 hg:∀(b:Nat) w cs,σ[b]? = some (.cells w cs)->∀p∈cs,GC σ p.2/\p.1<=w
def BE:TB->TB->Prop
 |.cells w p,a=>∃w1 d,a=.cells w1 d/\w<=w1/\d.length=p.length/\∀(j:Nat) v x e q,p[j]? = some (v,x)->d[j]? = some (e,q)->(e=v/\q=x)∨w<e
 |.row i l h s,a=>∃g b f,a=.row i g b f/\h<=b/\s<=f/\(h=b->g.length=l.length)/\(s=f->g=l/\b=h)
 |.mp j st l v,a=>∃t m g e,a=.mp t m g e/\v<=e/\(v=e->a=.mp j st l v)
def Ext(σ σ1:TH):Prop:=∀(b:Nat) blk,σ[b]? = some blk->∃a,σ1[b]? = some a/\BE blk a
theorem BE.refl(blk:TB):BE blk blk:=by
 cases blk with
 |cells w s=>exact ⟨w,s,rfl,cR _,rfl,λj v x A E h F=>.inl (by simp_all)⟩
 |row i l u z=>exact ⟨l,u,z,rfl,cR _,cR _,λ_=>rfl,λ_=>⟨rfl,rfl⟩⟩
 |mp j st l v=>exact ⟨j,st,l,v,rfl,cR _,λ_=>rfl⟩
theorem Ext.refl(σ:TH):Ext σ σ:=λ_ blk h=>⟨blk,h,BE.refl blk⟩
theorem BE.trans{a b c:TB}(u:BE a b)(s:BE b c)(ha:∀w cs,a=.cells w cs->∀p∈cs,p.1<=w):BE a c:=by
 cases a with
 |cells w cs=>
  obtain ⟨w1,M,rfl,hw,hl,hc⟩:=u;obtain ⟨w2,z,rfl,O,U,W⟩:=s;refine ⟨w2,z,rfl,by omega,by omega,λj v x K x2 h s=>?_⟩
  grind
 |row i l lv cv=>
  obtain ⟨X,Z,aa,rfl,h3,h4,h5,h6⟩:=u;obtain ⟨A,E,F,rfl,h7,h8,h9,ab⟩:=s;refine ⟨A,E,F,rfl,by omega,by omega,λe=>?_,λe=>?_⟩
  ·omega
  grind
 |mp j st l v=>
  obtain ⟨j1,ad,X,v1,rfl,h3,h4⟩:=u;obtain ⟨j2,G,A,K,rfl,h5,h6⟩:=s;refine ⟨j2,G,A,K,rfl,by omega,λe=>?_⟩
  grind
theorem RH.RA{σ:TH}{σD:ar}(H:RH σ σD){b:Nat}{blk:TB}(h:σ[b]? = some blk):∀w cs,blk=.cells w cs->∀p∈cs,p.1<=w:=λw cs e p i=>by subst e;exact (H.hg b w cs h p i).2
theorem Ext.trans{σ σ1 s:TH}{σD:ar}(H:RH σ σD)(u:Ext σ σ1)(x:Ext σ1 s):Ext σ s:=λb blk h=>by obtain ⟨i,z,A⟩:=u b blk h;obtain ⟨j,E,F⟩:=x b i z;exact ⟨j,E,A.trans F (H.RA h)⟩
theorem Ext.len{σ σ1:TH}(h:Ext σ σ1):σ.length<=σ1.length:=by
 rcases si σ1.length σ.length with i | j
 ·obtain ⟨blk,s,_⟩:=h σ1.length _ (eH i)
  simp_all
 omega
theorem D.eE{m m':Nat}(hm:m<=m'){d:D}(h:d.low m=true):d.low m'=true:=by
 have i:∀(k:Nat)(d:D),SizeOf.sizeOf d<k->d.low m=true->d.low m'=true:=by
  intro k;induction k with
  |zero=>omega
  |succ k ih=>
   have cL:∀(ds:List D),SizeOf.sizeOf ds<k+1->D.low.cL m ds=true->D.low.cL m' ds=true:=by
    intro ds;induction ds with
    |nil=>intro _ _;rfl
    |cons x ds j=>
     intro hs h;simp only[D.low.cL,bG,List.cons.sizeOf_spec] at h hs ⊢
     grind
   intro d hs h;cases d with
   |c x=>rfl
   |any=>rfl
   |ptr b o s=>simp only[D.low,br] at h ⊢;omega
   |sl b o l e s=>simp only[D.low,br] at h ⊢;omega
   |mp b=>simp only[D.low,br] at h ⊢;omega
   |fn f a b=>
    simp only[D.low,bG,D.fn.sizeOf_spec] at h hs ⊢
    grind
   |agg ds=>grind [D.low]
   |aQ ds=>grind [D.low]
 exact i (SizeOf.sizeOf d+1) d (Nat.lt_succ_self _) h
theorem CV.eE{m m':Nat}(hm:m<=m'){xs:List CV}(h:xs.all (CV.low m)=true):xs.all (CV.low m')=true:=by
 rw[iB] at h ⊢;intro x j;have:=h x j;cases x with
 |d x=>exact D.eE hm this
 |b e=>rfl
 |sl i l=>rfl
theorem CE{m g:Nat}{xs:List CV}(h:xs.all (CV.low m)=true):(TC.FQ g xs).er.low m=true:=by
 have:D.low.cL m (xs.map CV.er)=true:=by
  induction xs with
  |nil=>rfl
  |cons x xs ih=>
   simp only[List.all_cons,bG] at h;simp only[tn,D.low.cL,bG];refine ⟨?_,ih h.2⟩;cases x with
   |d x=>exact h.1
   |b e=>rfl
   |sl i l=>rfl
 grind [TC.er,D.low,D.low.cL]
theorem GC.mono{σ σ1:TH}(h:Ext σ σ1){x:TC}(z:GC σ x):GC σ1 x:=by
 cases x with
 |own i c v n=>
  obtain ⟨blk,A,X⟩:=z;obtain ⟨s,E,u⟩:=h c blk A;refine ⟨s,E,λj l Z cv e=>?_⟩;subst e;cases blk with
  |cells w cs=>obtain ⟨w1,F,e,_⟩:=u;simp at e
  |mp j st l v=>obtain ⟨j1,G,K,v1,e,_⟩:=u;simp at e
  |row j0 l0 M O=>
   obtain ⟨K,U,W,e,h5,h6,h7,h8⟩:=u
   grind
 |os i c v n lo len=>
  obtain ⟨blk,A,X⟩:=z;obtain ⟨s,E,u⟩:=h c blk A;refine ⟨s,E,λj l Z cv e=>?_⟩;subst e;cases blk with
  |cells w cs=>obtain ⟨w1,F,e,_⟩:=u;simp at e
  |mp j st l v=>obtain ⟨j1,G,K,v1,e,_⟩:=u;simp at e
  |row j0 l0 M O=>
   obtain ⟨K,U,W,e,h5,h6,h7,h8⟩:=u
   grind
 |op i c v n k a off=>
  obtain ⟨blk,A,X⟩:=z;obtain ⟨s,E,u⟩:=h c blk A;refine ⟨s,E,λj l Z cv e=>?_⟩;subst e;cases blk with
  |cells w cs=>obtain ⟨w1,F,e,_⟩:=u;simp at e
  |mp j st l v=>obtain ⟨j1,G,K,v1,e,_⟩:=u;simp at e
  |row j0 l0 M O=>
   obtain ⟨K,U,W,e,h5,h6,h7,h8⟩:=u
   grind
 |ap c off len sz k=>exact E_ z h.len
 |d x=>exact D.eE h.len z
 |FQ g xs=>exact CV.eE h.len z
 |_=>trivial
theorem GV.mono{σ σ1:TH}(h:Ext σ σ1){x:TV}(i:GV σ x):GV σ1 x:=by
 cases x with
 |c x=>exact GC.mono h i
 |agg s=>exact λx j=>GC.mono h (i x j)
 |aQ s=>exact λp u x j=>GC.mono h (i p u x j)
theorem Ext.push(σ:TH)(blk:TB):Ext σ (σ++[blk]):=λb i h=>⟨i,by grind,BE.refl _⟩
theorem RH.push{σ:TH}{σD:ar}(H:RH σ σD){blk:TB}{ob:Ob}(h:RB blk ob)(hg:∀w cs,blk=.cells w cs->∀p∈cs,GC σ p.2/\p.1<=w):RH (σ++[blk]) (σD++[ob]):={
 len:=by simp[H.len]
 hp:=λb s i=>by
  rcases si b σ.length with j | u
  ·rw[HI j] at i;rw[HI (by grind [RH.len])];exact H.hp b s i
  grind [RH.len]
 hg:=λb w cs i p hp=>by
  rcases si b σ.length with j | u
  ·rw[HI j] at i;obtain ⟨x,z⟩:=H.hg b w cs i p hp;exact ⟨x.mono (Ext.push σ blk),z⟩
  ·rw[NG u] at i;have:b-σ.length=0:=by grind
   rw[this] at i;simp only[List.getElem?_cons_zero,au] at i;obtain ⟨x,z⟩:=hg w cs i p hp;exact ⟨x.mono (Ext.push σ blk),z⟩ }
theorem XN{α:Type}{l:List α}{b a:Nat}{x y z:α}(h:l[b]? = some x)(d:(l.set b y)[a]? = some z):(a=b/\z=y)∨(a≠b/\l[a]? = some z):=by grind
theorem Gi{α:Type}{l:List α}{b:Nat}{x y:α}(h:l[b]? = some x):(l.set b y)[b]? = some y:=by grind
theorem eL{α:Type}{l:List α}{b a:Nat}{y:α}(h:a≠b):(l.set b y)[a]? = l[a]?:=by grind
theorem Ext.set{σ:TH}{b:Nat}{blk i:TB}(h:σ[b]? = some blk)(s:BE blk i):Ext σ (σ.set b i):=λu j x=>by grind [BE.refl]
theorem RH.set{σ:TH}{σD:ar}(H:RH σ σD){b:Nat}{blk i:TB}{ob:Ob}(s:σ[b]? = some blk)(G:BE blk i)(h:RB i ob)(hg:∀w cs,i=.cells w cs->∀p∈cs,GC σ p.2/\p.1<=w):RH (σ.set b i) (σD.set b ob):={
 len:=by simp[H.len]
 hp:=λz u j=>by
  obtain ⟨K,M,_⟩:=H.hp b blk s;rcases XN s j with ⟨rfl,rfl⟩ | ⟨x,A⟩
  ·grind
  ·rw[eL x];exact H.hp z u A
 hg:=λz w cs j p hp=>by
  rcases XN s j with ⟨rfl,e⟩ | ⟨x,A⟩
  ·obtain ⟨E,F⟩:=hg w cs e.symm p hp;exact ⟨E.mono (Ext.set s G),F⟩
  ·obtain ⟨E,F⟩:=H.hg z w cs A p hp;exact ⟨E.mono (Ext.set s G),F⟩ }
def dk(σ:TH)(alD:AL)(rd:aN->Option TV):Prop:=∀x v,rd x=some v->∃d,lx alD x=some d/\RT v d/\GV σ v
def dg(P:Program)(orc:vD)(n:Nat)(alD:AL)(σ:TH)(σD:ar)(o:kO)(Q:TV->TH->Bool->List Nat->Prop):Prop:=
 ∃v σ1 rs wr d σD1,eG P orc n alD σD o d σD1 wr/\RT v d/\GV σ1 v/\RH σ1 σD1/\Ext σ σ1/\(rs=false->jf σD σD1 wr=true)/\(rZ o=true->σ1=σ/\σD1=σD/\wr=[])/\Q v σ1 rs wr
variable{P:Program}{orc:vD}{n:Nat}{alD:AL}{σ σ1:TH}{σD σD1:ar}{o:kO}{Q:TV->TH->Bool->List Nat->Prop}
theorem dg.pure{v:TV}{d:D}(h:eG P orc n alD σD o d σD [])(i:RT v d)(j:GV σ v)(H:RH σ σD)(q:Q v σ false []):dg P orc n alD σ σD o Q:=
 ⟨v,σ,false,[],d,σD,h,i,j,H,Ext.refl σ,λ_=>rfl,λ_=>⟨rfl,rfl,rfl⟩,q⟩
theorem dg.new{v:TV}{d:D}{blk:TB}{ob:Ob}(h:eG P orc n alD σD o d (σD++[ob]) [])(i:RT v d)(j:GV (σ++[blk]) v)(H:RH σ σD)(s:RB blk ob)(u:∀w cs,blk=.cells w cs->∀p∈cs,GC σ p.2/\p.1<=w)
  (q:Q v (σ++[blk]) false []) (x:rZ o=false:=by rfl):dg P orc n alD σ σD o Q:=
 ⟨v,σ++[blk],false,[],d,σD++[ob],h,i,j,H.push s u,Ext.push σ blk,λ_=>rfl,λh=>by simp_all,q⟩
theorem RH.cells(H:RH σ σD){b w:Nat}{cs:List (Nat×TC)}(h:σ[b]? = some (.cells w cs)):∃ds,σD[b]? = some (.cells ds)/\aJ RC (cs.map Prod.snd) ds/\ds.length=cs.length/\ds=cs.map λp=>p.2.er:=by obtain ⟨j,i,rfl⟩:=H.hp b _ h;refine ⟨_,i,?_,by simp,rfl⟩;have:=aJ.er (cs.map Prod.snd);rw[UW] at this;exact this
theorem RH.row(H:RH σ σD){b i j s:Nat}{l:List (TT i)}(h:σ[b]? = some (.row i l j s)):σD[b]? = some (OB (enc i) l):=by obtain ⟨z,u,x⟩:=H.hp b _ h;rw[u];exact Ja some x
theorem PE{b sz:Nat}{ds:List D}(h:σD[b]? = some (.cells ds))(hs:ds.length=sz):mP σD b sz=some ds:=by grind [mP]
theorem yV{m:Option Nat}{cs:List TC}{ds:List D}{off:Nat}{v:TV}(h:Be m cs off=some v)(a:aJ RC cs ds):∃d,uX m ds off=some d/\RT v d:=by
 cases m with
 |none=>
  simp only[Be] at h;split at h
  ·rename_i x b;simp only[au] at h;subst h;obtain ⟨d,e,f⟩:=a.get _ _ b;exact ⟨d,e,f⟩
  simp_all
 |some m=>
  simp only[Be] at h;split at h
  ·rename_i g;simp only[au] at h;subst h;have i:=Cq g;refine ⟨.agg ((ds.drop off).take m),?_,_,rfl,(a.drop off).take m⟩;simp only[uX];rw[if_pos (by grind [aJ.len])]
  simp_all
theorem qD{m:Option Nat}{cs:List TC}{off:Nat}{v:TV}(h:Be m cs off=some v)(b:∀x∈cs,GC σ x):GV σ v:=by
 cases m with
 |none=>
  simp only[Be] at h;split at h
  ·rename_i x a;simp only[au] at h;subst h;exact b x (Am a)
  simp_all
 |some m=>
  simp only[Be] at h;split at h
  ·simp only[au] at h;subst h;exact λx a=>b x (yBi (NP a))
  simp_all
theorem vR(c:CC)(a:c.dn):GC σ (qX c a):=by cases c <;> first | exact True.intro | rfl
theorem Tp:∀(cs:List CC)(x:aQ cs),∀y∈vj cs x,GC σ y:=by
 intro cs;induction cs with
 |nil=>grind [vj]
 |cons c cs ih=>grind [vj,vR]
theorem u_(i:Nat)(a:TT i):∀y∈exp i a,GC σ y:=Tp _ _
theorem Qv(i:Nat)(a:TT i):aJ RC (exp i a) ((enc i a).map .c):=by rw[<-vp];exact aJ.er _
theorem Hz{x:TC}{d:D}(h:x.scalar=true)(r:RC x d):d.scalar=true/\d=x.er:=by
 rcases r with rfl | rfl
 ·grind [TC.scalar]
 ·refine ⟨?_,rfl⟩;cases x with
  |any=>grind [TC.scalar]
  |d x=>exact h
  |_=>rfl
theorem pZ{v:TV}{d:D}{xs:List TC}(h:eV v=some xs)(r:RT v d):d.cells? = some (xs.map TC.er)/\aJ RC xs (xs.map TC.er)/\∀x∈xs,x≠.any:=by
 refine ⟨?_,aJ.er _,?_⟩
 ·cases v with
  |c x=>
   simp only[eV] at h;split at h
   ·rename_i hs;simp only[au] at h;subst h;obtain ⟨j,rfl⟩:=Hz hs r;cases g:x.er with
    |agg l=>grind [D.scalar]
    |_=>grind [D.cells?]
   simp_all
  |agg a=>
   simp only[eV] at h;split at h
   ·rename_i hs;simp only[au] at h;subst h;obtain ⟨ds,rfl,i⟩:=r;rw[iB] at hs;have b:∀y∈a,y≠.any:=λy f e=>by grind [TC.scalar]
    rw[i.eq b];simp only[D.cells?];rw[if_pos];rw[iB];intro d hd;rw[iT] at hd;obtain ⟨y,f,rfl⟩:=hd;exact (Hz (hs y f) (.inr rfl)).1
   simp_all
  |aQ a=>grind [eV]
 ·intro x g e;subst e;cases v with
  |c y=>grind [eV,TC.scalar]
  |agg a=>grind [eV,TC.scalar]
  |aQ a=>grind [eV]
theorem vu{v:TV}{xs:List TC}(h:eV v=some xs)(g:GV σ v):∀x∈xs,GC σ x:=by
 cases v with
 |c x=>
  simp only[eV] at h;split at h
  ·simp only[au] at h;subst h;intro y a;simp only[Bl] at a;subst a;exact g
  simp_all
 |agg b=>
  simp only[eV] at h;split at h
  ·simp only[au] at h;subst h;exact g
  simp_all
 |aQ b=>grind [eV]
theorem aJ.put{α j:Type}{R:α->j->Prop}{cs xs:List α}{ds i:List j}(h:aJ R cs ds)(s:aJ R xs i)(off:Nat):aJ R (sH cs off xs) (ds.take off++i++ds.drop (off+i.length)):=by unfold sH;rw[s.len];exact ((h.take off).YI s).YI (h.drop _)
theorem Nm{α:Type}{cs xs:List α}{off:Nat}{x:α}(h:x∈sH cs off xs):x∈cs∨x∈xs:=by grind [sH]
theorem Dt{rd:aN->Option TV}(j:dk σ alD rd):∀{ps:List (Nat×Nat×aN)}{cs a:List TC}{ds:List D},DK rd cs ps=some a->aJ RC cs ds->(∀x∈cs,GC σ x)->∃b,BB alD ds ps=some b/\aJ RC a b/\∀x∈a,GC σ x:=by
 intro ps;induction ps with
 |nil=>intro cs a ds h e i;simp only[DK,au] at h;subst h;exact ⟨ds,rfl,e,i⟩
 |cons p ps ih=>
  intro cs a ds h e i;obtain ⟨o,m,x⟩:=p;simp only[DK] at h;split at h
  ·rename_i v l;split at h
   ·rename_i A f;split at h
    ·rename_i g;obtain ⟨d,q,s,E⟩:=j x v l;obtain ⟨t,u,F⟩:=pZ f s;simp only[bG] at g;have G:=cO g.1;have K:=Cq g.2;obtain ⟨b,w,z⟩:=ih h (e.put u o) λy L=>by
      grind [Nm,vu]
     refine ⟨b,?_,z⟩;simp only[BB,q,Option.bind_some,t];rw[if_neg (by grind [aJ.len])];exact w
    simp_all
   simp_all
  simp_all
end
end Go.Abs
end
section
namespace Go.Abs
open Go.Fl
theorem Gf{a b:Int}(d:a.natAbs<2 ^ 52)(f:b.natAbs<2 ^ 52):Op.Complex.arith .add .f64 (fl a) (fl b)=pure (fl (a+b)):=by
 have h:FloatKind.f64.format.add (fl a) (fl b)=some (fl (a+b)):=fl_add d f;have e:Op.floatArith .add .f64 (fl a) (fl b)=pure (.float .f64 (fl (a+b))):=by show (match FloatKind.f64.format.add (fl a) (fl b) with | some r=>(pure (.float .f64 r):Go.Sem Value) | none=>_)=_;rw[h]
 grind [Go.Op.Complex.arith]
theorem Hq{a b:Int}(d:a.natAbs<2 ^ 52)(f:b.natAbs<2 ^ 52):Op.Complex.arith .sub .f64 (fl a) (fl b)=pure (fl (a-b)):=by
 have h:FloatKind.f64.format.sub (fl a) (fl b)=some (fl (a-b)):=fl_sub d f;have e:Op.floatArith .sub .f64 (fl a) (fl b)=pure (.float .f64 (fl (a-b))):=by show (match FloatKind.f64.format.sub (fl a) (fl b) with | some r=>(pure (.float .f64 r):Go.Sem Value) | none=>_)=_;rw[h]
 grind [Go.Op.Complex.arith]
theorem vQ{a b:Int}(d:0<=a)(f:0<=b)(g:a.natAbs<2 ^ 53)(i:b.natAbs<2 ^ 53)(hm:(a * b).natAbs<2 ^ 53):Op.Complex.arith .mul .f64 (fl a) (fl b)=pure (fl (a * b)):=by
 have h:FloatKind.f64.format.mul (fl a) (fl b)=some (fl (a * b)):=fl_mul d f g i hm;have e:Op.floatArith .mul .f64 (fl a) (fl b)=pure (.float .f64 (fl (a * b))):=by show (match FloatKind.f64.format.mul (fl a) (fl b) with | some r=>(pure (.float .f64 r):Go.Sem Value) | none=>_)=_;rw[h]
 grind [Go.Op.Complex.arith]
theorem LR{a b c d:Int}(e:a.natAbs<2 ^ 52)(f:b.natAbs<2 ^ 52)(g:c.natAbs<2 ^ 52)(hd:d.natAbs<2 ^ 52) :
  Op.complexOp .add .f64 (fl a) (fl b) (fl c) (fl d)=pure (.complex .f64 (fl (a+c)) (fl (b+d))):=by
 grind [Go.Op.complexOp,Gf]
theorem KW{a b c d:Int}(e:a.natAbs<2 ^ 52)(f:b.natAbs<2 ^ 52)(g:c.natAbs<2 ^ 52)(hd:d.natAbs<2 ^ 52) :
  Op.complexOp .sub .f64 (fl a) (fl b) (fl c) (fl d)=pure (.complex .f64 (fl (a-c)) (fl (b-d))):=by
 grind [Go.Op.complexOp,Hq]
theorem prod_of{a b d e A B z:Nat}(p1:Op.Complex.arith .mul .f64 a d=pure A)(f:Op.Complex.arith .mul .f64 b e=pure z)(g:Op.Complex.arith .mul .f64 a e=pure z)(h:Op.Complex.arith .mul .f64 b d=pure B)
  (i:Op.Complex.arith .sub .f64 A z=pure A) (j:Op.Complex.arith .add .f64 z B=pure B):Op.Complex.product a b d e=pure (A,B):=by
 unfold Op.Complex.product Op.Complex.mul Op.Complex.sub Op.Complex.add
 simp_all
theorem cop_of{a b d g A B:Nat}(h:Op.Complex.product a b d g=pure (A,B)):Op.complexOp .mul .f64 a b d g=pure (.complex .f64 A B):=by unfold Op.complexOp;show (do let (e,f) <-Op.Complex.product a b d g;pure (.complex .f64 (<-Op.Complex.conv .f64 e .f64) (<-Op.Complex.conv .f64 f .f64)):Go.Sem Value)=_;rw[h];rfl
theorem Lx{a b n:Int}(e:0<=a)(f:0<=b)(d:0<=n)(j:a<=1048576)(l:b<=1048576)(g:n<=1048576) :
  Op.complexOp .mul .f64 (fl a) (fl b) (fl n) (fl 0)=pure (.complex .f64 (fl (a * n)) (fl (b * n))):=by
 have m1:0<=a * n/\a * n<=1048576 * 1048576:=⟨yBL e d,Int.mul_le_mul j g d (by omega)⟩;have m:0<=b * n/\b * n<=1048576 * 1048576:=⟨yBL f d,Int.mul_le_mul l g d (by omega)⟩;have z:(0:Int).natAbs<2 ^ 53:=by omega
 have i:(0:Int).natAbs<2 ^ 52:=by omega
 refine cop_of (prod_of (z:=fl 0) ?_ ?_ ?_ ?_ ?_ ?_)
 ·grind [vQ]
 ·have h:=vQ (a:=b) (b:=0) f (OF _) (by omega) z (by omega)
  simp_all
 ·have h:=vQ (a:=a) (b:=0) e (OF _) (by omega) z (by omega)
  simp_all
 ·grind [vQ]
 ·have h:=Hq (a:=a * n) (b:=0) (by omega) i
  simp_all
 ·have h:=Gf (a:=0) (b:=b * n) i (by omega)
  simp_all
theorem SU{n:Int}(h:n.natAbs<2 ^ 53):Conv.floatToInt .f64 (fl n) .i64=pure (.int .i64 n):=by
 unfold Conv.floatToInt;have e:(FloatKind.f64.decode (fl n)).toInt .zero=some n:=fl_int h;simp only[e];have a:IntKind.i64.min=-9223372036854775808:=rfl;have b:IntKind.i64.max=9223372036854775807:=rfl
 grind
end Go.Abs
end
section
namespace Go.Abs
section
variable[Gl][Y:Ty]
variable{P:Program}{orc:vD}{n:Nat}{alD:AL}{σ σ1:TH}{σD σD1:ar}{o:kO}{Q:TV->TH->Bool->List Nat->Prop}{rd:aN->Option TV}
theorem HR(a:dk σ alD rd){x:Operand}{v:TV}(h:wH rd x=some v):∃d,Aj alD x=some d/\RT v d/\GV σ v:=by
 unfold wH at h;split at h
 ·rename_i o b;obtain ⟨d,e,f⟩:=a o v h
  grind [Aj]
 simp_all
theorem qQ{v:TV}{d:D}{a:Value}(h:Ql v=some a)(r:RT v d):d.cP = some a/\d=.c (.lit a):=by
 unfold Ql at h;split at h
 ·simp only[au] at h;subst h;rcases r with r | rfl
  ·simp at r
  ·exact ⟨rfl,rfl⟩
 ·simp only[au] at h;subst h;rcases r with r | rfl
  ·simp at r
  ·exact ⟨rfl,rfl⟩
 simp_all
def flat:Value->Bool
 |.agg _ | .tuple _=>false
 |_=>true
theorem Rk{v:Value}(h:flat v=true):RT (ED v) (dy v)/\GV σ (ED v):=by
 unfold ED;split
 ·exact ⟨.inr rfl,True.intro⟩
 ·refine ⟨.inr ?_,rfl⟩;cases v <;> first | rfl | grind [flat]
theorem valC_ok{x:TC}{d:D}{a:Value}(h:valC x=some a)(r:RC x d):gD d=some a:=by
 unfold valC at h;split at h
 ·simp only[au] at h;subst h;rcases r with r | rfl
  ·simp at r
  ·rfl
 ·simp only[au] at h;subst h;rcases r with r | rfl
  ·simp at r
  ·rfl
 simp_all
theorem LK:∀{xs:List TC}{ds:List D}{vs:List Value},HD xs=some vs->aJ RC xs ds->ds.mapM gD=some vs:=by
 intro xs ds vs h r;induction r generalizing vs with
 |nil=>grind [HD]
 |cons a _ ih=>grind [HD,valC_ok]
theorem eqF0xok{xs g:Array Value}{d:Nat}:∀{e:List Field}{r:Bool},Zb P xs g e=some r->fq P (Op.eqFields (d+1) xs g e)=some r:=by
 intro e;induction e with
 |nil=>intro r h;simp only[Zb,au] at h;subst h;rfl
 |cons f e ih=>
  intro r h;simp only[Zb] at h;split at h
  ·rename_i k a i b j q l m p s t;split at h
   ·grind [ub,eq_int]
   simp_all
  ·grind [ub,CW]
  simp_all
theorem eqFs_ok{xs i:Array Value}{d:Nat}:∀{e:List Field}{r:Bool},WU P xs i e=some r->fq P (Op.eqFields (d+2) xs i e)=some r:=by
 intro e;induction e with
 |nil=>intro r h;simp only[WU,au] at h;subst h;rfl
 |cons f e ih=>
  intro r h;simp only[WU] at h;split at h
  ·rename_i k a w b x q j l m g p;split at h
   ·grind [ub,eq_int]
   simp_all
  ·grind [ub,CW]
  ·rename_i a b t q j l m g p;split at h
   ·rename_i y u v;simp only[au] at h;subst h;have s:P.fieldsOf f.type=t:=by simp[Go.Program.fieldsOf,g]
    exact ub j l m (Wy (d:=d+1) (by rw[s];exact g) u (by rw[s];exact eqF0xok v)) (ih p)
   simp_all
  simp_all
theorem eqT_ok{t:TypeId}{xs b:List TC}{ds es:List D}{r:Bool}(h:eqT P t xs b=some r)(e:aJ RC xs ds)(f:aJ RC b es) :
  ∃vs a,(D.agg ds).cP = some (.agg vs)/\(D.agg es).cP = some (.agg a)/\P.eqGuardType P.depth t=false/\fq P (Op.equalIn 10000 t (.agg vs) (.agg a))=some r:=by
 unfold eqT at h;split at h
 ·rename_i vs a g i j l d m;refine ⟨vs.toArray,a.toArray,?_,?_,d,?_⟩
  ·grind [D.cP,LK]
  ·grind [D.cP,LK]
  grind [Go.Program.fieldsOf,Wy,eqFs_ok]
 simp_all
theorem Ak{α d:Type}{o:Option α}{f:α->Option d}{b:d}(h:o.bind f=some b):∃a,o=some a/\f a=some b:=cC.1 h
theorem IE{o:BinOp}{t:TypeId}{x y:Operand}{a b c d:Nat}{v:Value}(i:o≠.eql)(e:o≠.neq)(f:o≠.shl)(g:o≠.shr)(h:Op.complexOp o .f64 a b c d=pure v):gV P o t x y (.complex .f64 a b) (.complex .f64 c d)=some v:=by
 unfold gV;rw[xE];have j:fq P (eqGuard o t x y (.complex .f64 a b) (.complex .f64 c d))=some ():=by cases o <;> first | rfl | exact absurd rfl i | exact absurd rfl e
 rw[j,aD];have:binOp o t (.complex .f64 a b) (.complex .f64 c d)=Op.complexOp o .f64 a b c d:=by cases o <;> first | rfl | exact absurd rfl i | exact absurd rfl e | exact absurd rfl f | exact absurd rfl g
 rw[this,h];rfl
theorem Ra{a b c:Int}(h:Sw a b=some c):a.natAbs<2 ^ 52/\b.natAbs<2 ^ 52/\c=a+b:=by
 unfold Sw at h
 simp_all
theorem Si{a b c:Int}(h:xh a b=some c):a.natAbs<2 ^ 52/\b.natAbs<2 ^ 52/\c=a-b:=by
 unfold xh at h
 simp_all
theorem QA{a b c:Int}(h:xA a b=some c):0<=a/\a<=1048576/\0<=b/\b<=1048576/\c=a * b:=by
 unfold xA at h
 simp_all
theorem valO_ok(b:dk σ alD rd){x:Operand}{a:Value}(h:TE (wH rd) x=some a):(Aj alD x).bind D.cP = some a:=by grind [TE,HR,qQ]
theorem Sf(g:dk σ alD rd){op:Op}{ty:TypeId}{v:Value}(d:∀cs b,op≠.select cs b)(h:genV P op ty (wH rd)=some v):FA P op ty alD=some (dy v):=by
 unfold genV at h;split at h
 ·rename_i a;rw[iB] at a;have f:∀x∈op.operands.toList,(Aj alD x).bind D.cP = TE (wH rd) x:=λx e=>by
   have:=a x e;rw[yBj] at this
   grind [valO_ok]
  unfold FA;rw[if_pos (by simp_all)];rw[execOp_congr (ρ:=λx=>(((Aj alD x).bind D.cP).getD undef)) (ρ':=λx=>(TE (wH rd) x).getD undef) { dst:=none,op:=op,type:=ty,pos:="",after:=#[],guard:=none } d (λx e=>by simp_all)]
  grind
 simp_all
theorem conv_fl{t b:TypeId}{d:IntKind}{a:Int}(e:P.underlying b=some (.float .f64))(hs:(P.underlying t).isSome=true):fq P (convert t b (.int d a))=some (.float .f64 (Fl.fl a)):=by obtain ⟨u,f⟩:=yBj.1 hs;unfold convert;rw[xE,zbN f,aD,xE,zbN e,aD];cases u <;> rfl
theorem Yx{t d:TypeId}{a b:Int}(f:P.underlying d=some (.int .i64))(hs:(P.underlying t).isSome=true)(h:yN a=some b):fq P (convert t d (.float .f64 (Fl.fl a)))=some (.int .i64 b):=by
 unfold yN at h;split at h
 ·rename_i g;simp only[au] at h;subst h;obtain ⟨u,i⟩:=yBj.1 hs;unfold convert;rw[xE,zbN i,aD,xE,zbN f,aD];have e:fq P (Conv.floatToInt .f64 (Fl.fl a) .i64)=some (.int .i64 a):=by rw[SU g];rfl
  omega
 simp_all
theorem Ol{c:Call}{ty:TypeId}{b:Builtin}{v:Value}(e:c.callee=.builtin b)(a:∀x∈c.args.toList,((Aj alD x).bind D.cP).isSome=true)
  (h:fq P (builtin b c.argTypes ty (c.args.map λ| .const _=>true | _=>false) (c.args.map λx=>((Aj alD x).bind D.cP).getD undef))=some (.value v)):FA P (.call c) ty alD=some (dy v):=by
 obtain ⟨d,args,f⟩:=c;dsimp only at e a h;subst e;have g:(Op.operands (.call ⟨.builtin b,args,f⟩)).toList=args.toList:=by simp[Op.operands,Call.operands]
 unfold FA;rw[if_pos (by simp_all)];have:fq P (execOp (λx=>((Aj alD x).bind D.cP).getD undef) { dst:=none,op:=.call ⟨.builtin b,args,f⟩,type:=ty,pos:="",after:=#[],guard:=none })=some (.value v):=h
 rw[this]
theorem BQ{c:Call}{ty:TypeId}{x y:Operand}{a b:Nat}(e:c.callee=.builtin .complex)(g:c.args.toList=[x,y])(h:Aj alD x=some (.c (.lit (.float .f64 a))))(i:Aj alD y=some (.c (.lit (.float .f64 b)))) :
  FA P (.call c) ty alD=some (.c (.lit (.complex .f64 a b))):=by
 have d:c.args=#[x,y]:=by grind
 refine Ol (v:=.complex .f64 a b) e (by grind [D.cP]) ?_;rw[d];have f:(#[x,y].map λx=>((Aj alD x).bind D.cP).getD undef)=#[.float .f64 a,.float .f64 b]:=by grind [D.cP]
 rw[f];rfl
theorem YO{c:Call}{ty:TypeId}{x:Operand}{a b:Nat}(e:c.callee=.builtin .real)(g:c.args.toList=[x])(h:Aj alD x=some (.c (.lit (.complex .f64 a b)))) :
  FA P (.call c) ty alD=some (.c (.lit (.float .f64 a))):=by
 have d:c.args=#[x]:=by grind
 refine Ol (v:=.float .f64 a) e (by grind [D.cP]) ?_;rw[d];have f:(#[x].map λx=>((Aj alD x).bind D.cP).getD undef)=#[.complex .f64 a b]:=by grind [D.cP]
 rw[f];rfl
theorem Xg{c:Call}{ty:TypeId}{x:Operand}{a b:Nat}(e:c.callee=.builtin .imag)(g:c.args.toList=[x])(h:Aj alD x=some (.c (.lit (.complex .f64 a b)))) :
  FA P (.call c) ty alD=some (.c (.lit (.float .f64 b))):=by
 have d:c.args=#[x]:=by grind
 refine Ol (v:=.float .f64 b) e (by grind [D.cP]) ?_;rw[d];have f:(#[x].map λx=>((Aj alD x).bind D.cP).getD undef)=#[.complex .f64 a b]:=by grind [D.cP]
 rw[f];rfl
theorem RI{v:Value}(h:pa v=true):flat v=true:=by cases v <;> first | rfl | grind [pa]
variable{R:Type}{k:KO R}{r:R}
theorem dg.one{x:TC}{d:D}(q:Q (.c x) σ false [])(h:eG P orc n alD σD o d σD [])(hd:d=x.er)(i:GC σ x)(H:RH σ σD):dg P orc n alD σ σD o Q:=
 dg.pure h (v:=.c x) (Or.inr hd) i H q
theorem dg.vt{v:Value}(q:Q (ED v) σ false [])(h:eG P orc n alD σD o (dy v) σD [])(i:pa v=true)(H:RH σ σD):dg P orc n alD σ σD o Q:=
 dg.pure h (Rk (σ:=σ) (RI i)).1 (Rk (RI i)).2 H q
theorem genT_ok{op:Op}{ty:TypeId}(m:dk σ alD rd)(H:RH σ σD)(h:genT P op ty rd σ k=some r):dg P orc n alD σ σD (.gen op ty) (λv σ1 rs wr=>k v σ1 rs wr=some r):=by
 unfold genT at h;split at h
 ·
  rename_i o t x y X;split at h
  ·
   rename_i Z a kb b p A;obtain ⟨E,f,g,_⟩:=HR m p;obtain ⟨G,j,s,_⟩:=HR m A;rcases g with g | rfl
   ·grind
   rcases s with s | rfl
   ·grind
   split at h
   ·split at h
    ·rename_i e _;subst e;obtain ⟨v,i,l⟩:=Ak h;exact dg.one l (dN f j rfl rfl (bin_quo i) rfl) rfl rfl H
    simp_all
   ·split at h
    ·rename_i e _;subst e;obtain ⟨v,i,l⟩:=Ak h;exact dg.one l (dN f j rfl rfl (aaa i) rfl) rfl rfl H
    simp_all
   ·obtain ⟨v,i,l⟩:=Ak h;exact dg.one l (dN f j rfl rfl (bin_shr i) rfl) rfl rfl H
   ·obtain ⟨v,i,l⟩:=Ak h;exact dg.one l (dN f j rfl rfl (bin_shl i) rfl) rfl rfl H
   ·split at h
    ·rename_i v hv;split at h
     ·rename_i O;exact dg.vt h (dN f j rfl rfl hv rfl) O H
     simp_all
    simp_all
  ·
   rename_i xs ys p A;obtain ⟨E,f,⟨ds,rfl,a1⟩,_⟩:=HR m p;obtain ⟨G,j,⟨es,rfl,a2⟩,_⟩:=HR m A;split at h
   ·rename_i q hq;obtain ⟨vs,ws,i,l,U,W⟩:=eqT_ok hq a1 a2;split at h
    ·exact dg.one h (dN f j i l (bin_eql U W) rfl) rfl True.intro H
    ·exact dg.one h (dN f j i l (bin_neq U W) rfl) rfl True.intro H
    simp_all
   simp_all
  ·
   rename_i a b c d p A;obtain ⟨E,f,g,_⟩:=HR m p;obtain ⟨G,j,s,_⟩:=HR m A;rcases g with g | rfl
   ·grind
   rcases s with s | rfl
   ·grind
   split at h
   ·obtain ⟨u,i,h⟩:=Ak h;obtain ⟨v,l,h⟩:=Ak h;obtain ⟨p1,K,rfl⟩:=Ra i;obtain ⟨L,M,rfl⟩:=Ra l;exact dg.one h (dN f j rfl rfl (IE (by simp) (by simp) (by simp) (by simp) (LR p1 L K M)) rfl) rfl True.intro H
   ·obtain ⟨u,i,h⟩:=Ak h;obtain ⟨v,l,h⟩:=Ak h;obtain ⟨p1,K,rfl⟩:=Si i;obtain ⟨L,M,rfl⟩:=Si l;exact dg.one h (dN f j rfl rfl (IE (by simp) (by simp) (by simp) (by simp) (KW p1 L K M)) rfl) rfl True.intro H
   ·split at h
    ·obtain ⟨u,i,h⟩:=Ak h;obtain ⟨v,l,h⟩:=Ak h;obtain ⟨p1,K,L,M,rfl⟩:=QA i;obtain ⟨p5,p6,_,_,rfl⟩:=QA l;exact dg.one h (dN f j rfl rfl (IE (by simp) (by simp) (by simp) (by simp) (Lx p1 p5 L K p6 M)) rfl) rfl True.intro H
    simp_all
   simp_all
  ·
   rename_i u v _ _ _ p A;obtain ⟨E,f,g,_⟩:=HR m p;obtain ⟨G,j,s,_⟩:=HR m A;split at h
   ·rename_i a b z S;obtain ⟨i,rfl⟩:=qQ z g;obtain ⟨l,rfl⟩:=qQ S s;split at h
    ·rename_i N;exact dg.one h (dN f j rfl rfl (VE N) rfl) rfl True.intro H
    ·rename_i N;exact dg.one h (dN f j rfl rfl (Vy N) rfl) rfl True.intro H
    simp_all
   ·grind [qQ,dg.vt,dN]
   simp_all
  simp_all
 ·
  rename_i o t x;split at h
  ·rename_i u N;obtain ⟨E,f,g,_⟩:=HR m N;split at h
   ·rename_i e he;obtain ⟨i,rfl⟩:=qQ he g;exact dg.one h (Zl f rfl rfl rfl) rfl True.intro H
   ·grind [qQ,dg.vt,Zl]
   simp_all
  simp_all
 ·
  rename_i t X x;split at h
  ·rename_i Z a z;obtain ⟨E,f,g,_⟩:=HR m z;rcases g with g | rfl
   ·grind
   split at h
   ·rename_i T;split at h
    ·rename_i hs;exact dg.one h (CB f rfl (v:=.float .f64 (Fl.fl a)) (conv_fl T hs) rfl) rfl True.intro H
    simp_all
   ·split at h
    ·rename_i w hw;split at h
     ·rename_i O;exact dg.vt h (CB f rfl hw rfl) O H
     simp_all
    simp_all
  ·rename_i a z;obtain ⟨E,f,g,_⟩:=HR m z;rcases g with g | rfl
   ·grind
   split at h
   ·rename_i T hs;obtain ⟨b,i,l⟩:=Ak h;exact dg.one l (CB f rfl (v:=.int .i64 b) (Yx T hs i) rfl) rfl rfl H
   simp_all
  ·grind [HR,qQ,dg.vt,CB]
  simp_all
 ·
  rename_i c;split at h
  ·grind [dg.vt,fS,Sf]
  ·grind [dg.vt,fS,Sf]
  ·rename_i x y F z;split at h
   ·rename_i a b p A;obtain ⟨E,f,g,_⟩:=HR m p;obtain ⟨G,j,s,_⟩:=HR m A;rcases g with g | rfl
    ·grind
    rcases s with s | rfl
    ·grind
    exact dg.one h (fS (BQ F z f j)) rfl True.intro H
   ·rename_i a b p A;obtain ⟨E,f,g,_⟩:=HR m p;obtain ⟨G,j,s,_⟩:=HR m A;rcases g with g | rfl
    ·grind
    rcases s with s | rfl
    ·grind
    split at h
    ·rename_i S;have:=cO S;subst this;exact dg.one h (fS (BQ F z f j)) rfl True.intro H
    simp_all
   simp_all
  ·rename_i x F z;split at h
   ·rename_i a b p;obtain ⟨E,f,g,_⟩:=HR m p;rcases g with g | rfl
    ·grind
    exact dg.one h (fS (YO F z f)) rfl True.intro H
   simp_all
  ·rename_i x F z;split at h
   ·rename_i a b p;obtain ⟨E,f,g,_⟩:=HR m p;rcases g with g | rfl
    ·grind
    exact dg.one h (fS (Xg F z f)) rfl True.intro H
   simp_all
  simp_all
 simp_all
end
end Go.Abs
end
section
namespace Go.Abs
open Go.RowKit
variable[Gl]{P:Program}
structure wO (B:Nat) (J:(Nat->Prop)->(Nat->Prop)->World->Prop):Prop where
 rel:∀F U W,J F U W->Rel [] (λ_=>none) F W
 sub:∀F U W,J F U W->∀c,F c->U c
 lt:∀F U W,J F U W->∀c,U c->c<W.heap.size
 le:∀F U W,J F U W->B<=W.heap.size
 off:∀F U W W',J F U W->W.heap.size<=W'.heap.size->(∀c:Nat,U c∨c<B->W'.heap[c]? = W.heap[c]?)->(W'.os=W.os/\W'.tape=W.tape/\W'.output=W.output)->J F U W'
 grow:∀F U W F',J F U W->(∀c,F c->F' c)->(∀c,F' c->F c∨(¬U c/\B<=c/\c<W.heap.size))->J F' (λc=>U c∨F' c) W
structure Kept (F U:Nat->Prop) (W:World) (F' U':Nat->Prop) (W':World):Prop where
 size:W.heap.size<=W'.heap.size
 off:∀c:Nat,c<W.heap.size->¬U c->W'.heap[c]? = W.heap[c]?/\¬U' c
 fz:∀c:Nat,F c->F' c/\W'.heap[c]? = W.heap[c]?
 out:W'.os=W.os/\W'.tape=W.tape/\W'.output=W.output
theorem Kept.trans{F U x z A E:Nat->Prop}{W G K:World}(h:Kept F U W x z G)(i:Kept x z G A E K):Kept F U W A E K:={
 size:=lA h.size i.size
 off:=λc j M=>by obtain ⟨a,b⟩:=h.off c j M;obtain ⟨s,u⟩:=i.off c (E_ j h.size) b;exact ⟨s.trans a,u⟩
 fz:=λc j=>by obtain ⟨a,b⟩:=h.fz c j;obtain ⟨s,u⟩:=i.fz c a;exact ⟨s,u.trans b⟩
 out:=⟨i.out.1.trans h.out.1,i.out.2.1.trans h.out.2.1,i.out.2.2.trans h.out.2.2⟩ }
def ZN(F:Nat->Prop)(W:World)(caps:List (List C))(e:Array Value):Prop:=
 e.size=caps.length/\∀(i:Nat) b v,caps[i]? = some b->e[i]? = some v->∃c:Nat,v=.pointer (some ⟨c,0,none⟩)/\∃a T,W.heap[c]? = some (.cells a T (0,0))/\b.length<=a.size/\∀(j:Nat) d u,b[j]? = some d->a[j]? = some u->VC F W d u/\u.oneCell'=true
def Vals(F:Nat->Prop)(W:World)(ds:List D)(vs:Array Value):Prop:=
 vs.size=ds.length/\∀(k:Nat) d v,ds[k]? = some d->vs[k]? = some v->V [] (λ_=>none) F W d v
def ItOk (P:Program) (j:Nat) (caps:List (List C)) (items:List (List D)):Prop:=
 ∀ (l B : Nat) (g : Array Value) (J : Nat → (Nat → Prop) → (Nat → Prop) → World → Prop) (f : (Nat → Prop) → (Nat → Prop) → World → Prop) (W : World) (F U : Nat → Prop),
  (∀i,wO B (J i))→wO B f→(∀i F U W,J i F U W→ZN F W caps g) →
  (∀i ds F U W h,items[i]? = some ds→J i F U W→Vals F W ds h →
   YieldAt Fence.wide 0 P l h W fun e a=>∃b d,Kept F U W b d a∧((e=.returned (.bool true)∧J (i+1) b d a)∨(e=.returned (.bool false)∧f b d a))) →
  J 0 F U W →
  Calls P j (#[.func (.yield l) #[] #[]]++g) W fun e a=>(∃v,e=.returned v)∧∃b d,J items.length b d a∨f b d a
def rpost(I:Nat->(Nat->Prop)->(Nat->Prop)->World->Prop)(e:Code->(Nat->Prop)->(Nat->Prop)->World->Prop)(i:Nat)(F U:Nat->Prop)(W:World):Exit->Act->World->Prop
 |.normal,_,a=>∃b d,Kept F U W b d a/\I (i+1) b d a
 |.ret,_,a=>∃b d,Kept F U W b d a/\e .ret b d a
 |.exit id,_,a=>∃b d,Kept F U W b d a/\e (.exit id) b d a
 |.goto t,_,a=>∃b d,Kept F U W b d a/\e (.goto t) b d a
 |.panic _,_,_=>False
 |.outgrown,_,_=>False
theorem Zv{W:World}{l:Nat}{o:Obj}{c:Nat}(h:c≠l):(W.putObj l o).heap[c]? = W.heap[c]?:=World.putObj_heap_other h
theorem Wp {g:Operand} {ps:Array Tmp} {assign body:Code} {Q:Exit→Act→World→Prop} {a:Act} {w:World} {gf:Nat} {lb:Array Value} {caps:List (List C)} {items:List (List D)} {F0 U0:Nat→Prop}
  (hg:a.eval g=.func (.func gf) #[] lb) (eg:∀args w,(callFunc gf args).run P w=.ok (.enter gf args) w) (it:ItOk P gf caps items) (a5:∀ds∈items,ds.length=ps.size)
  (I:Nat→(Nat→Prop)→(Nat→Prop)→World→Prop) (Ix:Code→(Nat→Prop)→(Nat→Prop)→World→Prop) (hI:∀i,wO w.heap.size (I i)) (s:∀c,wO w.heap.size (Ix c))
  (d:∀i F U W,I i F U W→ZN F W caps lb) (h0:I 0 F0 U0 w)
  (ab:∀(l i:Nat) ds F U W vs,items[i]? = some ds→I i F U W→Vals F W ds vs →
   assign.wpIn (Fence.wide.inRound l) 0 P (Exit.then (fun a1 w1=>∃F1 U1,Kept F U W F1 U1 w1∧(∀c,U1 c→c<w1.heap.size) ∧
    ∀ w2, w1.heap.size = w2.heap.size → (∀ c : Nat, U1 c ∨ c < w.heap.size → w2.heap[c]? = w1.heap[c]?) → (w2.os = w1.os ∧ w2.tape = w1.tape ∧ w2.output = w1.output) →
     body.wpIn (Fence.wide.inRound l) 0 P (rpost I Ix i F U1 w2) a1 w2) (fun _ _ _=>False))
    { tmps:=(ps.zip vs).foldl (fun t (p,v)=>t.setIfInBounds p v) a.tmps,defers:=[] } W)
  (ad:∀(D:Nat) F U W,w.heap.size≤D→D<W.heap.size→¬U D→W.heap[D]? = some (.deferred (some []))→I items.length F U W→Q .normal { a with defers:=mark D::a.defers } W)
  (af:∀(D:Nat) c F U W,w.heap.size≤D→D<W.heap.size→¬U D→W.heap[D]? = some (.deferred (some []))→Ix c F U W→c.wp P Q { a with defers:=mark D::a.defers } W) :
  (Code.rangeFunc g ps assign body).wp P Q a w:=by
 refine (wpIn_wide (n:=0)).1 (wpIn_rangeFunc ?_)
 intro fn a6
 have a7:Fence.wide.round=none:=rfl
 rw [a7]
 obtain ⟨rec,f⟩:∃rec:LoopState→Option Code→Loop,rec=fun st pe=>{ state:=st,pending:=pe,fn,tmps:=a.tmps,params:=ps,assign,body,defers:=w.heap.size }:=⟨_,rfl⟩
 obtain ⟨Z,N⟩:∃Z,(w.alloc (.deferred (some []))).alloc (.loop (rec .ready none))=Z:=⟨_,rfl⟩
 have a8:Z.heap[w.heap.size+1]? = some (.loop (rec .ready none)):=by
  rw [←N]; have:=World.alloc_heap_new (w.alloc (.deferred (some []))) (.loop (rec .ready none)); rwa [World.size_alloc] at this
 have a9:Z.heap[w.heap.size]? = some (.deferred (some [])):=by
  rw [←N]; exact (Below.heap_alloc _ _ _ (by simp)).trans (World.alloc_heap_new w _)
 have b0:Z.heap.size=w.heap.size+2:=by rw [←N]; simp
 have bb:I 0 F0 U0 Z:=by
  refine (hI 0).off _ _ w Z h0 (by omega) (fun c d=>?_) (by rw [←N]; exact ⟨rfl,rfl,rfl⟩)
  have bc:c<w.heap.size:=d.elim ((hI 0).lt _ _ _ h0 c) id
  rw [←N,Below.heap_alloc _ _ _ (by simp; omega),Below.heap_alloc _ _ _ bc]
 have bd:¬U0 (w.heap.size+1):=fun h=>by have:=(hI 0).lt _ _ _ h0 _ h; omega
 have be:¬U0 w.heap.size:=fun h=>by have:=(hI 0).lt _ _ _ h0 _ h; omega
 obtain ⟨bk,K⟩:∃bk:(Obj→Prop)→((Nat→Prop)→(Nat→Prop)→World→Prop)→(Nat→Prop)→(Nat→Prop)→World→Prop,bk=fun o X F U W=>∃m,X F m W∧U=(fun c=>m c∨c=w.heap.size∨c=w.heap.size+1) ∧
  ¬m w.heap.size∧¬m (w.heap.size+1)∧w.heap.size+1<W.heap.size∧(∃x,W.heap[w.heap.size+1]? = some x∧o x)∧W.heap[w.heap.size]? = some (.deferred (some [])):=⟨_,rfl⟩
 have bh:∀o X,wO w.heap.size X→wO w.heap.size (bk o X):=fun o X hX=>by
  subst K
  have gr:∀{F m T:Nat→Prop} {W:World},X F m W→(∀c,T c→F c∨(¬(m c∨c=w.heap.size∨c=w.heap.size+1)∧w.heap.size≤c∧c<W.heap.size))→¬m w.heap.size→¬m (w.heap.size+1)→¬T w.heap.size∧¬T (w.heap.size+1):=fun h hf A z=>
   ⟨fun b=>(hf _ b).elim (fun e=>A (hX.sub _ _ _ h _ e)) fun e=>e.1 (.inr (.inl rfl)),fun b=>(hf _ b).elim (fun e=>z (hX.sub _ _ _ h _ e)) fun e=>e.1 (.inr (.inr rfl))⟩
  refine ⟨fun F U W ⟨m,h,_⟩=>hX.rel _ _ _ h,fun F U W ⟨m,h,e,_⟩ c d=>by rw [e]; exact .inl (hX.sub _ _ _ h c d),fun F U W ⟨m,h,e,_,_,hs,_⟩ c d=>?_,fun F U W ⟨m,h,_⟩=>hX.le _ _ _ h,fun F U W W' ⟨m,h,e,A,z,h3,⟨x,h4,ak⟩,O⟩ an j aa=>?_,fun F U W T ⟨m,h,e,A,z,h3,h4,O⟩ ha hb=>?_⟩
  rotate_left
  rotate_left
  ·rw [e] at hb ⊢
   obtain ⟨g1,g2⟩:=gr h hb A z
   exact ⟨fun c=>m c∨T c,hX.grow _ _ _ _ h ha fun c d=>(hb c d).imp id fun ⟨q,r⟩=>⟨fun hu=>q (.inl hu),r⟩,funext fun c=>propext ⟨fun b=>b.elim (fun b=>b.elim (fun b=>.inl (.inl b)) .inr) fun b=>.inl (.inr b),fun b=>b.elim (fun b=>b.elim (fun b=>.inl (.inl b)) .inr) fun b=>.inl (.inr b)⟩,fun b=>b.elim A g1,fun b=>b.elim z g2,h3,h4,O⟩
  ·rw [e] at d
   rcases d with d | rfl | rfl
   ·exact hX.lt _ _ _ h c d
   ·omega
   ·omega
  ·rw [e] at j
   refine ⟨m,hX.off _ _ W W' h an (fun c d=>j c (d.imp .inl id)) aa,e,A,z,by omega,⟨x,?_,ak⟩,?_⟩
   ·rw [j _ (.inl (.inr (.inr rfl)))]; exact h4
   ·rw [j _ (.inl (.inr (.inl rfl)))]; exact O
 refine ⟨w.heap.size+1,[{ target:=.collected w.heap.size,args:=#[] }],Z,{ target:=.fn (.func gf) lb,args:=#[.func (.yield (w.heap.size+1)) #[] #[]] },Z,gf,
  #[.func (.yield (w.heap.size+1)) #[] #[]]++lb,Z,?_,?_,?_,?_,fun h=>by simp [Fence.wide] at h,?_⟩
 ·rw [←N,f]; exact run_enterLoop_outer _ _ _ _ _
 ·simp only [resolve,hg]
  simp [go_sem]
 ·intro f' b1; trivial
 ·simp [invoke,go_sem,eg]
 ·have C:=it (w.heap.size+1) w.heap.size lb (fun i=>bk (fun x=>x=.loop (rec .ready none)) (I i)) (bk (fun x=>True) fun F U W=>∃c,Ix c F U W∧W.heap[w.heap.size+1]? = some (.loop (rec .done (some c)))) Z F0 (fun c=>U0 c∨c=w.heap.size∨c=w.heap.size+1)
   (fun i=>bh _ _ (hI i)) ?_ ?_ ?_ ?_
  ·refine callsIn_wide.2 (C.mono ?_)
   rintro e W2 ⟨⟨v,rfl⟩,T,m,h | h⟩
   ·subst K
    obtain ⟨U2,hi,e,A,z,h3,⟨x,hx,rfl⟩,O⟩:=h
    refine ⟨none,_,by have:=run_endLoop (P:=P) hx (by rw [f]; simp); rw [f] at this; exact this,?_⟩
    refine ad w.heap.size T U2 _ (cR _) (by simp; omega) A ((World.putObj_heap_other (by omega)).trans O) ((hI _).off _ _ W2 _ hi (by simp) (fun c d=>Zv ?_) ⟨rfl,rfl,rfl⟩)
    rintro rfl
    exact d.elim z (by omega)
   ·subst K
    obtain ⟨U2,⟨c,hi,hx⟩,e,A,z,h3,_,O⟩:=h
    refine ⟨some c,_,by have:=run_endLoop (P:=P) hx (by rw [f]; simp); rw [f] at this; exact this,?_⟩
    refine wpIn_wide.2 (af w.heap.size c T U2 _ (cR _) (by simp; omega) A ((World.putObj_heap_other (by omega)).trans O) ((s _).off _ _ W2 _ hi (by simp) (fun c d=>Zv ?_) ⟨rfl,rfl,rfl⟩))
    rintro rfl
    exact d.elim z (by omega)
  ·
   subst K
   refine ⟨fun F U W ⟨m,⟨c,h,_⟩,_⟩=>(s c).rel _ _ _ h,fun F U W ⟨m,⟨c,h,_⟩,e,_⟩ c' d=>by rw [e]; exact .inl ((s c).sub _ _ _ h c' d),fun F U W ⟨m,⟨c,h,_⟩,e,_,_,hs,_⟩ c' d=>?_,fun F U W ⟨m,⟨c,h,_⟩,_⟩=>(s c).le _ _ _ h,
    fun F U W W' ⟨m,⟨c,h,hr⟩,e,A,z,h3,⟨x,h4,ak⟩,O⟩ an j aa=>?_,fun F U W T ⟨m,⟨c,h,hr⟩,e,A,z,h3,h4,O⟩ ha hb=>?_⟩
   rotate_left
   rotate_left
   ·rw [e] at hb ⊢
    have g1:¬T w.heap.size:=fun b=>(hb _ b).elim (fun e=>A ((s c).sub _ _ _ h _ e)) fun e=>e.1 (.inr (.inl rfl))
    have g2:¬T (w.heap.size+1):=fun b=>(hb _ b).elim (fun e=>z ((s c).sub _ _ _ h _ e)) fun e=>e.1 (.inr (.inr rfl))
    exact ⟨fun c=>m c∨T c,⟨c,(s c).grow _ _ _ _ h ha fun c d=>(hb c d).imp id fun ⟨q,r⟩=>⟨fun hu=>q (.inl hu),r⟩,hr⟩,funext fun c=>propext ⟨fun b=>b.elim (fun b=>b.elim (fun b=>.inl (.inl b)) .inr) fun b=>.inl (.inr b),fun b=>b.elim (fun b=>b.elim (fun b=>.inl (.inl b)) .inr) fun b=>.inl (.inr b)⟩,fun b=>b.elim A g1,fun b=>b.elim z g2,h3,h4,O⟩
   ·rw [e] at d
    rcases d with d | rfl | rfl
    ·exact (s c).lt _ _ _ h c' d
    ·omega
    ·omega
   ·rw [e] at j
    have av:=j _ (.inl (.inr (.inr rfl)))
    refine ⟨m,⟨c,(s c).off _ _ W W' h an (fun c d=>j c (d.imp .inl id)) aa,av.trans hr⟩,e,A,z,by omega,⟨x,av.trans h4,ak⟩,(j _ (.inl (.inr (.inl rfl)))).trans O⟩
  ·intro i F U W h
   subst K
   obtain ⟨m,h,_⟩:=h
   exact d i F m W h
  ·
   intro i ds F U W vs hi h ax
   subst K
   obtain ⟨U2,a0,e,A,z,h3,⟨x,hx,rfl⟩,O⟩:=h
   have hy:=run_yield (P:=P) (args:=vs) hx (by rw [f,ax.1]; exact a5 ds (Am hi))
   rw [f] at hy
   refine ⟨fn,_,assign,body,hy,roundIn_of_wpIn a6 (wpIn_mono (ab _ i ds F U2 W vs hi a0 ax) ?_)⟩
   intro ex a1 w1 S
   cases ex with
   | normal =>
    obtain ⟨F1,U1,k1,b2,hb⟩:=S
    obtain ⟨o1,u1⟩:=k1.off _ (by omega) z
    obtain ⟨o2,u2⟩:=k1.off _ (by omega) A
    have bi:w1.heap[w.heap.size+1]? = some (.loop (rec .ready none)):=o1.trans hx
    refine ⟨_,run_beginRound bi (by rw [f]),?_⟩
    have b3:=k1.size
    have B:=hb (w1.putObj (w.heap.size+1) (.loop { rec .ready none with state:=.busy })) (by simp) (fun c d=>Zv (by rintro rfl; exact d.elim u1 (by omega))) ⟨rfl,rfl,rfl⟩
    refine wpIn_mono B ?_
    have bl:(w1.putObj (w.heap.size+1) (.loop { rec .ready none with state:=.busy })).heap[w.heap.size+1]? = some (.loop { rec .ready none with state:=.busy }):=World.putObj_heap_same (by omega)
    have bt:(w1.putObj (w.heap.size+1) (.loop { rec .ready none with state:=.busy })).heap[w.heap.size]? = some (.deferred (some [])):=(Zv (by omega)).trans (o2.trans O)
    have fin:∀(u:Option Code) (X:(Nat→Prop)→(Nat→Prop)→World→Prop) (hX:wO w.heap.size X) E y (W3:World),Kept F U1 (w1.putObj (w.heap.size+1) (.loop { rec .ready none with state:=.busy })) E y W3→X E y W3 →
      ∃ M, (Instr.endRound (w.heap.size + 1) u).run P W3 = .ok (.bool u.isNone) M ∧ M.heap[w.heap.size + 1]? = some (.loop (rec (if u.isNone then .ready else .done) u)) ∧ M.heap[w.heap.size]? = some (.deferred (some [])) ∧ X E y M ∧
       ¬y w.heap.size∧¬y (w.heap.size+1)∧w.heap.size+1<M.heap.size∧Kept F U W E (fun c=>y c∨c=w.heap.size∨c=w.heap.size+1) M:=fun u X hX E y W3 G bu=>by
     obtain ⟨p1,q1⟩:=G.off (w.heap.size+1) (by simp; omega) u1
     obtain ⟨p2,q2⟩:=G.off w.heap.size (by simp; omega) u2
     have bv:=p1.trans bl
     have bw:=G.size
     simp only [World.putObj_size] at bw
     have:=run_endRound (P:=P) u bv
     rw [f] at this ⊢
     refine ⟨_,this,World.putObj_heap_same (by omega),(Zv (by omega)).trans (p2.trans bt),hX.off _ _ W3 _ bu (by simp) (fun c d=>Zv (by rintro rfl; exact d.elim q1 (by omega))) ⟨rfl,rfl,rfl⟩,q2,q1,by simp; omega,?_⟩
     refine ⟨by simp; omega,fun c d hu=>?_,fun c d=>?_,⟨G.out.1.trans k1.out.1,G.out.2.1.trans k1.out.2.1,G.out.2.2.trans k1.out.2.2⟩⟩
     ·rw [e] at hu
      simp only [not_or] at hu
      obtain ⟨m1,m2⟩:=k1.off c d hu.1
      obtain ⟨m3,m4⟩:=G.off c (by simp; omega) m2
      exact ⟨by rw [Zv hu.2.2,m3,Zv hu.2.2,m1],by simp only [not_or]; exact ⟨m4,hu.2⟩⟩
     ·have a2:c≠w.heap.size+1:=by rintro rfl; exact z ((hI i).sub _ _ _ a0 _ d)
      obtain ⟨m1,m2⟩:=k1.fz c d
      obtain ⟨m3,m4⟩:=G.fz c d
      exact ⟨m3,by rw [Zv a2,m4,Zv a2,m2]⟩
    rintro ex a3 W3 S
    cases ex with
    | normal =>
     obtain ⟨E,y,G,L⟩:=S
     obtain ⟨M,r1,r2,r3,r4,r5,r6,r7,r8⟩:=fin none _ (hI (i+1)) E y W3 G L
     exact ⟨_,M,r1,E,_,r8,.inl ⟨rfl,y,r4,rfl,r5,r6,r7,⟨_,r2,rfl⟩,r3⟩⟩
    | ret =>
     obtain ⟨E,y,G,L⟩:=S
     obtain ⟨M,r1,r2,r3,r4,r5,r6,r7,r8⟩:=fin (some .ret) _ (s .ret) E y W3 G L
     exact ⟨_,M,r1,E,_,r8,.inr ⟨rfl,y,⟨.ret,r4,r2⟩,rfl,r5,r6,r7,⟨_,r2,trivial⟩,r3⟩⟩
    | exit id =>
     obtain ⟨E,y,G,L⟩:=S
     obtain ⟨M,r1,r2,r3,r4,r5,r6,r7,r8⟩:=fin (some (.exit id)) _ (s (.exit id)) E y W3 G L
     exact ⟨_,M,r1,E,_,r8,.inr ⟨rfl,y,⟨.exit id,r4,r2⟩,rfl,r5,r6,r7,⟨_,r2,trivial⟩,r3⟩⟩
    | goto t =>
     obtain ⟨E,y,G,L⟩:=S
     obtain ⟨M,r1,r2,r3,r4,r5,r6,r7,r8⟩:=fin (some (.goto t)) _ (s (.goto t)) E y W3 G L
     exact ⟨_,M,r1,E,_,r8,.inr ⟨rfl,y,⟨.goto t,r4,r2⟩,rfl,r5,r6,r7,⟨_,r2,trivial⟩,r3⟩⟩
    | panic ch=>exact S.elim
    | outgrown=>exact S.elim
   | exit id=>exact S.elim
   | goto t=>exact S.elim
   | ret=>exact S.elim
   | panic ch=>exact S.elim
   | outgrown=>exact S.elim
  ·subst K
   exact ⟨U0,bb,rfl,be,bd,by omega,⟨_,a8,rfl⟩,a9⟩
end Go.Abs
end
section
namespace Go.Abs
noncomputable section
variable[Gl][Y:Ty]
def sE:(cs:List de)->lI cs->List D
 |[],_=>[]
 |[c],x=>[c.enc x]
 |c::d::cs,x=>c.enc x.1::sE (d::cs) x.2
def sN(cs:List de)(x:lI cs):D:=one (sE cs x)
def bH(P:Program)(g:Nat)(s:bz):Prop:=∀a r,s.f a=some r->Pure P g (sJ s.ins a) (sN s.out r)
def WT(P:Program)(g:Nat):bz->Prop
 | ⟨[.c (.sl i)],[.c (.sl j)],f⟩=>∀l r,f (l,())=some r->ItOk P g [[.cB false (l.map (enc i))]] (r.map λa=>[ST (enc j a)])
 |_=>True
def fh(P:Program)(S:tH):Prop:=∀p∈S,(Nat.blt p.1 1048576=true->bH P p.1 p.2)/\(Nat.blt p.1 1048576=false->WT P (p.1-1048576) p.2)
theorem tsk_mem{g:Nat}{s:bz}:∀{S:tH},ZG g S=some s->(g,s)∈S:=by
 intro S;induction S with
 |nil=>grind [ZG]
 |cons p S ih=>
  intro h;obtain ⟨q,b⟩:=p;simp only[ZG] at h;split at h
  ·rename_i a;have:=cO a;subst this
   simp_all
  ·exact oD _ (ih h)
theorem fh.iter{P:Program}{S:tH}(h:fh P S){g:Nat}{s:bz}(hs:ZG (g+1048576) S=some s):WT P g s:=by have:=(h _ (tsk_mem hs)).2 (by show Nat.blt (g+1048576) 1048576=false;exact Bool.eq_false_iff.2 λe=>by have:=tM.mp e;omega);simpa using this
def Hm(S:tH):xj:=(S.filter λp=>Nat.blt p.1 1048576).map λp=>(p.1,spec (sJ p.2.ins) (sN p.2.out) p.2.f)
theorem de.inj{c:de}{a b:c.dn}(h:c.enc a=c.enc b):a=b:=by
 cases c with
 |c x=>grind [de.enc,Mn,JK]
 |st i=>exact ST_inj (λ{a b}=>JK i a b) h
 |fp i=>simp only[de.enc,D.c.injEq,C.cD.injEq,Nr] at h;grind [JK]
 |k g=>rfl
theorem Nk:∀{cs:List de}{a b:tf cs},sJ cs a=sJ cs b->a=b:=by
 intro cs;induction cs with
 |nil=>simp_all
 |cons c cs ih=>grind [sJ,de.inj]
theorem Oe{P:Program}{S:tH}(h:fh P S):rO P (Hm S):=by intro p a ds r b;simp only[Hm,iT,QN] at a;obtain ⟨q,⟨d,e⟩,rfl⟩:=a;exact spec_ok ((h q d).1 e) ds r b
theorem spk_of0{g:Nat}{s:bz}(d:Nat.blt g 1048576=true):∀{S:tH},ZG g S=some s->UZ g (Hm S)=some (spec (sJ s.ins) (sN s.out) s.f):=by
 intro S;induction S with
 |nil=>grind [ZG]
 |cons p S ih=>
  intro h;obtain ⟨q,i⟩:=p;simp only[ZG] at h;split at h
  ·rename_i a;have:=cO a;subst this;simp only[au] at h;subst h;simp only[Hm,List.filter_cons,d,if_true,tn,UZ];split
   ·rfl
   ·rename_i f;simp at f
  ·rename_i a;have e:=ih h;cases b:Nat.blt q 1048576 with
   |false=>simpa only[Hm,List.filter_cons,b,bX,cn] using e
   |true=>simp only[Hm,List.filter_cons,b,if_true,tn,UZ];rw[a];exact e
theorem WV{g:Nat}{s:bz}{S:tH}(h:Zc g S=some s):UZ g (Hm S)=some (spec (sJ s.ins) (sN s.out) s.f):=by
 unfold Zc at h;split at h
 ·rename_i a;exact spk_of0 a h
 ·simp at h
theorem Nb{i:Nat}{xs:List TC}{a:TT i}(h:Cr i (.agg xs)=some a):∃x,Dw (Y.fl i) xs=some x/\a=Y.mkt i x:=by
 simp only[Cr] at h
 grind
theorem NX{c:de}{v:TV}{d:D}{a:c.dn}(h:qI c v=some a)(r:RT v d):BT d=c.enc a/\d.low 0=true/\d.plain=true:=by
 cases c with
 |c x=>
  cases v with
  |c y=>
   simp only[qI,IP] at h;obtain ⟨p,b⟩:=oZ h;rcases r with r | rfl
   ·simp_all
   ·obtain ⟨q,w⟩:∃q,y.er=.c q:=by
     cases F:y.er with
     |c q=>simp_all
     |_=>grind [wK]
    rw[w] at b ⊢;exact ⟨b,rfl,rfl⟩
  |agg f=>grind [qI,IP]
  |aQ f=>grind [qI,IP]
 |st i=>
  cases v with
  |c y=>grind [qI,Cr]
  |agg f=>
   obtain ⟨x,p,rfl⟩:=Nb h;obtain ⟨b,z⟩:=Qj p;obtain ⟨ds,rfl,A⟩:=r;rw[A.eq b];have j:∀(l:List D)(m:List C),l.map wK=m.map .c->D.low.cL 0 l=true/\(l.all λd=>match d with | .fn ..=>false | _=>true)=true:=by
    intro l;induction l with
    |nil=>intro m _;exact ⟨rfl,rfl⟩
    |cons d l ih=>
     intro m s;cases m with
     |nil=>grind
     |cons c m=>
      simp only[tn,yBP] at s;obtain ⟨t,u⟩:=ih m s.2;cases d with
      |c x=>grind [D.low.cL,D.low]
      |_=>grind [wK]
   obtain ⟨t,u⟩:=j _ _ z;refine ⟨?_,t,u⟩
   grind [BT,de.enc,vl,Ty.pm]
  |aQ f=>grind [qI,Cr]
 |fp i=>
  simp only[qI] at h;unfold Ce at h;split at h
  ·split at h
   ·rename_i e _;subst e;simp only[au] at h;subst h;rcases r with r | rfl
    ·simp at r
    ·exact ⟨rfl,rfl,rfl⟩
   simp_all
  simp_all
 |k g=>
  simp only[qI] at h;unfold Pk at h;split at h
  ·split at h
   ·rename_i E;have:=cO E;subst this;rcases r with r | rfl
    ·simp at r
    ·exact ⟨rfl,rfl,rfl⟩
   simp_all
  simp_all
inductive fG:List TV->List D->Prop where
 |nil:fG [] []
 |cons {v:TV} {d:D} {vs:List TV} {ds:List D} (h:RT v d) (r:fG vs ds):fG (v::vs) (d::ds)
theorem QC:∀{cs:List de}{vs:List TV}{ds:List D}{a:tf cs},yu cs vs=some a->fG vs ds->ds.map BT=sJ cs a/\(ds.all λd=>d.low 0&&d.plain)=true:=by
 intro cs;induction cs with
 |nil=>
  intro vs ds a h r;cases r with
  |nil=>exact ⟨rfl,rfl⟩
  |cons _ _=>grind [yu]
 |cons c cs ih=>
  intro vs ds a h r;cases r with
  |nil=>grind [yu]
  |cons b r=>
   simp only[yu] at h
   grind [NX,sJ]
theorem de.JB(c:de)(a:c.dn):(c.enc a).low 0=true:=by
 cases c with
 |c x=>rfl
 |st i=>exact WE _
 |fp i=>rfl
 |k g=>rfl
theorem VV:∀(cs:List de)(x:lI cs),D.low.cL 0 (sE cs x)=true:=by
 intro cs;induction cs with
 |nil=>intro x;rfl
 |cons c cs ih=>
  intro x;cases cs with
  |nil=>grind [sE,D.low.cL,de.JB]
  |cons d cs=>simp only[sE,D.low.cL,de.JB,yCm];simp_all
theorem Vq(cs:List de)(x:lI cs):(sN cs x).low 0=true:=by
 have:=VV cs x;unfold sN one;split
 ·rename_i d h;rw[h] at this;simp only[D.low.cL,Kk] at this;omega
 ·exact this
theorem te_ok(c:de)(a:c.dn):RE (c.te a) (c.enc a):=by
 cases c with
 |c x=>exact ⟨_,rfl,.inr (ld x a).symm⟩
 |st i=>exact ⟨_,rfl,Qv i a⟩
 |fp i=>exact ⟨_,rfl,.inr rfl⟩
 |k g=>exact ⟨_,rfl,.inr rfl⟩
theorem outL_ok:∀(cs:List de)(x:lI cs),aJ RE (Nu cs x) (sE cs x):=by
 intro cs;induction cs with
 |nil=>intro x;exact .nil
 |cons c cs ih=>
  intro x;cases cs with
  |nil=>exact .cons (te_ok c x) .nil
  |cons d cs=>exact .cons (te_ok c x.1) (ih x.2)
theorem QZ(cs:List de)(x:lI cs):RT (outT cs x) (sN cs x):=by
 cases cs with
 |nil=>exact ⟨[],rfl,.nil⟩
 |cons c cs=>
  cases cs with
  |nil=>exact c.ER x
  |cons d cs=>refine ⟨sE (c::d::cs) x,?_,outL_ok (c::d::cs) x⟩;cases cs <;> rfl
theorem RQ{σ:TH}(c:de)(a:c.dn):∀x∈(c.te a).2,GC σ x:=by
 cases c with
 |c x=>grind [de.te,vR]
 |st i=>exact u_ i a
 |fp i=>intro y b;simp only[de.te,Bl] at b;subst b;trivial
 |k g=>intro y b;simp only[de.te,Bl] at b;subst b;rfl
theorem Tw{σ:TH}:∀(cs:List de)(x:lI cs),∀p∈Nu cs x,∀y∈p.2,GC σ y:=by
 intro cs;induction cs with
 |nil=>grind [Nu]
 |cons c cs ih=>
  intro x p a;cases cs with
  |nil=>grind [Nu,RQ]
  |cons d cs=>grind [Nu,RQ]
theorem Cs{σ:TH}(c:de)(a:c.dn):GV σ (c.tv a):=by
 cases c with
 |c x=>exact vR x a
 |st i=>exact u_ i a
 |fp i=>trivial
 |k g=>rfl
theorem GK{σ:TH}(cs:List de)(x:lI cs):GV σ (outT cs x):=by
 cases cs with
 |nil=>intro p a;grind [Nu]
 |cons c cs=>
  cases cs with
  |nil=>exact Cs c x
  |cons d cs=>exact Tw (c::d::cs) x
variable{P:Program}{orc:vD}{n:Nat}{alD:AL}{σ σ1:TH}{σD σD1:ar}{o:kO}{Q:TV->TH->Bool->List Nat->Prop}{rd:aN->Option TV}
theorem PU{c:CC}{x:TC}{a:c.dn}(h:Cz c x=some a):∃q,x.er=.c q:=by
 obtain ⟨_,b⟩:=oZ h;cases d:x.er with
 |c q=>simp_all
 |_=>grind [wK]
theorem Vw(H:RH σ σD){x:TC}(g:GC σ x){c:CC}{a:c.dn}(h:Cz c (Ci σ x)=some a):∃q,fF σD 0 100 x.er=some q/\wK (.c q)=.c (sK enc c a):=by
 have other:Ci σ x=x->∃q,fF σD 0 100 x.er=some q/\wK (.c q)=.c (sK enc c a):=λe=>by rw[e] at h;obtain ⟨_,p⟩:=oZ h;obtain ⟨q,t⟩:=PU h;rw[t] at p;exact ⟨q,by rw[t];rfl,p⟩
 cases x with
 |own i b v m=>
  have bad:∀{z:TC}{a:c.dn},z=.own i b v m->Cz c z=some a->False:=λe h=>by grind [Cz]
  cases d:σ[b]? with
  |none=>simp only[Ci,d] at h;simp_all
  |some blk=>
   cases blk with
   |row j l u y=>
    cases f:Nat.beq u v with
    |false=>simp only[Ci,d,f] at h;simp_all
    |true=>simp only[Ci,d,f] at h;have f:=cO f;obtain ⟨blk,s,p⟩:=g;rw[d] at s;simp only[au] at s;obtain ⟨_,A⟩:=p j l u y s.symm;obtain ⟨rfl,rfl⟩:=A f.symm;refine ⟨_,DS (k:=98) (rT j) (Y.ps j) (H.row d) rfl,?_⟩;obtain ⟨_,E⟩:=oZ h;rw[<-E];rfl
   |cells w F=>simp only[Ci,d] at h;simp_all
   |mp j st l w=>simp only[Ci,d] at h;simp_all
 |_=>exact other rfl
theorem frTs_ok(H:RH σ σD):∀{cs:List CC}{xs:List TC}{a:aQ cs},(∀x∈xs,GC σ x)->Dw cs (xs.map (Ci σ))=some a->∃b,(xs.map TC.er).mapM (fF σD 0 100)=some b/\(b.map D.c).map wK=(nE enc cs a).map .c:=by
 intro cs;induction cs with
 |nil=>
  intro xs a _ h;cases xs with
  |nil=>exact ⟨[],rfl,rfl⟩
  |cons x xs=>grind [Dw]
 |cons c cs ih=>
  intro xs a g h;cases xs with
  |nil=>grind [Dw]
  |cons x xs=>
   simp only[tn,Dw] at h;split at h
   ·rename_i i j d e;simp only[au] at h;subst h;obtain ⟨q,l,m⟩:=Vw H (g x (rX ..)) d;obtain ⟨b,p,s⟩:=ih (λy f=>g y (oD _ f)) e;refine ⟨q::b,?_,?_⟩
    ·simp_all
    grind [nE]
   simp_all
theorem Ni(σ:TH):∀{cs:List CC}{xs:List TC}{a:aQ cs},Dw cs (xs.map (Ci σ))=some a->∀y∈xs,y≠.any:=by intro cs xs a h y b e;subst e;have:=(Qj h).1 (Ci σ .any) (List.mem_map_of_mem b);exact this rfl
theorem Qs{i b v m:Nat}:(∃j l,Ci σ (.own i b v m)=.sl j l)∨Ci σ (.own i b v m)=.own i b v m:=by grind [Ci]
theorem PH(H:RH σ σD){c:de}{v:TV}{d:D}{a:c.dn}(g:GV σ v)(r:RT v d)(h:qI c (fM σ v)=some a):∃p,ol σD 0 100 d=some p/\xa σD 0 100 d=some p/\BT p=c.enc a:=by
 have same:fM σ v=v->(∃q,d=.c q)->∃p,ol σD 0 100 d=some p/\xa σD 0 100 d=some p/\BT p=c.enc a:=λe ⟨q,A⟩=>by rw[e] at h;subst A;exact ⟨_,rfl,rfl,(NX h r).1⟩
 cases v with
 |c x=>
  cases c with
  |c cc=>
   simp only[fM,qI,IP] at h;have E:x≠.any:=λe=>by subst e;exact (oZ h).1 rfl
   rcases r with r | rfl
   ·simp_all
   obtain ⟨q,t,u⟩:=Vw H g h;have s:ol σD 0 100 x.er=some (.c q):=by
    cases w:x.er with
    |agg F=>grind [fF]
    |_=>grind [ol]
   refine ⟨.c q,s,?_,u⟩;cases w:x.er with
   |aQ F=>grind [fF]
   |_=>rw[w] at s;exact s
  |st i=>grind [fM,qI,Cr]
  |fp i=>
   cases x with
   |fp j b off=>
    rcases r with r | rfl
    ·simp at r
    exact same rfl ⟨_,rfl⟩
   |own i b v m=>exfalso;simp only[fM,qI] at h;rcases Qs (σ:=σ) (i:=i) (b:=b) (v:=v) (m:=m) with ⟨j,l,e⟩ | e <;> rw[e] at h <;> simp[Ce] at h
   |_=>grind [fM,Ci,qI,Ce]
  |k f=>
   cases x with
   |d y=>
    rcases r with r | rfl
    ·simp at r
    refine same rfl ?_;simp only[fM,Ci,qI,Pk] at h
    grind
   |own i b v m=>exfalso;simp only[fM,qI] at h;rcases Qs (σ:=σ) (i:=i) (b:=b) (v:=v) (m:=m) with ⟨j,l,e⟩ | e <;> rw[e] at h <;> simp[Pk] at h
   |_=>grind [fM,Ci,qI,Pk]
 |agg G=>
  cases c with
  |st i=>
   obtain ⟨y,t,rfl⟩:=Nb h;obtain ⟨ds,rfl,K⟩:=r;rw[K.eq (Ni σ t)];obtain ⟨L,u,s⟩:=frTs_ok H g t;have z:=frz_agg (σ:=σD) u;refine ⟨_,z,z,?_⟩
   grind [BT,de.enc,vl,Ty.pm]
  |c x=>grind [fM,qI,IP]
  |fp i=>grind [fM,qI,Ce]
  |k i=>grind [fM,qI,Pk]
 |aQ G=>grind [fM,qI,Cr,IP,Ce,Pk]
theorem frVs_ok(H:RH σ σD):∀{cs:List de}{vs:List TV}{ds:List D}{a:tf cs},(∀v∈vs,GV σ v)->fG vs ds->yu cs (vs.map (fM σ))=some a->∃b,ds.mapM (xa σD 0 100)=some b/\b.map BT=sJ cs a:=by
 intro cs;induction cs with
 |nil=>
  intro vs ds a _ r h;cases r with
  |nil=>exact ⟨[],rfl,rfl⟩
  |cons _ _=>grind [yu]
 |cons c cs ih=>
  intro vs ds a g r h;cases r with
  |nil=>grind [yu]
  |cons d r=>
   simp only[tn,yu] at h;split at h
   ·rename_i x y e f;simp only[au] at h;subst h;obtain ⟨i,_,j,p⟩:=PH H (g _ (rX ..)) d e;obtain ⟨b,l,q⟩:=ih (λv m=>g v (oD _ m)) r f;exact ⟨i::b,mapM_c j l,by grind [sJ]⟩
   simp_all
theorem UI{cs:List de}(h:cs.all de.gr=true)(x:lI cs):(sN cs x).ground=true:=by
 have cc:∀(c:CC)(a:c.dn),c.gr=true->(D.c (sK enc c a)).ground=true:=by intro c a h;cases c <;> first | rfl | grind [CC.gr]
 have b:∀(cs:List CC)(x:aQ cs),cs.all CC.gr=true->D.ground.gI ((nE enc cs x).map .c)=true:=by
  intro cs;induction cs with
  |nil=>intro x _;rfl
  |cons c cs ih=>
   intro x h;simp only[List.all_cons,bG] at h
   grind [nE,D.ground.gI]
 have e:∀(c:de)(a:c.dn),c.gr=true->(c.enc a).ground=true:=by
  intro c a h;cases c with
  |c x=>exact cc x a h
  |st i=>simp only[de.enc,D.ground,vl];exact b _ _ h
  |fp i=>grind [de.gr]
  |k g=>grind [de.gr]
 have f:∀(cs:List de)(x:lI cs),cs.all de.gr=true->D.ground.gI (sE cs x)=true:=by
  intro cs;induction cs with
  |nil=>intro x _;rfl
  |cons c cs ih=>
   intro x h;simp only[List.all_cons,bG] at h;cases cs with
   |nil=>grind [sE,D.ground.gI]
   |cons d cs=>simp only[sE,D.ground.gI,e c x.1 h.1,yCm];simp_all
 have:=f cs x h;unfold sN one;split
 ·rename_i d h;rw[h] at this;simp only[D.ground.gI,Kk] at this;omega
 ·exact this
theorem spc_ok{S:tH}{g:Nat}{s:bz}{vs:List TV}{ds:List D}{a:tf s.ins}{r:lI s.out}(hs:Zc g S=some s)(d:fG vs ds)(e:yu s.ins vs=some a)(f:s.f a=some r) :
  CN (Hm S) g ds σD=some (sN s.out r,σD,[]):=by
 obtain ⟨h,i⟩:=QC e d;exact zF (WV hs) i h (Sc (λa b=>Nk) f) (Vq s.out r)
theorem own_low{v:TV}{d:D}(h:yg v=true)(r:RT v d):d.low 0=false:=by
 cases v with
 |c x=>
  cases x <;> simp[yg,QU] at h
  rcases r with r | rfl
  ·simp at r
  ·simp[TC.er,D.low]
 |agg f=>
  obtain ⟨ds,rfl,g⟩:=r;simp only[yg] at h;simp only[D.low];induction g with
  |nil=>simp at h
  |cons e _ ih=>
   rename_i a b l m _;simp only[List.any_cons,gp] at h;simp only[D.low.cL];rcases h with h | h
   ·cases a <;> simp[QU] at h
    rcases e with e | rfl
    ·grind
    ·simp[TC.er,D.low]
   simp_all
 |aQ f=>grind [yg]
theorem VD{vs:List TV}{ds:List D}(r:fG vs ds)(h:vs.any yg=true):(ds.all λd=>d.low 0&&d.plain)=false:=by
 induction r with
 |nil=>simp at h
 |cons a _ ih=>
  simp only[List.any_cons,gp] at h;simp only[List.all_cons];rcases h with h | h
  ·grind [own_low]
  simp_all
theorem XB{S:tH}(H:RH σ σD){g:Nat}{s:bz}{vs:List TV}{ds:List D}{a:tf s.ins}{r:lI s.out}(hs:Zc g S=some s)(e:∀v∈vs,GV σ v)(d:fG vs ds)(f:s.out.all de.gr=true)(h:vs.any yg=true)
  (i:yu s.ins (vs.map (fM σ))=some a) (j:s.f a=some r):CN (Hm S) g ds σD=some (sN s.out r,σD,[]):=by
 obtain ⟨l,m,p⟩:=frVs_ok H e d i;exact HP (WV hs) (VD d h) m p (Sc (λa b=>Nk) j) (UI f r)
end
end Go.Abs
end
section
namespace Go.Abs
noncomputable section
variable[Gl][Y:Ty]
variable{P:Program}{orc:vD}{n:Nat}{alD:AL}{σ σ1:TH}{σD σD1:ar}{o:kO}{Q:TV->TH->Bool->List Nat->Prop}{rd:aN->Option TV}
theorem rt0:RT (.aQ []) (.aQ []):=⟨[],rfl,.nil⟩
theorem EL:∀{z:List D}{m:Nat},D.low.cL 0 z=true->∀d∈z,d.low m=true:=by
 intro z;induction z with
 |nil=>simp_all
 |cons x z ih=>
  intro m h d hd;simp only[D.low.cL,bG] at h;rcases gn.1 hd with rfl | hd
  ·exact D.eE (NA _) h.1
  simp_all
theorem aJ.ds:∀(z:List D),aJ RC (z.map .d) z:=by
 intro z;induction z with
 |nil=>exact .nil
 |cons d z ih=>exact .cons (.inr rfl) ih
theorem Jn{z:List D}(h:D.low.cL 0 z=true):∀x∈z.map TC.d,GC σ x:=by intro x a;rw[iT] at a;obtain ⟨d,hd,rfl⟩:=a;exact EL h d hd
theorem HL{z:List D}(h:D.low.cL 0 z=true)(k:Nat):∀x∈(tN k z).map TC.d,GC σ x:=by intro x a;rw[iT] at a;obtain ⟨d,hd,rfl⟩:=a;simp only[tN,List.mem_flatten,List.mem_replicate] at hd;obtain ⟨l,⟨_,rfl⟩,hd⟩:=hd;exact EL h d hd
theorem VF:∀{cs:List CC}{xs:List TC}{a:aQ cs},Qq xs=true->Dw cs xs=some a->xs.map TC.er=(nE enc cs a).map .c:=by
 intro cs;induction cs with
 |nil=>
  intro xs a _ h;cases xs with
  |nil=>rfl
  |cons x xs=>grind [Dw]
 |cons c cs ih=>
  intro xs a b h;cases xs with
  |nil=>grind [Dw]
  |cons x xs=>grind [Dw,Qq,List.cons.injEq,Pd,nE]
theorem Bf{i:Nat}{xs:List TC}{a:TT i}(h:mkT i xs=some a):xs.map TC.er=(enc i a).map .c/\∀x∈xs,x≠.any:=by grind [mkT,vl,Ty.pm,VF,Qj]
theorem Za{i:Nat}:∀{k:Nat}{xs:List TC}{l:List (TT i)}{ds:List D},Gx i k xs=some l->aJ RC xs ds->ds=(l.flatMap (enc i)).map .c/\l.length=k:=by
 intro k;induction k with
 |zero=>
  intro xs l ds h r;cases xs with
  |nil=>simp only[Gx,au] at h;subst h;cases r;simp_all
  |cons x xs=>grind [Gx]
 |succ k ih=>
  intro xs l ds h r;simp only[Gx] at h;split at h
  ·rename_i a f b d;simp only[au] at h;subst h;obtain ⟨g,e⟩:=Bf b;obtain ⟨j,m⟩:=ih d (r.drop (aw i));have p:=(r.take (aw i)).eq e
   grind [List.take_append_drop]
  simp_all
theorem QP{v:TV}{d:D}{q:Int}(h:kC v=some q)(r:RT v d):d=I q:=by
 unfold kC at h;split at h
 ·simp only[au] at h;subst h;rcases r with r | rfl
  ·simp at r
  ·rfl
 simp_all
theorem RT.c1{x:TC}{d:D}(i:x≠.any)(r:RT (.c x) d):d=x.er:=by
 rcases r with r | r
 ·simp_all
 omega
theorem HW{k:IntKind}:∀{xs:List TC}{l:List Int}{ds:List D},ints k xs=some l->aJ RC xs ds->ds=l.map λz=>.c (.lit (.int k z)):=by
 intro xs l ds h r;induction r generalizing l with
 |nil=>grind [ints]
 |cons b _ ih=>
  simp only[ints] at h;split at h
  ·rename_i a g d f;simp only[au] at h;subst h;obtain ⟨i,_⟩:=oZ d;rw[ih f,tn];congr 1;rcases b with b | rfl
   ·simp_all
   ·rcases Pd d with e | e
    ·grind [Cz]
    ·rw[e];rfl
  simp_all
theorem dk.c{x:aN}{y:TC}(i:dk σ alD rd)(h:rd x=some (.c y))(s:y≠.any):lx alD x=some y.er/\GC σ y:=by obtain ⟨d,u,z,j⟩:=i x _ h;exact ⟨by grind [RT.c1],j⟩
theorem dk.int{x:aN}{v:TV}{q:Int}(i:dk σ alD rd)(h:rd x=some v)(j:kC v=some q):lx alD x=some (I q):=by
 obtain ⟨d,s,u,_⟩:=i x _ h
 grind [QP]
theorem dk.all(i:dk σ alD rd):∀{xs:List aN}{vs:List TV},Kp rd xs=some vs->∃ds,UX alD xs=some ds/\fG vs ds/\∀v∈vs,GV σ v:=by
 intro xs;induction xs with
 |nil=>intro vs h;simp only[Kp,au] at h;subst h;exact ⟨[],rfl,.nil,by simp⟩
 |cons x xs ih=>
  intro vs h;simp only[Kp] at h;split at h
  ·rename_i a b j s;simp only[au] at h;subst h;obtain ⟨d,A,u,E⟩:=i x a j;obtain ⟨ds,F,z,G⟩:=ih s;refine ⟨d::ds,by grind [UX],.cons u z,λv K=>?_⟩
   grind
  simp_all
theorem castL_len{i j:Nat}{l:List (TT j)}{m:List (TT i)}(h:fo l=some m):m.length=l.length:=by grind [Rt]
theorem yS(H:RH σ σD){b i j a d:Nat}{l:List (TT j)}{m:List (TT i)}(e:σ[b]? = some (.row j l a d))(h:fo l=some m):σ[b]? = some (.row i m a d):=by grind [Rt]
theorem HZ(H:RH σ σD){i:Nat}{v:TV}{d:D}{m:List (TT i)}(h:DQ i σ v=some m)(r:RT v d)(g:GV σ v):Src σD (enc i) (aw i) d m:=by
 unfold DQ at h;split at h
 ·rename_i j l;obtain ⟨rfl,rfl⟩:=Rt h;rw[RT.c1 (by simp) r];exact CY (rT j)
 ·simp only[au] at h;subst h;rw[RT.c1 (by simp) r];exact src_nil
 ·rename_i j b v q;split at h
  ·rename_i t l u w f;split at h
   ·rename_i a;have a:=cO a;obtain ⟨blk,e,p⟩:=g;rw[f] at e;simp only[au] at e;obtain ⟨_,s⟩:=p _ _ _ _ e.symm;obtain ⟨rfl,rfl⟩:=s a.symm;obtain ⟨rfl,rfl⟩:=Rt h;rw[RT.c1 (by simp) r];exact RW (rT _) (H.row f) rfl
   simp_all
  simp_all
 simp_all
theorem srcN_ok(H:RH σ σD){i:Nat}{v:TV}{d:D}{m:List (TT i)}(h:DQ i σ v=some m)(r:RT v d)(g:GV σ v):Wd σD (enc i) (aw i) d m:=by
 unfold DQ at h;split at h
 ·rename_i j l;obtain ⟨rfl,rfl⟩:=Rt h;rw[RT.c1 (by simp) r];exact YV (rT j)
 ·simp only[au] at h;subst h;rw[RT.c1 (by simp) r];exact Xd
 ·rename_i j b v q;split at h
  ·rename_i t l u w f;split at h
   ·rename_i a;have a:=cO a;obtain ⟨blk,e,p⟩:=g;rw[f] at e;simp only[au] at e;obtain ⟨_,s⟩:=p _ _ _ _ e.symm;obtain ⟨rfl,rfl⟩:=s a.symm;obtain ⟨rfl,rfl⟩:=Rt h;rw[RT.c1 (by simp) r];exact Xf (rT _) (H.row f) rfl
   simp_all
  simp_all
 simp_all
theorem os_row(H:RH σ σD){i b v q lo len j a e:Nat}{l:List (TT j)}(g:GC σ (.os i b v q lo len))(f:σ[b]? = some (.row j l a e))(d:Nat.beq a v=true):j=i/\q=l.length/\lo+len<=q:=by
 have d:=cO d;obtain ⟨blk,h,m⟩:=g
 grind
theorem qU(H:RH σ σD){i b v q j a e:Nat}{l:List (TT j)}(g:GC σ (.own i b v q))(f:σ[b]? = some (.row j l a e))(d:Nat.beq a v=true):j=i/\q=l.length:=by
 have d:=cO d;obtain ⟨blk,h,m⟩:=g
 grind
theorem XK(H:RH σ σD){i b v q j f d off:Nat}{k:Int}{a:TT i}{l:List (TT j)}(g:GC σ (.op i b v q k a off))(h:σ[b]? = some (.row j l f d))(e:Nat.beq d v=true):∃m:List (TT i),fo l=some m/\q=m.length/\aB m k=some a:=by
 have e:=cO e;obtain ⟨blk,p,s⟩:=g
 simp_all
theorem Ky{m:Option Nat}{i:Nat}{a:TT i}{off:Nat}{v:TV}(h:Be m (exp i a) off=some v):∃d,uX m ((enc i a).map .c) off=some d/\RT v d/\GV σ v:=by
 obtain ⟨d,b,e⟩:=yV h (Qv i a)
 grind [qD,u_]
variable{R:Type}{k:KO R}{r:R}
theorem WZ:∀{xs:List Value}{l:List Int},Nd xs=some l->xs=l.map λz=>.int .i64 z:=by
 intro xs;induction xs with
 |nil=>grind [Nd]
 |cons x xs ih=>
  intro l h;unfold Nd at h
  grind
theorem Wi:∀{xs:List C}{l:List Int},Nf xs=some l->xs=l.map λz=>.lit (.int .i64 z):=by
 intro xs;induction xs with
 |nil=>grind [Nf]
 |cons x xs ih=>
  intro l h;unfold Nf at h
  grind
theorem Yu{S:tH}{G:Nat}{m:Option Nat}{x:aN}(K:dk σ alD rd)(H:RH σ σD)(h:gh P S G (.load m x) rd σ k=some r):dg P orc n alD σ σD (.load m x) (λv σ1 rs wr=>k v σ1 rs wr=some r):=by
 simp only[gh] at h;split at h
 ·rename_i b off sz f;obtain ⟨s,_⟩:=K.c f (by simp);split at h
  ·rename_i w N t;obtain ⟨ds,u,A,L,_⟩:=H.cells t;split at h
   ·rename_i v hs E;obtain ⟨d,M,F⟩:=yV E A;refine dg.pure (rV s (PE u (by simp_all)) M) F (qD E λy X=>?_) H h;rw[iT] at X;obtain ⟨p,Z,rfl⟩:=X;exact (H.hg b w N t p Z).1
   simp_all
  simp_all
 ·rename_i i a off f;obtain ⟨s,_⟩:=K.c f (by simp);split at h
  ·rename_i v E;obtain ⟨d,u,A,L⟩:=Ky (σ:=σ) E;exact dg.pure (EX s u) A L H h
  simp_all
 ·rename_i i b v q z a off f;obtain ⟨s,g⟩:=K.c f (by simp);split at h
  ·rename_i j l lv cv t;split at h
   ·rename_i v' E O;obtain ⟨m',u,rfl,A⟩:=XK H g t E;have T:=yS H t u;obtain ⟨d,L,M,F⟩:=Ky (σ:=σ) O;exact dg.pure (VL (rT i) s rfl (H.row T) rfl (X_ A) L) M F H h
   simp_all
  simp_all
 ·rename_i b off len sz i f;obtain ⟨s,g⟩:=K.c f (by simp);split at h
  ·rename_i w N t;obtain ⟨ds,u,A,L,_⟩:=H.cells t;split at h
   ·rename_i l hs U;simp only[bG] at hs;obtain ⟨a,W,hk⟩:=Ak h;have M:=HW U ((A.drop off).take len);obtain ⟨a1,a2,a3⟩:=oT W;refine dg.one hk (rV s (PE u (by simp_all)) (d:=I a) ?_) rfl rfl H;have F:((ds.drop off).take len)[i.toNat]? = some (I a):=by simp_all
    have h7:i.toNat<len:=by grind
    rw[yBt h7,yBD] at F;simp only[uX,Nat.mul_one];exact F
   simp_all
  simp_all
 ·rename_i N off f;obtain ⟨s,g⟩:=K.c f (by simp);split at h
  ·rename_i l U;obtain ⟨a,W,hk⟩:=Ak h;obtain ⟨a1,a2,a3⟩:=oT W;have e:=Wi U;subst e;refine dg.one hk (EX s (d:=I a) ?_) rfl rfl H
   grind [uX]
  simp_all
 simp_all
theorem TD{S:tH}{O:Nat}{m:Nat}{x y:aN}(U:dk σ alD rd)(H:RH σ σD)(h:gh P S O (.store m x y) rd σ k=some r):dg P orc n alD σ σD (.store m x y) (λv σ1 rs wr=>k v σ1 rs wr=some r):=by
 simp only[gh] at h;split at h
 ·rename_i b off sz v hx hv;obtain ⟨h1,_⟩:=U.c hx (by simp);obtain ⟨d,h2,h3,h4⟩:=U _ _ hv;split at h
  ·rename_i w E f L A;obtain ⟨ds,h5,h6,h7,aa⟩:=H.cells L;obtain ⟨h8,h9,ab⟩:=pZ A h3;split at h
   ·rename_i u;simp only[bG] at u;have c1:=cO u.1;have c2:=cO u.2.1;have c3:=Cq u.2.2;have F:(sH E off (f.map λx=>(w+1,x))).length=E.length:=by
     grind [sH]
    have s:BE (.cells w E) (.cells (w+1) (sH E off (f.map λx=>(w+1,x)))):=by
     refine ⟨w+1,_,rfl,by omega,F,λj v x v1 x1 W X=>?_⟩;by_cases hj:j<off
     ·grind [sH]
     ·by_cases ak:j<off+f.length
      ·right;simp only[sH] at X
       grind
      ·left;simp only[sH] at X
       grind
    have M:∀w' N,TB.cells (w+1) (sH E off (f.map λx=>(w+1,x)))=.cells w' N->∀p∈N,GC σ p.2/\p.1<=w':=by
     intro w' N e p G;simp only[TB.cells.injEq] at e;obtain ⟨rfl,rfl⟩:=e;rcases Nm G with G | G
     ·obtain ⟨q1,q2⟩:=H.hg b w E L p G
      grind
     ·rw[iT] at G;obtain ⟨y,hy,rfl⟩:=G;exact ⟨vu A h4 y hy,cR _⟩
    have ad:RB (.cells (w+1) (sH E off (f.map λx=>(w+1,x)))) (.cells (put ds off (f.map TC.er))):=by unfold RB TB.er;rw[aa];simp[put,sH,Function.comp_def]
    refine ⟨_,_,_,_,.aQ [],σD.set b (.cells (put ds off (f.map TC.er))),El h1 (PE h5 (by omega)) h2 h8 ⟨by simp_all,c3⟩ rfl,rt0,?_,H.set L s ad M,Ext.set L s,λ_=>?_,λe=>by grind [rZ],h⟩
    ·intro p G;grind
    ·simp only[jf,List.all_cons,List.all_nil,Kk];rw[h5,Gi h5];simp only[Ob.sz,my]
     grind [put]
   simp_all
  simp_all
 ·rename_i i b v q z a off xv hx hv;obtain ⟨h1,g⟩:=U.c hx (by simp);obtain ⟨d,h2,h3,h4⟩:=U _ _ hv;split at h
  ·rename_i j l lv cv f L A;obtain ⟨h8,h9,ab⟩:=pZ A h3;split at h
   ·rename_i Z l' u ha hl;simp only[bG] at u;obtain ⟨m',W,rfl,X⟩:=XK H g L u.1;rw[hl] at W;simp only[au] at W;subst W;have t:=yS H L hl;have c2:=cO u.2.1;obtain ⟨e3,e4⟩:=Bf ha;have K:(sH (exp i a) off f).map TC.er=((exp i a).map TC.er).take off++f.map TC.er++((exp i a).map TC.er).drop (off+f.length):=by
     simp[sH]
    rw[e3,vp] at K;obtain ⟨T,af⟩:∃T:List C,f.map TC.er=T.map .c:=by
     have c3:=Cq u.2.2;refine ⟨((enc i Z).drop off).take f.length,?_⟩;rw[yCc,List.map_drop,K];have l1:(((enc i a).map D.c).take off).length=off:=by grind [rT]
     simp_all
    have F:T.length=f.length:=by have:=Ja List.length af;grind
    have he:enc i Z=(enc i a).take off++T++(enc i a).drop (off+T.length):=by
     apply Lr
     simp_all
    have s:BE (.row i l' lv cv) (.row i (l'.set z.toNat Z) lv (cv+1)):=⟨_,_,_,rfl,cR _,by omega,λ_=>by simp,λe=>by omega⟩;refine ⟨_,_,_,_,.aQ [],σD.set b (OB (enc i) (l'.set z.toNat Z)),TJ (rT i) h1 rfl (H.row t) rfl (X_ X) h2 (by simp_all) (by omega) u.2.2 he rfl rfl,rt0,?_,H.set t s rfl (λw E e=>by simp at e),Ext.set t s,λ_=>?_,λe=>by grind [rZ],h⟩
    ·intro p G;grind
    ·simp only[jf,List.all_cons,List.all_nil,Kk];rw[H.row t,Gi (H.row t)];simp[Ob.sz,ed (rT i)]
   simp_all
  simp_all
 simp_all
end
end Go.Abs
end
