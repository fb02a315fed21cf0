/- DfwV, DfwW, DfwX, DfwY, DfwZ, DfwOp, DfwEnc, DfwEq, DfwOwn, DfwTq, DfwMp, DfwFl, DfwGh -/
import Derived.Test.YtdfbphphacpkdaaGreatFwB
import GoSem.ClaimChange
import Derived.DataReads
import Derived.Below
import Derived.Laws.StructEq
import GoSem.Core.Float
import GoSem.Op.Complex
import GoSem.Conv.FloatToInt
set_option linter.all false
section
namespace Go.Abs
variable[Gl]
inductive Sh where
 |int (k:IntKind)
 |bool
 |str
 |sl (e:List Sh)
 |no
 deriving Inhabited
inductive Shaped:Sh->C->Prop where
 |int {k:IntKind} {n:Int} (h:(Lit.int k n).wf=true):Shaped (.int k) (.lit (.int k n))
 |bool (b:Bool):Shaped .bool (.lit (.bool b))
 |str {s:ByteArray} (h:s.size<=maxLen):Shaped .str (.lit (.string s))
 |sl {e:List Sh} {es:List (List C)} (hl:es.length<=maxLen) (hn:∀x∈es,x.length=e.length) (h:∀(x:List C),x∈es->∀(j:Nat) s c,e[j]? = some s->x[j]? = some c->Shaped s c):Shaped (.sl e) (.cB false es)
def fx(P:Program):Nat->TypeId->Option (List Sh)
 |0,_=>none
 |f + 1, t=>
  match P.underlying t with
  |some .bool=>some [.bool]
  |some (.int k)=>some [.int k]
  |some .string=>some [.str]
  |some (.slice e)=>
   match fx P f e with
   |some s=>if s.length=P.cellsOf e/\s≠[] then some [.sl s] else none
   |none=>none
  |some (.struct h)=>
   match h.toList.foldl (λa b=>match a,fx P f b.type with
    |some l,some s=>if b.offset=l.length/\s.length=P.cellsOf b.type then some (l++s) else none
    |_,_=>none) (some []) with
   |some l=>if l.length=P.cellsOf t then some l else none
   |none=>none
  |some (.array n e)=>
   match fx P f e with
   |some s=>if s.length=P.cellsOf e/\n * s.length=P.cellsOf t then some (List.replicate n s).flatten else none
   |none=>none
  |_=>none
def Fb(w:World)(a:List Sh)(xs:List C)(cs:List Value):Prop:=
 xs.length=a.length/\cs.length=a.length/\(∀(i:Nat) s x,a[i]? = some s->xs[i]? = some x->Shaped s x) /\
  ∀(i:Nat) x v,xs[i]? = some x->cs[i]? = some v->VC (λc=>c<w.heap.size) w x v/\v.oneCell'=true
theorem Fb.append{w:World}{s1 s2:List Sh}{j o:List C}{c1 u:List Value}(z:Fb w s1 j c1)(A:Fb w s2 o u):Fb w (s1++s2) (j++o) (c1++u):=by
 obtain ⟨F,G,K,O⟩:=z;obtain ⟨R,U,W,X⟩:=A;refine ⟨by simp_all,by simp_all,λi s x hs E=>?_,λi x v E Y=>?_⟩
 ·grind
 grind
theorem Fb.nil{w:World}:Fb w [] [] []:=⟨rfl,rfl,λi s x h=>by simp at h,λi x v h=>by simp at h⟩
theorem Fb.one{w:World}{s:Sh}{x:C}{v:Value}(u:Shaped s x)(z:VC (λc=>c<w.heap.size) w x v)(A:v.oneCell'=true):Fb w [s] [x] [v]:=by
 refine ⟨rfl,rfl,λi E j hs o=>?_,λi j F o G=>?_⟩
 ·grind
 grind
theorem Gj{w:World}{b:Nat}{a:Addr}{n:Nat}{cs:List Value}(h:w.cells? b a n=some cs):cs.length=n/\∀(j:Nat) v,cs[j]? = some v->w.cell? (a.add j)=some v:=by
 unfold World.cells? at h;split at h
 ·obtain ⟨i,l⟩:=MV h
  grind
 simp_all
theorem Uh{α:Type}{n:Nat}{p:Nat->α->Prop}(h:∀i,i<n->∃a,p i a):∃l:List α,l.length=n/\∀(i:Nat) a,l[i]? = some a->p i a:=by
 induction n with
 |zero=>simp_all
 |succ n ih=>
  obtain ⟨l,j,m⟩:=ih (λi o=>h i (by omega));obtain ⟨a,r⟩:=h n (by omega);refine ⟨l++[a],by simp[j],λi b s=>?_⟩
  grind
theorem EO{H:Type}{enc:TypeId×Value->H}{P:Program}{w:World}{b:Nat->Bool}{j:Bool}{f:Nat}{t e:TypeId}{cs:List Value}{d:DataW H}{ps:List MemPlace}
  (v:P.underlying t=some (.slice e)) (h:DataW.trod enc P w 0 b j (f+1) t cs=some (d,ps)) :
  cs=[.slice none 0 0]∨∃a len cap,cs=[.slice (some a) len cap]/\len<=cap/\cap<=maxLen/\∀i,i<len->∃ci o p,w.cells? 0 (a.add (i * P.cellsOf e)) (P.cellsOf e)=some ci/\DataW.trod enc P w 0 b j f e ci=some (o,p):=by
 unfold DataW.trod at h;rw[v] at h;split at h <;> rename_i l <;> first
  |(simp only[au,reduceCtorEq] at l;done)
  |skip
 ·exact .inl rfl
 ·rename_i A a len cap;simp only[au,TypeDesc.slice.injEq] at l;subst l;simp only at h;split at h
  ·rename_i u;simp only[cC] at h;obtain ⟨r,s,_⟩:=h;refine .inr ⟨a,len,cap,rfl,u.2.1,u.2.2,λi x=>?_⟩;obtain ⟨⟨o,p⟩,_,m⟩:=Aw s i i (List.getElem?_range x);simp only[cC] at m;obtain ⟨ci,y,z⟩:=m;exact ⟨ci,o,p,y,z⟩
  ·simp at h
 ·simp at h
theorem BR{H:Type}{enc:TypeId×Value->H}{P:Program}{w:World}{a:Nat->Bool}{b:Bool}{f:Nat}{t:TypeId}{o:Array Field}{cs:List Value}{d:DataW H}{ps:List MemPlace}
  (v:P.underlying t=some (.struct o)) (h:DataW.trod enc P w 0 a b (f+1) t cs=some (d,ps)) :
  cs.length=P.cellsOf t/\∀l∈o.toList,∃p r,DataW.trod enc P w 0 a b f l.type ((cs.drop l.offset).take (P.cellsOf l.type))=some (p,r):=by
 unfold DataW.trod at h;rw[v] at h;split at h <;> rename_i j <;> first
  |(simp only[au,reduceCtorEq] at j;done)
  |skip
 ·simp only[au,TypeDesc.struct.injEq] at j;subst j;split at h
  ·rename_i x;simp only[cu] at h;obtain ⟨A,s,_⟩:=h;refine ⟨x,λl u=>?_⟩;obtain ⟨i,y⟩:=yBE.1 u;obtain ⟨⟨p,r⟩,_,z⟩:=Aw s i l y;exact ⟨p,r,z⟩
  ·simp at h
 ·exact absurd rfl (‹∀(m:Array Field),some (TypeDesc.struct o)=some (TypeDesc.struct m)->False› o)
theorem EI{H:Type}{enc:TypeId×Value->H}{P:Program}{w:World}{a:Nat->Bool}{b:Bool}{f n:Nat}{t e:TypeId}{cs:List Value}{d:DataW H}{ps:List MemPlace}
  (s:P.underlying t=some (.array n e)) (h:DataW.trod enc P w 0 a b (f+1) t cs=some (d,ps)) :
  cs.length=P.cellsOf t/\∀i,i<n->∃l m,DataW.trod enc P w 0 a b f e ((cs.drop (i * P.cellsOf e)).take (P.cellsOf e))=some (l,m):=by
 unfold DataW.trod at h;rw[s] at h;split at h <;> rename_i j <;> first
  |(simp only[au,reduceCtorEq] at j;done)
  |skip
 ·simp only[au,TypeDesc.array.injEq] at j;obtain ⟨rfl,rfl⟩:=j;split at h
  ·rename_i u;simp only[cu] at h;obtain ⟨y,o,_⟩:=h;refine ⟨u,λi v=>?_⟩;obtain ⟨⟨l,m⟩,_,x⟩:=Aw o i i (List.getElem?_range v);exact ⟨l,m,x⟩
  ·simp at h
 ·exact absurd rfl (‹∀(p:Nat)(r:TypeId),some (TypeDesc.array n e)=some (TypeDesc.array p r)->False› n e)
theorem OR{H:Type}{enc:TypeId×Value->H}{P:Program}{w:World}{N:Nat->Bool}{aa:Bool}:∀(f:Nat)(O:Nat)(t:TypeId)(cs:List Value)(d:DataW H)(ps:List MemPlace)(R:List Sh),
  DataW.trod enc P w 0 N aa O t cs=some (d,ps)->fx P f t=some R->∃xs,Fb w R xs cs:=by
 intro f;induction f with
 |zero=>grind [fx]
 |succ f ih=>
  intro O t cs d ps R v hs;cases O with
  |zero=>simp[DataW.trod] at v
  |succ O=>
   simp only[fx] at hs;split at hs
   ·
    rename_i A;simp only[au] at hs;subst hs;unfold DataW.trod at v;rw[A] at v;split at v <;> simp_all
    subst_vars
    exact ⟨_,Fb.one (.bool _) (.lit _) rfl⟩
   ·
    rename_i k A;simp only[au] at hs;subst hs;unfold DataW.trod at v;rw[A] at v;split at v <;> simp_all
    obtain ⟨⟨rfl,ak⟩,_⟩:=v;exact ⟨_,Fb.one (.int ak) (.lit _) rfl⟩
   ·
    rename_i A;simp only[au] at hs;subst hs;unfold DataW.trod at v;rw[A] at v;split at v <;> simp_all
    exact ⟨_,Fb.one (.str v.1) (.lit _) rfl⟩
   ·
    rename_i e A;split at hs
    ·rename_i s S;split at hs
     ·rename_i b;obtain ⟨b,ab⟩:=b;simp only[au] at hs;subst hs;have a8:0<s.length:=UY.2 ab;rcases EO A v with rfl | ⟨r,len,cap,rfl,bd,be,T⟩
      ·refine ⟨[.cB false []],Fb.one (.sl (by simp) (λx h=>by simp at h) (λx h=>by simp at h)) ?_ rfl⟩;exact .cB 0 none 0 (by simp) (λ_=>rfl) (λ_ _=>undef) (λe h=>by simp at h) (by simp) (λi j e d h=>by simp at h) (λi j e d h=>by simp at h)
      ·rw[<-b] at T;have an:∀i,i<len->∃(p:List C×List Value),w.cells? 0 (r.add (i * s.length)) s.length=some p.2/\Fb w s p.1 p.2:=by
        intro i K;obtain ⟨ci,Z,pi,E,z⟩:=T i K;obtain ⟨xs,o⟩:=ih O e ci Z pi s z S;exact ⟨(xs,ci),E,o⟩
       obtain ⟨l,bh,G⟩:=Uh an;have U:0<len->r.spot=none/\r.block<w.heap.size:=by
        intro h0;obtain ⟨ci,Z,pi,E,_⟩:=T 0 h0;obtain ⟨h3,h4⟩:=Gj E;have hc:=h4 0 _ (eH (by omega));have e0:(r.add (0 * s.length)).add 0=r:=by simp[Addr.add]
        rw[e0] at hc;exact ⟨World.cell?_spot hc,block_lt_of_cell hc⟩
       let g:Nat->Nat->Value:=λi j=>(((l[i]?).map (·.2)).bind (·[j]?)).getD undef
       have F:∀(i j:Nat)(x:List C)(c:C),(l.map (·.1))[i]? = some x->x[j]? = some c->r=⟨r.block,r.off,none⟩/\r.block<w.heap.size/\w.cell? ⟨r.block,r.off+i * s.length+j,none⟩=some (g i j) /\
         VC (λc=>c<w.heap.size) w c (g i j)/\(g i j).oneCell'=true:=by
        intro i j x c y hc;simp only[lY,cu] at y;obtain ⟨p,W,rfl⟩:=y;obtain ⟨E,z,h3,h4,h5⟩:=G i p W;have K:i<len:=by grind
        obtain ⟨bi,bk⟩:=U (by omega);have bl:r=⟨r.block,r.off,none⟩:=by cases r;simp_all
        grind [Gj,eJ]
       have a9:(l.map (·.1)).length=len:=by grind
       refine ⟨[.cB false (l.map (·.1))],Fb.one (.sl (by omega) (λx y=>?_) (λx y j sj c E z=>?_)) ?_ rfl⟩
       ·simp only[iT] at y;obtain ⟨p,W,rfl⟩:=y;obtain ⟨i,K⟩:=yBE.1 W;exact (G i p K).2.1
       ·simp only[iT] at y;obtain ⟨p,W,rfl⟩:=y;obtain ⟨i,K⟩:=yBE.1 W;exact (G i p K).2.2.2.1 j sj c E z
       ·have:=VC.cB (Fz:=λc=>c<w.heap.size) (w:=w) (nn:=false) (es:=l.map (·.1)) s.length (some r) cap (by simp) (λh=>by cases h) g (λx y=>?_) (by omega) (λi j x c E z=>?_) (λi j x c E z=>(F i j x c E z).2.2.2.1)
        ·grind
        ·simp only[iT] at y;obtain ⟨p,W,rfl⟩:=y;obtain ⟨i,K⟩:=yBE.1 W;exact (G i p K).2.1
        grind
     simp_all
    simp_all
   ·
    rename_i fs A;split at hs
    ·rename_i l hl;split at hs
     ·rename_i bt;simp only[au] at hs;subst hs;obtain ⟨E,z⟩:=BR A v;have X:∀(fl:List Field)(a:List Sh)(ax:List C),(∀u∈fl,u∈fs.toList)->a.length<=cs.length->Fb w a ax (cs.take a.length) ->
        fl.foldl (λa u=>match a,fx P f u.type with
         |some l,some s=>if u.offset=l.length/\s.length=P.cellsOf u.type then some (l++s) else none
         |_,_=>none) (some a)=some l->l.length<=cs.length->∃xs,Fb w l xs (cs.take l.length):=by
       intro fl;induction fl with
       |nil=>grind
       |cons u fl av=>
        intro a ax L bb a0 he a1;simp only[List.foldl_cons] at he;have a2:∀(gl:List Field),gl.foldl (λa u=>match a,fx P f u.type with
         |some l,some s=>if u.offset=l.length/\s.length=P.cellsOf u.type then some (l++s) else none
         |_,_=>none) none=none:=by
         intro gl;induction gl with
         |nil=>rfl
         |cons _ _ ih=>simp_all
        cases af:fx P f u.type with
        |none=>simp_all
        |some s=>
         rw[af] at he;simp only at he;split at he
         ·rename_i hc;obtain ⟨bc,b⟩:=hc;obtain ⟨Z,pi,hd⟩:=z u (L u (by simp));obtain ⟨xs,o⟩:=ih O u.type _ Z pi s hd af;have a5:a.length+s.length<=cs.length:=by
           have:=o.2.1
           grind
          refine av (a++s) (ax++xs) (λx y=>L x (by simp[y])) (by simp_all) ?_ he a1;have Y:cs.take (a++s).length=cs.take a.length++(cs.drop u.offset).take (P.cellsOf u.type):=by grind
          rw[Y];exact a0.append o
         simp_all
      obtain ⟨xs,o⟩:=X fs.toList [] [] (λ_ h=>h) (by simp) (by grind [Fb.nil]) hl (by omega)
      grind
     simp_all
    simp_all
   ·
    rename_i n e A;split at hs
    ·rename_i s S;split at hs
     ·rename_i b;obtain ⟨b,bu⟩:=b;simp only[au] at hs;subst hs;obtain ⟨E,z⟩:=EI A v;rw[<-b] at z;have X:∀m,m<=n->∃xs,Fb w (List.replicate m s).flatten xs (cs.take (m * s.length)):=by
       intro m;induction m with
       |zero=>intro _;exact ⟨[],by grind [Fb.nil]⟩
       |succ m a6=>
        intro hm;obtain ⟨xs,o⟩:=a6 (by omega);obtain ⟨Z,pi,hd⟩:=z m (by omega);obtain ⟨ys,a7⟩:=ih O e _ Z pi s hd S;refine ⟨xs++ys,?_⟩;have e1:(List.replicate (m+1) s).flatten=(List.replicate m s).flatten++s:=by grind [List.replicate_succ']
        rw[e1,Nat.succ_mul,List.take_add];exact o.append a7
      obtain ⟨xs,o⟩:=X n (cR _)
      grind
     simp_all
    simp_all
   simp_all
end Go.Abs
end
section
namespace Go.Abs
variable[Gl]
open Go.RowKit
theorem Rel.start(w:World)(i:Gl.ok (λc=>c<w.heap.size) w):Rel [] (λ_=>none) (λc=>c<w.heap.size) w:={
 blk:=λb c h=>by simp at h
 inj:=λb j c h=>by simp at h
 fz:=λc h=>h
 gl:=i }
theorem V.UA{w:World}{j:List Sh}{xs:List C}{vs:Array Value}(h:Fb w j xs vs.toList){σ:ar}{M:Nat->Option Nat}:V σ M (λc=>c<w.heap.size) w (.agg (xs.map .c)) (.agg vs):=by obtain ⟨u,z,_,o⟩:=h;refine .agg vs (by simp_all) (λi d v a b=>?_);simp only[lY,cu] at a;obtain ⟨x,s,rfl⟩:=a;exact .c (o i x v s (by simp_all)).1
theorem bD.below{σ:ar}{M:Nat->Option Nat}{Fz:Nat->Prop}{w w':World}(R:Rel σ M Fz w)(i:Below w.heap.size w w'):bD σ M Fz w σ M Fz w':={
 size:=i.size
 frame:=λc o _=>i.block c o
 kK:=λb c h=>.inl ⟨b,h⟩
 fz:=λc h=>⟨h,i.block c (R.fz c h)⟩
 nQ:=λc h=>.inl h
 pP:=λc j T u h=>⟨j,by rw[i.block c (BO.1 h).1];exact h,rfl⟩
 keep:=λb s h=>⟨s,h,cR _,λ_=>rfl⟩
 out:=⟨i.os,i.tape,i.output⟩ }
theorem Rel.below{σ:ar}{M:Nat->Option Nat}{Fz:Nat->Prop}{w w':World}(R:Rel σ M Fz w)(i:Below w.heap.size w w'):Rel σ M Fz w':={
 blk:=λb c h=>by obtain ⟨j,ob,o,h2,h3,s⟩:=R.blk b c h;exact ⟨j,ob,o,h2,by rw[i.block c (R.lt h).2];exact h3,s.mono (bD.below R i)⟩
 inj:=R.inj
 fz:=λc h=>E_ (R.fz c h) i.size
 gl:=Gl.mono (bD.below R i).fz R.gl }
noncomputable def Rs(P:Program)(a:List Nat)(g:FuncId):Option kS:=
 match P.funcs[g]? with
 |some fn=>if aS P g then gM P fn (!a.contains g) else none
 |none=>none
theorem Wu(P:Program)(a:List Nat):TblOk P (Rs P a):=by
 intro g b h
 grind [Rs]
end Go.Abs
end
section
namespace Go.Abs
variable[Gl]
abbrev AL:=List (Nat×D)
def lk(t:Nat):AL->Option D
 |[]=>none
 |(s,d)::al=>match Nat.beq s t with | true=>some d | false=>lk t al
def xC(n:Nat)(al:AL):List D:=(List.range n).map λt=>(lk t al).getD .any
def Env(n:Nat)(al:AL)(e:List D):Prop:=e.length=n/\∀t d,lk t al=some d->e[t]? = some d
def eI(n:Nat)(σ:ar)(M:Nat->Option Nat)(Fz:Nat->Prop)(w:World)(al:AL)(a:Array Value):Prop:=
 a.size=n/\∀t d,lk t al=some d->∃v,a[t]? = some v/\V σ M Fz w d v
section
variable{P:Program}{orc:vD}{σ σ' σ1 aA:ar}{M M':Nat->Option Nat}{Fz Fz':Nat->Prop}{w w':World}{n:Nat}{al al1 al2:AL}
theorem eI.c_{o:Array Value}(h:eI n σ M Fz w al o):dr σ M Fz w (xC n al) o/\Env n al (xC n al):=by
 refine ⟨⟨by simp[xC,h.1],λi d v a b=>?_⟩,by simp[xC],λt d u=>?_⟩
 ·simp only[xC,lY,cu] at a;obtain ⟨j,A,rfl⟩:=a;have:j=i:=by
   grind
  subst this;cases x:lk j al with
  |none=>exact .any v
  |some d=>
   obtain ⟨E,s,F⟩:=h.2 j d x
   simp_all
 ·obtain ⟨v,s,_⟩:=h.2 t d u;have z:t<n:=by have:=(BO.1 s).1;rw[h.1] at this;omega
  grind [xC]
theorem eI.Vh{i:Array Value}{e:List D}(h:dr σ M Fz w e i)(j:Env n al e):eI n σ M Fz w al i:=by
 refine ⟨by rw[h.1,j.1],λt d s=>?_⟩;have u:=j.2 t d s;have o:t<i.size:=by rw[h.1];grind
 exact ⟨i[t],rG o,h.2 t d _ u (rG o)⟩
def Sem(P:Program)(ac:aP)(n:Nat)(al:AL)(σ:ar)(Q:mF->AL->ar->Prop):Prop:=
 ∀ (c : Code), bF P c = some ac -> ∀ (M : Nat -> Option Nat) (Fz : Nat -> Prop) (w : World) (a : Act) (K : Exit -> Act -> World -> Prop), Rel σ M Fz w -> eI n σ M Fz w al a.tmps ->
  (∀x al' σ' b w' M' Fz',Q x al' σ'->Mk w.heap.size M' Fz' w' b.defers a.defers->Rel σ' M' Fz' w'->eI n σ' M' Fz' w' al' b.tmps->bD σ M Fz w σ' M' Fz' w'->σ.length<=σ'.length->K (xX x) b w')->c.wq P K a w
def lO(P:Program)(ac:aP)(k:Nat)(n:Nat)(al:AL)(σ:ar)(Q:mF->AL->ar->Prop):Prop:=
 ∀ (c : Code), bF P c = some ac -> ∀ (M : Nat -> Option Nat) (Fz : Nat -> Prop) (w : World) (a : Act) (K : Exit -> Act -> World -> Prop), Rel σ M Fz w -> eI n σ M Fz w al a.tmps ->
  (∀x al' σ' b w' M' Fz',Q x al' σ'->Mk w.heap.size M' Fz' w' b.defers a.defers->Rel σ' M' Fz' w'->eI n σ' M' Fz' w' al' b.tmps->bD σ M Fz w σ' M' Fz' w'->σ.length<=σ'.length->K (xX x) b w')->Code.rq P c K k a w
def Ev(d a:D):Prop:=∀σ M Fz w v,V σ M Fz w d v->V σ M Fz w a v
theorem Ev.refl(d:D):Ev d d:=λ_ _ _ _ _ h=>h
def Sub(al1:AL):AL->Prop
 |[]=>True
 |(t,d)::al2=>(∃d1,lk t al1=some d1/\Ev d1 d)/\Sub al1 al2
theorem Sub.get{al1 al2:AL}(h:Sub al1 al2){t:Nat}{d:D}(i:lk t al2=some d):∃d1,lk t al1=some d1/\Ev d1 d:=by
 induction al2 with
 |nil=>grind [lk]
 |cons p al2 ih=>
  obtain ⟨s,o⟩:=p;simp only[lk] at i;split at i
  ·rename_i j;have:=cO j;simp only[au] at i;subst this i;exact h.1
  ·exact ih h.2 i
theorem Sub.one{al1 al2:AL}{t:Nat}{d d1:D}(h:lk t al1=some d1)(hd:Ev d1 d)(r:Sub al1 al2):Sub al1 ((t,d)::al2):=⟨⟨d1,h,hd⟩,r⟩
theorem Sub.same{al1 al2:AL}{t:Nat}{d:D}(h:lk t al1=some d)(r:Sub al1 al2):Sub al1 ((t,d)::al2):=⟨⟨d,h,Ev.refl d⟩,r⟩
theorem eI.sub {i:Array Value} (h:eI n σ M Fz w al1 i) (hs:Sub al1 al2):eI n σ M Fz w al2 i:=
 ⟨h.1,fun t d j=>by
  obtain ⟨d1,o,s⟩:=hs.get j
  obtain ⟨v,u,x⟩:=h.2 t d1 o
  exact ⟨v,u,s _ _ _ _ _ x⟩⟩
def D.low(m:Nat):D->Bool
 |.c _=>true
 |.any=>true
 |.ptr b _ _=>b<m
 |.sl b _ _ _ _=>b<m
 |.mp b=>b<m
 |.fn _ a b=>cL m a&&cL m b
 |.agg ds=>cL m ds
 |.aQ ds=>cL m ds
where cL (m:Nat):List D->Bool
 |[]=>true
 |d::ds=>d.low m&&cL m ds
theorem D.aV{m:Nat}:∀{ds:List D},D.low.cL m ds=true->∀(i:Nat) d,ds[i]? = some d->d.low m=true:=by
 intro ds;induction ds with
 |nil=>simp_all
 |cons x ds ih=>
  intro h i d j;simp only[D.low.cL,bG] at h
  grind
def Ob.low(m:Nat):Ob->Bool
 |.cells i=>D.low.cL m i
 |.map j _=>j.all λe=>e.2.1.low m
 |.gone _=>true
theorem V.Ea{m:Nat}{d:D}{v:Value}(h:V σ M Fz w d v)(j:d.low m=true):V (σ.take m) (cQ M m) Fz w d v:=by
 induction h with
 |c h=>exact .c h
 |any v=>exact .any v
 |ptr a u h o s=>simp only[D.low,br] at j;exact .ptr a u (by simp_all) o (λA=>by grind [cQ])
 |sl a n cap E u h o s=>simp only[D.low,br] at j;exact .sl a n cap E u (by simp_all) o (λA=>by simpa[cQ,j] using s A)
 |mp c u h s=>simp only[D.low,br] at j;exact .mp c u (by simp_all) (λA=>by grind [cQ])
 |fn x K z O s R F G=>simp only[D.low,bG] at j;exact .fn x K z O (λi d v a b=>F i d v a b (D.aV j.1 i d a)) (λi d v a b=>G i d v a b (D.aV j.2 i d a))
 |agg x z s ih=>simp only[D.low] at j;exact .agg x z (λi d v a b=>ih i d v a b (D.aV j i d a))
 |aQ x z s ih=>simp only[D.low] at j;exact .aQ x z (λi d v a b=>ih i d v a b (D.aV j i d a))
theorem Rel.Ea{m:Nat}(R:Rel σ M Fz w)(U:(σ.take m).all (Ob.low m)=true):Rel (σ.take m) (cQ M m) Fz w:=by
 refine ⟨λb c h=>?_,λb W c h F=>?_,R.fz,R.gl⟩
 ·unfold cQ at h;split at h
  ·rename_i Z;obtain ⟨X,z,o,h2,Y,G⟩:=R.blk b c h;have A:(σ.take m)[b]? = some z:=by simp_all
   have j:z.low m=true:=iB.1 U z (Am A);refine ⟨X,z,o,A,Y,?_⟩;cases z with
   |cells cs=>obtain ⟨s,T,K,u,E⟩:=G;exact ⟨s,T,K,u,λi d v x y=>⟨(E i d v x y).1.Ea (D.aV j i d x),(E i d v x y).2⟩⟩
   |map es O=>obtain ⟨s,K,u,E⟩:=G;refine ⟨s,K,u,λi k d n e x y=>?_⟩;obtain ⟨p,q,r⟩:=E i k d n e x y;simp only[Ob.low,iB] at j;exact ⟨p,q,r.Ea (j (k,d,n) (Am x))⟩
   |gone n=>exact G.elim
  simp_all
 ·unfold cQ at h F;split at h
  ·split at F
   ·exact R.inj b W c h F
   simp_all
  simp_all
theorem bD.Ea{m:Nat}(E:bD σ M Fz w σ1 M' Fz' w')(hm:σ.length<=m):bD σ M Fz w (σ1.take m) (cQ M' m) Fz' w':=by
 refine ⟨E.size,E.frame,λb c h=>?_,E.fz,E.nQ,E.pP,λb j h=>?_,E.out⟩
 ·unfold cQ at h;split at h
  ·exact E.kK b c h
  simp_all
 ·obtain ⟨i,u,o,x⟩:=E.keep b j h;have s:b<m:=E_ (gg.1 h).1 hm;exact ⟨i,by simp_all,o,λz=>by simp only[cQ,if_pos s];simp_all⟩
inductive Wk (k:Nat) (al1:AL) (σ1:ar):AL->ar->Prop where
 |refl:Wk k al1 σ1 al1 σ1
 |same {al2:AL} (h:Sub al1 al2):Wk k al1 σ1 al2 σ1
 |cut {al2:AL} (m:Nat) (hm:k<=m) (hs:m<=σ1.length) (h:Sub al1 al2) (hd:al2.all (λp=>p.2.low m)=true) (hl:(σ1.take m).all (Ob.low m)=true):Wk k al1 σ1 al2 (σ1.take m)
theorem nA{t:Nat}{d:D}:∀{al:AL},lk t al=some d->(t,d)∈al:=by
 intro al;induction al with
 |nil=>grind [lk]
 |cons p al ih=>grind [lk,Nat.eq_of_beq_eq_true]
theorem Wk.use{aA:ar}(h:Wk σ.length al1 σ1 al2 aA){i:Array Value}(R:Rel σ1 M' Fz' w')(A:eI n σ1 M' Fz' w' al1 i)(E:bD σ M Fz w σ1 M' Fz' w')(s:σ.length<=σ1.length) :
  ∃j,Rel aA j Fz' w'/\eI n aA j Fz' w' al2 i/\bD σ M Fz w aA j Fz' w'/\σ.length<=aA.length/\Jh M' Fz' j Fz':=by
 cases h with
 |refl=>exact ⟨M',R,A,E,s,Jh.refl⟩
 |same h=>exact ⟨M',R,A.sub h,E,s,Jh.refl⟩
 |cut m x hs h hd o=>
  refine ⟨cQ M' m,R.Ea o,⟨A.1,λt d u=>?_⟩,E.Ea x,by simp_all,⟨λb c h=>⟨b,by simp only[cQ] at h;split at h <;> simp_all⟩,λc h=>.inl h,λc h=>h⟩⟩
  obtain ⟨v,z,F⟩:=(A.sub h).2 t d u;exact ⟨v,z,F.Ea (iB.1 hd (t,d) (nA u))⟩
end
end Go.Abs
end
section
namespace Go.Abs
variable[Gl]
section
variable{P:Program}{orc:gj}{σ σ' σ1 aA:ar}{n:Nat}{al al1 al2:AL}{Q:mF->AL->ar->Prop}
theorem Sem.mono{ac:aP}{Q':mF->AL->ar->Prop}(h:Sem P ac n al σ Q)(i:∀x al' σ',Q x al' σ'->∃al2 aA,Wk σ.length al' σ' al2 aA/\Q' x al2 aA):Sem P ac n al σ Q':=by
 intro c j M Fz w a K R A U;refine h c j M Fz w a K R A λx al' σ' W w' M' Fz' o hd s u z E=>?_;obtain ⟨al2,aA,F,G⟩:=i x al' σ' o;obtain ⟨X,Y,Z,E2,l2,O⟩:=F.use s u z E;have hd:=hd.wth O
 grind
theorem Sem.pre{ac:aP}(hs:Sub al al1)(h:Sem P ac n al1 σ Q):Sem P ac n al σ Q:=by intro c i M Fz w a K R A j;exact h c i M Fz w a K R (A.sub hs) j
theorem lO.pre{ac:aP}{k:Nat}(hs:Sub al al1)(h:lO P ac k n al1 σ Q):lO P ac k n al σ Q:=by intro c i M Fz w a K R A j;exact h c i M Fz w a K R (A.sub hs) j
theorem Sem.Do(i:P.follows .mixedOrders=true)(O:nP P orc){ac:aP}{k:Nat}{x:mF}{e e':List D}{wr wr':List Nat}(h:kr P orc k ac e σ wr=some (x,e',σ',wr'))
  (j:e=xC n al) (o:Env n al1 e') (z:Q x al1 σ'):Sem P ac n al σ Q:=by
 intro c s M Fz w a K R A E;subst j;refine (Jd i O k).1 c ac σ σ' M Fz w _ e' a wr wr' x K s R A.c_.1 h λu w' M' Fz' hd F G U=>?_;have hd:=(Mk.of_eq hd:Mk w.heap.size M' Fz' w' u.defers a.defers)
 grind [eI.Vh,vI]
theorem Sem.skip(i:P.follows .mixedOrders=true)(j:Q .normal al σ):Sem P .skip n al σ Q:=by intro c o M Fz w a K R A s;have:Sem P .skip n al σ Q:=Sem.Do i (orc:=λ_ _ _ _=>none) (λt g ds σ r σ' wr h=>by simp at h) (k:=1) (wr:=[]) (wr':=[]) (e:=xC n al) rfl rfl A.c_.2 j;exact this c o M Fz w a K R A s
theorem Sem.ret(i:P.follows .mixedOrders=true)(j:Q .ret al σ):Sem P .ret n al σ Q:=by intro c o M Fz w a K R A s;have:Sem P .ret n al σ Q:=Sem.Do i (orc:=λ_ _ _ _=>none) (λt g ds σ r σ' wr h=>by simp at h) (k:=1) (wr:=[]) (wr':=[]) (e:=xC n al) rfl rfl A.c_.2 j;exact this c o M Fz w a K R A s
theorem Sem.exit(i:P.follows .mixedOrders=true){id:Nat}(j:Q (.exit id) al σ):Sem P (.exit id) n al σ Q:=by intro c o M Fz w a K R A s;have:Sem P (.exit id) n al σ Q:=Sem.Do i (orc:=λ_ _ _ _=>none) (λt g ds σ r σ' wr h=>by simp at h) (k:=1) (wr:=[]) (wr':=[]) (e:=xC n al) rfl rfl A.c_.2 j;exact this c o M Fz w a K R A s
theorem Sem.seq{a b:aP}(h:Sem P a n al σ λx al1 σ1=>match x with | .normal=>∃al2 aA,Wk σ.length al1 σ1 al2 aA/\Sem P b n al2 aA Q | x=>Q x al1 σ1):Sem P (.seq a b) n al σ Q:=by
 intro c j M Fz w s K R A U;cases c with
 |seq c1 W=>
  simp only[bF] at j;split at j
  ·rename_i a1 a2 h1 h2;simp only[au,aP.seq.injEq] at j;obtain ⟨rfl,rfl⟩:=j;refine Qe (h c1 h1 M Fz w s _ R A λx al1 σ1 X w' M' Fz' Y hd Z A' E' hl=>?_);cases x with
   |normal=>obtain ⟨al2,aA,hw,hs⟩:=Y;obtain ⟨M2,R2,A2,E2,l2,W2⟩:=hw.use Z A' E' hl;exact hs W h2 M2 Fz' w' X K R2 A2 λx u z a3 w3 M3 E F G R3 A3 E3 O=>U x u z a3 w3 M3 E F (Mk.trans E3 E2.size (hd.wth W2) G) R3 A3 (E2.trans E3 l2) (lA l2 O)
   |exit i=>grind [qC]
   |ret=>exact U .ret al1 σ1 X w' M' Fz' Y hd Z A' E' hl
  simp_all
 |region id ops aa=>
  simp only[bF] at j
  grind
 |cond o c1 W=>grind [bF]
 |block id c1=>simp[bF] at j
 |loop c1=>simp[bF] at j
 |scope b=>grind [bF,Option.map_eq_some_iff,J_]
 |rangeFunc g ps x y=>rcases ee j with ⟨_,_,_,_,_,_,_,e⟩ | e <;> cases e
 |_=>grind [bF]
theorem Sem.cond{o:aN}{t e:aP}{b:Bool}(u:(match o with | .t k=>lk k al | .k d=>some d)=some (.c (.lit (.bool b))))
  (U:b=true->Sem P t n al σ Q) (W:b=false->Sem P e n al σ Q):Sem P (.cond o t e) n al σ Q:=by
 intro c i M Fz w j K R A z;cases c with
 |cond x c1 E=>
  simp only[bF] at i;split at i
  ·rename_i F a1 a2 X Y Z;simp only[au,aP.cond.injEq] at i;obtain ⟨rfl,rfl,rfl⟩:=i;have G:=mc A.c_.1 X;have s:gG (F.ev (xC n al))=some b:=by
    cases F with
    |t k=>dsimp only at u;simp[aN.ev,A.c_.2.2 k _ u,gG]
    |k d=>simp only[au] at u;subst u;rfl
   cases b with
   |true=>exact zf (oe G s) (U rfl c1 Y M Fz w j K R A z)
   |false=>exact xB (oe G s) (W rfl E Z M Fz w j K R A z)
  simp_all
 |region id ops O=>
  simp only[bF] at i
  grind
 |seq c1 E=>grind [bF]
 |block id c1=>simp[bF] at i
 |loop c1=>simp[bF] at i
 |scope b=>grind [bF,Option.map_eq_some_iff,J_]
 |rangeFunc g ps x y=>rcases ee i with ⟨_,_,_,_,_,_,_,e⟩ | e <;> cases e
 |_=>grind [bF]
theorem Sem.step{a b:aP}(al2:AL)(aA:ar)(i:Sem P a n al σ λx al1 σ1=>x=.normal/\Wk σ.length al1 σ1 al2 aA)(j:Sem P b n al2 aA Q):Sem P (.seq a b) n al σ Q:=
 Sem.seq (i.mono λx al1 σ1 ⟨o,s⟩=>⟨al1,σ1,.refl,by grind⟩)
def out(id:Nat):mF->mF
 |.exit i=>if i=id then .normal else .exit i
 |x=>x
def behind(id:Nat)(Q:mF->AL->ar->Prop)(al:AL)(σ:ar):mF->Prop
 |.normal=>Q .normal al σ
 |.ret=>Q .ret al σ
 |.exit i=>(i=id->Q .normal al σ)/\(i≠id->Q (.exit i) al σ)
theorem Sem.block{id:Nat}{b:aP}(U:Sem P b n al σ λx al1 σ1=>∃al2 aA,Wk σ.length al1 σ1 al2 aA/\behind id Q al2 aA x):Sem P (.block id b) n al σ Q:=by
 have h:Sem P b n al σ λx al1 σ1=>∃al2 aA,Wk σ.length al1 σ1 al2 aA/\Q (out id x) al2 aA:=U.mono λx al1 σ1 ⟨al2,aA,E,u⟩=>⟨al1,σ1,.refl,al2,aA,E,by
  cases x with
  |normal=>exact u
  |ret=>exact u
  |exit i=>
   by_cases z:i=id
   ·simp only[out,if_pos z];exact u.1 z
   ·simp only[out,if_neg z];exact u.2 z⟩
 intro c s M Fz w F K R A W;cases c with
 |block i c1=>
  simp only[bF,cu,aP.block.injEq] at s;obtain ⟨a1,X,rfl,rfl⟩:=s;refine Ll (h c1 X M Fz w F _ R A λx al1 σ1 Y w' M' Fz' Z hd R' A' E' hl=>?_);obtain ⟨al2,aA,E,hq⟩:=Z;obtain ⟨M2,R2,A2,E2,l2,W2⟩:=E.use R' A' E' hl;have:=W _ al2 aA Y w' M2 Fz' hq (hd.wth W2) R2 A2 E2 l2;cases x with
  |normal=>exact this
  |ret=>exact this
  |exit j=>
   by_cases G:j=2 * i
   ·simp only[out,if_pos G] at this;rw[G];exact Er this
   ·simp only[out,if_neg G] at this
    grind [Bv]
 |region id ops O=>
  simp only[bF] at s
  grind
 |seq c1 c2=>grind [bF]
 |cond o c1 c2=>grind [bF]
 |loop c1=>simp[bF] at s
 |scope b=>grind [bF,Option.map_eq_some_iff,J_]
 |rangeFunc g ps x y=>rcases ee s with ⟨_,_,_,_,_,_,_,e⟩ | e <;> cases e
 |_=>grind [bF]
theorem Sem.loop{b:aP}(k:Nat)(h:lO P b k n al σ Q):Sem P (.loop b) n al σ Q:=by
 intro c i M Fz w j K R A u;cases c with
 |loop c1=>simp only[bF,cu,aP.loop.injEq] at i;obtain ⟨F,z,rfl⟩:=i;exact vi k (h c1 z M Fz w j K R A u)
 |region id ops s=>
  simp only[bF] at i
  grind
 |seq c1 E=>grind [bF]
 |cond o c1 E=>grind [bF]
 |block id c1=>simp[bF] at i
 |scope b=>grind [bF,Option.map_eq_some_iff,J_]
 |rangeFunc g G x y=>rcases ee i with ⟨_,_,_,_,_,_,_,e⟩ | e <;> cases e
 |_=>grind [bF]
theorem lO.succ{b:aP}{k:Nat}(h:Sem P b n al σ λx al1 σ1=>match x with | .normal=>∃al2 aA,Wk σ.length al1 σ1 al2 aA/\lO P b k n al2 aA Q | x=>∃al2 aA,Wk σ.length al1 σ1 al2 aA/\Q x al2 aA):lO P b (k+1) n al σ Q:=by
 intro c hc M Fz w G K R A hK;rw[IJ];refine h c hc M Fz w G _ R A λx al1 σ1 a' w' M' Fz' O hd U W X Y=>?_;cases x with
 |normal=>obtain ⟨al2,aA,j,hs⟩:=O;obtain ⟨z,E,F,o,s,u⟩:=j.use U W X Y;exact hs c hc z Fz' w' a' K E F λx Z aa a3 w3 M3 ab ad af R3 A3 E3 ak=>hK x Z aa a3 w3 M3 ab ad (Mk.trans E3 o.size (hd.wth u) af) R3 A3 (o.trans E3 s) (lA s ak)
 |exit i=>
  obtain ⟨al2,aA,j,hq⟩:=O;obtain ⟨z,E,F,o,s,u⟩:=j.use U W X Y;have hd:=hd.wth u
  grind [qC]
 |ret=>obtain ⟨al2,aA,j,hq⟩:=O;obtain ⟨z,E,F,o,s,u⟩:=j.use U W X Y;exact hK .ret al2 aA a' w' z Fz' hq (hd.wth u) E F o s
theorem Sem.rounds{b:aP}{V:Type}(L:V->AL)(H:V->ar)(p:Nat->V->Prop)(k:Nat)(v:V)(s:p k v)(u:∀v,p 0 v->False)
  (hs:∀k v,p (k+1) v->Sem P b n (L v) (H v) λx al1 σ1=>match x with | .normal=>∃i,p k i/\Wk (H v).length al1 σ1 (L i) (H i) | x=>∃al2 aA,Wk (H v).length al1 σ1 al2 aA/\Q x al2 aA)
  (o:Sub al (L v)) (j:σ=H v):Sem P (.loop b) n al σ Q:=by
 subst j;refine Sem.loop k (lO.pre o ?_);clear o;induction k generalizing v with
 |zero=>simp_all
 |succ k ih=>
  refine lO.succ ((hs k v s).mono λx al1 σ1 z=>⟨al1,σ1,.refl,?_⟩)
  grind
def IB(P:Program)(orc:gj)(k:Nat)(os:List aH)(n:Nat)(al:AL)(σ:ar)(al':AL)(σ':ar)(is:List dW):Prop:=
 ∀e,Env n al e->∃a,lE P orc k os e σ=some (a,σ',is)/\Env n al' a
theorem Lh:∀(os:List aH)(e e':List D)(σ σ':ar)(is:List dW),lE P orc 0 os e σ=some (e',σ',is)->oq P orc os e σ=some (e',σ',is.flatMap (·.wr)):=by
 intro os;induction os with
 |nil=>intro e e' σ σ' is h;simp only[lE,au,aT] at h;obtain ⟨rfl,rfl,rfl⟩:=h;rfl
 |cons o os ih=>grind [lE,oq,dv]
theorem Sem.BZ(i:P.follows .mixedOrders=true)(O:nP P orc){os:List aH}{is:List dW}(h:IB P orc 0 os n al σ al1 σ1 is)(j:Q .normal al1 σ1):Sem P (.BZ os) n al σ Q:=by intro c o M Fz w a K R A s;obtain ⟨e',u,z⟩:=h _ A.c_.2;have E:=Lh _ _ _ _ _ _ u;have:Sem P (.BZ os) n al σ Q:=Sem.Do i O (k:=1) (wr:=[]) (e:=xC n al) (e':=e') (x:=.normal) (σ':=σ1) (wr':=is.flatMap (·.wr)++[]) (by grind [kr]) rfl z j;exact this c o M Fz w a K R A s
theorem Sem.HO(j:P.follows .mixedOrders=true)(O:nP P orc){os:List aH}{i:List Nat}{k p:Nat}{is:List dW}(h:IB P orc k os n al σ al1 σ1 is)(F:(eR i is&&mh i p k os.length&&Nat.ble p k)=true)(o:Q .normal al1 σ1) :
  Sem P (.HO os i k p) n al σ Q:=by
 intro c s M Fz w a K R A u;obtain ⟨e',G,z⟩:=h _ A.c_.2;have E:jO P orc os i p k (xC n al) σ=some (e',σ1,is.flatMap (·.wr)):=by
  unfold jO
  simp_all
 have:Sem P (.HO os i k p) n al σ Q:=Sem.Do j O (k:=1) (wr:=[]) (e:=xC n al) (e':=e') (x:=.normal) (σ':=σ1) (by simp only[kr,E];rfl) rfl z o;exact this c s M Fz w a K R A u
theorem LS:∀(os:List aH)(n m:Nat)(e:List D)(σ:ar)(r a:List D×ar×List dW),lE P orc n os e σ=some r->lE P orc m os e σ=some a->r=a:=by
 intro os;induction os with
 |nil=>grind [lE]
 |cons o os ih=>grind [lE]
theorem Sem.drwN(j:P.follows .mixedOrders=true)(O:nP P orc){os:List aH}{i:List Nat}{k p:Nat}{is:List dW}(h:IB P orc os.length os n al σ al1 σ1 is)(Y:(eR i is&&mh i p os.length os.length&&Nat.ble p os.length)=true)(u:Q .normal al1 σ1) :
  Sem P (.HO os i k p) n al σ Q:=by
 intro c z M Fz w a K R A E;obtain ⟨e',F,G⟩:=h _ A.c_.2;have U:∀m r,jO P orc os i p m (xC n al) σ=some r->r=(e',σ1,is.flatMap (·.wr)):=by
  intro m r o;unfold jO at o;split at o
  ·rename_i Z aA W s;have:=LS _ _ _ _ _ _ _ s F
   simp_all
  simp_all
 have s:jO P orc os i p os.length (xC n al) σ=some (e',σ1,is.flatMap (·.wr)):=by
  unfold jO
  simp_all
 have X:kr P orc 1 (.HO os i k p) (xC n al) σ []=some (.normal,e',σ1,is.flatMap (·.wr)++[]):=by grind [kr]
 have:Sem P (.HO os i k p) n al σ Q:=Sem.Do j O (k:=1) (wr:=[]) (e:=xC n al) (e':=e') (x:=.normal) (σ':=σ1) X rfl G u;exact this c z M Fz w a K R A E
end
end Go.Abs
end
section
namespace Go.Abs
variable[Gl]
open Go.RowKit
def Pure(P:Program)(g:FuncId)(ds:List D)(r:D):Prop:=aS P g=true/\Ok P g ds [] r []
section
variable{P:Program}{σ σ':ar}{M M':Nat->Option Nat}{Fz Fz':Nat->Prop}{w w':World}
theorem V.data{d:D}{v:Value}(h:V σ M Fz w d v)(j:d.low 0=true)(σ':ar)(M':Nat->Option Nat):V σ' M' Fz w d v:=by
 induction h with
 |c h=>exact .c h
 |any v=>exact .any v
 |ptr a E h x o=>grind [D.low]
 |sl a n cap F E h x o=>grind [D.low]
 |mp c E h o=>grind [D.low]
 |fn s G u K o O z A=>simp only[D.low,bG] at j;exact .fn s G u K (λi d v a b=>z i d v a b (D.aV j.1 i d a)) (λi d v a b=>A i d v a b (D.aV j.2 i d a))
 |agg s u o ih=>simp only[D.low] at j;exact .agg s u (λi d v a b=>ih i d v a b (D.aV j i d a))
 |aQ s u o ih=>simp only[D.low] at j;exact .aQ s u (λi d v a b=>ih i d v a b (D.aV j i d a))
def D.ground:D->Bool
 |.c (.lit _)=>true
 |.agg ds=>gI ds
 |.aQ ds=>gI ds
 |_=>false
where gI:List D->Bool
 |[]=>true
 |d::ds=>d.ground&&gI ds
theorem D.Bz:∀{ds:List D},D.ground.gI ds=true->∀(i:Nat) d,ds[i]? = some d->d.ground=true:=by
 intro ds;induction ds with
 |nil=>simp_all
 |cons x ds ih=>
  intro h i d j;simp only[D.ground.gI,bG] at h
  grind
theorem V.lit{d:D}{v:Value}(h:V σ M Fz w d v)(o:d.ground=true)(σ':ar)(M':Nat->Option Nat)(Fz':Nat->Prop)(w':World):V σ' M' Fz' w' d v:=by
 induction h with
 |c h=>
  rename_i x v;cases x with
  |lit u=>cases h;exact .c (.lit _)
  |_=>grind [D.ground]
 |any v=>grind [D.ground]
 |ptr a E h A j=>grind [D.ground]
 |sl a n cap F E h A j=>grind [D.ground]
 |mp c E h j=>grind [D.ground]
 |fn s O z R j U G K=>grind [D.ground]
 |agg s z j ih=>simp only[D.ground] at o;exact .agg s z (λi d v a b=>ih i d v a b (D.Bz o i d a))
 |aQ s z j ih=>simp only[D.ground] at o;exact .aQ s z (λi d v a b=>ih i d v a b (D.Bz o i d a))
theorem Pure.data{g:FuncId}{ds:List D}{r:D}(h:Pure P g ds r)(hd:ds.all (D.low 0)=true)(F:r.low 0=true):Ok P g ds σ r σ:=by
 intro M Fz w G R hs u;have K:Rel [] (λ_=>none) Fz w:=⟨λb c h=>by simp at h,λb b' c h=>by simp at h,R.fz,R.gl⟩;refine (h.2 _ Fz w G K hs λi d v a b=>(u i d v a b).data (iB.1 hd d (Am a)) _ _).mono λe w' O=>?_;obtain ⟨v,M',Fz',rfl,A,U,j⟩:=O;have W:∀c:Nat,c<w.heap.size->w'.heap[c]? = w.heap[c]?:=λc s=>j.frame c s (λb h=>by simp at h);have E:bD σ M Fz w σ M Fz' w':={
  size:=j.size
  frame:=λc s _=>W c s
  kK:=λb c h=>.inl ⟨b,h⟩
  fz:=j.fz
  nQ:=λc h=>by
   rcases j.nQ c h with h | ⟨b,h⟩ | h
   ·simp_all
   ·simp at h
   omega
  pP:=λc x T fr h=>⟨x,by grind,rfl⟩
  keep:=λb z h=>⟨z,h,cR _,λ_=>rfl⟩
  out:=j.out }
 refine ⟨v,M,Fz',rfl,⟨λb c h=>?_,R.inj,A.fz,A.gl⟩,U.data F _ _,E⟩;obtain ⟨h1,z,o,X,h3,Y⟩:=R.blk b c h;have s:=(R.lt h).2;refine ⟨λZ=>?_,z,o,X,by simp_all,Y.mono E⟩;rcases j.nQ c Z with h | ⟨b,h⟩ | h
 ·grind
 ·simp at h
 ·omega
theorem Pure.lend{g:FuncId}{ds j:List D}{r:D}(h:Pure P g j r)(hd:ds.mapM (xa σ 0 100)=some j)(u:r.ground=true):Ok P g ds σ r σ:=by
 intro M Fz w x R hs z;have A:Rel [] (λ_=>none) (Ff M Fz 0) w:=⟨λb c h=>by simp at h,λb G c h=>by simp at h,λc h=>by
  rcases h with h | ⟨b,_,h⟩
  ·exact R.fz c h
  ·exact (R.lt h).2,Gl.mono (λc h=>⟨.inl h,rfl⟩) R.gl⟩
 have K:j.length=ds.length:=(MV hd).1;refine (h.2 _ _ w x A (by omega) λi d v a b=>?_).mono λe w' E=>?_
 ·grind [MV,Iv]
 ·obtain ⟨v,M',Fz',rfl,O,F,o⟩:=E;have s:Below w.heap.size w w':=⟨o.out.1,o.out.2.1,o.out.2.2,o.size,λk hk=>o.frame k hk (λb h=>by simp at h)⟩;exact ⟨v,M,Fz,rfl,R.below s,F.lit u _ _ _ _,bD.below R s⟩
end
def nrmC:C->C
 |.lit (.slice none 0 0)=>.cB false []
 |.cB _ a=>.cB false a
 |x=>x
def wK:D->D
 |.c x=>.c (nrmC x)
 |d=>d
def BT:D->D
 |.c x=>.c (nrmC x)
 |.agg ds=>.agg (ds.map wK)
 |d=>d
theorem ID{Fz:Nat->Prop}{w:World}{x:C}{v:Value}(h:VC Fz w x v):VC Fz w (nrmC x) v:=by
 unfold nrmC;split
 ·cases h;exact .cB (es:=[]) 0 none 0 (by simp) (λ_=>rfl) (λ_ _=>undef) (by simp) (by simp) (by simp) (by simp)
 ·cases h with
  |cB aw a cap j l c i b m o=>exact .cB aw a cap (by simp) l c i b m o
 omega
theorem JL{σ:ar}{M:Nat->Option Nat}{Fz:Nat->Prop}{w:World}{d:D}{v:Value}(h:V σ M Fz w d v):V σ M Fz w (wK d) v:=by
 unfold wK;split
 ·cases h with | c h=>exact .c (ID h)
 omega
theorem DX{σ:ar}{M:Nat->Option Nat}{Fz:Nat->Prop}{w:World}{d:D}{v:Value}(h:V σ M Fz w d v):V σ M Fz w (BT d) v:=by
 unfold BT;split
 ·cases h with | c h=>exact .c (ID h)
 ·cases h with
  |agg j l m=>
   refine .agg j (by simp_all) (λi d v a b=>?_)
   grind [JL]
 omega
theorem Ok.BT{P:Program}{g:FuncId}{ds:List D}{σ σ':ar}{r:D}(h:Ok P g (ds.map BT) σ r σ'):Ok P g ds σ r σ':=by
 intro M Fz w j R hs o;refine h M Fz w j R (by simp_all) λi d v a b=>?_
 grind [DX]
abbrev xj:=List (Nat×(List D->Option D))
def UZ(g:Nat):xj->Option (List D->Option D)
 |[]=>none
 |(s,f)::l=>match Nat.beq s g with | true=>some f | false=>UZ g l
def D.plain:D->Bool
 |.fn ..=>false
 |.agg ds=>ds.all λd=>match d with | .fn ..=>false | _=>true
 |.aQ ds=>ds.all λd=>match d with | .fn ..=>false | _=>true
 |_=>true
def CN(S:xj):vD:=λg ds σ=>
 match UZ g S with
 |none=>none
 |some f=>
  if ds.all (λd=>d.low 0&&d.plain) then (f (ds.map BT)).bind λr=>if r.low 0 then some (r,σ,[]) else none
  else
   match ds.mapM (xa σ 0 100) with
   |some a=>(f (a.map BT)).bind λr=>if r.ground then some (r,σ,[]) else none
   |none=>none
def rO(P:Program)(S:xj):Prop:=∀p∈S,∀ds r,p.2 ds=some r->Pure P p.1 ds r
theorem spk_mem{g:Nat}{f:List D->Option D}:∀{S:xj},UZ g S=some f->(g,f)∈S:=by
 intro S;induction S with
 |nil=>grind [UZ]
 |cons p S ih=>grind [UZ,Nat.eq_of_beq_eq_true]
theorem VQ{m:Nat}{d:D}(h:d.low m=true):(wK d).low m=true:=by unfold wK;grind [D.low]
theorem Zj{m:Nat}:∀{ds:List D},D.low.cL m ds=true->D.low.cL m (ds.map wK)=true:=by
 intro ds;induction ds with
 |nil=>simp_all
 |cons d ds ih=>intro h;simp only[D.low.cL,bG,tn] at h ⊢;grind [VQ]
theorem low_nrm{m:Nat}{d:D}(h:d.low m=true):(BT d).low m=true:=by
 unfold BT
 grind [D.low,Zj]
theorem nN{P:Program}{S:xj}(h:rO P S):tV P (CN S):=by
 intro g ds σ r σ' wr a;unfold CN at a;split at a
 ·grind
 ·rename_i f x;have s:=spk_mem x;split at a
  ·rename_i u;rw[cC] at a;obtain ⟨v,j,b⟩:=a;split at b
   ·rename_i l;simp only[au,aT] at b;obtain ⟨rfl,rfl,rfl⟩:=b;have i:=h _ s _ _ j;refine ⟨i.1,(i.data ?_ l).BT,cR _,λ_ _ _=>rfl⟩;rw[iB] at u ⊢;intro d hd;rw[iT] at hd;obtain ⟨y,z,rfl⟩:=hd;have:=u y z;rw[bG] at this
    grind [low_nrm]
   simp_all
  ·split at a
   ·rename_i m o;rw[cC] at a;obtain ⟨v,j,b⟩:=a;split at b
    ·rename_i l;simp only[au,aT] at b;obtain ⟨rfl,rfl,rfl⟩:=b;have i:=h _ s _ _ j;have p:Pure P g m v:=⟨i.1,i.2.BT⟩;exact ⟨i.1,p.lend o l,cR _,λ_ _ _=>rfl⟩
    simp_all
   simp_all
noncomputable def spec{A R:Type}(args:A->List D)(UH:R->D)(f:A->Option R):List D->Option D:=λds=>open Classical in if h:∃a,args a=ds then (f (Classical.choose h)).map UH else none
theorem Sc{A R:Type}{args:A->List D}{UH:R->D}{f:A->Option R}(inj:∀a b,args a=args b->a=b){a:A}{r:R}(h:f a=some r):spec args UH f (args a)=some (UH r):=by
 have i:∃b,args b=args a:=⟨a,rfl⟩;unfold spec
 grind
theorem spec_ok{P:Program}{g:Nat}{A R:Type}{args:A->List D}{UH:R->D}{f:A->Option R}(H:∀a r,f a=some r->Pure P g (args a) (UH r)):∀ds r,spec args UH f ds=some r->Pure P g ds r:=by
 intro ds r h;unfold spec at h;split at h
 ·grind [Option.map_eq_some_iff]
 simp_all
theorem zF{S:xj}{g:Nat}{F:List D->Option D}{ds a:List D}{σ:ar}{r:D}(b:UZ g S=some F)(i:(ds.all λd=>d.low 0&&d.plain)=true)(hd:ds.map BT=a)(h:F a=some r)(j:r.low 0=true) :
  CN S g ds σ=some (r,σ,[]):=by
 subst hd;simp only[CN,b,i,if_true,h,Option.bind_some,j]
theorem HP{S:xj}{g:Nat}{F:List D->Option D}{ds a b:List D}{σ:ar}{r:D}(i:UZ g S=some F)(j:(ds.all λd=>d.low 0&&d.plain)=false)(l:ds.mapM (xa σ 0 100)=some a)(hd:a.map BT=b)(h:F b=some r)(m:r.ground=true) :
  CN S g ds σ=some (r,σ,[]):=by
 subst hd;simp only[CN,i,j,bX,cn,l,h,Option.bind_some,m,if_true]
def Ud:D->D
 |.aQ ds=>.aQ (ds.map BT)
 |d=>BT d
theorem Ev.Ud(d:D):Ev d (Ud d):=by
 intro σ M Fz w v h;unfold Go.Abs.Ud;split
 ·cases h with
  |aQ j o s=>
   refine .aQ j (by simp_all) (λi d v a b=>?_)
   grind [DX]
 grind [DX]
theorem Ev.OO{d i:D}(h:Go.Abs.Ud d=i):Ev d i:=h▸Ev.Ud d
theorem rO.nil{P:Program}:rO P []:=λp i=>by grind
theorem rO.cons{P:Program}{g:Nat}{F:List D->Option D}{S:xj}(h:∀ds r,F ds=some r->Pure P g ds r)(j:rO P S):rO P ((g,F)::S):=by
 intro p i;rcases gn.1 i with rfl | i
 ·exact h
 ·exact j p i
def pF(al:AL)(σ:ar):Nat×Option (Option Nat)->Option D
 |(t,none)=>lk t al
 |(t, some n)=>
  match lk t al with
  |some (.ptr b off sz)=>(mP σ b sz).bind λa=>uX n a off
  |_=>none
def ke:Nat->List D->AL
 |_,[]=>[]
 |i,d::ds=>(i,d)::ke (i+1) ds
theorem D_:∀(ds:List D)(i t:Nat)(d:D),lk t (ke i ds)=some d->i<=t/\ds[t-i]? = some d:=by
 intro ds;induction ds with
 |nil=>grind [ke,lk]
 |cons x ds ih=>
  intro i t d h;simp only[ke,lk] at h;split at h
  ·simp_all
  grind
theorem un{P:Program}{g:FuncId}{fn:Func}{m:kS}{fz:Bool}{ds:List D}{r:D}(hg:P.funcs[g]? = some fn)(s:aS P g=true)(u:gM P fn fz=some m)
  (y:ds.length<=m.ntmps)
  (h:Sem P m.body m.ntmps (ke 0 ds) [] λx al σ=>(x=.normal∨x=.ret)/\∃a F,m.results.mapM (pF al σ)=some a/\xa σ 0 100 (one a)=some F/\Ev F r):Pure P g ds r:=by
 refine ⟨s,?_⟩;unfold gM at u;split at u
 ·rename_i c hb;split at u
  ·rename_i ac rs h1 h2;simp only[au] at u;subst u;dsimp only at h y;intro M Fz w j R hs G;refine mS hg hb ?_;have A0:eI fn.ntmps [] M Fz w (ke 0 ds) (j++Array.replicate (fn.ntmps-j.size) undef):=by
    refine ⟨by simp_all,λt d K=>?_⟩;obtain ⟨_,h3⟩:=D_ ds 0 t d K;rw[Nat.sub_zero] at h3;have L:t<j.size:=by grind
    exact ⟨j[t],by grind,G t d _ h3 (rG L)⟩
   refine Kt (h c h1 M Fz w { tmps:=j++Array.replicate (fn.ntmps-j.size) undef,defers:=[] } _ R A0 λx al' σ' a' w' M' Fz' hQ hd R' E EV hl=>?_);obtain ⟨hx,a,F,hm,N,O⟩:=hQ;have S:rs.mapM (Np (xC fn.ntmps al') σ')=some a:=by
    have ab:∀(l:List (Nat×Option (Option Nat))) a,l.mapM (pF al' σ')=some a->l.mapM (Np (xC fn.ntmps al') σ')=some a:=by
     intro l;induction l with
     |nil=>simp_all
     |cons p l ih=>
      intro a h;rw[Uk] at h ⊢;cases z:pF al' σ' p with
      |none=>simp_all
      |some d=>
       rw[z] at h;have:Np (xC fn.ntmps al') σ' p=some d:=by
        obtain ⟨t,o⟩:=p;cases o with
        |none=>exact E.c_.2.2 t d z
        |some k=>
         simp only[pF] at z;split at z
         ·rename_i b off sz T;simp only[Np,E.c_.2.2 t _ T];exact z
         simp_all
       rw[this];cases hr:l.mapM (pF al' σ') with
       |none=>simp_all
       |some q=>simp_all
    simp_all
   have U:xX x=.normal∨xX x=.ret:=by rcases hx with rfl | rfl <;> simp[xX]
   refine ⟨U,Mk.end hd R' EV λW i A mv=>?_⟩;have X:eI fn.ntmps σ' M' Fz' W al' a'.tmps:=⟨E.1,λt d K=>by obtain ⟨v,q1,q2⟩:=E.2 t d K;exact ⟨v,q1,mv d v q2⟩⟩
   obtain ⟨v,Y,Z⟩:=jm (P:=P) i X.c_.1 h2 S;obtain ⟨R2,aa⟩:=Rel.forget R i A (λb hb=>by grind);exact ⟨v,Y,v,_,_,rfl,R2,O _ _ _ _ _ (Iv i N Z _ _),aa⟩
  simp_all
 simp_all
end Go.Abs
namespace Go.Abs
variable[Gl]
theorem Wn{P:Program}{g:FuncId}{es:List (List C)}{r:D}(p:∀e∈es,e≠[])(s:Pure P g [.c (.cB true es)] r)(G:es=[]->Pure P g [.c (.lit (.slice none 0 0))] r):Pure P g [.c (.cB false es)] r:=by
 refine ⟨s.1,λM Fz w b R hs K=>?_⟩;have u:b[0]? = some (b[0]'(by simp_all)):=rG _;have h:=K 0 _ _ rfl u;generalize O:b[0]'(by simp_all)=x at h u;have only:∀d,V [] M Fz w d x->∀(i:Nat) z v,[d][i]? = some z->b[i]? = some v->V [] M Fz w z v:=by grind
 cases h with
 |c A=>
  generalize E:C.cB false es=y at A;cases A with
  |cB aw a cap L F c l j m o=>
   simp only[C.cB.injEq] at E;obtain ⟨rfl,rfl⟩:=E;cases a with
   |some a=>exact s.2 M Fz w b R hs (only _ (.c (.cB aw (some a) cap (λ_=>rfl) F c l j m o)))
   |none=>
    have N:es=[]:=by simp_all
    subst N;have:=F rfl;subst this;exact (G rfl).2 M Fz w b R hs (only _ (.c (.lit _)))
  |_=>grind
end Go.Abs
end
section
namespace Go.Abs
variable[Gl]
abbrev I(n:Int):D:=.c (.lit (.int .i64 n))
abbrev B(b:Bool):D:=.c (.lit (.bool b))
def lx(al:AL):aN->Option D
 |.t k=>lk k al
 |.k d=>some d
def Aj(al:AL)(x:Operand):Option D:=
 match bS x with
 |some o=>lx al o
 |none=>none
def UX(al:AL):List aN->Option (List D)
 |[]=>some []
 |x :: xs => match lx al x, UX al xs with
  |some d,some ds=>some (d::ds)
  |_,_=>none
def eG(P:Program)(orc:vD)(n:Nat)(al:AL)(σ:ar)(op:kO)(d:D)(σ1:ar)(w:List Nat):Prop:=∀e,Env n al e->ba P orc op e σ=some (d,σ1,w)
def aB{α:Type}(l:List α)(i:Int):Option α:=if 0<=i/\i<l.length then l[i.toNat]? else none
section
variable{P:Program}{orc:vD}{n:Nat}{al:AL}{σ σ1:ar}{w:List Nat}{d d1 d2:D}{e:List D}
theorem eS(a:Env n al e){x:aN}(h:lx al x=some d):x.ev e=d:=by
 cases x with
 |t k=>simp only[lx] at h;simp[aN.ev,a.2 k d h]
 |k b=>simp only[lx,au] at h;subst h;rfl
theorem Jq(a:Env n al e):∀{xs:List aN}{ds:List D},UX al xs=some ds->xs.map (aN.ev e)=ds:=by
 intro xs;induction xs with
 |nil=>grind [UX]
 |cons x xs ih=>grind [UX,eS]
theorem zV{x:aN}(h:lx al x=some d):eG P orc n al σ (.Ai x) d σ []:=λe a=>by grind [ba,eS]
theorem uK{c x y:aN}{b:Bool}(a:lx al c=some (B b))(i:b=true)(h:lx al x=some d):eG P orc n al σ (.pick c x y) d σ []:=λe j=>by grind [ba,gG,eS]
theorem pY{c x y:aN}{b:Bool}(a:lx al c=some (B b))(i:b=false)(h:lx al y=some d):eG P orc n al σ (.pick c x y) d σ []:=λe j=>by grind [ba,gG,eS]
def gV(P:Program)(o:BinOp)(t:TypeId)(x y:Operand)(a b:Value):Option Value:=fq P (do eqGuard o t x y a b;binOp o t a b)
theorem xE{α b:Type}{s:Go.Sem α}{f:α->Go.Sem b}:fq P (s >>= f)=(fq P s).bind λa=>fq P (f a):=by
 induction s with
 |pure a=>rfl
 |program k ih=>exact ih P
 |_=>rfl
theorem dN{o:BinOp}{t ty j:TypeId}{x y:Operand}{a b v:Value}(A:Aj al x=some d1)(E:Aj al y=some d2)(F:d1.cP = some a)(G:d2.cP = some b)
  (h:gV P o t x y a b=some v) (hd:dy v=d):eG P orc n al σ (.gen (.binOp o t x y j) ty) d σ []:=λe K=>by
 subst hd;have L:∀{x:Operand}{d:D},Aj al x=some d->((bS x).map (aN.ev e))=some d:=by grind [Aj,eS]
 have N:((bS x).map (aN.ev e)).bind D.cP = some a:=by grind
 have O:((bS y).map (aN.ev e)).bind D.cP = some b:=by grind
 have:oQ P (.binOp o t x y j) ty e=some (dy v):=by
  unfold oQ;have i:(Op.binOp o t x y j).operands.toList.all (λx=>(((bS x).map (aN.ev e)).bind D.cP).isSome)=true:=by grind [Go.Op.operands]
  rw[if_pos i];have s:fq P (execOp (λx=>((((bS x).map (aN.ev e)).bind D.cP).getD undef)) { dst:=none,op:=.binOp o t x y j,type:=ty,pos:="",after:=#[],guard:=none })=some (.value v):=by
   have p:∀l m:Value,l=a->m=b->fq P (do let r <-(do eqGuard o t x y l m;binOp o t l m);Go.Sem.pure (Next.value r))=some (.value v):=by intro l m u z;subst u z;rw[xE];unfold gV at h;rw[h];rfl
   exact p _ _ (by simp_all) (by simp_all)
  rw[s]
 grind [ba]
theorem Zl{o:UnOp}{t ty:TypeId}{x:Operand}{a v:Value}(s:Aj al x=some d1)(u:d1.cP = some a)
  (h:fq P (Op.unary o a)=some v) (hd:dy v=d):eG P orc n al σ (.gen (.unOp o t x) ty) d σ []:=λe y=>by
 subst hd;have z:((bS x).map (aN.ev e))=some d1:=by grind [Aj,eS]
 have l:((bS x).map (aN.ev e)).bind D.cP = some a:=by grind
 have:oQ P (.unOp o t x) ty e=some (dy v):=by
  unfold oQ;have b:(Op.unOp o t x).operands.toList.all (λx=>(((bS x).map (aN.ev e)).bind D.cP).isSome)=true:=by simp[Op.operands,l]
  rw[if_pos b];have m:fq P (execOp (λx=>((((bS x).map (aN.ev e)).bind D.cP).getD undef)) { dst:=none,op:=.unOp o t x,type:=ty,pos:="",after:=#[],guard:=none })=some (.value v):=by
   have i:∀j:Value,j=a->fq P (do let r <-Op.unary o j;Go.Sem.pure (Next.value r))=some (.value v):=by intro j p;subst p;rw[xE,h];rfl
   exact i _ (by simp_all)
  rw[m]
 grind [ba]
theorem CB{t b ty:TypeId}{x:Operand}{a v:Value}(s:Aj al x=some d1)(u:d1.cP = some a)
  (h:fq P (convert t b a)=some v) (hd:dy v=d):eG P orc n al σ (.gen (.convert t b x) ty) d σ []:=λe y=>by
 subst hd;have z:((bS x).map (aN.ev e))=some d1:=by grind [Aj,eS]
 have m:((bS x).map (aN.ev e)).bind D.cP = some a:=by grind
 have:oQ P (.convert t b x) ty e=some (dy v):=by
  unfold oQ;have i:(Op.convert t b x).operands.toList.all (λx=>(((bS x).map (aN.ev e)).bind D.cP).isSome)=true:=by simp[Op.operands,m]
  rw[if_pos i];have o:fq P (execOp (λx=>((((bS x).map (aN.ev e)).bind D.cP).getD undef)) { dst:=none,op:=.convert t b x,type:=ty,pos:="",after:=#[],guard:=none })=some (.value v):=by
   have j:∀l:Value,l=a->fq P (do let r <-convert t b l;Go.Sem.pure (Next.value r))=some (.value v):=by intro l p;subst p;rw[xE,h];rfl
   exact j _ (by simp_all)
  rw[o]
 grind [ba]
theorem op_box{x:aN}{cs:List D}(h:lx al x=some d)(a:d.cells? = some cs)(b:D.ptr σ.length 0 cs.length=d1)(hs:σ++[.cells cs]=σ1):eG P orc n al σ (.box x) d1 σ1 []:=λe i=>by grind [ba,eS]
theorem MY{z:List D}(a:D.ptr σ.length 0 z.length=d1)(hs:σ++[.cells z]=σ1):eG P orc n al σ (.alloc z) d1 σ1 []:=λe b=>by grind [ba]
def BB(al:AL):List D->List (Nat×Nat×aN)->Option (List D)
 |a,[]=>some a
 |a, (o, n, x) :: rest=>
  match (lx al x).bind D.cells? with
  |some b=>if b.length≠n∨o+n > a.length then none else BB al (put a o b) rest
  |none=>none
theorem MM(i:Env n al e):∀{ps:List (Nat×Nat×aN)}{cs a:List D},BB al cs ps=some a->qt e cs ps=some a:=by
 intro ps;induction ps with
 |nil=>intro cs a h;exact h
 |cons p ps ih=>
  intro cs a h;obtain ⟨o,m,x⟩:=p;simp only[BB] at h;split at h
  ·rename_i r b;rw[cC] at b;obtain ⟨d,j,l⟩:=b;simp only[qt,eS i j,l,Option.bind_eq_bind,Option.bind_some]
   simp_all
  simp_all
theorem YK{z cs:List D}{ps:List (Nat×Nat×aN)}(h:BB al z ps=some cs):eG P orc n al σ (.build z ps) (.agg cs) σ []:=λe a=>by grind [ba,MM]
theorem GZ{z cs:List D}{aw len:Nat}{ps:List (Nat×Nat×aN)}(h:BB al (tN len z) ps=some cs)(a:D.sl σ.length 0 len aw cs.length=d1)(hs:σ++[.cells cs]=σ1):eG P orc n al σ (.jk aw len z ps) d1 σ1 []:=λe b=>by grind [ba,MM]
theorem rV{m:Option Nat}{a:aN}{b off sz:Nat}{cs:List D}(h:lx al a=some (.ptr b off sz))(i:mP σ b sz=some cs)(j:uX m cs off=some d):eG P orc n al σ (.load m a) d σ []:=λe l=>by grind [ba,eS]
theorem EX{m:Option Nat}{a:aN}{off:Nat}{cs:List C}(h:lx al a=some (.c (.cD cs off)))(b:uX m (cs.map .c) off=some d):eG P orc n al σ (.load m a) d σ []:=λe i=>by grind [ba,eS]
theorem El{m:Nat}{a x:aN}{b off sz:Nat}{cs xs:List D}(h:lx al a=some (.ptr b off sz))(i:mP σ b sz=some cs)(j:lx al x=some d)(l:d.cells? = some xs)(hm:xs.length=m/\off+m<=sz)(hs:σ.set b (.cells (put cs off xs))=σ1) :
  eG P orc n al σ (.store m a x) (.aQ []) σ1 [b]:=λe o=>by
 grind [ba,eS]
theorem KN{x:aN}{b off sz:Nat}(h:lx al x=some (.ptr b off sz)):eG P orc n al σ (.nD x) (.ptr b off sz) σ []:=λe a=>by grind [ba,eS]
theorem fi{k:Nat}{neg:Bool}{x:aN}{b:Bool}(h:lx al x=some d)(a:isNil k d=some b):eG P orc n al σ (.iU k neg x) (B (if neg then !b else b)) σ []:=λe i=>by grind [ba,eS]
theorem HQ{o:Nat}{x:aN}{b off sz:Nat}(h:lx al x=some (.ptr b off sz)):eG P orc n al σ (.Gq o x) (.ptr b (off+o) sz) σ []:=λe a=>by grind [ba,eS]
theorem op_fldf{o:Nat}{x:aN}{cs:List C}{off:Nat}(h:lx al x=some (.c (.cD cs off))):eG P orc n al σ (.Gq o x) (.c (.cD cs (off+o))) σ []:=λe a=>by grind [ba,eS]
theorem oT{α:Type}{l:List α}{i:Int}{a:α}(h:aB l i=some a):0<=i/\i<l.length/\l[i.toNat]? = some a:=by grind [aB]
theorem XM{α:Type}{aw:Nat}{x i:aN}{nn:Bool}{l:List α}{f:α->List C}{k:Int}{a:α}(h:lx al x=some (.c (.cB nn (l.map f))))(j:lx al i=some (I k))(m:aB l k=some a)(o:(f a).length=aw) :
  eG P orc n al σ (.idx aw none x i) (.c (.cD (f a) 0)) σ []:=λe b=>by
 obtain ⟨s,u,p⟩:=oT m;have r:Bx k (l.map f).length=some k.toNat:=by unfold Bx;simp_all
 simp only[ba,eS b h,eS b j,tP,Option.bind_eq_bind,Option.bind_some,r,lY,p,Option.map_some,o,if_true]
theorem WC{α:Type}{x:aN}{nn:Bool}{l:List α}{f:α->List C}(h:lx al x=some (.c (.cB nn (l.map f)))):eG P orc n al σ (.len x) (I l.length) σ []:=λe a=>by grind [ba,HC,eS]
theorem op_len0{x:aN}(h:lx al x=some (.c (.lit (.slice none 0 0)))):eG P orc n al σ (.len x) (I 0) σ []:=λe a=>by grind [ba,HC,eS]
theorem EC{x:aN}{i:Nat}{ds:List D}(h:lx al x=some (.aQ ds))(hd:ds[i]? = some d):eG P orc n al σ (.extract x i) d σ []:=λe a=>by grind [ba,eS]
theorem op_part{m:Option Nat}{off:Nat}{x:aN}{cs:List D}(h:lx al x=some (.agg cs))(a:uX m cs off=some d):eG P orc n al σ (.part off m x) d σ []:=λe b=>by grind [ba,eS]
theorem JD{g:FuncId}{f:aN}{args:List aN}{ds:List D}(a:lx al f=some (.c (.fn (.func g) [] [])))(b:UX al args=some ds)(h:orc g ds σ=some (d,σ1,w)):eG P orc n al σ (.call f args) d σ1 w:=λe i=>by grind [ba,eS,Jq]
def ET(o:aH)(c:Nat)(blk:Option Nat)(w:List Nat)(lo hi:Nat):dW:={ cat:=c,blk:=blk,wr:=w,dst:=o.dst,rds:=yB o,lo:=lo,hi:=hi }
def Gd(al:AL)(g:Option (Nat×Bool))(b:Bool):Prop:=∀n e,Env n al e->h_ e g=some b
theorem iy:Gd al none true:=λ_ _ _=>rfl
theorem gz{t:Nat}{a b:Bool}(h:lk t al=some (B b))(i:b=a):Gd al (some (t,a)) true:=λn e j=>by simp[h_,j.2 t _ h,i]
theorem Pe{t:Nat}{a b:Bool}(h:lk t al=some (B b))(i:b=!a):Gd al (some (t,a)) false:=λn e j=>by simp[h_,j.2 t _ h,i]
theorem Sg{t:Nat}{a:Bool}(h:lk t al=some (.aQ [])):Gd al (some (t,a)) false:=λn e b=>by simp[h_,b.2 t _ h]
def xR(al:AL):kO->Option Nat
 |.load _ x=>match lx al x with | some (.ptr b _ _)=>some b | _=>none
 |_=>none
def FK(al:AL):kO->Bool
 |.load _ x=>(lx al x).isSome
 |_=>true
theorem blk_ok(b:Env n al e){o:aH}(h:FK al o.op=true)(lo a:Nat):(dv o e lo a w).blk=xR al o.op:=by
 obtain ⟨t,op,g⟩:=o;cases op with
 |load m x=>grind [FK,Option.isSome_iff_exists,dv,VO,xR,eS]
 |_=>rfl
theorem HV(i:Env n al e){o:aH}{b:Bool}(m:∀n e,Env n al e->h_ e o.g=some b)(h:FK al o.op=true)(lo a:Nat):dv o e lo a w=ET o (if b then cat o.op else 0) (xR al o.op) w lo a:=by
 have j:=blk_ok (w:=w) i h lo a;have l:(dv o e lo a w).cat=if b then cat o.op else 0:=by grind [dv]
 unfold ET;rw[<-j,<-l];rfl
theorem Rh(a:Env n al e){t:Nat}(j:t<n)(d:D):Env n ((t,d)::al) (e.set t d):=by
 refine ⟨by simp[a.1],λs l h=>?_⟩;simp only[lk] at h;split at h
 ·rename_i i;have:=cO i;simp only[au] at h;subst this h;rw[List.getElem?_set_self (by rw[a.1];exact j)]
 ·rename_i i;have b:t≠s:=λm=>by simp_all
  rw[List.getElem?_set_ne b];exact a.2 s l h
variable{k:Nat}{os:List aH}{al':AL}{σ':ar}{is:List dW}{t:Nat}{ao:kO}{g:Option (Nat×Bool)}
theorem IB.nil{i:gj}:IB P i k [] n al σ al σ []:=λe j=>⟨e,rfl,j⟩
theorem IB.op{j:gj}(h:eG P (j (some t)) n al σ ao d σ1 w)(s:Gd al g true)(hs:(Nat.blt t n&&FK al ao&&(k == 0 || jf σ σ1 w))=true)(r:IB P j (k-1) os n ((t,d)::al) σ1 al' σ' is) :
  IB P j k (⟨some t,ao,g⟩::os) n al σ al' σ' (ET ⟨some t,ao,g⟩ (cat ao) (xR al ao) w σ.length σ1.length::is):=λe i=>by
 simp only[bG] at hs;obtain ⟨⟨x,z⟩,A⟩:=hs;obtain ⟨E,F,G⟩:=r _ (Rh i (tM.mp x) d);refine ⟨E,?_,G⟩;have u:=HV (w:=w) i (o:=⟨some t,ao,g⟩) s z σ.length σ1.length;simp only[if_true,bX,cn] at u;simp only[lE,e_,s n e i,h e i,Option.map_some,nW,A,if_true,F,u]
theorem IB.eff{j:gj}(h:eG P (j none) n al σ ao d σ1 w)(s:Gd al g true)(hs:(FK al ao&&(k == 0 || jf σ σ1 w))=true)(r:IB P j (k-1) os n al σ1 al' σ' is) :
  IB P j k (⟨none,ao,g⟩::os) n al σ al' σ' (ET ⟨none,ao,g⟩ (cat ao) (xR al ao) w σ.length σ1.length::is):=λe i=>by
 simp only[bG] at hs;obtain ⟨x,z⟩:=hs;obtain ⟨A,E,F⟩:=r _ i;refine ⟨A,?_,F⟩;have u:=HV (w:=w) i (o:=⟨none,ao,g⟩) s x σ.length σ1.length;simp only[if_true,bX,cn] at u;simp only[lE,e_,s n e i,h e i,Option.map_some,nW,z,if_true,E,u]
theorem IB.no{j:gj}(s:Gd al g false)(hs:(Nat.blt t n&&FK al ao)=true)(r:IB P j (k-1) os n ((t,.aQ [])::al) σ al' σ' is) :
  IB P j k (⟨some t,ao,g⟩::os) n al σ al' σ' (ET ⟨some t,ao,g⟩ 0 (xR al ao) [] σ.length σ.length::is):=λe i=>by
 simp only[bG] at hs;obtain ⟨x,z⟩:=hs;obtain ⟨A,E,F⟩:=r _ (Rh i (tM.mp x) (.aQ []));refine ⟨A,?_,F⟩;have u:=HV (w:=[]) i (o:=⟨some t,ao,g⟩) s z σ.length σ.length;simp only[if_true,bX,cn] at u;simp only[lE,e_,s n e i,nW,jf,List.all_nil,Bool.or_true,if_true,E,u]
end
end Go.Abs
end
section
namespace Go.Abs
variable[Gl]
abbrev ST(cs:List C):D:=.agg (cs.map .c)
theorem map_inj{α:Type}{f:α->List C}(i:∀{a b:α},f a=f b->a=b){l m:List α}(h:l.map f=m.map f):l=m:=by
 induction l generalizing m with
 |nil=>simp_all
 |cons a l ih => cases m with
  |nil=>simp at h
  |cons b m=>grind
theorem Lr:∀{l m:List C},l.map D.c=m.map D.c->l=m:=by
 intro l;induction l with
 |nil=>simp_all
 |cons a l ih => intro m h;cases m with
  |nil=>simp at h
  |cons b m=>grind
theorem ST_inj{α:Type}{f:α->List C}(i:∀{a b:α},f a=f b->a=b){a b:α}(h:ST (f a)=ST (f b)):a=b:=by grind [Lr]
theorem sZ{al1:AL}:Sub al1 []:=True.intro
section
variable{P:Program}{orc:vD}{n:Nat}{al:AL}{σ σ1:ar}{w:List Nat}{d d1 d2:D}{e:List D}
theorem op_aidx{α:Type}{len:Nat}{x i:aN}{cs:List D}{l:List α}{f:α->D}{k:Int}{a:α}(h:lx al x=some (.agg cs))(j:lx al i=some (I k))(m:aB l k=some a)(o:cs=l.map f)(s:l.length=len) :
  eG P orc n al σ (.Cb 1 len none x i) (f a) σ []:=λe b=>by
 obtain ⟨u,v,p⟩:=oT m;have r:Bx k len=some k.toNat:=by unfold Bx;simp_all
 subst o;simp[ba,eS b h,eS b j,tP,r,uX,p]
end
end Go.Abs
end
section
namespace Go.Abs
variable[Gl]
section
variable{P:Program}
theorem zbN{t:TypeId}{d:TypeDesc}(h:P.underlying t=some d):fq P (underlying t)=some d:=by show fq P (match P.underlying t with | some d=>Go.Sem.pure d | none=>_)=_;rw[h];rfl
theorem ub{d:Nat}{xs h:Array Value}{f:Field}{j:List Field}{a b:Value}{r q:Bool}(p:(f.name != "_")=true)(l:fq P (part f.type xs f.offset)=some a)(m:fq P (part f.type h f.offset)=some b)
  (o:fq P (Op.equalIn d f.type a b)=some r) (s:fq P (Op.eqFields d xs h j)=some q):fq P (Op.eqFields d xs h (f::j))=some (r&&q):=by
 unfold Op.eqFields;have i:f.name≠"_":=by simp_all
 rw[if_pos i,xE,l,aD,xE,m,aD,xE,o,aD];cases r
 ·rfl
 simp_all
theorem eq_int{d:Nat}{t:TypeId}{k i:IntKind}{a b:Int}(h:P.underlying t=some (.int i)):fq P (Op.equalIn (d+1) t (.int k a) (.int k b))=some (a == b):=by simp only[Op.equalIn];rw[xE,zbN h,aD];simp only[if_true];rfl
theorem CW{d:Nat}{t:TypeId}{a b:Bool}(h:P.underlying t=some .bool):fq P (Op.equalIn (d+1) t (.bool a) (.bool b))=some (a == b):=by simp only[Op.equalIn];rw[xE,zbN h,aD];rfl
theorem Wy{d:Nat}{t:TypeId}{xs i:Array Value}{r:Bool}(l:P.underlying t=some (.struct (P.fieldsOf t)))(o:P.stoodInHeld t=false)(h:fq P (Op.eqFields d xs i (P.fieldsOf t).toList)=some r) :
  fq P (Op.equalIn (d+1) t (.agg xs) (.agg i))=some r:=by
 simp only[Op.equalIn];rw[xE,zbN l,aD];dsimp only;rw[xE];show (fq P (Go.Sem.pure P)).bind _=_;simp only[fq,Option.bind_some,o,bX,cn];rw[xE,<-Array.forIn_toList];generalize (P.fieldsOf t).toList=m at h;clear l;induction m generalizing r with
 |nil=>exact h
 |cons f m ih=>
  simp only[List.forIn_cons,Op.eqFields] at h ⊢;rw[xE];split at h
  ·rename_i j;rw[if_pos j];rw[xE] at h ⊢;cases p:fq P (part f.type xs f.offset) with
   |none=>simp_all
   |some a=>
    rw[p] at h;simp only[Option.bind_some] at h ⊢;rw[xE] at h ⊢;cases s:fq P (part f.type i f.offset) with
    |none=>simp_all
    |some b=>
     rw[s] at h;simp only[Option.bind_some] at h ⊢;rw[xE] at h ⊢;cases u:fq P (Op.equalIn d f.type a b) with
     |none=>simp_all
     |some q=>
      rw[u] at h;simp only[Option.bind_some] at h ⊢;cases q
      ·simp only[Bool.not_false,if_true] at h ⊢;exact h
      ·simp only[NE,bX,cn] at h ⊢;exact ih h
  ·rename_i j;rw[if_neg j];exact ih h
theorem bin_eql{t:TypeId}{x y:Operand}{xs a:Array Value}{r:Bool}(hm:P.eqGuardType P.depth t=false)(h:fq P (Op.equalIn 10000 t (.agg xs) (.agg a))=some r):gV P .eql t x y (.agg xs) (.agg a)=some (.bool r):=by
 unfold gV;rw[xE];have b:fq P (eqGuard .eql t x y (.agg xs) (.agg a))=some ():=by simp only[eqGuard,NE,bX,cn];show fq P (if (!P.eqGuardType P.depth t)=true then Go.Sem.pure () else _)=_;rw[hm];rfl
 rw[b,aD];show fq P (do Go.Sem.pure (Value.bool (<-Op.equal t (.agg xs) (.agg a))))=_;rw[xE];unfold Op.equal Op.maxDepth;rw[h];rfl
theorem bin_neq{t:TypeId}{x y:Operand}{xs a:Array Value}{r:Bool}(hm:P.eqGuardType P.depth t=false)(h:fq P (Op.equalIn 10000 t (.agg xs) (.agg a))=some r):gV P .neq t x y (.agg xs) (.agg a)=some (.bool (!r)):=by
 unfold gV;rw[xE];have b:fq P (eqGuard .neq t x y (.agg xs) (.agg a))=some ():=by simp only[eqGuard,NE,bX,cn];show fq P (if (!P.eqGuardType P.depth t)=true then Go.Sem.pure () else _)=_;rw[hm];rfl
 rw[b,aD];show fq P (do Go.Sem.pure (Value.bool (!(<-Op.equal t (.agg xs) (.agg a)))))=_;rw[xE];unfold Op.equal Op.maxDepth;rw[h];rfl
end
end Go.Abs
namespace Go.Abs
variable[Gl]
section
variable{P:Program}{orc:vD}{n:Nat}{al:AL}{σ:ar}{d:D}{e:List D}
def FA(P:Program)(op:Op)(ty:TypeId)(al:AL):Option D:=
 if op.operands.toList.all (λx=>((Aj al x).bind D.cP).isSome) then
  match fq P (execOp (λx=>(((Aj al x).bind D.cP).getD undef)) { dst:=none,op:=op,type:=ty,pos:="",after:=#[],guard:=none }) with
  |some (.value v)=>some (dy v)
  |_=>none
 else none
theorem genA_ok{op:Op}{ty:TypeId}(i:∀cs b,op≠.select cs b)(h:FA P op ty al=some d)(m:Env n al e):oQ P op ty e=some d:=by
 unfold FA at h;split at h
 ·rename_i a;rw[iB] at a;have l:∀x∈op.operands.toList,((bS x).map (aN.ev e)).bind D.cP = (Aj al x).bind D.cP:=by
   grind [Option.isSome_iff_exists,Option.bind_eq_some_iff,Aj,eS]
  have j:∀x:Operand,(x∈op.operands.toList)->((((bS x).map (aN.ev e)).bind D.cP).getD undef)=(((Aj al x).bind D.cP).getD undef):=λx o=>by simp_all
  unfold oQ;rw[if_pos (by simp_all)]
  grind [Go.execOp_congr]
 simp_all
theorem fS{c:Call}{ty:TypeId}(h:FA P (.call c) ty al=some d):eG P orc n al σ (.gen (.call c) ty) d σ []:=λe a=>by simp[ba,genA_ok (λi b=>by simp) h a]
end
end Go.Abs
namespace Go.Abs
variable[Gl]
section
variable{P:Program}{orc:vD}{n:Nat}{al:AL}{σ:ar}{d:D}{e:List D}
theorem VE{t:TypeId}{x y:Operand}{a b:Bool}(h:P.underlying t=some .bool):gV P .eql t x y (.bool a) (.bool b)=some (.bool (a == b)):=by unfold gV;rw[xE];show (some ()).bind _=_;rw[aD];show fq P (do Go.Sem.pure (Value.bool (<-Op.equal t (.bool a) (.bool b))))=_;rw[xE];unfold Op.equal Op.maxDepth;rw[CW (d:=9999) h];rfl
theorem Vy{t:TypeId}{x y:Operand}{a b:Bool}(h:P.underlying t=some .bool):gV P .neq t x y (.bool a) (.bool b)=some (.bool (!(a == b))):=by unfold gV;rw[xE];show (some ()).bind _=_;rw[aD];show fq P (do Go.Sem.pure (Value.bool (!(<-Op.equal t (.bool a) (.bool b)))))=_;rw[xE];unfold Op.equal Op.maxDepth;rw[CW (d:=9999) h];rfl
def MG(k:IntKind)(a b:Int):Option Int:=if b=0 then none else some (k.wrap (a.tdiv b))
def XE(a b:Int):Option Int:=if b=0 then none else some (a.tmod b)
def shr?(k:IntKind)(a b:Int):Option Int:=if b<0 then none else some (a.fdiv (2 ^ min b.toNat k.bits))
theorem bin_shr{t:TypeId}{x y:Operand}{i j:IntKind}{a b v:Int}(h:shr? i a b=some v):gV P .shr t x y (.int i a) (.int j b)=some (.int i v):=by
 unfold shr? at h;split at h
 ·simp at h
 ·rename_i l;simp only[au] at h;subst h;unfold gV;rw[xE];show (some ()).bind _=_;rw[aD];simp only[binOp,Op.shift,if_neg l];rfl
def shl?(k:IntKind)(a b:Int):Option Int:=if b<0 then none else some (k.wrap (a * 2 ^ min b.toNat k.bits))
theorem bin_shl{t:TypeId}{x y:Operand}{i j:IntKind}{a b v:Int}(h:shl? i a b=some v):gV P .shl t x y (.int i a) (.int j b)=some (.int i v):=by
 unfold shl? at h;split at h
 ·simp at h
 ·rename_i l;simp only[au] at h;subst h;unfold gV;rw[xE];show (some ()).bind _=_;rw[aD];simp only[binOp,Op.shift,if_neg l];rfl
theorem bin_quo{t:TypeId}{x y:Operand}{k:IntKind}{a b v:Int}(h:MG k a b=some v):gV P .quo t x y (.int k a) (.int k b)=some (.int k v):=by
 unfold MG at h;split at h
 ·simp at h
 ·rename_i i;simp only[au] at h;subst h;unfold gV;rw[xE];show (some ()).bind _=_;rw[aD];simp only[binOp,ne_eq,not_true_eq_false,cn,Op.intDiv,if_neg i];rfl
theorem aaa{t:TypeId}{x y:Operand}{k:IntKind}{a b v:Int}(h:XE a b=some v):gV P .rem t x y (.int k a) (.int k b)=some (.int k v):=by
 unfold XE at h;split at h
 ·simp at h
 ·rename_i i;simp only[au] at h;subst h;unfold gV;rw[xE];show (some ()).bind _=_;rw[aD];simp only[binOp,ne_eq,not_true_eq_false,cn,Op.intDiv,if_neg i];rfl
theorem op_idxA{α:Type}{x i:aN}{b off sz len aw:Nat}{k:Int}{l:List α}{a:α}(h:lx al x=some (.ptr b off sz))(m:lx al i=some (I k))(j:aB l k=some a)(o:l.length=len)(hd:D.ptr b (off+k.toNat * aw) sz=d) :
  eG P orc n al σ (.idx aw (some len) x i) d σ []:=λe p=>by
 subst hd;obtain ⟨r,s,u⟩:=oT j;have v:Bx k len=some k.toNat:=by unfold Bx;simp_all
 grind [ba,tP,eS]
end
end Go.Abs
end
section
namespace Go.Abs
variable[Gl]
abbrev OS(aw b n:Nat):D:=.sl b 0 n aw (n * aw)
abbrev OB{α:Type}(f:α->List C)(l:List α):Ob:=.cells ((l.flatMap f).map .c)
section
variable{α:Type}{f:α->List C}{aw:Nat}
theorem ed(b:∀a,(f a).length=aw):∀(l:List α),(l.flatMap f).length=l.length * aw:=by
 intro l;induction l with
 |nil=>simp
 |cons a l ih=>grind
theorem flat_at(b:∀a,(f a).length=aw):∀(l:List α)(i:Nat)(a:α),l[i]? = some a->((l.flatMap f).drop (i * aw)).take aw=f a:=by
 intro l;induction l with
 |nil=>simp_all
 |cons x l ih=>
  intro i a h;cases i with
  |zero=>simp_all
  |succ i=>
   simp only[List.getElem?_cons_succ] at h;simp only[yBw];have:(i+1) * aw=(f x).length+i * aw:=by grind
   rw[this,xAe,<-ih i a h,yBo (by omega),xAb]
   simp_all
theorem KP(h:∀a,(f a).length=aw)(l:List α)(lo n:Nat):((l.flatMap f).drop (lo * aw)).take (n * aw)=((l.drop lo).take n).flatMap f:=by
 induction l generalizing lo n with
 |nil=>simp
 |cons x l ih=>
  cases lo with
  |succ lo=>
   simp only[yBw,List.drop_succ_cons];have:(lo+1) * aw=(f x).length+lo * aw:=by grind
   rw[this,xAe,<-ih lo n,yBo (by omega),xAb]
   simp_all
  |zero=>
   cases n with
   |zero=>simp
   |succ n=>
    simp only[yBY,yCh,yBw,List.take_succ_cons];have b:(n+1) * aw=(f x).length+n * aw:=by grind
    rw[b,List.take_append];have:=ih 0 n
    grind
theorem ij{σ:ar}{b:Nat}{l:List α}(i:∀a,(f a).length=aw)(h:σ[b]? = some (OB f l)):mP σ b (l.length * aw)=some ((l.flatMap f).map .c):=by grind [mP,ed]
theorem Pq(b:∀a,(f a).length=aw):∀(l:List α),chunks aw l.length (l.flatMap f)=l.map f:=by
 intro l;induction l with
 |nil=>rfl
 |cons a l ih=>
  simp only[List.length_cons,chunks,yBw,tn]
  simp_all
theorem Tk{σ:ar}{n k:Nat}:∀(l:List C),(l.map D.c).mapM (fF σ n (k+1))=some l:=by
 intro l;induction l with
 |nil=>rfl
 |cons x l ih=>rw[tn,Uk,ih];rfl
theorem DS{σ:ar}{b k n:Nat}{l:List α}(i:∀a,(f a).length=aw)(j:0<aw)(h:σ[b]? = some (OB f l))(m:l.length=n):fF σ 0 (k+2) (OS aw b n)=some (.cB (Nat.blt 0 n) (l.map f)):=by
 subst m;have:fF σ 0 (k+2) (OS aw b l.length)=(if 0<=b/\0<aw/\0+l.length * aw<=l.length * aw then
    match mP σ b (l.length * aw) with
    |some o=>(((o.drop 0).take (l.length * aw)).mapM (fF σ 0 (k+1))).map λr=>C.cB (Nat.blt 0 l.length) (chunks aw l.length r)
    |none=>none
   else none):=rfl
 rw[this,if_pos ⟨NA _,j,by omega⟩,ij i h]
 grind [List.take_of_length_le,ed,Tk,Pq]
theorem frz_own{σ:ar}{b n:Nat}{l:List α}(i:∀a,(f a).length=aw)(j:0<aw)(h:σ[b]? = some (OB f l))(m:l.length=n):xa σ 0 100 (OS aw b n)=some (.c (.cB (Nat.blt 0 n) (l.map f))):=by
 show (fF σ 0 100 (OS aw b n)).map D.c=_
 grind [DS]
theorem mapM_c{a:Type}{g:D->Option a}{d:D}{ds:List D}{r:a}{rs:List a}(h:g d=some r)(b:ds.mapM g=some rs):(d::ds).mapM g=some (r::rs):=by simp_all
theorem frz_tup{σ:ar}{ds rs:List D}(h:ds.mapM (ol σ 0 100)=some rs):xa σ 0 100 (.aQ ds)=some (.aQ rs):=by
 show (ds.mapM (ol σ 0 100)).map D.aQ=_
 simp_all
theorem frz_agg{σ:ar}{ds:List D}{rs:List C}(h:ds.mapM (fF σ 0 100)=some rs):ol σ 0 100 (.agg ds)=some (.agg (rs.map .c)):=by
 show (ds.mapM (fF σ 0 100)).map (λl=>D.agg (l.map .c))=_
 simp_all
def Src(σ:ar)(f:α->List C)(aw:Nat)(d:D)(m:List α):Prop:=HC σ d=some m.length/\Wg σ aw m.length d=some ((m.flatMap f).map .c)
def Wd(σ:ar)(f:α->List C)(aw:Nat)(d:D)(m:List α):Prop:=HC σ d=some m.length/\∀n,n<=m.length->Wg σ aw n d=some (((m.take n).flatMap f).map .c)
theorem YV{σ:ar}{nn:Bool}{m:List α}(b:∀a,(f a).length=aw):Wd σ f aw (.c (.cB nn (m.map f))) m:=by
 refine ⟨by simp[HC],λn h=>?_⟩;show (if n<=(m.map f).length/\(m.map f).all (λe=>e.length=aw) then some (((m.map f).take n).flatten.map D.c) else none)=_;rw[if_pos ⟨by simp_all,by simp[b]⟩,<-yCc]
 grind
theorem Xd{σ:ar}:Wd σ f aw (.c (.lit (.slice none 0 0))) []:=⟨rfl,λn a=>by
 obtain rfl:n=0:=by simp_all
 rfl⟩
theorem Xf{σ:ar}{b n:Nat}{l:List α}(i:∀a,(f a).length=aw)(h:σ[b]? = some (OB f l))(j:l.length=n):Wd σ f aw (OS aw b n) l:=by subst j;refine ⟨by grind [HC,ij],λk hk=>?_⟩;show ((mP σ b (l.length * aw)).bind λm=>if aw=aw/\k<=l.length/\0+l.length * aw<=l.length * aw then some ((m.drop 0).take (k * aw)) else none)=_;have:=KP i l 0 k;simp only[yBY,yCh] at this;rw[ij i h,aD,if_pos ⟨rfl,hk,by omega⟩,yCh,<-yCc,this]
theorem S_(b:∀a,(f a).length=aw)(l:List α)(n:Nat):(l.flatMap f).take (n * aw)=(l.take n).flatMap f:=by
 have:=KP b l 0 n
 simp_all
theorem Tx(b:∀a,(f a).length=aw):∀(l:List α)(n:Nat),(l.flatMap f).drop (n * aw)=(l.drop n).flatMap f:=by
 intro l;induction l with
 |nil=>simp_all
 |cons x l ih=>
  intro n;cases n with
  |zero=>simp
  |succ n=>
   have:(n+1) * aw=(f x).length+n * aw:=by grind
   rw[yBw,List.drop_succ_cons,<-ih n,this,xAe,yBo (by omega),xAb]
   simp_all
def cpL(l m:List α)(lo len:Nat):List α:=l.take lo++m.take len++l.drop (lo+(m.take len).length)
theorem Sk{l m:List α}{lo len:Nat}(h:lo+len<=l.length):(cpL l m lo len).length=l.length:=by grind [cpL]
theorem CY{σ:ar}{nn:Bool}{m:List α}(b:∀a,(f a).length=aw):Src σ f aw (.c (.cB nn (m.map f))) m:=by
 refine ⟨by simp[HC],?_⟩;show (if m.length<=(m.map f).length/\(m.map f).all (λe=>e.length=aw) then some (((m.map f).take m.length).flatten.map D.c) else none)=_
 grind
theorem src_nil{σ:ar}:Src σ f aw (.c (.lit (.slice none 0 0))) []:=⟨rfl,rfl⟩
theorem RW{σ:ar}{b n:Nat}{l:List α}(i:∀a,(f a).length=aw)(h:σ[b]? = some (OB f l))(j:l.length=n):Src σ f aw (OS aw b n) l:=by subst j;refine ⟨by grind [HC,ij],?_⟩;show ((mP σ b (l.length * aw)).bind λm=>if aw=aw/\l.length<=l.length/\0+l.length * aw<=l.length * aw then some ((m.drop 0).take (l.length * aw)) else none)=_;rw[ij i h,aD,if_pos ⟨rfl,cR _,by omega⟩,yCh,yBA (by simp[ed i])]
end
section
variable{P:Program}{orc:vD}{n:Nat}{al:AL}{σ σ1:ar}{d d1 d2:D}{α:Type}{f:α->List C}{aw:Nat}{ac:aP}{Q:mF->AL->ar->Prop}
theorem Sem.own(t aw:Nat)(hk:lk t al=some (.c (.lit (.slice none 0 0))))(hd:D.sl σ.length 0 0 aw 0=d)(hs:σ++[.cells []]=σ1)(h:Sem P ac n ((t,d)::al) σ1 Q):Sem P ac n al σ Q:=by
 subst hd hs;intro c z M Fz w a K R A E;have j:=bD.ph R;have F:=R.ph;have i:∀{d v},V σ M Fz w d v->V (σ++[.cells []]) M Fz w d v:=λh=>h.mono j;have G:eI n (σ++[.cells []]) M Fz w ((t,.sl σ.length 0 0 aw 0)::al) a.tmps:=by
  refine ⟨A.1,λs d hs=>?_⟩;simp only[lk] at hs;split at hs
  ·rename_i O;have:=cO O;simp only[au] at hs;subst this hs;obtain ⟨v,o,u⟩:=A.2 t _ hk;refine ⟨v,o,?_⟩;rw[u.bZ];exact .sl none 0 0 (by simp) (.cells []) (by simp) (by omega) (λ_=>.inl ⟨rfl,rfl,rfl,rfl,rfl,rfl⟩)
  ·obtain ⟨v,o,u⟩:=A.2 s d hs
   simp_all
 exact h c z M Fz w a K F G λx al' σ' U w' M' Fz' W hd X Y Z hl=>E x al' σ' U w' M' Fz' W hd X Y (j.trans Z (by simp)) (by grind)
theorem OD{x:aN}{b k:Nat}{l:List α}(i:∀a,(f a).length=aw)(h:lx al x=some (OS aw b k))(j:σ[b]? = some (OB f l))(m:l.length=k):eG P orc n al σ (.len x) (I k) σ []:=λe o=>by grind [ba,HC,eS,ij]
def cr{α:Type}(l m:List α):Option (List α):=if l.length+m.length<=1000000 then some (l++m) else none
theorem uF{l m r:List α}(h:cr l m=some r):l.length+m.length<=1000000/\r=l++m:=by
 unfold cr at h
 simp_all
theorem vH{i:Nat}{s x:aN}{b k:Nat}{l m r:List α}(F:∀a,(f a).length=aw)(h:lx al s=some (OS aw b k))(G:σ[b]? = some (OB f l))(hk:l.length=k)(K:lx al x=some d)(hm:Src σ f aw d m)(L:cr l m=some r)
  (v:Nat.ble i 1000=true) (hd:OS aw b r.length=d1) (hs:σ.set b (OB f r)=σ1):eG P orc n al σ (.append aw i s x) d1 σ1 [b]:=by
 obtain ⟨o,rfl⟩:=uF L;subst hd hs hk;have p:i<=1000:=Cq v;have j:EZ (l.length+m.length) i=true:=by have:(l.length+m.length) * i<=1000000 * 1000:=yCi o p;simp only[EZ,bG,br];omega
 have y:∀e,Env n al e->ba P orc (.append aw i s x) e σ=(if m.length=0 then some (OS aw b l.length,σ,[b]) else some (.sl b 0 (l.length+m.length) aw (l.length * aw+m.length * aw),σ.set b (.cells ((l.flatMap f).map .c++(m.flatMap f).map .c)),[b])):=by
  intro e u;have:ba P orc (.append aw i s x) e σ=(HC σ d).bind λk=>(Wg σ aw k d).bind λnew=>(mP σ b (l.length * aw)).bind λz=>if aw=aw/\0=0/\l.length * aw=l.length * aw/\EZ (l.length+k) i then
     if k=0 then some (.sl b 0 l.length aw (l.length * aw),σ,[b])
     else some (.sl b 0 (l.length+k) aw (l.length * aw+k * aw),σ.set b (.cells (z++new)),[b])
    else if aw=aw/\0=0/\(l.length+k) * aw<=l.length * aw/\EZ (l.length+k) i then
     if k=0 then some (.sl b 0 l.length aw (l.length * aw),σ,[b])
     else some (.sl b 0 (l.length+k) aw (l.length * aw),σ.set b (.cells (put z (l.length * aw) new)),[b])
    else none:=by
   simp only[ba,eS u h,eS u K];rfl
  rw[this,hm.1,aD,hm.2,aD,ij F G,aD,if_pos ⟨rfl,rfl,rfl,j⟩]
 intro e u;by_cases A:m.length=0
 ·rw[y e u,if_pos A];have:m=[]:=VI A;subst this;have E:σ.set b (OB f (l++[]))=σ:=by
   rw[DM];apply TP
   grind
  simp_all
 grind
theorem op_copy{x y:aN}{b lo len:Nat}{l m:List α}(i:∀a,(f a).length=aw)(h:lx al x=some (.sl b (0+lo * aw) len aw (l.length * aw)))(p:σ[b]? = some (OB f l))(j:lo+len<=l.length)(r:lx al y=some d)(hm:Wd σ f aw d m)(hs:σ.set b (OB f (cpL l m lo len))=σ1) :
  eG P orc n al σ (.copy aw x y) (I ((m.take len).length:Int)) σ1 [b]:=λe o=>by
 subst hs;have s:min m.length len=(m.take len).length:=by grind
 have u:m.take (min m.length len)=m.take len:=by simp_all
 have v:0+lo * aw+len * aw<=l.length * aw:=by
  have:=FU aw j
  grind
 have z:put ((l.flatMap f).map D.c) (0+lo * aw) (((m.take len).flatMap f).map D.c)=((cpL l m lo len).flatMap f).map D.c:=by simp only[put,cpL,<-yCc,<-List.map_drop,xw,ed i,List.flatMap_append,yB8,Ry,S_ i];rw[<-KH,Tx i]
 simp only[ba,eS o h,eS o r,ij i p,hm.1,Option.bind_eq_bind,Option.bind_some,Option.map_some,hm.2 _ (Nat.min_le_left m.length len)]
 grind
theorem Ow{x i:aN}{b m:Nat}{k:Int}{l:List α}{a:α}(p:∀a,(f a).length=aw)(h:lx al x=some (OS aw b m))(r:σ[b]? = some (OB f l))(j:l.length=m)(s:lx al i=some (I k))(o:aB l k=some a) :
  eG P orc n al σ (.idx aw none x i) (.ptr b (k.toNat * aw) (m * aw)) σ []:=λe u=>by
 subst j;obtain ⟨v,y,z⟩:=oT o;have A:Bx k l.length=some k.toNat:=by unfold Bx;simp_all
 grind [ba,tP,eS,ij]
theorem X_{l:List α}{k:Int}{a:α}(b:aB l k=some a):l[k.toNat]? = some a:=(oT b).2.2
theorem FF(j:∀a,(f a).length=aw){l:List α}{i o:Nat}{a:α}{m:Option Nat}(p:l[i]? = some a)(h:uX m ((f a).map .c) o=some d):uX m ((l.flatMap f).map .c) (i * aw+o)=some d:=by
 have r:=flat_at j l i a p;have b:(i+1) * aw<=(l.flatMap f).length:=by grind
 rw[KH,Nat.one_mul] at b;cases m with
 |none=>
  simp only[uX,lY,cu] at h ⊢
  grind
 |some m=>
  simp only[uX] at h ⊢;split at h
  ·rename_i s;simp only[xw,j] at s;rw[if_pos (by grind)]
   grind [List.map_drop,List.map_take,List.drop_take,List.drop_drop]
  simp_all
theorem VL{m:Option Nat}{x:aN}{b p q o i:Nat}{l:List α}{a:α}(j:∀a,(f a).length=aw)(h:lx al x=some (.ptr b p (q * aw)))(r:p=i * aw+o)(s:σ[b]? = some (OB f l))(u:l.length=q)(v:l[i]? = some a)
  (y:uX m ((f a).map .c) o=some d):eG P orc n al σ (.load m x) d σ []:=by
 subst u r;exact rV h (ij j s) (FF j v y)
theorem YX(j:∀a,(f a).length=aw){xs:List C}:∀(l:List α)(i o:Nat)(a b:α),l[i]? = some a->o+xs.length<=aw->f b=(f a).take o++xs++(f a).drop (o+xs.length) ->
  (l.flatMap f).take (i * aw+o)++xs++(l.flatMap f).drop (i * aw+o+xs.length)=(l.set i b).flatMap f:=by
 intro l;induction l with
 |nil=>simp_all
 |cons x l ih=>
  intro i o a b h m p;cases i with
  |zero=>grind
  |succ i=>
   simp only[List.getElem?_cons_succ] at h;have u:=j x;have r:(i+1) * aw+o=(f x).length+(i * aw+o):=by grind
   simp only[yBw,List.set_cons_succ];rw[<-ih i o a b h m p,r,List.take_append,yBA (by omega)];have s:(f x).length+(i * aw+o)+xs.length=(f x).length+(i * aw+o+xs.length):=by omega
   rw[s,xAe,yBo (by omega),xAb,yB5,yB5];simp
theorem TJ{m:Nat}{x y:aN}{b p q o i:Nat}{l:List α}{a j:α}{xs:List C}(v:∀a,(f a).length=aw)(h:lx al x=some (.ptr b p (q * aw)))(E:p=i * aw+o)(F:σ[b]? = some (OB f l))(G:l.length=q)(z:l[i]? = some a)
  (K:lx al y=some d) (L:d.cells? = some (xs.map .c)) (hm:xs.length=m) (N:Nat.ble (o+m) aw=true) (O:f j=(f a).take o++xs++(f a).drop (o+xs.length)) {A:List α} (r:l.set i j=A) (hs:σ.set b (OB f A)=σ1) :
  eG P orc n al σ (.store m x y) (.aQ []) σ1 [b]:=by
 subst G E r hs hm;have s:o+xs.length<=aw:=Cq N;have R:=(gg.1 z).1;have u:(i+1) * aw<=l.length * aw:=FU _ R;rw[KH,Nat.one_mul] at u;refine El h (ij v F) K L ⟨by simp,by omega⟩ ?_;congr 2;rw[<-YX v l i o a j z s O];simp[put]
theorem ju{len:Nat}{z cs:List D}{ps:List (Nat×Nat×aN)}{l:List α}(h:BB al (tN len z) ps=some cs)(b:cs=(l.flatMap f).map .c)(i:l.length=len)(j:∀a,(f a).length=aw)(m:OS σ.length aw len=OS σ.length aw len)(hd:OS aw σ.length len=d1)(hs:σ++[OB f l]=σ1) :
  eG P orc n al σ (.jk aw len z ps) d1 σ1 []:=by
 grind [GZ,ed]
theorem TG{z:α}:∀(k:Nat),tN k ((f z).map .c)=((List.replicate k z).flatMap f).map .c:=by
 intro k;induction k with
 |zero=>rfl
 |succ k ih=>grind [tN]
def EY{α:Type}(z:α)(l c:Int):Option (List α):=if 0<=l/\l<=c/\c<=1000000 then some (List.replicate l.toNat z) else none
def mk0?{α:Type}(c:Int):Option (List α):=if 0<=c/\c<=1000000 then some [] else none
theorem op_mk0{a:Nat}{zs:List D}{x y:aN}{c:Int}{l:List α}(m:lx al x=some (I 0))(o:lx al y=some (I c))(hm:mk0? c=some l)(i:Nat.ble a 1000=true)
  (hd:OS aw σ.length l.length=d1) (hs:σ++[OB f l]=σ1):eG P orc n al σ (.mk aw a zs x y) d1 σ1 []:=λe j=>by
 subst hd hs;unfold mk0? at hm;split at hm
 ·rename_i r;simp only[au] at hm;subst hm;have h:a<=1000:=Cq i;have b:EZ c.toNat a=true:=by
   have p:c.toNat<=1000000:=by omega
   have:c.toNat * a<=1000000 * 1000:=yCi p h;simp only[EZ,bG,br];omega
  simp only[ba,eS j m,eS j o,tP,Option.bind_eq_bind,Option.bind_some];rw[if_pos ⟨by omega,by omega,b⟩];simp[OS,OB,tN]
 simp_all
theorem op_mk{a:Nat}{zs:List D}{x y:aN}{k c:Int}{z:α}{l:List α}(o:lx al x=some (I k))(p:lx al y=some (I c))(r:zs=(f z).map .c)(hm:EY z k c=some l)(i:Nat.ble a 1000=true)
  (hd:OS aw σ.length l.length=d1) (hs:σ++[OB f l]=σ1):eG P orc n al σ (.mk aw a zs x y) d1 σ1 []:=λe j=>by
 subst hd hs r;unfold EY at hm;split at hm
 ·rename_i m;simp only[au] at hm;subst hm;have h:a<=1000:=Cq i;have b:EZ c.toNat a=true:=by
   have s:c.toNat<=1000000:=by omega
   have:c.toNat * a<=1000000 * 1000:=yCi s h;simp only[EZ,bG,br];omega
  simp only[ba,eS j o,eS j p,tP,Option.bind_eq_bind,Option.bind_some];rw[if_pos ⟨m.1,m.2.1,b⟩,TG];simp[OS]
 simp_all
def slice?{α:Type}(l:List α)(lo a:Int):Option (List α):=if 0<=lo/\lo<=a/\a<=l.length then some ((l.take a.toNat).drop lo.toNat) else none
theorem op_slc{x:aN}{lo p:Option aN}{nn:Bool}{l r:List α}{i j:Int}(z:∀a,(f a).length=aw)(h:lx al x=some (.c (.cB nn (l.map f))))(b:(match lo with | none=>some (I 0) | some o=>lx al o)=some (I i))
  (m:(match p with | none=>some (I l.length) | some o=>lx al o)=some (I j)) (s:slice? l i j=some r):eG P orc n al σ (.UQ aw x lo p) (.c (.cB nn (r.map f))) σ []:=λe u=>by
 unfold slice? at s;split at s
 ·rename_i A;simp only[au] at s;subst s;have v:oI e (l.map f).length (l.map f).length p=some j.toNat:=by
   cases p with
   |none=>simp only[au,I,D.c.injEq,C.lit.injEq,Value.int.injEq,true_and] at m;grind [oI]
   |some o=>
    simp only at m;simp only[oI,eS u m,tP,Option.bind_some,QE]
    grind
  have y:oI e 0 j.toNat lo=some i.toNat:=by
   cases lo with
   |none=>simp only[au,I,D.c.injEq,C.lit.injEq,Value.int.injEq,true_and] at b;grind [oI]
   |some o=>
    simp only at b;simp only[oI,eS u b,tP,Option.bind_some,QE]
    grind
  simp only[ba,eS u h,v,y,Option.bind_eq_bind,Option.bind_some]
  simp_all
 simp_all
end
end Go.Abs
namespace Go.Abs
variable[Gl]
end Go.Abs
namespace Go.Abs
variable[Gl]
theorem WE{m:Nat}:∀(l:List C),D.low.cL m (l.map D.c)=true:=by
 intro l;induction l with
 |nil=>rfl
 |cons x l ih=>grind [D.low.cL,D.low]
end Go.Abs
end
section
namespace Go.Abs
variable[Gl]
def cd(P:Program)(orc:gj)(k:Nat)(os:List aH)(n:Nat)(al:AL)(σ:ar)(Q:AL->ar->List dW->Prop):Prop:=
 ∃al' σ' is,IB P orc k os n al σ al' σ' is/\Q al' σ' is
section
variable{P:Program}{orc:gj}{n k:Nat}{al al1:AL}{σ σ1:ar}{w:List Nat}{d:D}{os:List aH}{t:Nat}{ao:kO}{g:Option (Nat×Bool)}{Q:AL->ar->List dW->Prop}
theorem cd.nil(h:Q al σ []):cd P orc k [] n al σ Q:=⟨al,σ,[],IB.nil,h⟩
theorem cd.op(h:eG P (orc (some t)) n al σ ao d σ1 w)(i:Gd al g true)(hs:(Nat.blt t n&&FK al ao&&(k == 0 || jf σ σ1 w))=true)
  (r:cd P orc (k-1) os n ((t,d)::al) σ1 λal' σ' is=>Q al' σ' (ET ⟨some t,ao,g⟩ (cat ao) (xR al ao) w σ.length σ1.length::is)):cd P orc k (⟨some t,ao,g⟩::os) n al σ Q:=by
 obtain ⟨al',σ',is,j,o⟩:=r;exact ⟨al',σ',_,IB.op h i hs j,o⟩
theorem cd.eff(h:eG P (orc none) n al σ ao d σ1 w)(i:Gd al g true)(hs:(FK al ao&&(k == 0 || jf σ σ1 w))=true)
  (r:cd P orc (k-1) os n al σ1 λal' σ' is=>Q al' σ' (ET ⟨none,ao,g⟩ (cat ao) (xR al ao) w σ.length σ1.length::is)):cd P orc k (⟨none,ao,g⟩::os) n al σ Q:=by
 obtain ⟨al',σ',is,j,o⟩:=r;exact ⟨al',σ',_,IB.eff h i hs j,o⟩
theorem cd.no(i:Gd al g false)(hs:(Nat.blt t n&&FK al ao)=true)
  (r:cd P orc (k-1) os n ((t,.aQ [])::al) σ λal' σ' is=>Q al' σ' (ET ⟨some t,ao,g⟩ 0 (xR al ao) [] σ.length σ.length::is)):cd P orc k (⟨some t,ao,g⟩::os) n al σ Q:=by
 obtain ⟨al',σ',is,j,o⟩:=r;exact ⟨al',σ',_,IB.no i hs j,o⟩
theorem Sem.qE{Q:mF->AL->ar->Prop}(i:P.follows .mixedOrders=true)(O:nP P orc)(h:cd P orc 0 os n al σ λal' σ' _=>Q .normal al' σ'):Sem P (.BZ os) n al σ Q:=by
 obtain ⟨al',σ',is,j,o⟩:=h
 grind [Sem.BZ]
theorem Sem.drwQ{Q:mF->AL->ar->Prop}{i:List Nat}{p:Nat}(j:P.follows .mixedOrders=true)(O:nP P orc)
  (h:cd P orc k os n al σ λal' σ' is=>(eR i is&&mh i p k os.length&&Nat.ble p k)=true/\Q .normal al' σ'):Sem P (.HO os i k p) n al σ Q:=by
 obtain ⟨al',σ',is,o,s,u⟩:=h
 grind [Sem.HO]
theorem Sem.drwNQ{Q:mF->AL->ar->Prop}{i:List Nat}{p:Nat}(j:P.follows .mixedOrders=true)(O:nP P orc)
  (h:cd P orc os.length os n al σ λal' σ' is=>(eR i is&&mh i p os.length os.length&&Nat.ble p os.length)=true/\Q .normal al' σ'):Sem P (.HO os i k p) n al σ Q:=by
 obtain ⟨al',σ',is,o,s,u⟩:=h
 grind [Sem.drwN]
def shut(n:Nat)(al:AL)(o:aH):Option Nat:=
 match o.g,o.dst with
 |some (t, want), some s=>
  match lk t al with
  |some (.c (.lit (.bool b)))=>if (b != want)&&(Nat.blt s n&&FK al o.op) then some s else none
  |some (.aQ [])=>if Nat.blt s n&&FK al o.op then some s else none
  |_=>none
 |_,_=>none
end
end Go.Abs
end
section
namespace Go.Abs
variable[Gl]
def cE{α:Type}:List (Int×α)->Int->Option α
 |[],_=>none
 |(b,a)::l,k=>if b=k then some a else cE l k
def jP{α:Type}:List (Int×α)->Int->α->List (Int×α)
 |[],k,a=>[(k,a)]
 |(b,h)::l,k,a=>if b=k then (b,a)::l else (b,h)::jP l k a
def FE{α:Type}:List (Int×α)->Int->Nat
 |[],_=>0
 |(a,_)::l,k=>if a=k then 0 else FE l k+1
def Ac{α:Type}(g:α->D):Nat->List (Int×α)->List (Value×D×Nat)
 |_,[]=>[]
 |i,(k,a)::l=>(.int .i64 k,g a,i)::Ac g (i+1) l
abbrev MB{α:Type}(g:α->D)(l:List (Int×α)):Ob:=.map (Ac g 0 l) l.length
def oel{α b:Type}(o:Option α)(n:b)(s:α->b):b:=match o with | none=>n | some a=>s a
section
variable{α:Type}
theorem yQ{m:IntKind}{g:α->D}{k:Int}:∀(l:List (Int×α))(i j:Nat),sn (.int m) (.int .i64 k) (Ac g i l) j=some ((cE l k).map λa=>(j+FE l k,g a)):=by
 intro l;induction l with
 |nil=>intro i j;rfl
 |cons x l ih=>
  intro i j;obtain ⟨b,a⟩:=x;simp only[Ac,sn,Instr.sameNow,if_true];by_cases h:b=k
  ·grind [cE,FE]
  ·have o:(k == b)=false:=by grind
   simp only[o,ih,cE,FE,if_neg h]
   grind
theorem UC{g:α->D}{k:Int}{a:α}:∀(l:List (Int×α))(i:Nat)(b:α),cE l k=some b->(Ac g i l).modify (FE l k) (λp=>(p.1,g a,p.2.2))=Ac g i (jP l k a)/\(jP l k a).length=l.length:=by
 intro l;induction l with
 |nil=>grind [cE]
 |cons x l ih=>
  intro i b h;obtain ⟨j,m⟩:=x;by_cases hk:j=k
  ·grind [FE,jP,Ac]
  ·simp only[cE,if_neg hk] at h;obtain ⟨o,r⟩:=ih (i+1) b h
   grind [FE,jP,Ac]
theorem Td{g:α->D}{k:Int}{a:α}:∀(l:List (Int×α))(i:Nat),cE l k=none->Ac g i l++[(.int .i64 k,g a,i+l.length)]=Ac g i (jP l k a)/\(jP l k a).length=l.length+1:=by
 intro l;induction l with
 |nil=>grind [jP,Ac]
 |cons x l ih=>
  intro i h;obtain ⟨b,j⟩:=x;by_cases hk:b=k
  ·grind [cE]
  ·simp only[cE,if_neg hk] at h;obtain ⟨m,o⟩:=ih (i+1) h;refine ⟨?_,by grind [jP]⟩;simp only[jP,if_neg hk,Ac,List.cons_append,List.length_cons]
   grind
end
section
variable{P:Program}{orc:vD}{n:Nat}{al:AL}{σ σ1:ar}{d d1 d2:D}{α:Type}
theorem Wo{g:α->D}(hd:D.mp σ.length=d)(hs:σ++[MB g ([]:List (Int×α))]=σ1):eG P orc n al σ .uc d σ1 []:=λe a=>by subst hd hs;rfl
theorem op_look{i:IntKind}{zero:D}{m k:aN}{b:Nat}{g:α->D}{l:List (Int×α)}{x:Int}{ok:Bool}{a:α}(hm:lx al m=some (.mp b))(j:σ[b]? = some (MB g l))(hk:lx al k=some (I x))(o:cE l x=some a)(hd:(if ok then .aQ [g a,B true] else g a)=d) :
  eG P orc n al σ (.lookup (.int i) zero m k ok) d σ []:=λe h=>by
 subst hd;simp only[ba,eS h hm,eS h hk,gD,Hb,j,Option.bind_eq_bind,Option.bind_some,yQ,o,Option.map_some,NM]
theorem Xw{h:IntKind}{zero:D}{m k:aN}{b:Nat}{g:α->D}{l:List (Int×α)}{x:Int}{ok:Bool}(hm:lx al m=some (.mp b))(i:σ[b]? = some (MB g l))(hk:lx al k=some (I x))(j:cE l x=none)(hd:(if ok then .aQ [zero,B false] else zero)=d) :
  eG P orc n al σ (.lookup (.int h) zero m k ok) d σ []:=λe a=>by
 subst hd;simp only[ba,eS a hm,eS a hk,gD,Hb,i,Option.bind_eq_bind,Option.bind_some,yQ,j,Option.map_none,NM]
theorem op_upd{o:IntKind}{m k x:aN}{b:Nat}{g:α->D}{l:List (Int×α)}{i:Int}{a:α}(hm:lx al m=some (.mp b))(p:σ[b]? = some (MB g l))(hk:lx al k=some (I i))(r:lx al x=some (g a))(hs:σ.set b (MB g (jP l i a))=σ1) :
  eG P orc n al σ (.sv (.int o) m k x) (.aQ []) σ1 [b]:=λe h=>by
 subst hs;simp only[ba,eS h hm,eS h hk,gD,p,Option.bind_eq_bind,Option.bind_some,yQ,eS h r];cases j:cE l i with
 |some s=>
  obtain ⟨u,v⟩:=UC (g:=g) (a:=a) l 0 s j
  grind
 |none=>
  obtain ⟨u,v⟩:=Td (g:=g) (a:=a) l 0 j
  grind
def Es{α:Type}:List (Int×α)->Int->List (Int×α)
 |[],_=>[]
 |(b,a)::l,k=>if b=k then l else (b,a)::Es l k
theorem Gr{α:Type}{k:Int}:∀(l:List (Int×α)),cE l k=none->Es l k=l
 |[],_=>rfl
 |(b, a) :: l, h => by
  by_cases hk:b=k
  ·grind [cE]
  ·simp only[cE,if_neg hk] at h;simp only[Es,if_neg hk,Gr l h]
theorem Mx{α:Type}{g:α->D}:∀(l:List (Int×α))(i j:Nat),mL j (Ac g i l)=Ac g j l
 |[],_,_=>rfl
 |(k,a)::l,i,j=>by simp only[Ac,mL,Mx l]
theorem HA{α:Type}{g:α->D}{k:Int}:∀(l:List (Int×α))(i j:Nat)(b:α),cE l k=some b->mL j ((Ac g i l).eraseIdx (FE l k))=Ac g j (Es l k)/\(Es l k).length=l.length-1
 |[],_,_,_,h=>by grind [cE]
 |(m, a) :: l, i, j, b, h => by
  by_cases hk:m=k
  ·grind [FE,Es,Ac,Mx]
  ·simp only[cE,if_neg hk] at h;obtain ⟨o,p⟩:=HA l (i+1) (j+1) b h;have r:0<l.length:=by
    grind [cE]
   simp only[FE,Es,hk,Ac,cn,List.eraseIdx_cons_succ,mL,List.length_cons];exact ⟨by rw[o],by omega⟩
theorem op_del{h:IntKind}{m k:aN}{b:Nat}{g:α->D}{l:List (Int×α)}{i:Int}(hm:lx al m=some (.mp b))(j:σ[b]? = some (MB g l))(hk:lx al k=some (I i))(hs:σ.set b (MB g (Es l i))=σ1) :
  eG P orc n al σ (.del (.int h) m k) (.aQ []) σ1 [b]:=λe a=>by
 subst hs;simp only[ba,eS a hm,eS a hk,gD,j,Option.bind_eq_bind,Option.bind_some,yQ];cases o:cE l i with
 |some p=>
  obtain ⟨r,s⟩:=HA (g:=g) l 0 0 p o
  grind
 |none=>grind [Gr]
theorem QB{f:Fn}{first cap:List aN}{a b:List D}(h:UX al first=some a)(i:UX al cap=some b):eG P orc n al σ (.DU f first cap) (.fn f a b) σ []:=λe j=>by grind [ba,Jq]
theorem Kj{g:FuncId}{f:aN}{args:List aN}{ds a b:List D}{w:List Nat}(h:lx al f=some (.fn (.func g) a b))(i:UX al args=some ds)(j:orc g (a++ds++b) σ=some (d,σ1,w)):eG P orc n al σ (.call f args) d σ1 w:=λe l=>by grind [ba,eS,Jq]
theorem Yb{g:FuncId}{f:aN}{args:List aN}{ds:List D}{a b:List C}{w:List Nat}(h:lx al f=some (.c (.fn (.func g) a b)))(i:UX al args=some ds)(j:orc g (a.map .c++ds++b.map .c) σ=some (d,σ1,w)):eG P orc n al σ (.call f args) d σ1 w:=λe l=>by grind [ba,eS,Jq]
theorem op_idxS{aw j b off len sz:Nat}{x i:aN}{k:Int}{cs:List D}(h:lx al x=some (.sl b off len aw sz))(l:lx al i=some (I k))(m:mP σ b sz=some cs)(hk:Bx k len=some j)(hd:D.ptr b (off+j * aw) sz=d) :
  eG P orc n al σ (.idx aw none x i) d σ []:=λe a=>by
 subst hd;simp only[ba,eS a h,eS a l,tP,Option.bind_eq_bind,Option.bind_some,m,hk,if_true]
theorem ZS{b off len aw sz:Nat}{x:aN}{cs:List D}(h:lx al x=some (.sl b off len aw sz))(a:mP σ b sz=some cs)(hd:I len=d):eG P orc n al σ (.len x) d σ []:=λe i=>by grind [ba,HC,eS]
theorem TL{x:aN}{cs:List C}{off:Nat}(h:lx al x=some (.c (.cD cs off))):eG P orc n al σ (.nD x) (.c (.cD cs off)) σ []:=λe a=>by grind [ba,eS]
theorem Uy{x:aN}{f:FuncId}{a b:List C}(h:lx al x=some (.c (.fn (.func f) a b))):eG P orc n al σ (.nD x) (.c (.fn (.func f) a b)) σ []:=λe i=>by grind [ba,eS]
theorem He{x:aN}{f:FuncId}{a b:List D}(h:lx al x=some (.fn (.func f) a b)):eG P orc n al σ (.nD x) (.fn (.func f) a b) σ []:=λe i=>by grind [ba,eS]
end
section
variable{P:Program}{orc:vD}{n:Nat}{al:AL}{σ σ1:ar}{d d1 d2:D}{α:Type}{f:α->List C}{aw:Nat}
theorem En{a:Nat}{s x:aN}{m:List α}(h:lx al s=some (.c (.lit (.slice none 0 0))))(p:lx al x=some d)(hm:Src σ f aw d m)(r:Nat.ble m.length 1000000=true)
  (l:Nat.ble a 1000=true) (hd:OS aw σ.length m.length=d1) (hs:σ++[OB f m]=σ1):eG P orc n al σ (.append aw a s x) d1 σ1 []:=by
 subst hd hs;have i:a<=1000:=Cq l;have j:m.length<=1000000:=Cq r;have b:EZ m.length a=true:=by have:m.length * a<=1000000 * 1000:=yCi j i;simp only[EZ,bG,br];omega
 intro e o;have:ba P orc (.append aw a s x) e σ=(HC σ d).bind λk=>(Wg σ aw k d).bind λnew=>if EZ k a then some (.sl σ.length 0 k aw (k * aw),σ++[.cells new],[]) else none:=by simp only[ba,eS o h,eS o p];rfl
 rw[this,hm.1,aD,hm.2,aD,if_pos b]
end
def Oy:Nat->C->C
 |n+1,.cB _ es=>.cB false (es.map λe=>e.map (Oy n))
 |_+1,.lit (.slice none 0 0)=>.cB false []
 |_,x=>x
theorem Ru{Fz:Nat->Prop}{w:World}:∀(n:Nat){x:C}{v:Value},VC Fz w x v->VC Fz w (Oy n x) v:=by
 intro n;induction n with
 |zero=>intro x v h;exact h
 |succ n ih=>
  intro x v h;by_cases z:x=.lit (.slice none 0 0)
  ·subst z;cases h;exact .cB (es:=[]) 0 none 0 (by simp) (λ_=>rfl) (λ_ _=>undef) (by simp) (by simp) (by simp) (by simp)
  cases h with
  | @cB nn es aw a cap A E c F u y l=>
   have h:=VC.cB (Fz:=Fz) (w:=w) (nn:=false) (es:=es.map λe=>e.map (Oy n)) aw a cap (by simp) E c (λe O=>?_) (by simp_all) (λi j e d m p=>?_) (λi j e d m p=>?_)
   ·rw[xw] at h;exact h
   ·grind
   ·grind
   grind
  |lit v=>
   have:Oy (n+1) (.lit v)=.lit v:=by
    unfold Oy
    simp_all
   rw[this];exact .lit v
  |cD blk o c r y l=>exact .cD blk o c r y l
  |fn G K m p l L=>exact .fn G K m p l L
  |Ld blk b s r N hs hk l=>exact .Ld blk b s r N hs hk l
  |Va g=>exact .Va g
def nrmY:D->D
 |.c x=>.c (Oy 5 x)
 |.agg ds=>.agg (ds.map λd=>match d with | .c x=>.c (Oy 5 x) | d=>d)
 |d=>d
theorem Ev.of_nrmY{d j:D}(h:nrmY d=j):Ev d j:=by
 subst h;intro σ M Fz w v h;unfold nrmY;split
 ·cases h with | c h=>exact .c (Ru 5 h)
 ·cases h with
  |agg o z s=>
   refine .agg o (by simp_all) (λi d v a b=>?_);simp only[lY,cu] at a;obtain ⟨u,x,rfl⟩:=a;have:=s i u v x b;split
   ·cases this with | c h=>exact .c (Ru 5 h)
   omega
 omega
def ObFz(S F:D):Ob->Ob->Prop
 |.map es c,.map b l=>c=l/\b.length=es.length/\∀(i:Nat) k a n,b[i]? = some (k,a,n)->∃d,es[i]? = some (k,d,n)/\(a=d∨d=S/\a=F)
 |.cells j,.cells h=>h.length=j.length/\∀(i:Nat) a,h[i]? = some a->∃d,j[i]? = some d/\(a=d∨d=S/\a=F)
 |_,_=>False
theorem ObFz.sz{S F:D}{ob ob':Ob}(h:ObFz S F ob ob'):ob'.sz=ob.sz:=by
 cases ob <;> cases ob' <;> simp only[ObFz] at h
 ·exact h.1
 ·rfl
section
variable{P:Program}{σ σ0 σ1:ar}{n:Nat}{al:AL}{ac:aP}{Q:mF->AL->ar->Prop}{α:Type}{f:α->List C}{aw:Nat}
end
end Go.Abs
end
section
namespace Go.Fl
open Ieee
theorem log2_lt{n k:Nat}(a:n≠0)(h:n<2 ^ k):n.log2<k:=(Nat.log2_lt a).2 h
theorem QJ{n:Nat}(a:n≠0):2 ^ n.log2<=n:=Nat.log2_self_le a
theorem Sn(n:Nat):n<2 ^ (n.log2+1):=Nat.lt_log2_self
theorem lp:double.leastPlace=-1074:=by decide
def can(s:Bool)(n:Nat):Datum:=if n=0 then .number s 0 (-1074) else .number s (n * 2 ^ (52-n.log2)) ((n.log2:Int)-52)
theorem EP(a:Toward)(s:Bool)(n:Nat):a.cut s n 0=n:=by
 unfold Toward.cut;have h:1 <<< min 0 (n.log2+2)=1:=by simp_all
 have b:n % 1=0:=Nat.mod_one n;simp only[h,Nat.div_one,b];cases a <;> simp
theorem SY{s:Bool}{n d m:Nat}(hd:d<=n.log2+2)(h:n=m * 2 ^ d):Toward.even.cut s n d=m:=by
 unfold Toward.cut;have a:1 <<< min d (n.log2+2)=2 ^ d:=by rw[Nat.min_eq_left hd,Nat.one_shiftLeft]
 have b:0<2 ^ d:=Nat.pow_pos (by decide)
 simp_all
theorem zm{m d:Nat}(h:m≠0):(m * 2 ^ d).log2=m.log2+d:=by
 have b:=QJ h;have i:=Sn m;have a:m * 2 ^ d≠0:=by grind [Nat.mul_ne_zero]
 apply Nat.le_antisymm
 ·have:m * 2 ^ d<2 ^ (m.log2+d+1):=by
   rw[show m.log2+d+1=(m.log2+1)+d by omega,yCe];exact yBO i (Nat.pow_pos (by decide))
  have:=log2_lt a this;omega
 ·have:2 ^ (m.log2+d)<=m * 2 ^ d:=by
   rw[yCe];exact FU _ b
  exact (Nat.le_log2 a).2 this
theorem SP{s:Bool}{n k:Nat}(a:n≠0)(h:n<2 ^ 53):double.nearest s (n * 2 ^ k) (-(k:Int))=double.nearest s n 0:=by
 have o:=log2_lt a h;have e:(n * 2 ^ k).log2=n.log2+k:=zm a;have j:n * 2 ^ k≠0:=Nat.mul_ne_zero a (by simp_all);have fb:double.fractionBits=52:=rfl;have l:max (-(k:Int)+((n * 2 ^ k).log2:Nat)-((52:Nat):Int)) (-1074)=(n.log2:Int)-52:=by omega
 have m:max ((0:Int)+(n.log2:Nat)-((52:Nat):Int)) (-1074)=(n.log2:Int)-52:=by omega
 have p:Toward.even.cut s ((n * 2 ^ k) <<< (-(k:Int)-((n.log2:Int)-52)).toNat) (((n.log2:Int)-52) - -(k:Int)).toNat=n * 2 ^ (52-n.log2):=by
  by_cases hk:k+n.log2<=52
  ·have b:(-(k:Int)-((n.log2:Int)-52)).toNat=52-n.log2-k:=by omega
   have i:(((n.log2:Int)-52) - -(k:Int)).toNat=0:=by omega
   rw[b,i,EP,Nat.shiftLeft_eq,Nat.mul_assoc,<-yCe]
   grind
  ·have b:(-(k:Int)-((n.log2:Int)-52)).toNat=0:=by omega
   have i:(((n.log2:Int)-52) - -(k:Int)).toNat=k+n.log2-52:=by omega
   rw[b,i,Nat.shiftLeft_zero];refine SY (by omega) ?_;rw[Nat.mul_assoc,<-yCe]
   grind
 have r:Toward.even.cut s (n <<< ((0:Int)-((n.log2:Int)-52)).toNat) (((n.log2:Int)-52)-0).toNat=n * 2 ^ (52-n.log2):=by
  have b:((0:Int)-((n.log2:Int)-52)).toNat=52-n.log2:=by omega
  have i:(((n.log2:Int)-52)-0).toNat=0:=by omega
  grind [EP,Nat.shiftLeft_eq]
 unfold Format.nearest;rw[if_neg j,if_neg a]
 grind [lp]
theorem SM{s:Bool}{n:Nat}(h:n<2 ^ 53):double.read (double.nearest s n 0)=can s n:=by
 by_cases b:n=0
 ·subst b;cases s <;> rfl
 have p:=log2_lt b h;have r:=QJ b;have u:=Sn n;have fb:double.fractionBits=52:=rfl;have a:max ((0:Int)+(n.log2:Nat)-((52:Nat):Int)) (-1074)=(n.log2:Int)-52:=by omega
 have i:Toward.even.cut s (n <<< ((0:Int)-((n.log2:Int)-52)).toNat) (((n.log2:Int)-52)-0).toNat=n * 2 ^ (52-n.log2):=by
  have G:((0:Int)-((n.log2:Int)-52)).toNat=52-n.log2:=by omega
  have N:(((n.log2:Int)-52)-0).toNat=0:=by omega
  grind [EP,Nat.shiftLeft_eq]
 have v:4503599627370496<=n * 2 ^ (52-n.log2):=by have:2 ^ n.log2 * 2 ^ (52-n.log2)<=n * 2 ^ (52-n.log2):=FU _ r;rw[<-yCe,show n.log2+(52-n.log2)=52 by omega] at this;omega
 have x:n * 2 ^ (52-n.log2)<9007199254740992:=by have:n * 2 ^ (52-n.log2)<2 ^ (n.log2+1) * 2 ^ (52-n.log2):=yBO u (Nat.pow_pos (by decide));rw[<-yCe,show n.log2+1+(52-n.log2)=53 by omega] at this;omega
 have m:double.infRung=9218868437227405312:=by decide
 have y:double.signWeight=9223372036854775808:=by decide
 have o:double.binade=4503599627370496:=by decide
 unfold can;rw[if_neg b];generalize n * 2 ^ (52-n.log2)=K at i v x ⊢;generalize z:n.log2=L at i a p ⊢;have A:double.nearest s n 0=double.word s ((L+1022) * 4503599627370496+K):=by
  unfold Format.nearest;rw[if_neg b];simp only[fb,lp,z,a,i,m,o];have E:(((L:Int)-52) - -1074).toNat=L+1022:=by omega
  rw[E,Nat.min_eq_left (by omega)]
 rw[A];generalize O:(L+1022) * 4503599627370496+K=R;have F:R<9223372036854775808:=by omega
 have j:(double.word s R / double.signWeight % 2 == 1)=s:=by
  unfold Format.word;rw[y];cases s
  ·grind
  ·rw[if_pos rfl,Nat.add_div_left _ (by decide),Nat.div_eq_of_lt F];rfl
 have l:double.word s R % double.signWeight=R:=by
  unfold Format.word
  grind
 unfold Format.read;simp only[j,l,o,m,lp]
 grind
theorem VX(s:Bool)(k:Nat):Datum.number s (0 * 2 ^ k) (-(k:Int))=Datum.number s 0 (-(k:Int)):=by simp_all
theorem mw(s:Bool){n:Nat}(h:n<2 ^ 53):∃k:Nat,can s n=.number s (n * 2 ^ k) (-(k:Int)):=by
 unfold can;split
 ·rename_i e;subst e;exact ⟨1074,(VX s 1074).symm⟩
 ·rename_i a;have:=log2_lt a h
  grind
theorem OE(s:Bool){n:Nat}(k:Nat)(h:n<2 ^ 53):double.nearest s (n * 2 ^ k) (-(k:Int))=double.nearest s n 0:=by
 by_cases a:n=0
 ·subst a;rw[yBY];unfold Format.nearest
  simp_all
 grind [SP]
def fl(n:Int):Nat:=FloatKind.f64.nearest n
theorem VT(n:Int):fl n=double.nearest (decide (n<0)) n.natAbs 0:=rfl
theorem re{n:Int}(h:n.natAbs<2 ^ 53):double.read (fl n)=can (decide (n<0)) n.natAbs:=SM h
def sg(s:Bool)(n:Nat):Int:=if s then -(n:Int) else n
theorem Gv(s:Bool)(n i m:Nat)(h:i<=m):signed s (n * 2 ^ i) (m-i)=sg s n * (2 ^ m:Nat):=by
 have e:(n * 2 ^ i) <<< (m-i)=n * 2 ^ m:=by rw[Nat.shiftLeft_eq,Nat.mul_assoc,<-yCe];simp_all
 unfold signed sg;rw[e]
 grind
theorem XZ(s t:Bool)(a b i j:Nat):Datum.sum (.number s (a * 2 ^ i) (-(i:Int))) (.number t (b * 2 ^ j) (-(j:Int))) =
  some (.number (if sg s a+sg t b=0 then s&&t else decide (sg s a+sg t b<0)) ((sg s a+sg t b).natAbs * 2 ^ (max i j)) (-((max i j:Nat):Int))):=by
 unfold Datum.sum;have p:min (-(i:Int)) (-(j:Int))=-((max i j:Nat):Int):=by omega
 have r:(-(i:Int) - -((max i j:Nat):Int)).toNat=max i j-i:=by omega
 have u:(-(j:Int) - -((max i j:Nat):Int)).toNat=max i j-j:=by omega
 simp only[p,r,u,Gv s a i (max i j) (by omega),Gv t b j (max i j) (by omega),<-Int.add_mul];have o:(0:Int)<((2 ^ max i j:Nat):Int):=by have:0<2 ^ max i j:=Nat.pow_pos (by decide);omega
 have z:((sg s a+sg t b) * ((2 ^ max i j:Nat):Int)=0)↔sg s a+sg t b=0:=by grind [Int.mul_eq_zero]
 have l:((sg s a+sg t b) * ((2 ^ max i j:Nat):Int)<0)↔sg s a+sg t b<0:=by
  constructor
  ·intro h;rcases yCk (sg s a+sg t b) 0 with m | m
   ·exact m
   ·have:=yBL m (Int.le_of_lt o);omega
  ·intro h;exact Int.mul_neg_of_neg_of_pos h o
 grind
theorem PT(n:Int):sg (decide (n<0)) n.natAbs=n:=by
 unfold sg
 grind
theorem fl_add{a b:Int}(p:a.natAbs<2 ^ 52)(r:b.natAbs<2 ^ 52):double.add (fl a) (fl b)=some (fl (a+b)):=by
 have h:a.natAbs<2 ^ 53:=by omega
 have l:b.natAbs<2 ^ 53:=by omega
 obtain ⟨i,m⟩:=mw (decide (a<0)) h;obtain ⟨j,o⟩:=mw (decide (b<0)) l;unfold Format.add;rw[re h,re l,m,o,XZ,PT,PT];simp only[Option.map_some,Format.write];rw[OE _ _ (by omega),VT]
 grind
theorem fl_sub{a b:Int}(p:a.natAbs<2 ^ 52)(r:b.natAbs<2 ^ 52):double.sub (fl a) (fl b)=some (fl (a-b)):=by
 have h:a.natAbs<2 ^ 53:=by omega
 have l:b.natAbs<2 ^ 53:=by omega
 obtain ⟨i,m⟩:=mw (decide (a<0)) h;obtain ⟨j,o⟩:=mw (decide (b<0)) l;have hs:sg (!decide (b<0)) b.natAbs=-b:=by
  unfold sg
  grind
 unfold Format.sub;rw[re h,re l,m,o];simp only[Datum.opposite];rw[XZ,PT,hs];simp only[Option.map_some,Format.write];rw[OE _ _ (by omega),VT,<-Int.sub_eq_add_neg]
 grind
theorem fl_mul{a b:Int}(v:0<=a)(x:0<=b)(l:a.natAbs<2 ^ 53)(o:b.natAbs<2 ^ 53)(h:(a * b).natAbs<2 ^ 53):double.mul (fl a) (fl b)=some (fl (a * b)):=by
 obtain ⟨i,p⟩:=mw (decide (a<0)) l;obtain ⟨j,r⟩:=mw (decide (b<0)) o;have s:decide (a<0)=false:=by simp_all
 have u:decide (b<0)=false:=by simp_all
 have y:decide (a * b<0)=false:=by grind [Int.mul_nonneg]
 unfold Format.mul;rw[re l,re o,p,r];simp only[Datum.product,s,u,Option.map_some,Format.write];have m:a.natAbs * 2 ^ i * (b.natAbs * 2 ^ j)=(a * b).natAbs * 2 ^ (i+j):=by grind
 grind [OE,VT]
theorem fl_int{n:Int}(h:n.natAbs<2 ^ 53):(double.read (fl n)).toInt .zero=some n:=by
 obtain ⟨k,hk⟩:=mw (decide (n<0)) h;rw[re h,hk];unfold Datum.toInt Datum.integral;have a:(-(k:Int)).toNat=0:=by omega
 have b:(- -(k:Int)).toNat=k:=by omega
 have c:Toward.zero.cut (decide (n<0)) (n.natAbs * 2 ^ k) k=n.natAbs:=by
  by_cases i:n.natAbs=0
  ·rw[i,yBY];unfold Toward.cut;simp
  ·unfold Toward.cut
   grind [zm,Nat.one_shiftLeft,Nat.mul_div_cancel]
 simp only[a,b,Nat.shiftLeft_zero,c]
 grind [Ieee.signed]
end Go.Fl
end
section
namespace Go.Abs
variable[Gl]
def isC:D->Bool
 |.c _=>true
 |_=>false
section
variable{σ σ':ar}{M M':Nat->Option Nat}{Fz Fz':Nat->Prop}{w w':World}
theorem XX(ob:Ob):nq σ (σ++[ob]):=λb o h=>⟨o,by grind,rfl⟩
theorem NW(R:Rel σ M Fz w){z:List D}{b:Nat}(hb:σ[b]? = some (.cells z))(hM:M b=none)(hz:z.all isC=true){A:Nat->Option Nat}{j:Nat->Prop}{w1:World}{v:Value}
  (N:Rel (σ++[.cells z]) A j w1) (hv:V (σ++[.cells z]) A j w1 (.ptr σ.length 0 z.length) v) (EV:bD σ M Fz w (σ++[.cells z]) A j w1) :
  ∃ O, Rel σ O j w1 /\ V σ O j w1 (.ptr b 0 z.length) v /\ (∀ x c, M x = some c -> O x = some c) /\ (∀ x, x ≠ b -> O x = M x) /\
   ∀(σ0:ar)(M0:Nat->Option Nat)(Fz0:Nat->Prop)(w0:World),bD σ0 M0 Fz0 w0 σ M Fz w->σ0.length<=σ.length->σ0.length<=b->bD σ0 M0 Fz0 w0 σ O j w1:=by
 have ak:=(gg.1 hb).1;have p:∀x,x<σ.length->A x=M x:=λx u=>by have S:σ[x]? = some σ[x]:=eH u;obtain ⟨U,r,_,F⟩:=EV.keep x _ S;rw[HI u,S] at r;simp only[au] at r;exact F (by rw[<-r])
 have s:(σ++[Ob.cells z])[σ.length]? = some (.cells z):=by simp
 obtain ⟨G,a,l,ha,rfl⟩:∃G a,A σ.length=some G/\a=(⟨G,0,none⟩:Addr)/\v=.pointer (some a):=by
  cases hv with
  |ptr a W h an hv=>rw[s] at h;simp only[au] at h;subst h;obtain ⟨c,r,m⟩:=hv (by simp[Ob.sz]);exact ⟨c,a,r,m,rfl⟩
 have Z:w.heap.size<=G:=by
  rcases EV.kK _ _ l with ⟨b0,h⟩ | h
  ·have X:=(R.lt h).1;have:=N.inj b0 σ.length G (by rw[p b0 X];exact h) l;omega
  ·exact h
 have e1:∀x c,(if x=b then A σ.length else M x)=some c->(x=b/\c=G)∨(x≠b/\M x=some c):=λx c h=>by
  split at h
  ·rw[l] at h;simp only[au] at h;exact .inl ⟨‹_›,h.symm⟩
  ·exact .inr ⟨‹_›,h⟩
 have aa:∀x c,M x=some c->x≠b:=λx c h e=>by rw[e,hM] at h;simp at h
 have E:∀x c,M x=some c->(if x=b then A σ.length else M x)=some c:=λx c h=>by rw[if_neg (aa x c h)];exact h
 have ab:∀(i:Nat) d,z[i]? = some d->∃x,d=.c x:=λi d h=>by have:=iB.1 hz d (Am h);cases d <;> first | exact ⟨_,rfl⟩ | simp[isC] at this
 refine ⟨λx=>if x=b then A σ.length else M x,⟨λx c h=>?_,λx x' c h h'=>?_,N.fz,N.gl⟩,?_,E,λx u=>if_neg u,λσ0 M0 Fz0 w0 E0 X av=>?_⟩
 ·rcases e1 x c h with ⟨rfl,rfl⟩ | ⟨u,h⟩
  ·obtain ⟨r,W,o,m,F,h4⟩:=N.blk _ _ l;rw[s] at m;simp only[au] at m;subst m;refine ⟨r,_,o,hb,F,?_⟩;obtain ⟨ad,T,ho,X,u⟩:=h4;refine ⟨ad,T,ho,X,λi d v q1 q2=>?_⟩;obtain ⟨x,rfl⟩:=ab i d q1;obtain ⟨q3,q4⟩:=u i _ v q1 q2;refine ⟨?_,q4⟩;cases q3 with
   |c q3=>exact .c q3
  ·obtain ⟨_,ax,o0,k2,_,k4⟩:=R.blk x c h;have K:=(R.lt h).1;obtain ⟨r,W,o,m,F,h4⟩:=N.blk x c (by rw[p x K];exact h);rw[HI K] at m;refine ⟨r,W,o,m,F,?_⟩;rw[k2] at m;simp only[au] at m;subst m;refine (bU.down (XX (.cells z)) h4 k4).cut.sub nq.refl (λy c' Y=>?_);unfold cQ at Y;split at Y
   ·rename_i af;rw[p y af] at Y;exact E y c' Y
   ·simp at Y
 ·rcases e1 x c h with ⟨g1,g2⟩ | ⟨_,g2⟩ <;> rcases e1 x' c h' with ⟨g3,g4⟩ | ⟨_,g4⟩
  ·rw[g1,g3]
  ·have:=(R.lt g4).2;omega
  ·have:=(R.lt g2).2;omega
  ·exact R.inj x x' c g2 g4
 ·subst ha;exact .ptr _ (.cells z) hb (cR _) λ_=>⟨G,by rw[if_pos rfl];exact l,rfl⟩
 ·have L:=E0.trans EV X;refine ⟨L.size,L.frame,λx c h=>?_,L.fz,L.nQ,L.pP,λx W u=>?_,L.out⟩
  ·rcases e1 x c h with ⟨rfl,rfl⟩ | ⟨_,h⟩
   ·exact L.kK _ _ l
   ·exact E0.kK _ _ h
  ·obtain ⟨U,r,m,F⟩:=E0.keep x W u;have K:=(gg.1 u).1;exact ⟨U,r,m,λe=>by rw[if_neg (by omega)];exact F e⟩
end
section
variable{P:Program}{orc:gj}{ops:Array Oper}{os:List aH}{q n0:Nat}{env:Nat->List D}{sg:Nat->ar}{wrs:Nat->List Nat}
variable{M0:Nat->Option Nat}{Fz0:Nat->Prop}{w0:World}{tO:List Deferred}
def oS(os:List aH)(q:Nat):Prop:=∀i,i<q->∃t ao,os[i]? = some ⟨some t,ao,none⟩/\((∃z,ao=.alloc z/\z.all isC=true)∨(∃x,ao=.Ai x)∨∃n x,ao=.load n x)
theorem Lw{P:Program}{orc:vD}{ao:kO}(h:(∃x,ao=.Ai x)∨∃n x,ao=.load n x){env:List D}{σ σ1:ar}{d:D}{wr:List Nat}(a:ba P orc ao env σ=some (d,σ1,wr)) :
  σ1=σ/\wr=[]/\∀aA:ar,(∀b off sz,VO ao env=.ptr b off sz->aA[b]? = σ[b]?)->ba P orc ao env aA=some (d,aA,[]):=by
 rcases h with ⟨x,rfl⟩ | ⟨n,x,rfl⟩
 ·simp only[ba,au,aT] at a;obtain ⟨rfl,rfl,rfl⟩:=a;exact ⟨rfl,rfl,λ_ _=>rfl⟩
 ·simp only[ba] at a;split at a
  ·rename_i b off sz i;simp only[Option.bind_eq_bind,cC,au,aT] at a;obtain ⟨j,m,v,l,rfl,rfl,rfl⟩:=a;refine ⟨rfl,rfl,λaA h=>?_⟩;have e:=h b off sz i
   grind [mP,ba]
  ·rename_i j off i;simp only[Option.bind_eq_bind,cC,au,aT] at a;obtain ⟨v,l,rfl,rfl,rfl⟩:=a;exact ⟨rfl,rfl,λaA _=>by grind [ba]⟩
  simp_all
theorem oS.step(H:oS os q)(T:Tr P orc ops os 0 n0 env sg wrs){i:Nat}(u:i<q):∃t ao d,os[i]? = some ⟨some t,ao,none⟩/\env (i+1)=nW (env i) (some t) d/\wrs i=[]/\ba P (orc (some t)) ao (env i) (sg i)=some (d,sg (i+1),[]) /\
  ((∃z,ao=.alloc z/\z.all isC=true/\d=.ptr (sg i).length 0 z.length/\sg (i+1)=sg i++[.cells z])∨(((∃x,ao=.Ai x)∨∃n x,ao=.load n x)/\sg (i+1)=sg i)):=by
 obtain ⟨t,ao,A,j⟩:=H i u;have:=T.step i _ A;simp only[e_,h_,cu] at this;obtain ⟨⟨d,s1,w1⟩,o,s⟩:=this;simp only[aT] at s;obtain ⟨F,rfl,rfl⟩:=s;rcases j with ⟨z,rfl,G⟩ | j
 ·have E:=o;simp only[ba,au,aT] at E
  grind
 ·obtain ⟨K,O,_⟩:=Lw j o
  grind
theorem oS.wr(H:oS os q)(T:Tr P orc ops os 0 n0 env sg wrs){i:Nat}(j:i<q):wrs i=[]:=by obtain ⟨_,_,_,_,_,h,_⟩:=H.step T j;exact h
theorem oS.blk(H:oS os q)(T:Tr P orc ops os 0 n0 env sg wrs){i t:Nat}{z:List D}(j:i<q)(o:os[i]? = some ⟨some t,.alloc z,none⟩):z.all isC=true/\env (i+1)=nW (env i) (some t) (.ptr (sg i).length 0 z.length)/\sg (i+1)=sg i++[.cells z]:=by
 obtain ⟨s,ao,d,u,x,_,_,A⟩:=H.step T j
 simp_all
structure Lt (os:List aH) (q:Nat) (env:Nat->List D) (sg:Nat->ar) (M0:Nat->Option Nat) (Fz0:Nat->Prop) (w0:World) (tO:List Deferred) (S:Nat->Prop) (k:Nat) (M:Nat->Option Nat) (Fz:Nat->Prop) (w:World) (a:Act):Prop where
 UO:a.tmps.size=(env k).length
 tO:a.defers=tO
 rel:Rel (sg k) M Fz w
 tmp:∀t d v,(∀i x,i<q->os[i]? = some x->x.dst=some t->S i)->(env k)[t]? = some d->a.tmps[t]? = some v->V (sg k) M Fz w d v
 non:∀i t z,i<q->os[i]? = some ⟨some t,.alloc z,none⟩->¬S i->M (sg i).length=none
 evo:bD (sg 0) M0 Fz0 w0 (sg k) M Fz w
theorem Inv.late{S:Nat->Prop}{M:Nat->Option Nat}{Fz:Nat->Prop}{w:World}{a:Act}(I:Inv os n0 env sg wrs M0 Fz0 w0 tO S M Fz w a)(T:Tr P orc ops os 0 n0 env sg wrs)(O:nP P orc)(H:oS os q)
  (hS:∀i,q<=i->i<n0->S i) (hq:q<=n0) (U:∀b,M0 b≠none->b<(sg 0).length):Lt os q env sg M0 Fz0 w0 tO S n0 M Fz w a:=by
 have Y:=T.le;refine ⟨by rw[I.UO,T.AV O T.le],I.tO,⟨λb c h=>?_,I.inj,I.fz,Gl.mono I.Dp.fz I.gl0⟩,λt d v hc x E=>?_,λi t z u W hn=>?_,?_⟩
 ·obtain ⟨x,E,s⟩:=I.own b c h;have A:b<(sg n0).length:=by
   rcases s with ⟨s,_⟩ | ⟨j,X,_,_,s⟩
   ·exact E_ s (T.cA O (by omega) T.le)
   ·exact E_ s (T.cA O (by omega) T.le)
  have F:(sg n0)[b]? = some (sg n0)[b]:=eH A;obtain ⟨o,Z,h5⟩:=I.blk b c h n0 _ (cR _) F (λi u hw=>⟨λ_=>by
   rcases si i q with h | h
   ·rw[H.wr T h] at hw
    grind
   simp_all,λ_=>u⟩)
  simp_all
 ·exact I.tmp t n0 (cR _) (λi o u W hd=>⟨λ_=>by grind,λ_=>u⟩) d v x E
 ·cases G:M (sg i).length with
  |none=>rfl
  |some c=>
   obtain ⟨_,_,s⟩:=I.own _ c G;have l1:=T.cA O (m:=0) (m':=i) (by omega) (by omega);have l2:(sg (i+1)).length=(sg i).length+1:=by rw[(H.blk T u W).2.2];simp
   rcases s with ⟨s,_⟩ | ⟨j,X,aa,Z,h5⟩
   ·omega
   ·rcases US j i with h | h | h
    ·have:=T.cA O (m:=j+1) (m':=i) (by omega) (by omega);omega
    ·simp_all
    ·have:=T.cA O (m:=i+1) (m':=j) (by omega) (by omega);omega
 ·refine ⟨I.Dp.size,I.Dp.frame,λb c h=>?_,I.Dp.fz,λc h=>?_,I.Dp.pP,λb ob A=>?_,I.Dp.out⟩
  ·rcases I.Dp.kK b c h with h | h
   ·grind
   omega
  ·rcases I.Dp.nQ c h with h | h
   ·simp_all
   omega
  ·obtain ⟨K,x,E⟩:=T.sz O (by omega) (cR n0) b ob A;refine ⟨K,x,by omega,λ_=>?_⟩;have ab:=(gg.1 A).1;cases G:M0 b with
   |some c=>exact I.Dp.ext b c G
   |none=>
    cases R:M b with
    |none=>rfl
    |some c=>
     obtain ⟨_,_,s⟩:=I.own b c R;rcases s with ⟨_,s⟩ | ⟨j,X,_,s,_⟩
     ·simp_all
     ·have:=T.cA O (m:=0) (m':=j) (by omega) (by omega);omega
theorem oS.off(H:oS os q)(T:Tr P orc ops os 0 n0 env sg wrs){i k t:Nat}{z:List D}(s:i<q)(o:os[i]? = some ⟨some t,.alloc z,none⟩)(j:i<k)(hk:k<os.length)(x:¬BW ops i k):(sg i).length∉wrs k:=by
 obtain ⟨y,u⟩:=T.at hk;rcases T.pair i k _ y j o u with h | h
 ·simp_all
 ·obtain ⟨_,_,_,_,_,A,_⟩:=fX h;have E:(sg (i+1)).length=(sg i).length+1:=by rw[(H.blk T s o).2.2];simp
  grind [dv]
theorem oS.look(T:Tr P orc ops os 0 n0 env sg wrs){i k t b off sz:Nat}{ao:kO}(o:os[i]? = some ⟨some t,ao,none⟩)(u:(∃x,ao=.Ai x)∨∃n x,ao=.load n x)(z:VO ao (env i)=.ptr b off sz)(j:i<k)(hk:k<os.length)(A:¬BW ops i k):b∉wrs k:=by
 obtain ⟨y,s⟩:=T.at hk;rcases T.pair i k _ y j o s with h | h
 ·simp_all
 ·obtain ⟨_,_,_,E,_⟩:=fX h
  grind [VO,safe,dv,h_,cat]
theorem Jr{a:Act}{b:Option Nat}{v i:Value}{t:Nat}(h:(a.put b v).tmps[t]? = some i):(b=some t/\i=v)∨(b≠some t/\a.tmps[t]? = some i):=by
 cases b with
 |none=>exact .inr ⟨by simp,h⟩
 |some s=>
  simp only[Act.put,Zw] at h
  grind
theorem Du{a:Act}{b:Option Nat}{v:Value}:(a.put b v).tmps.size=a.tmps.size:=by cases b <;> simp[Act.put]
theorem JR{a:Act}{b:Option Nat}{v:Value}:(a.put b v).defers=a.defers:=by cases b <;> rfl
theorem Rw(O:nP P orc)(T:Tr P orc ops os 0 n0 env sg wrs)(H:oS os q)(hq:q<=n0)(b5:∀i j,q<=i->i<j->n0<=j->j<os.length->BW ops i j)
  (hg:∀(i:Nat) x,os[i]? = some x->x.g=none) (a9:∀(i j:Nat) x y t,i<q->i<j->os[i]? = some x->os[j]? = some y->x.dst=some t->y.dst≠some t) (bb:∀(i j:Nat) x y t,i<q->i<=j->os[i]? = some x->os[j]? = some y->y.dst=some t->t∉yB x)
  (b6:∀listed:Array Bool,listed.size=ops.size->Region.ready .any ops listed=[]->∀i,i<ops.size->gq listed i) {Q:Exit->Act->World->Prop}
  (hQ:∀a' w' M' Fz',a'.defers=tO->Rel (sg os.length) M' Fz' w'->dr (sg os.length) M' Fz' w' (env os.length) a'.tmps->bD (sg 0) M0 Fz0 w0 (sg os.length) M' Fz' w'->Q .normal a' w') :
  ∀ (R : Nat) (listed : Array Bool) (k : Nat) (M : Nat -> Option Nat) (Fz : Nat -> Prop) (w : World) (a : Act), listed.size = ops.size -> n0 <= k -> k <= os.length -> (∀ i, q <= i -> i < ops.size -> (gq listed i ↔ i < k)) -> fJ ops (gq listed) ->
   SQ ops.size listed<=R->Lt os q env sg M0 Fz0 w0 tO (gq listed) k M Fz w a->wpAny P .any ops Q R listed a w:=by
 have c3:=T.len;have fin:∀(listed:Array Bool)(k:Nat)(M:Nat->Option Nat)(Fz:Nat->Prop)(w:World)(a:Act),n0<=k->k<=os.length->(∀i,q<=i->i<ops.size->(gq listed i↔i<k))->(∀i,i<ops.size->gq listed i) ->
   Lt os q env sg M0 Fz0 w0 tO (gq listed) k M Fz w a->Q .normal a w:=λlisted k M Fz w a hk u hS ab L=>by
  have b7:k=os.length:=by grind
  subst b7;exact hQ a w M Fz L.tO L.rel ⟨L.UO,λt d v h1 h2=>L.tmp t d v (λi x r _ _=>ab i (by omega)) h1 h2⟩ L.evo
 intro R;induction R with
 |zero=>
  intro listed k M Fz w a bc hk u hS hC hf L;have ab:=ur (N:=ops.size) (listed:=listed) (by omega);refine ⟨?_,fin listed k M Fz w a hk u hS ab L⟩;cases hr:Region.ready .any ops listed with
  |nil=>rfl
  |cons j l=>
   have hm:j∈Region.ready .any ops listed:=by simp_all
   rw[mem_ready] at hm
   grind [gq]
 |succ R ih=>
  intro listed k M Fz w a bc hk u hS hC hf L;refine ⟨λhr=>fin listed k M Fz w a hk u hS (b6 listed bc hr) L,λj hj=>?_⟩;rw[mem_ready] at hj;obtain ⟨h1,o,ho,b8⟩:=hj;have b9:j<ops.size:=(BO.1 ho).1;have an:¬gq listed j:=by grind [gq]
  have ax:∀o' e,ops[j]? = some o'->e∈o'.after->Region.binds .any e=true->gq listed e.on:=λo' e A he cg=>by rw[ho] at A;simp only[au] at A;subst A;exact b8 e he cg
  have a2:fJ ops (gq (listed.setIfInBounds j true)):=by
   intro i o' e r A he U;rw[IA (by omega)] at r ⊢;rcases r with r | rfl
   ·exact .inl (hC i o' e r A he U)
   simp_all
  have hu:=Cx (N:=ops.size) (listed:=listed) (k:=j) (by omega) b9 an;have ch:∀i,i<q->¬gq listed i->¬BW ops i j:=λi r hn U=>hn (U.ready hC ax);rcases si j q with aa | aa
  ·
   obtain ⟨t,ao,d,F,ad,bd,a0,a5⟩:=H.step T aa;obtain ⟨o',A,G⟩:=T.comp j _ F;rw[ho] at A;simp only[au] at A;subst A;unfold bq at G;split at G
   ·rename_i g p a6 E;simp only[au,aH.mk.injEq] at G;obtain ⟨be,rfl,rfl⟩:=G;have same:∀s,s∈yB (⟨some t,p,none⟩:aH)->(env k)[s]? = (env j)[s]?:=λs hs=>
     T.Ad O (m:=j) (m':=k) (t:=s) (by omega) u (λi x r _ Z hd=>bb j i _ x s aa r F Z hd hs)
    have hE:dr (sg k) M Fz w (j_ (yB ⟨some t,p,none⟩) (env k)) a.tmps:=by
     refine ⟨by grind [Lt.UO,j_],λi d v h1 h2=>?_⟩;rw[qp] at h1;simp only[cu] at h1;obtain ⟨d0,h3,h4⟩:=h1;by_cases ht:(yB ⟨some t,p,none⟩).contains i=true
     ·rw[if_pos ht] at h4;subst h4;refine L.tmp i d0 v (λm x hm Z hd=>?_) h3 h2;rcases si m j with bh | bh
      ·rcases T.pair m j x _ bh Z F with U | U
       ·grind
       ·obtain ⟨h5,_⟩:=fX U;exact absurd (show i∈yB ⟨some t,p,none⟩ by simp_all) (h5 i hd)
      grind
     ·rw[if_neg ht] at h4;subst h4;exact .any v
    have W:=oU (ops:=ops) (o:=o) (g:=none) (b:=true) hE a6 rfl;have a1:∀S d' v',(env k)[S]? = some d'->a.tmps[S]? = some v'->S≠t->(∀i x,i<q->os[i]? = some x->x.dst=some S->gq (listed.setIfInBounds j true) i)->V (sg k) M Fz w d' v':=λS d' v' q1 q2 e hc=>by
     refine L.tmp S d' v' (λi x r Z hd=>?_) q1 q2;rcases (IA (by omega) i).1 (hc i x r Z hd) with h | h
     ·exact h
     grind
    have c4:∀d',(env k)[t]? = some d'->d'=d:=λd' q1=>by
     have ck:=T.Ad O (m:=j+1) (m':=k) (t:=t) (by omega) u (λi x r _ Z hd=>a9 j i _ x t aa (by omega) F Z rfl hd);rw[ck,ad] at q1;simp only[nW,yB7,if_true] at q1
     simp_all
    have bi:∀i,q<=i->i<ops.size->(gq (listed.setIfInBounds j true) i↔i<k):=λi r bk=>by rw[IA (by omega),hS i r bk];omega
    unfold wpOp;rw[ho];simp only[W,if_true];left;rcases a5 with ⟨z,rfl,hz,rfl,av⟩ | ⟨a7,av⟩
    ·refine Le (O o.dst) L.rel hE E rfl _ λv w1 M1 af R1 hv EV _=>?_;have cm:(sg j).length<(sg (j+1)).length:=by grind
     have bl:=T.Tj O (m:=j+1) (m':=k) (b:=(sg j).length) (by omega) u cm (λi r a8 hw=>by
      rcases si i q with h | h
      ·rw[H.wr T h] at hw
       grind
      ·exact H.off T aa F (by omega) (by omega) (λU=>an (U.in hC ((hS i h (by omega)).2 a8))) hw)
     rw[av,NG (cR _),yCj,xAf] at bl;obtain ⟨M2,R2,c5,bt,bu,a0⟩:=NW L.rel bl (L.non j t z aa F an) hz R1 hv EV;refine ih (listed.setIfInBounds j true) k M2 af w1 _ (by grind) hk u bi a2 (by omega) ⟨by rw[Du,L.UO],by rw[JR,L.tO],R2,λS d v' hc q1 q2=>?_,λi S z' r K hn=>?_,?_⟩
     ·rcases Jr q2 with ⟨e,rfl⟩ | ⟨e,q2⟩
      ·grind
      ·exact (a1 S d v' q1 q2 (λh=>e (by grind)) hc).sub nq.refl bt EV.fz EV.pP
     ·have co:i≠j:=λe=>hn ((IA (by omega) i).2 (.inr e));have c6:(sg (i+1)).length=(sg i).length+1:=by rw[(H.blk T r K).2.2];simp
      have c7:(sg (j+1)).length=(sg j).length+1:=by grind
      rw[bu _ (by
       intro e;rcases Nat.lt_or_gt_of_ne co with h | h
       ·have:=T.cA O (m:=i+1) (m':=j) (by omega) (by omega);omega
       ·have:=T.cA O (m:=j+1) (m':=i) (by omega) (by omega);omega)]
      exact L.non i S z' r K (λh=>hn ((IA (by omega) i).2 (.inl h)))
     ·exact a0 _ _ _ _ L.evo (T.cA O (by omega) u) (T.cA O (by omega) (by omega))
    ·have bv:ba P (orc (some t)) p (env j) (sg j)=some (d,sg j,[]):=by grind
     have X:∀σ,ba P (orc (some t)) p (j_ (yB ⟨some t,p,none⟩) (env k)) σ=ba P (orc (some t)) p (env j) σ:=λσ=>by
      refine xN (mU E) (λx Z=>?_);have bw:∀n,x=.t n->n∈yB (⟨some t,p,none⟩:aH):=λn hn=>by
       subst hn;simp only[yB,mQ,List.mem_filterMap]
       grind
      rw[zp bw];cases x with
      |k d=>rfl
      |t n=>simp only[aN.ev,same n (bw n rfl)]
     have b0:ba P (orc o.dst) p (j_ (yB ⟨some t,p,none⟩) (env k)) (sg k)=some (d,sg k,[]):=by
      rw[be,X];refine (Lw a7 bv).2.2 (sg k) (λb off sz Z=>?_);by_cases Y:b<(sg j).length
      ·exact T.Tj O (m:=j) (m':=k) (b:=b) (by omega) u Y (λi r a8 hw=>by
        rcases si i q with h | h
        ·rw[H.wr T h] at hw
         grind
        ·exact oS.look T F a7 Z (by omega) (by omega) (λU=>an (U.in hC ((hS i h (by omega)).2 a8))) hw)
      ·exfalso;rcases a7 with ⟨x,rfl⟩ | ⟨n,x,rfl⟩
       ·grind [VO]
       grind [VO,ba,mP]
     refine Le (O o.dst) L.rel hE E b0 _ λv w1 M1 af R1 hv EV _=>?_;refine ih (listed.setIfInBounds j true) k M1 af w1 _ (by grind) hk u bi a2 (by omega) ⟨by rw[Du,L.UO],by rw[JR,L.tO],R1,λS d' v' hc q1 q2=>?_,λi S z' r K hn=>?_,?_⟩
     ·rcases Jr q2 with ⟨e,rfl⟩ | ⟨e,q2⟩
      ·grind
      ·exact (a1 S d' v' q1 q2 (λh=>e (by grind)) hc).mono EV
     ·have Y:(sg i).length<(sg k).length:=by
       have h1:(sg (i+1)).length=(sg i).length+1:=by rw[(H.blk T r K).2.2];simp
       have:=T.cA O (m:=i+1) (m':=k) (by omega) u;omega
      obtain ⟨cp,k1,_,k3⟩:=EV.keep _ _ (eH Y);rw[eH Y] at k1;simp only[au] at k1;rw[k3 (by grind)];exact L.non i S z' r K (λh=>hn ((IA (by omega) i).2 (.inl h)))
     ·exact L.evo.trans EV (T.cA O (by omega) u)
   simp_all
  ·have c8:k<=j:=by
    simp_all
   have cv:j=k:=by
    rcases si k j with h | h
    ·have U:=b5 k j (by omega) h (by omega) (by omega);have:=(hS k (by omega) (by omega)).1 (U.ready hC ax);omega
    ·omega
   subst cv;obtain ⟨ao,F⟩:=T.at (i:=j) (by omega);obtain ⟨o',A,G⟩:=T.comp j ao F;rw[ho] at A;simp only[au] at A;subst A;have ak:=T.step j ao F;have b1:=hg j ao F;have hE:dr (sg j) M Fz w (j_ (yB ao) (env j)) a.tmps:=by
    refine ⟨by grind [Lt.UO,j_],λi d v h1 h2=>?_⟩;rw[qp] at h1;simp only[cu] at h1;obtain ⟨d0,h3,h4⟩:=h1;by_cases ht:(yB ao).contains i=true
    ·rw[if_pos ht] at h4;subst h4;refine L.tmp i d0 v (λm x hm Z hd=>?_) h3 h2;rcases T.pair m j x ao (by omega) Z F with U | U
     ·grind
     ·obtain ⟨h5,_⟩:=fX U;exact absurd (show i∈yB ao by simp_all) (h5 i hd)
    ·rw[if_neg ht] at h4;subst h4;exact .any v
   unfold bq at G;split at G
   ·rename_i g p a6 E;simp only[au] at G;subst G;simp only at b1;subst b1;have W:=oU (ops:=ops) (o:=o) (g:=none) (b:=true) hE a6 rfl;have X:ba P (orc o.dst) p (j_ (yB ⟨o.dst,p,none⟩) (env j)) (sg j)=ba P (orc o.dst) p (env j) (sg j):=by
     refine xN (mU E) (λx Z=>zp (λn hn=>?_));subst hn;simp only[yB,mQ,List.mem_filterMap]
     grind
    simp only[e_,h_,cu] at ak;obtain ⟨⟨d,σ1,bT⟩,c0,h⟩:=ak;simp only[aT] at h;obtain ⟨ad,av,bd⟩:=h;subst av bd;unfold wpOp;rw[ho];simp only[W,if_true];left;refine Le (O o.dst) L.rel hE E (by rw[X];exact c0) _ λv w1 M1 af R1 hv EV _=>?_;refine ih (listed.setIfInBounds j true) (j+1) M1 af w1 _ (by grind) (by omega) (by omega) (λi r bk=>?_) a2 (by omega) ⟨by rw[Du,L.UO,T.AV O (m:=j) (by omega),T.AV O (m:=j+1) (by omega)],by rw[JR,L.tO],R1,λS d' v' hc q1 q2=>?_,λi c2 z' r K hn=>?_,?_⟩
    ·grind [IA]
    ·rw[<-ad] at q1;rcases Jr q2 with ⟨e,rfl⟩ | ⟨e,q2⟩
     ·rw[e] at q1;simp only[nW,yB7,if_true] at q1
      simp_all
     ·have q3:(env j)[S]? = some d':=by
       rw[<-q1];cases hd:o.dst with
       |none=>rfl
       |some s=>grind [nW,List.getElem?_set_ne]
      refine (L.tmp S d' v' (λi x r Z hd=>?_) q3 q2).mono EV
      grind [IA]
    ·have b2:¬gq listed i:=λh=>hn ((IA (by omega) i).2 (.inl h));have b3:=H.off T r K (by omega) (by omega) (ch i r b2);have Y:(sg i).length<(sg j).length:=by
      have h1:(sg (i+1)).length=(sg i).length+1:=by rw[(H.blk T r K).2.2];simp
      have:=T.cA O (m:=i+1) (m':=j) (by omega) (by omega);omega
     have b4:(sg j)[(sg i).length]? = some (sg j)[(sg i).length]:=eH Y;obtain ⟨cp,k1,_,k3⟩:=EV.keep _ _ b4;rw[(T.frame O (i:=j) (by omega)).2 _ Y b3,b4] at k1;simp only[au] at k1;rw[k3 (by simp_all)];exact L.non i c2 z' r K b2
    ·exact L.evo.trans EV (T.cA O (by omega) (by omega))
   simp_all
theorem Uj{M:Nat->Option Nat}{Fz:Nat->Prop}{w:World}{a:Act}(O:nP P orc)(T:Tr P orc ops os 0 n0 env sg wrs)(H:oS os q)(hq:q<=n0)(K:∀i j,q<=i->i<j->n0<=j->j<os.length->BW ops i j)
  (hg:∀(i:Nat) x,os[i]? = some x->x.g=none) (v:∀(i j:Nat) x y t,i<q->i<j->os[i]? = some x->os[j]? = some y->x.dst=some t->y.dst≠some t) (z:∀(i j:Nat) x y t,i<q->i<=j->os[i]? = some x->os[j]? = some y->y.dst=some t->t∉yB x)
  (W:∀listed:Array Bool,listed.size=ops.size->Region.ready .any ops listed=[]->∀i,i<ops.size->gq listed i) (R:Rel (sg 0) M Fz w) (E:dr (sg 0) M Fz w (env 0) a.tmps) {Q:Exit->Act->World->Prop}
  (hQ:∀u w' M' Fz',u.defers=a.defers->Rel (sg os.length) M' Fz' w'->dr (sg os.length) M' Fz' w' (env os.length) u.tmps->bD (sg 0) M Fz w (sg os.length) M' Fz' w'->Q .normal u w') :
  wpAny P .any ops Q ops.size (Array.replicate ops.size false) a w:=by
 have an:=T.len;have X:=T.le;have A:∀b,M b≠none->b<(sg 0).length:=λb h=>by
  cases hM:M b with
  |none=>simp_all
  |some c=>exact (R.lt hM).1
 have Y:∀(l:Nat)(listed:Array Bool)(M':Nat->Option Nat)(Fz':Nat->Prop)(w':World)(u:Act),listed.size=ops.size->SQ ops.size listed<=l->fJ ops (gq listed)->(∀i,gq listed i->i<n0) ->
   Inv os n0 env sg wrs M Fz w a.defers (gq listed) M' Fz' w' u->wpAny P .any ops Q l listed u w':=by
  intro l;induction l with
  |zero=>intro listed M' Fz' w' u L hu U S I;have F:=ur (N:=ops.size) (listed:=listed) (by omega);exact Rw O T H hq K hg v z W hQ 0 listed n0 M' Fz' w' u L (cR _) X (λi _ r=>⟨λh=>S i h,λ_=>F i r⟩) U (by omega) (I.late T O H (λi _ h=>F i (by omega)) hq A)
  |succ l ih=>
   intro listed M' Fz' w' u L hu U S I;by_cases m:∀i,q<=i->i<n0->gq listed i
   ·exact Rw O T H hq K hg v z W hQ (l+1) listed n0 M' Fz' w' u L (cR _) X (λi r _=>⟨λh=>S i h,λh=>m i r h⟩) U hu (I.late T O H m hq A)
   ·refine ⟨λhr=>?_,λj hj=>?_⟩
    ·grind
    ·rw[mem_ready] at hj;obtain ⟨h1,o,ho,aa⟩:=hj;have ab:j<ops.size:=(BO.1 ho).1;have Z:¬gq listed j:=by
      grind [gq]
     have G:∀o' e,ops[j]? = some o'->e∈o'.after->Region.binds .any e=true->gq listed e.on:=λo' e s he ad=>by rw[ho] at s;simp only[au] at s;subst s;exact aa e he ad
     have af:j<n0:=by
      rcases si j n0 with h | h
      ·exact h
      ·exact absurd (λi r av=>(K i j r (by omega) h (by omega)).ready U G) m
     refine I.step (S':=gq (listed.setIfInBounds j true)) T O U af Z G (λi=>IA (by omega) i) _ λa1 w1 M1 ak I1=>?_;refine ih (listed.setIfInBounds j true) M1 ak w1 a1 (by grind) ?_ ?_ ?_ I1
     ·have:=Cx (N:=ops.size) (listed:=listed) (k:=j) (by omega) ab Z;omega
     ·intro i o' e r s he hb;rw[IA (by omega)] at r ⊢;rcases r with r | rfl
      ·exact .inl (U i o' e r s he hb)
      simp_all
     grind [IA]
 have p:∀i,¬gq (Array.replicate ops.size false) i:=λi h=>by grind [gq,iP]
 refine Y ops.size _ M Fz w a (by simp) ?_ (λj o e hj=>absurd hj (p j)) (λi r=>absurd r (p i)) (Inv.start R rfl E (λi _=>⟨λh=>absurd h (p i),λh=>by omega⟩) T O)
 grind [SQ]
def wk(g:Nat->Nat)(o:Oper):Oper:={ o with after:=o.after.map λe=>{ e with on:=g e.on } }
structure Perm (ops ops2:Array Oper) (f g:Nat->Nat):Prop where
 size:ops2.size=ops.size
 get:∀i,i<ops.size->ops2[i]? = (ops[f i]?).map (wk g)
 Th:∀i,i<ops.size->f i<ops.size
 JQ:∀i,i<ops.size->g i<ops.size
 fg:∀i,i<ops.size->f (g i)=i
 gf:∀i,i<ops.size->g (f i)=i
 guard:∀(i:Nat) o,ops[i]? = some o->o.guard=none
 on:∀(i:Nat) o e,ops[i]? = some o->e∈o.after->Region.binds .any e=true->e.on<ops.size
theorem ZU{g:Nat->Nat}{o:Oper}{a:Act}{w:World}{K:Act->World->Prop}{Q:Exit->Act->World->Prop}(h:(wk g o).wp P a w K Q∨((wk g o).asks P a w/\LetsOut Q)):o.wp P a w K Q∨(o.asks P a w/\LetsOut Q):=h
theorem zT(l:Array Bool)(i:Nat)(b a:Bool)(h:i<l.size):l.getD i b=l.getD i a:=by simp_all
theorem Ep{ops b:Array Oper}{f g:Nat->Nat}(X:Perm ops b f g):∀(listed a:Array Bool),listed.size=ops.size->a.size=ops.size->(∀i,i<ops.size->a.getD i true=listed.getD (f i) true)->∀j,j∈Region.ready .any ops listed->g j∈Region.ready .any b a:=by intro listed a hs p s j h;rw[mem_ready] at h ⊢;obtain ⟨y,o,r,z⟩:=h;have h:j<ops.size:=(BO.1 r).1;refine ⟨by rw[s _ (X.JQ j h),X.fg j h];exact y,wk g o,by rw[X.get _ (X.JQ j h),X.fg j h,r];rfl,λe u v=>?_⟩;simp only[wk,Array.mem_map] at u;obtain ⟨x,m,rfl⟩:=u;have l:=X.on j o x r m v;rw[zT _ _ false true (by rw[p];exact X.JQ _ l),s _ (X.JQ _ l),X.fg _ l,zT _ _ true false (by omega)];exact z x m v
theorem perm_wp{ops m:Array Oper}{f g:Nat->Nat}(X:Perm ops m f g){Q:Exit->Act->World->Prop}:∀(p:Nat)(listed b:Array Bool)(a:Act)(w:World),listed.size=ops.size->b.size=ops.size->(∀i,i<ops.size->b.getD i true=listed.getD (f i) true) ->
  wpAny P .any m Q p b a w->wpAny P .any ops Q p listed a w:=by
 have x:∀(listed b:Array Bool),listed.size=ops.size->b.size=ops.size->(∀i,i<ops.size->b.getD i true=listed.getD (f i) true)->Region.ready .any ops listed=[]->Region.ready .any m b=[]:=by
  intro listed b hs r u h;cases F:Region.ready .any m b with
  |nil=>rfl
  |cons i l=>
   exfalso;have R:i∈Region.ready .any m b:=by simp_all
   rw[mem_ready] at R;obtain ⟨y,o,s,G⟩:=R;have E:i<ops.size:=by grind
   rw[X.get i E] at s;simp only[cu] at s;obtain ⟨S,z,rfl⟩:=s;have:f i∈Region.ready .any ops listed:=by rw[mem_ready];refine ⟨by simp_all,S,z,λe U T=>?_⟩;have A:=X.on _ S e z U T;have:=G { e with on:=g e.on } (by simp only[wk,Array.mem_map];grind) T;simp only at this;rw[zT _ _ false true (by grind),u _ (X.JQ _ A),X.fg _ A,zT _ _ true false (by omega)] at this;omega
   simp_all
 intro p;induction p with
 |zero=>
  intro listed b a w hs r u h;refine ⟨?_,h.2⟩;cases F:Region.ready .any ops listed with
  |nil=>rfl
  |cons j l=>
   have:=Ep X listed b hs r u j (by simp_all);rw[h.1] at this
   simp_all
 |succ p ih=>
  intro listed b a w hs r u h;refine ⟨λF=>h.1 (x listed b hs r u F),λj L=>?_⟩;have N:=Ep X listed b hs r u j L;have:=h.2 (g j) N;rw[mem_ready] at L;obtain ⟨_,o,s,_⟩:=L;have v:j<ops.size:=(BO.1 s).1;have O:m[g j]? = some (wk g o):=by rw[X.get _ (X.JQ j v),X.fg j v,s];rfl
  have W:o.guard=none:=X.guard j o s;refine wpOp_mono (K:=wpAny P .any m Q p (b.setIfInBounds (g j) true)) (λa w Y=>ih _ _ a w (by simp[hs]) (by grind) (λi E=>?_) Y) ?_
  ·have Z:(b.setIfInBounds (g j) true).getD i true=if g j=i then true else b.getD i true:=by
    simp only[yAT,Zw]
    grind
   have e2:(listed.setIfInBounds j true).getD (f i) true=if j=f i then true else listed.getD (f i) true:=by
    simp only[yAT,Zw]
    grind
   rw[Z,e2,u i E];by_cases y:g j=i
   ·rw[if_pos y,if_pos (by rw[<-y,X.fg j v])]
   ·rw[if_neg y,if_neg (λh2=>y (by rw[h2,X.gf i E]))]
  ·unfold wpOp at this ⊢;rw[O] at this;rw[s];have w1:Region.wanted (wk g o) (yielded m a.tmps)=true:=by grind [Go.Region.wanted,wk]
   have w2:Region.wanted o (yielded ops a.tmps)=true:=by grind [Go.Region.wanted]
   simp only[w1,if_true] at this;simp only[w2,if_true]
   grind [ZU]
theorem MQ{ops a:Array Oper}{f g:Nat->Nat}(X:Perm ops a f g){i j:Nat}(h:BW ops i j):BW a (g i) (g j):=by
 have l:∀{j o},ops[j]? = some o->a[g j]? = some (wk g o):=λ{j o} b=>by have r:=(BO.1 b).1;rw[X.get _ (X.JQ j r),X.fg j r,b];rfl
 induction h with
 |one b m p s=>exact .one (l b) (by simp only[wk,Array.mem_map];exact ⟨_,m,rfl⟩) (e:={ on:=g _,ground:=_ }) p (by simp_all)
 |more b m p hk _ ih=>exact .more (l b) (by simp only[wk,Array.mem_map];exact ⟨_,m,rfl⟩) (e:={ on:=g _,ground:=_ }) p (by simp_all) ih
def isLt(o:aH):Bool:=match o with
 | ⟨some _,.alloc z,none⟩=>z.all isC
 | ⟨some _,.Ai _,none⟩=>true
 | ⟨some _,.load _ _,none⟩=>true
 |_=>false
def isCl(o:aH):Bool:=match o.op with | .call ..=>true | _=>false
def Qf:Nat->Nat->List aH->List Nat->List Nat
 |i, m, o :: os, b :: bs => match isLt o && Nat.beq (Nat.lor b m) m with
  |true=>i::Qf (i+1) (Nat.lor m (2 ^ i)) os bs
  |false=>Qf (i+1) m os bs
 |_,_,_,_=>[]
def permP(hs:List Nat)(n:Nat):List Nat:=hs++(List.range n).filter λi=>hs.all λj=>!Nat.beq j i
def oj(a:List Nat)(os:List aH):List aH:=a.map λi=>os.getD i default
def LI(a:List Nat)(i:Nat):Nat:=a.getD i 0
def QD(a:List Nat)(i:Nat):Nat:=a.findIdx λj=>Nat.beq j i
def XO(a:List Nat)(n:Nat):Bool:=Nat.beq a.length n&&(List.range n).all λi=>(Nat.blt (LI a i) n&&Nat.beq (QD a (LI a i)) i)&&(Nat.blt (QD a i) n&&Nat.beq (LI a (QD a i)) i)
def JT(a b:List Nat)(q n0:Nat)(os:List aH):Bool:=
 ((List.range os.length).all λj=>Nat.blt j n0 || (List.range j).all λi=>Nat.blt i q || (a.getD (LI b j) 0).testBit (LI b i)) &&
 (((os.take q).all isLt&&os.all (λo=>o.g.isNone)) &&
 (((List.range os.length).all λj=>(List.range j).all λi=>!Nat.blt i q || (match (os.getD i default).dst,(os.getD j default).dst with | some s,some t=>!Nat.beq s t | _,_=>true)) &&
 (((List.range os.length).all λj=>(List.range (j+1)).all λi=>!Nat.blt i q || (match (os.getD j default).dst with | some t=>!(yB (os.getD i default)).contains t | _=>true)) &&
 (XO b os.length&&(Nat.ble q n0&&Nat.ble n0 os.length)))))
def OY(a b:List Nat)(is:List dW):Bool:=
 (List.range is.length).all λj=>(List.range j).all λi=>(a.getD (LI b j) 0).testBit (LI b i) || apart (is.getD i default) (is.getD j default)
def Re(os:List aH)(a:List Nat):Option (List Nat×Nat×Nat):=
 let hs:=Qf 0 0 os a
 let i:=(os.takeWhile λo=>!isCl o).length
 match hs.any λh=>Nat.blt i h with
 |false=>none
 |true=>
  let b:=permP hs os.length
  let n0:=hs.length+(((oj b os).drop hs.length).takeWhile λo=>!isCl o).length
  match Nat.beq b.length os.length&&JT a b hs.length n0 (oj b os) with
  |true=>some (b,hs.length,n0)
  |false=>none
theorem Vp{os:List aH}{a b:List Nat}{q n0:Nat}(h:Re os a=some (b,q,n0)):b.length=os.length/\JT a b q n0 (oj b os)=true:=by
 unfold Re at h;dsimp only at h;split at h
 ·simp at h
 ·split at h
  ·simp only[au,aT] at h;obtain ⟨rfl,rfl,rfl⟩:=h
   simp_all
  simp_all
theorem Zi (ab:P.follows .mixedOrders=true) (O:nP P orc) {id q n0:Nat} {r:List Nat} {ops:Array Oper} {os:List aH} {σ σ':ar} {M:Nat→Option Nat} {Fz:Nat→Prop} {w:World} {e e':List D} {a:Act} {is:List dW} {Q:Exit→Act→World→Prop}
  (hc:ops.toList.mapM (bq P ops)=some os) (G:zI ops.toList=true) (R:Rel σ M Fz w) (E:dr σ M Fz w e a.tmps) (h:lE P orc n0 (oj r os) e σ=some (e',σ',is)) (be:r.length=os.length)
  (ad:JT (PI ops.toList) r q n0 (oj r os)=true) (a5:OY (PI ops.toList) r is=true)
  (hQ:∀K w' M' Fz',K.defers=a.defers→Rel σ' M' Fz' w'→dr σ' M' Fz' w' e' K.tmps→bD σ M Fz w σ' M' Fz' w'→Q .normal K w'):(Code.region id ops true).wq P Q a w:=by
 obtain ⟨h1,h2⟩:=MV hc
 have af:os.length=ops.size:=by omega
 have ak:(oj r os).length=os.length:=by grind [oj]
 simp only [JT,bG] at ad
 obtain ⟨c2,⟨c3,c4⟩,c5,c6,c7,c8,c9⟩:=ad
 have c8:=Cq c8
 have c9:=Cq c9
 simp only [XO,bG,iB,yBM] at c7
 have pm:=c7.2
 rw [ak,af] at pm
 have Th:∀i,i<ops.size→LI r i<ops.size:=fun i u=>tM.mp (pm i u).1.1
 have JQ:∀i,i<ops.size→QD r i<ops.size:=fun i u=>tM.mp (pm i u).2.1
 have fg:∀i,i<ops.size→LI r (QD r i)=i:=fun i u=>cO (pm i u).2.2
 have gf:∀i,i<ops.size→QD r (LI r i)=i:=fun i u=>cO (pm i u).1.2
 have L:∀i,i<ops.size→(oj r os)[i]? = os[LI r i]?:=fun i u=>by
  grind [LI,oj]
 generalize bb:oj r os=v at h ak L c2 c3 c4 c5 c6 c9
 obtain ⟨env,sg,wrs,k1,k2,k3,k4,k5,k6,k7⟩:=Rr (n:=n0) v n0 e e' σ σ' is h
 subst k1 k2 k3 k4
 have c1:=a5
 unfold OY at c1
 have an:∀(i:Nat) x,v[i]? = some x→x.g=none:=fun i x N=>by
  have:=iB.1 c4 x (Am N)
  simpa using this
 have U:∀(i:Nat) o,ops[i]? = some o→o.guard=none:=fun i o S=>by
  have av:=(BO.1 S).1
  have N:v[QD r i]? = some os[i]:=by grind
  obtain ⟨o',W,z⟩:=h2 i _ (eH (by omega))
  rw [NC,S] at W
  simp only [au] at W
  subst W
  have Y:=an _ _ N
  unfold bq at z
  split at z
  ·rename_i g ao hg _
   simp only [au] at z
   rw [←z] at Y
   simp only at Y
   subst Y
   cases hq:o.guard with
   | none=>rfl
   | some p =>
    obtain ⟨j,bc⟩:=p
    rw [hq] at hg
    simp only [yY] at hg
    split at hg <;> simp at hg
  grind
 let s:Array Oper:=Array.ofFn fun i:Fin ops.size=>wk (QD r) (ops[LI r i]'(Th i i.isLt))
 have a6:s.size=ops.size:=by simp [s]
 have ax:∀i,i<ops.size→s[i]? = (ops[LI r i]?).map (wk (QD r)):=fun i u=>by
  rw [rG (by omega),rG (Th i u)]
  simp [s]
 have X:Perm ops s (LI r) (QD r):=⟨a6,ax,Th,JQ,fg,gf,U,fun i o e S he hb=>by
  have:=tX G i o e S he hb
  grind⟩
 have T:Tr P orc s v 0 n0 env sg wrs:={
  len:=by omega
  comp:=fun j ao Z=>by
   have bh:=(gg.1 Z).1
   rw [L j (by omega)] at Z
   obtain ⟨o,S,z⟩:=h2 _ ao Z
   rw [NC] at S
   refine ⟨wk (QD r) o,by grind,?_⟩
   unfold bq at z ⊢
   have e1:yY ops o.guard=some none:=by rw [U _ o S]; rfl
   have e2:yY s (wk (QD r) o).guard=some none:=by
    show yY s o.guard=some none
    rw [U _ o S]; rfl
   rw [e1] at z
   rw [e2]
   exact z
  step:=fun i ao u=>(k6 i ao u).1
  wrk:=fun i u=>k7 i (by omega) u
  le:=by omega
  pair:=fun i j x y aa N hy=>by
   have Z:=(gg.1 hy).1
   have F:=iB.1 c1 j (by grind)
   have A:=iB.1 F i (by grind)
   simp only [gp] at A
   rcases A with A | A
   ·left
    have:=MQ X (CD A)
    grind
   grind
  lead:=fun i u=>by omega
  ple:=by omega }
 have H:oS v q:=fun i u=>by
  have av:i<v.length:=by omega
  have:=iB.1 c3 (v[i]) (by
   rw [yBE]
   exact ⟨i,by grind⟩)
  rw [eH av]
  generalize v[i]=x at this
  unfold isLt at this
  split at this
  ·grind
  ·grind
  ·grind
  grind
 refine xr ab (vx hc) ?_
 replace hQ:=fun K w' M' Fz' h1 h2 F A=>(⟨hQ K w' M' Fz' h1 h2 F A,by simp⟩:nr Q .normal K w')
 have R1:Rel (sg 0) M Fz { w with drawn:=w.drawn+1 }:=R.heap rfl ⟨rfl,rfl,rfl⟩
 have EH:bD (sg 0) M Fz w (sg 0) M Fz { w with drawn:=w.drawn+1 }:=bD.heap R rfl ⟨rfl,rfl,rfl⟩
 have bd:=Uj (Q:=nr Q) O T H (by omega) (fun i j bi aa bk Z=>by
   have F:=iB.1 c2 j (by grind)
   simp only [gp] at F
   rcases F with F | F
   ·grind [Nat.blt_eq]
   ·have A:=iB.1 F i (by grind)
    simp only [gp] at A
    rcases A with A | A
    ·grind [Nat.blt_eq]
    ·have:=MQ X (CD A)
     grind) an
  (fun i j x y t u aa N hy hd a7=>by
   have Z:=(gg.1 hy).1
   have F:=iB.1 c5 j (by grind)
   have A:=iB.1 F i (by grind)
   simp only [Zt,N,hy,Option.getD_some,hd,a7,tM.mpr u,yCl] at A
   grind)
  (fun i j x y t u aa N hy hd hm=>by
   have Z:=(gg.1 hy).1
   have F:=iB.1 c6 j (by grind)
   have A:=iB.1 F i (by grind)
   have a8:(yB x).contains t=true:=by grind
   simp only [Zt,N,hy,Option.getD_some,hd,tM.mpr u,a8] at A
   grind)
  (fun m bl hr i u=>by
   let b:Array Bool:=Array.ofFn fun i:Fin ops.size=>m.getD (QD r i) true
   have a0:b.size=ops.size:=by simp [b]
   have bt:∀i,i<ops.size→b.getD i true=m.getD (QD r i) true:=fun i u=>by
    rw [yAT,rG (by omega)]
    simp [b]
   have a1:∀i,i<ops.size→m.getD i true=b.getD (LI r i) true:=fun i u=>by grind
   have a9:Region.ready .any ops b=[]:=by
    cases hq:Region.ready .any ops b with
    | nil=>rfl
    | cons j l =>
     have:=Ep X b m a0 (by omega) a1 j (by grind)
     grind
   have a2:=yy a0 (tX G) a9
   have:=a2 (LI r i) (Th i (by omega))
   unfold gq at this ⊢
   grind)
  R1 (E.mono EH) (fun K w' M' Fz' hd R' E' EV=>hQ K w' M' Fz' hd R' E' (EH.trans EV (cR _)))
 exact perm_wp X ops.size (Array.replicate ops.size false) (Array.replicate ops.size false) a _ (by simp) (by simp) (fun i u=>by
  rw [yAT,yAT,yBZ,yBZ,if_pos (by omega),if_pos (Th i u)]) (by grind)
theorem Sem.drwG{nn q n0:Nat}{z:List Nat}{al:AL}{σ:ar}{Q:mF->AL->ar->Prop}{os:List aH}{k:Nat}{s:List Nat}{p:Nat}(u:P.follows .mixedOrders=true)(O:nP P orc)(X:Re os s=some (z,q,n0))
  (h:cd P orc n0 (oj z os) nn al σ λal' σ' is=>OY s z is=true/\Q .normal al' σ'):Sem P (.HO os s k p) nn al σ Q:=by
 obtain ⟨al1,σ1,is,h,Y,Z⟩:=h;obtain ⟨E,F⟩:=Vp X;intro c j M Fz w a K R A hK;obtain ⟨e',U,h2⟩:=h _ A.c_.2;cases c with
 |region id ops W=>
  simp only[bF] at j;split at j
  ·rename_i aa G;split at j
   ·rename_i hd;subst hd;split at j
    ·rename_i hb;simp only[au,aP.HO.injEq] at j;obtain ⟨rfl,rfl,_,_⟩:=j;refine Zi u O G hb R A.c_.1 U E F Y λa' w' M' Fz' hd R' E' EV=>?_;exact hK .normal al1 σ1 a' w' M' Fz' Z (Mk.of_eq hd) R' (eI.Vh E' h2) EV (DP O _ _ _ _ _ _ _ U).1
    simp_all
   simp_all
  simp_all
 |seq a b=>grind [bF]
 |cond o a b=>grind [bF]
 |block i b=>simp[bF] at j
 |loop b=>simp[bF] at j
 |scope b=>grind [bF,Option.map_eq_some_iff,J_]
 |rangeFunc g ps x y=>rcases ee j with ⟨_,_,_,_,_,_,_,e⟩ | e <;> cases e
 |_=>grind [bF]
end
end Go.Abs
end
