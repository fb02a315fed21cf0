/- DfwV, DfwW, DfwX, DfwY, DfwZ, DfwOp, DfwEnc, DfwEq, DfwOwn, DfwTq, DfwMp, DfwFl, DfwGh -/
import Derived.Test.YtmaocdlpgdadnaaGreatFwB
import GoSem.ClaimChange
import Derived.DataReads
import Derived.Below
import Derived.Laws.StructEq
import GoSem.Core.Float
import GoSem.Op.Complex
import GoSem.Conv.FloatToInt
set_option linter.all false
section
namespace Go.Abs
variable[Gl]
inductive Sh where
 |int (k:IntKind)
 |bool
 |str
 |sl (e:List Sh)
 |no
 deriving Inhabited
inductive Shaped:Sh->C->Prop where
 |int {k:IntKind} {n:Int} (h:(Lit.int k n).wf=true):Shaped (.int k) (.lit (.int k n))
 |bool (b:Bool):Shaped .bool (.lit (.bool b))
 |str {s:ByteArray} (h:s.size<=maxLen):Shaped .str (.lit (.string s))
 |sl {e:List Sh} {es:List (List C)} (hl:es.length<=maxLen) (hn:∀x∈es,x.length=e.length) (h:∀(x:List C),x∈es->∀(j:Nat) s c,e[j]? = some s->x[j]? = some c->Shaped s c):Shaped (.sl e) (.bG false es)
def cX(P:Program):Nat->TypeId->Option (List Sh)
 |0,_=>none
 |f + 1, t=>
  match P.underlying t with
  |some .bool=>some [.bool]
  |some (.int k)=>some [.int k]
  |some .string=>some [.str]
  |some (.slice e)=>
   match cX P f e with
   |some s=>if s.length=P.cellsOf e/\s≠[] then some [.sl s] else none
   |none=>none
  |some (.struct h)=>
   match h.toList.foldl (λa b=>match a,cX P f b.type with
    |some l,some s=>if b.offset=l.length/\s.length=P.cellsOf b.type then some (l++s) else none
    |_,_=>none) (some []) with
   |some l=>if l.length=P.cellsOf t then some l else none
   |none=>none
  |some (.array n e)=>
   match cX P f e with
   |some s=>if s.length=P.cellsOf e/\n * s.length=P.cellsOf t then some (List.replicate n s).flatten else none
   |none=>none
  |_=>none
def xo(w:World)(a:List Sh)(xs:List C)(cs:List Value):Prop:=
 xs.length=a.length/\cs.length=a.length/\(∀(i:Nat) s x,a[i]? = some s->xs[i]? = some x->Shaped s x) /\
  ∀(i:Nat) x v,xs[i]? = some x->cs[i]? = some v->VC (λc=>c<w.heap.size) w x v/\v.oneCell'=true
theorem xo.append{w:World}{s1 s2:List Sh}{j o:List C}{c1 u:List Value}(z:xo w s1 j c1)(A:xo w s2 o u):xo w (s1++s2) (j++o) (c1++u):=by
 obtain ⟨F,G,K,L⟩:=z;obtain ⟨O,R,U,W⟩:=A;refine ⟨by simp_all,by simp_all,λi s x hs E=>?_,λi x v E X=>?_⟩
 ·grind
 grind
theorem xo.nil{w:World}:xo w [] [] []:=⟨rfl,rfl,λi s x h=>by simp at h,λi x v h=>by simp at h⟩
theorem xo.one{w:World}{s:Sh}{x:C}{v:Value}(u:Shaped s x)(z:VC (λc=>c<w.heap.size) w x v)(A:v.oneCell'=true):xo w [s] [x] [v]:=by
 refine ⟨rfl,rfl,λi E j hs o=>?_,λi j F o G=>?_⟩
 ·grind
 grind
theorem Ax{w:World}{b:Nat}{a:Addr}{n:Nat}{cs:List Value}(h:w.cells? b a n=some cs):cs.length=n/\∀(j:Nat) v,cs[j]? = some v->w.cell? (a.add j)=some v:=by
 unfold World.cells? at h;split at h
 ·obtain ⟨i,l⟩:=Eo h
  grind
 simp_all
theorem KL{α:Type}{n:Nat}{p:Nat->α->Prop}(h:∀i,i<n->∃a,p i a):∃l:List α,l.length=n/\∀(i:Nat) a,l[i]? = some a->p i a:=by
 induction n with
 |zero=>simp_all
 |succ n ih=>
  obtain ⟨l,j,m⟩:=ih (λi o=>h i (by omega));obtain ⟨a,r⟩:=h n (by omega);refine ⟨l++[a],by simp[j],λi b s=>?_⟩
  grind
theorem yV{H:Type}{enc:TypeId×Value->H}{P:Program}{w:World}{b:Nat->Bool}{j:Bool}{f:Nat}{t e:TypeId}{cs:List Value}{d:DataW H}{ps:List MemPlace}
  (v:P.underlying t=some (.slice e)) (h:DataW.trod enc P w 0 b j (f+1) t cs=some (d,ps)) :
  cs=[.slice none 0 0]∨∃a len cap,cs=[.slice (some a) len cap]/\len<=cap/\cap<=maxLen/\∀i,i<len->∃ci o p,w.cells? 0 (a.add (i * P.cellsOf e)) (P.cellsOf e)=some ci/\DataW.trod enc P w 0 b j f e ci=some (o,p):=by
 unfold DataW.trod at h;rw[v] at h;split at h <;> rename_i l <;> first
  |(simp only[ab,reduceCtorEq] at l;done)
  |skip
 ·exact .inl rfl
 ·rename_i A a len cap;simp only[ab,TypeDesc.slice.injEq] at l;subst l;simp only at h;split at h
  ·rename_i u;simp only[bC] at h;obtain ⟨r,s,_⟩:=h;refine .inr ⟨a,len,cap,rfl,u.2.1,u.2.2,λi x=>?_⟩;obtain ⟨⟨o,p⟩,_,m⟩:=vu s i i (List.getElem?_range x);simp only[bC] at m;obtain ⟨ci,y,z⟩:=m;exact ⟨ci,o,p,y,z⟩
  ·simp at h
 ·simp at h
theorem wB{H:Type}{enc:TypeId×Value->H}{P:Program}{w:World}{a:Nat->Bool}{b:Bool}{f:Nat}{t:TypeId}{o:Array Field}{cs:List Value}{d:DataW H}{ps:List MemPlace}
  (v:P.underlying t=some (.struct o)) (h:DataW.trod enc P w 0 a b (f+1) t cs=some (d,ps)) :
  cs.length=P.cellsOf t/\∀l∈o.toList,∃p r,DataW.trod enc P w 0 a b f l.type ((cs.drop l.offset).take (P.cellsOf l.type))=some (p,r):=by
 unfold DataW.trod at h;rw[v] at h;split at h <;> rename_i j <;> first
  |(simp only[ab,reduceCtorEq] at j;done)
  |skip
 ·simp only[ab,TypeDesc.struct.injEq] at j;subst j;split at h
  ·rename_i x;simp only[bq] at h;obtain ⟨A,s,_⟩:=h;refine ⟨x,λl u=>?_⟩;obtain ⟨i,y⟩:=yB2.1 u;obtain ⟨⟨p,r⟩,_,z⟩:=vu s i l y;exact ⟨p,r,z⟩
  ·simp at h
 ·exact absurd rfl (‹∀(m:Array Field),some (TypeDesc.struct o)=some (TypeDesc.struct m)->False› o)
theorem yG{H:Type}{enc:TypeId×Value->H}{P:Program}{w:World}{a:Nat->Bool}{b:Bool}{f n:Nat}{t e:TypeId}{cs:List Value}{d:DataW H}{ps:List MemPlace}
  (s:P.underlying t=some (.array n e)) (h:DataW.trod enc P w 0 a b (f+1) t cs=some (d,ps)) :
  cs.length=P.cellsOf t/\∀i,i<n->∃l m,DataW.trod enc P w 0 a b f e ((cs.drop (i * P.cellsOf e)).take (P.cellsOf e))=some (l,m):=by
 unfold DataW.trod at h;rw[s] at h;split at h <;> rename_i j <;> first
  |(simp only[ab,reduceCtorEq] at j;done)
  |skip
 ·simp only[ab,TypeDesc.array.injEq] at j;obtain ⟨rfl,rfl⟩:=j;split at h
  ·rename_i u;simp only[bq] at h;obtain ⟨y,o,_⟩:=h;refine ⟨u,λi v=>?_⟩;obtain ⟨⟨l,m⟩,_,x⟩:=vu o i i (List.getElem?_range v);exact ⟨l,m,x⟩
  ·simp at h
 ·exact absurd rfl (‹∀(p:Nat)(r:TypeId),some (TypeDesc.array n e)=some (TypeDesc.array p r)->False› n e)
theorem yL{H:Type}{enc:TypeId×Value->H}{P:Program}{w:World}{N:Nat->Bool}{af:Bool}:∀(f:Nat)(O:Nat)(t:TypeId)(cs:List Value)(d:DataW H)(ps:List MemPlace)(R:List Sh),
  DataW.trod enc P w 0 N af O t cs=some (d,ps)->cX P f t=some R->∃xs,xo w R xs cs:=by
 intro f;induction f with
 |zero=>grind [cX]
 |succ f ih=>
  intro O t cs d ps R v hs;cases O with
  |zero=>simp[DataW.trod] at v
  |succ O=>
   simp only[cX] at hs;split at hs
   ·
    rename_i A;simp only[ab] at hs;subst hs;unfold DataW.trod at v;rw[A] at v;split at v <;> simp_all
    subst_vars
    exact ⟨_,xo.one (.bool _) (.lit _) rfl⟩
   ·
    rename_i k A;simp only[ab] at hs;subst hs;unfold DataW.trod at v;rw[A] at v;split at v <;> simp_all
    obtain ⟨⟨rfl,a1⟩,_⟩:=v;exact ⟨_,xo.one (.int a1) (.lit _) rfl⟩
   ·
    rename_i A;simp only[ab] at hs;subst hs;unfold DataW.trod at v;rw[A] at v;split at v <;> simp_all
    exact ⟨_,xo.one (.str v.1) (.lit _) rfl⟩
   ·
    rename_i e A;split at hs
    ·rename_i s S;split at hs
     ·rename_i b;obtain ⟨b,ak⟩:=b;simp only[ab] at hs;subst hs;have bc:0<s.length:=Me.2 ak;rcases yV A v with rfl | ⟨r,len,cap,rfl,bi,bk,T⟩
      ·refine ⟨[.bG false []],xo.one (.sl (by simp) (λx h=>by simp at h) (λx h=>by simp at h)) ?_ rfl⟩;exact .bG 0 none 0 (by simp) (λ_=>rfl) (λ_ _=>undef) (λe h=>by simp at h) (by simp) (λi j e d h=>by simp at h) (λi j e d h=>by simp at h)
      ·rw[<-b] at T;have a2:∀i,i<len->∃(p:List C×List Value),w.cells? 0 (r.add (i * s.length)) s.length=some p.2/\xo w s p.1 p.2:=by
        intro i K;obtain ⟨ci,Z,pi,E,z⟩:=T i K;obtain ⟨xs,o⟩:=ih O e ci Z pi s z S;exact ⟨(xs,ci),E,o⟩
       obtain ⟨l,bl,G⟩:=KL a2;have U:0<len->r.spot=none/\r.block<w.heap.size:=by
        intro h0;obtain ⟨ci,Z,pi,E,_⟩:=T 0 h0;obtain ⟨h3,h4⟩:=Ax E;have hc:=h4 0 _ (cE (by omega));have e0:(r.add (0 * s.length)).add 0=r:=by simp[Addr.add]
        rw[e0] at hc;exact ⟨World.cell?_spot hc,block_lt_of_cell hc⟩
       let g:Nat->Nat->Value:=λi j=>(((l[i]?).map (·.2)).bind (·[j]?)).getD undef
       have F:∀(i j:Nat)(x:List C)(c:C),(l.map (·.1))[i]? = some x->x[j]? = some c->r=⟨r.block,r.off,none⟩/\r.block<w.heap.size/\w.cell? ⟨r.block,r.off+i * s.length+j,none⟩=some (g i j) /\
         VC (λc=>c<w.heap.size) w c (g i j)/\(g i j).oneCell'=true:=by
        intro i j x c y hc;simp only[gT,bq] at y;obtain ⟨p,W,rfl⟩:=y;obtain ⟨E,z,h3,h4,h5⟩:=G i p W;have K:i<len:=by grind
        obtain ⟨bt,bu⟩:=U (by omega);have bv:r=⟨r.block,r.off,none⟩:=by cases r;simp_all
        grind [Ax,dg]
       have bd:(l.map (·.1)).length=len:=by grind
       refine ⟨[.bG false (l.map (·.1))],xo.one (.sl (by omega) (λx y=>?_) (λx y j sj c E z=>?_)) ?_ rfl⟩
       ·simp only[gZ] at y;obtain ⟨p,W,rfl⟩:=y;obtain ⟨i,K⟩:=yB2.1 W;exact (G i p K).2.1
       ·simp only[gZ] at y;obtain ⟨p,W,rfl⟩:=y;obtain ⟨i,K⟩:=yB2.1 W;exact (G i p K).2.2.2.1 j sj c E z
       ·have:=VC.bG (Fz:=λc=>c<w.heap.size) (w:=w) (nn:=false) (es:=l.map (·.1)) s.length (some r) cap (by simp) (λh=>by cases h) g (λx y=>?_) (by omega) (λi j x c E z=>?_) (λi j x c E z=>(F i j x c E z).2.2.2.1)
        ·grind
        ·simp only[gZ] at y;obtain ⟨p,W,rfl⟩:=y;obtain ⟨i,K⟩:=yB2.1 W;exact (G i p K).2.1
        grind
     simp_all
    simp_all
   ·
    rename_i fs A;split at hs
    ·rename_i l hl;split at hs
     ·rename_i bw;simp only[ab] at hs;subst hs;obtain ⟨E,z⟩:=wB A v;have X:∀(fl:List Field)(a:List Sh)(ax:List C),(∀u∈fl,u∈fs.toList)->a.length<=cs.length->xo w a ax (cs.take a.length) ->
        fl.foldl (λa u=>match a,cX P f u.type with
         |some l,some s=>if u.offset=l.length/\s.length=P.cellsOf u.type then some (l++s) else none
         |_,_=>none) (some a)=some l->l.length<=cs.length->∃xs,xo w l xs (cs.take l.length):=by
       intro fl;induction fl with
       |nil=>grind
       |cons u fl a3=>
        intro a ax L be a4 he a5;simp only[List.foldl_cons] at he;have a6:∀(gl:List Field),gl.foldl (λa u=>match a,cX P f u.type with
         |some l,some s=>if u.offset=l.length/\s.length=P.cellsOf u.type then some (l++s) else none
         |_,_=>none) none=none:=by
         intro gl;induction gl with
         |nil=>rfl
         |cons _ _ ih=>simp_all
        cases a0:cX P f u.type with
        |none=>simp_all
        |some s=>
         rw[a0] at he;simp only at he;split at he
         ·rename_i hc;obtain ⟨bh,b⟩:=hc;obtain ⟨Z,pi,hd⟩:=z u (L u (by simp));obtain ⟨xs,o⟩:=ih O u.type _ Z pi s hd a0;have a7:a.length+s.length<=cs.length:=by
           have:=o.2.1
           grind
          refine a3 (a++s) (ax++xs) (λx y=>L x (by simp[y])) (by simp_all) ?_ he a5;have Y:cs.take (a++s).length=cs.take a.length++(cs.drop u.offset).take (P.cellsOf u.type):=by grind
          rw[Y];exact a4.append o
         simp_all
      obtain ⟨xs,o⟩:=X fs.toList [] [] (λ_ h=>h) (by simp) (by grind [xo.nil]) hl (by omega)
      grind
     simp_all
    simp_all
   ·
    rename_i n e A;split at hs
    ·rename_i s S;split at hs
     ·rename_i b;obtain ⟨b,b0⟩:=b;simp only[ab] at hs;subst hs;obtain ⟨E,z⟩:=yG A v;rw[<-b] at z;have X:∀m,m<=n->∃xs,xo w (List.replicate m s).flatten xs (cs.take (m * s.length)):=by
       intro m;induction m with
       |zero=>intro _;exact ⟨[],by grind [xo.nil]⟩
       |succ m a8=>
        intro hm;obtain ⟨xs,o⟩:=a8 (by omega);obtain ⟨Z,pi,hd⟩:=z m (by omega);obtain ⟨ys,a9⟩:=ih O e _ Z pi s hd S;refine ⟨xs++ys,?_⟩;have e1:(List.replicate (m+1) s).flatten=(List.replicate m s).flatten++s:=by grind [List.replicate_succ']
        rw[e1,Nat.succ_mul,List.take_add];exact o.append a9
      obtain ⟨xs,o⟩:=X n (bQ _)
      grind
     simp_all
    simp_all
   simp_all
end Go.Abs
end
section
namespace Go.Abs
variable[Gl]
open Go.RowKit
theorem Rel.start(w:World)(i:Gl.ok (λc=>c<w.heap.size) w):Rel [] (λ_=>none) (λc=>c<w.heap.size) w:={
 blk:=λb c h=>by simp at h
 inj:=λb j c h=>by simp at h
 fz:=λc h=>h
 gl:=i }
theorem V.Ke{w:World}{j:List Sh}{xs:List C}{vs:Array Value}(h:xo w j xs vs.toList){σ:aa}{M:Nat->Option Nat}:V σ M (λc=>c<w.heap.size) w (.agg (xs.map .c)) (.agg vs):=by obtain ⟨u,z,_,o⟩:=h;refine .agg vs (by simp_all) (λi d v a b=>?_);simp only[gT,bq] at a;obtain ⟨x,s,rfl⟩:=a;exact .c (o i x v s (by simp_all)).1
theorem V.KU{w:World}{s:Sh}{xs:List C}{v:Value}(h:xo w [s] xs [v]){σ:aa}{M:Nat->Option Nat}:∃x,xs=[x]/\Shaped s x/\V σ M (λc=>c<w.heap.size) w (.c x) v:=by
 obtain ⟨o,_,i,j⟩:=h
 match xs,o,i,j with
 |[x],_,i,j=>exact ⟨x,rfl,i 0 s x rfl rfl,.c (j 0 x v rfl rfl).1⟩
theorem aW.below{σ:aa}{M:Nat->Option Nat}{Fz:Nat->Prop}{w w':World}(R:Rel σ M Fz w)(i:Below w.heap.size w w'):aW σ M Fz w σ M Fz w':={
 size:=i.size
 frame:=λc o _=>i.block c o
 hY:=λb c h=>.inl ⟨b,h⟩
 fz:=λc h=>⟨h,i.block c (R.fz c h)⟩
 jj:=λc h=>.inl h
 lm:=λc j T u h=>⟨j,by rw[i.block c (CS.1 h).1];exact h,rfl⟩
 bX:=λb s h=>⟨s,h,bQ _,λ_=>rfl⟩
 out:=⟨i.os,i.tape,i.output⟩ }
theorem Rel.below{σ:aa}{M:Nat->Option Nat}{Fz:Nat->Prop}{w w':World}(R:Rel σ M Fz w)(i:Below w.heap.size w w'):Rel σ M Fz w':={
 blk:=λb c h=>by obtain ⟨j,ob,o,h2,h3,s⟩:=R.blk b c h;exact ⟨j,ob,o,h2,by rw[i.block c (R.lt h).2];exact h3,s.mono (aW.below R i)⟩
 inj:=R.inj
 fz:=λc h=>xD (R.fz c h) i.size
 gl:=Gl.mono (aW.below R i).fz R.gl }
noncomputable def Jn(P:Program)(a:List Nat)(g:FuncId):Option iw:=
 match P.funcs[g]? with
 |some fn=>if aH P g then e_ P fn (!a.contains g) else none
 |none=>none
theorem Nx(P:Program)(a:List Nat):Vt P (Jn P a):=by
 intro g b h
 grind [Jn]
end Go.Abs
end
section
namespace Go.Abs
variable[Gl]
abbrev AL:=List (Nat×D)
def lk(t:Nat):AL->Option D
 |[]=>none
 |(s,d)::al=>match Nat.beq s t with | true=>some d | false=>lk t al
def sf(n:Nat)(al:AL):List D:=(List.range n).map λt=>(lk t al).getD .any
def Env(n:Nat)(al:AL)(e:List D):Prop:=e.length=n/\∀t d,lk t al=some d->e[t]? = some d
def dq(n:Nat)(σ:aa)(M:Nat->Option Nat)(Fz:Nat->Prop)(w:World)(al:AL)(a:Array Value):Prop:=
 a.size=n/\∀t d,lk t al=some d->∃v,a[t]? = some v/\V σ M Fz w d v
section
variable{P:Program}{orc:qB}{σ σ' σ1 am:aa}{M M':Nat->Option Nat}{Fz Fz':Nat->Prop}{w w':World}{n:Nat}{al al1 al2:AL}
theorem dq.bV{o:Array Value}(h:dq n σ M Fz w al o):cf σ M Fz w (sf n al) o/\Env n al (sf n al):=by
 refine ⟨⟨by simp[sf,h.1],λi d v a b=>?_⟩,by simp[sf],λt d u=>?_⟩
 ·simp only[sf,gT,bq] at a;obtain ⟨j,A,rfl⟩:=a;have:j=i:=by
   grind
  subst this;cases x:lk j al with
  |none=>exact .any v
  |some d=>
   obtain ⟨E,s,F⟩:=h.2 j d x
   simp_all
 ·obtain ⟨v,s,_⟩:=h.2 t d u;have z:t<n:=by have:=(CS.1 s).1;rw[h.1] at this;omega
  grind [sf]
theorem dq.NZ{i:Array Value}{e:List D}(h:cf σ M Fz w e i)(j:Env n al e):dq n σ M Fz w al i:=by
 refine ⟨by rw[h.1,j.1],λt d s=>?_⟩;have u:=j.2 t d s;have o:t<i.size:=by rw[h.1];grind
 exact ⟨i[t],nE o,h.2 t d _ u (nE o)⟩
def Sem(P:Program)(ac:az)(n:Nat)(al:AL)(σ:aa)(Q:jr->AL->aa->Prop):Prop:=
 ∀ (c : Code), aS P c = some ac -> ∀ (M : Nat -> Option Nat) (Fz : Nat -> Prop) (w : World) (a : Act) (K : Exit -> Act -> World -> Prop), Rel σ M Fz w -> dq n σ M Fz w al a.tmps ->
  (∀x al' σ' b w' M' Fz',Q x al' σ'->Mk w.heap.size M' Fz' w' b.defers a.defers->Rel σ' M' Fz' w'->dq n σ' M' Fz' w' al' b.tmps->aW σ M Fz w σ' M' Fz' w'->σ.length<=σ'.length->K (sX x) b w')->c.wq P K a w
def iU(P:Program)(ac:az)(k:Nat)(n:Nat)(al:AL)(σ:aa)(Q:jr->AL->aa->Prop):Prop:=
 ∀ (c : Code), aS P c = some ac -> ∀ (M : Nat -> Option Nat) (Fz : Nat -> Prop) (w : World) (a : Act) (K : Exit -> Act -> World -> Prop), Rel σ M Fz w -> dq n σ M Fz w al a.tmps ->
  (∀x al' σ' b w' M' Fz',Q x al' σ'->Mk w.heap.size M' Fz' w' b.defers a.defers->Rel σ' M' Fz' w'->dq n σ' M' Fz' w' al' b.tmps->aW σ M Fz w σ' M' Fz' w'->σ.length<=σ'.length->K (sX x) b w')->Code.rq P c K k a w
def xW(d a:D):Prop:=∀σ M Fz w v,V σ M Fz w d v->V σ M Fz w a v
theorem xW.refl(d:D):xW d d:=λ_ _ _ _ _ h=>h
def Sub(al1:AL):AL->Prop
 |[]=>True
 |(t,d)::al2=>(∃d1,lk t al1=some d1/\xW d1 d)/\Sub al1 al2
theorem Sub.get{al1 al2:AL}(h:Sub al1 al2){t:Nat}{d:D}(i:lk t al2=some d):∃d1,lk t al1=some d1/\xW d1 d:=by
 induction al2 with
 |nil=>grind [lk]
 |cons p al2 ih=>
  obtain ⟨s,o⟩:=p;simp only[lk] at i;split at i
  ·rename_i j;have:=bP j;simp only[ab] at i;subst this i;exact h.1
  ·exact ih h.2 i
theorem Sub.one{al1 al2:AL}{t:Nat}{d d1:D}(h:lk t al1=some d1)(hd:xW d1 d)(r:Sub al1 al2):Sub al1 ((t,d)::al2):=⟨⟨d1,h,hd⟩,r⟩
theorem Sub.same{al1 al2:AL}{t:Nat}{d:D}(h:lk t al1=some d)(r:Sub al1 al2):Sub al1 ((t,d)::al2):=⟨⟨d,h,xW.refl d⟩,r⟩
theorem dq.sub {i:Array Value} (h:dq n σ M Fz w al1 i) (hs:Sub al1 al2):dq n σ M Fz w al2 i:=
 ⟨h.1,fun t d j=>by
  obtain ⟨d1,o,s⟩:=hs.get j
  obtain ⟨v,u,x⟩:=h.2 t d1 o
  exact ⟨v,u,s _ _ _ _ _ x⟩⟩
def D.low(m:Nat):D->Bool
 |.c _=>true
 |.any=>true
 |.ptr b _ _=>b<m
 |.sl b _ _ _ _=>b<m
 |.mp b=>b<m
 |.fn _ a b=>bM m a&&bM m b
 |.agg ds=>bM m ds
 |.aB ds=>bM m ds
where bM (m:Nat):List D->Bool
 |[]=>true
 |d::ds=>d.low m&&bM m ds
theorem D.aE{m:Nat}:∀{ds:List D},D.low.bM m ds=true->∀(i:Nat) d,ds[i]? = some d->d.low m=true:=by
 intro ds;induction ds with
 |nil=>simp_all
 |cons x ds ih=>
  intro h i d j;simp only[D.low.bM,aU] at h
  grind
def Ob.low(m:Nat):Ob->Bool
 |.cells i=>D.low.bM m i
 |.map j _=>j.all λe=>e.2.1.low m
 |.gone _=>true
theorem V.yB{m:Nat}{d:D}{v:Value}(h:V σ M Fz w d v)(j:d.low m=true):V (σ.take m) (bN M m) Fz w d v:=by
 induction h with
 |c h=>exact .c h
 |any v=>exact .any v
 |ptr a u h o s=>simp only[D.low,aM] at j;exact .ptr a u (by simp_all) o (λA=>by grind [bN])
 |sl a n cap E u h o s=>simp only[D.low,aM] at j;exact .sl a n cap E u (by simp_all) o (λA=>by simpa[bN,j] using s A)
 |mp c u h s=>simp only[D.low,aM] at j;exact .mp c u (by simp_all) (λA=>by grind [bN])
 |fn x K z L s O F G=>simp only[D.low,aU] at j;exact .fn x K z L (λi d v a b=>F i d v a b (D.aE j.1 i d a)) (λi d v a b=>G i d v a b (D.aE j.2 i d a))
 |agg x z s ih=>simp only[D.low] at j;exact .agg x z (λi d v a b=>ih i d v a b (D.aE j i d a))
 |aB x z s ih=>simp only[D.low] at j;exact .aB x z (λi d v a b=>ih i d v a b (D.aE j i d a))
theorem Rel.yB{m:Nat}(R:Rel σ M Fz w)(O:(σ.take m).all (Ob.low m)=true):Rel (σ.take m) (bN M m) Fz w:=by
 refine ⟨λb c h=>?_,λb U c h F=>?_,R.fz,R.gl⟩
 ·unfold bN at h;split at h
  ·rename_i Y;obtain ⟨W,z,o,Z,X,G⟩:=R.blk b c h;have A:(σ.take m)[b]? = some z:=by simp_all
   have j:z.low m=true:=eG.1 O z (sT A);refine ⟨W,z,o,A,X,?_⟩;cases z with
   |cells cs=>obtain ⟨s,T,K,u,E⟩:=G;exact ⟨s,T,K,u,λi d v x y=>⟨(E i d v x y).1.yB (D.aE j i d x),(E i d v x y).2⟩⟩
   |map es L=>obtain ⟨s,K,u,E⟩:=G;refine ⟨s,K,u,λi k d n e x y=>?_⟩;obtain ⟨p,q,r⟩:=E i k d n e x y;simp only[Ob.low,eG] at j;exact ⟨p,q,r.yB (j (k,d,n) (sT x))⟩
   |gone n=>exact G.elim
  simp_all
 ·unfold bN at h F;split at h
  ·split at F
   ·exact R.inj b U c h F
   simp_all
  simp_all
theorem aW.yB{m:Nat}(E:aW σ M Fz w σ1 M' Fz' w')(hm:σ.length<=m):aW σ M Fz w (σ1.take m) (bN M' m) Fz' w':=by
 refine ⟨E.size,E.frame,λb c h=>?_,E.fz,E.jj,E.lm,λb j h=>?_,E.out⟩
 ·unfold bN at h;split at h
  ·exact E.hY b c h
  simp_all
 ·obtain ⟨i,u,o,x⟩:=E.bX b j h;have s:b<m:=xD (dT.1 h).1 hm;exact ⟨i,by simp_all,o,λz=>by simp only[bN,if_pos s];simp_all⟩
inductive Wk (k:Nat) (al1:AL) (σ1:aa):AL->aa->Prop where
 |refl:Wk k al1 σ1 al1 σ1
 |same {al2:AL} (h:Sub al1 al2):Wk k al1 σ1 al2 σ1
 |cut {al2:AL} (m:Nat) (hm:k<=m) (hs:m<=σ1.length) (h:Sub al1 al2) (hd:al2.all (λp=>p.2.low m)=true) (hl:(σ1.take m).all (Ob.low m)=true):Wk k al1 σ1 al2 (σ1.take m)
theorem jP{t:Nat}{d:D}:∀{al:AL},lk t al=some d->(t,d)∈al:=by
 intro al;induction al with
 |nil=>grind [lk]
 |cons p al ih=>grind [lk,Nat.eq_of_beq_eq_true]
theorem Wk.use{am:aa}(h:Wk σ.length al1 σ1 al2 am){i:Array Value}(R:Rel σ1 M' Fz' w')(A:dq n σ1 M' Fz' w' al1 i)(E:aW σ M Fz w σ1 M' Fz' w')(s:σ.length<=σ1.length) :
  ∃j,Rel am j Fz' w'/\dq n am j Fz' w' al2 i/\aW σ M Fz w am j Fz' w'/\σ.length<=am.length/\Bp M' Fz' j Fz':=by
 cases h with
 |refl=>exact ⟨M',R,A,E,s,Bp.refl⟩
 |same h=>exact ⟨M',R,A.sub h,E,s,Bp.refl⟩
 |cut m x hs h hd o=>
  refine ⟨bN M' m,R.yB o,⟨A.1,λt d u=>?_⟩,E.yB x,by simp_all,⟨λb c h=>⟨b,by simp only[bN] at h;split at h <;> simp_all⟩,λc h=>.inl h,λc h=>h⟩⟩
  obtain ⟨v,z,F⟩:=(A.sub h).2 t d u;exact ⟨v,z,F.yB (eG.1 hd (t,d) (jP u))⟩
end
end Go.Abs
end
section
namespace Go.Abs
variable[Gl]
section
variable{P:Program}{orc:ey}{σ σ' σ1 am:aa}{n:Nat}{al al1 al2:AL}{Q:jr->AL->aa->Prop}
theorem Sem.mono{ac:az}{Q':jr->AL->aa->Prop}(h:Sem P ac n al σ Q)(i:∀x al' σ',Q x al' σ'->∃al2 am,Wk σ.length al' σ' al2 am/\Q' x al2 am):Sem P ac n al σ Q':=by
 intro c j M Fz w a K R A O;refine h c j M Fz w a K R A λx al' σ' U w' M' Fz' o hd s u z E=>?_;obtain ⟨al2,am,F,G⟩:=i x al' σ' o;obtain ⟨W,X,Y,Z,l2,L⟩:=F.use s u z E;have hd:=hd.Sp L
 grind
theorem Sem.pre{ac:az}(hs:Sub al al1)(h:Sem P ac n al1 σ Q):Sem P ac n al σ Q:=by intro c i M Fz w a K R A j;exact h c i M Fz w a K R (A.sub hs) j
theorem iU.pre{ac:az}{k:Nat}(hs:Sub al al1)(h:iU P ac k n al1 σ Q):iU P ac k n al σ Q:=by intro c i M Fz w a K R A j;exact h c i M Fz w a K R (A.sub hs) j
theorem Sem.yS(i:P.follows .mixedOrders=true)(O:jX P orc){ac:az}{k:Nat}{x:jr}{e e':List D}{wr wr':List Nat}(h:ij P orc k ac e σ wr=some (x,e',σ',wr'))
  (j:e=sf n al) (o:Env n al1 e') (z:Q x al1 σ'):Sem P ac n al σ Q:=by
 intro c s M Fz w a K R A E;subst j;refine (Cq i O k).1 c ac σ σ' M Fz w _ e' a wr wr' x K s R A.bV.1 h λu w' M' Fz' hd F G L=>?_;have hd:=(Mk.of_eq hd:Mk w.heap.size M' Fz' w' u.defers a.defers)
 grind [dq.NZ,qp]
theorem Sem.skip(i:P.follows .mixedOrders=true)(j:Q .normal al σ):Sem P .skip n al σ Q:=by intro c o M Fz w a K R A s;have:Sem P .skip n al σ Q:=Sem.yS i (orc:=λ_ _ _ _=>none) (λt g ds σ r σ' wr h=>by simp at h) (k:=1) (wr:=[]) (wr':=[]) (e:=sf n al) rfl rfl A.bV.2 j;exact this c o M Fz w a K R A s
theorem Sem.ret(i:P.follows .mixedOrders=true)(j:Q .ret al σ):Sem P .ret n al σ Q:=by intro c o M Fz w a K R A s;have:Sem P .ret n al σ Q:=Sem.yS i (orc:=λ_ _ _ _=>none) (λt g ds σ r σ' wr h=>by simp at h) (k:=1) (wr:=[]) (wr':=[]) (e:=sf n al) rfl rfl A.bV.2 j;exact this c o M Fz w a K R A s
theorem Sem.exit(i:P.follows .mixedOrders=true){id:Nat}(j:Q (.exit id) al σ):Sem P (.exit id) n al σ Q:=by intro c o M Fz w a K R A s;have:Sem P (.exit id) n al σ Q:=Sem.yS i (orc:=λ_ _ _ _=>none) (λt g ds σ r σ' wr h=>by simp at h) (k:=1) (wr:=[]) (wr':=[]) (e:=sf n al) rfl rfl A.bV.2 j;exact this c o M Fz w a K R A s
theorem Sem.seq{a b:az}(h:Sem P a n al σ λx al1 σ1=>match x with | .normal=>∃al2 am,Wk σ.length al1 σ1 al2 am/\Sem P b n al2 am Q | x=>Q x al1 σ1):Sem P (.seq a b) n al σ Q:=by
 intro c j M Fz w s K R A O;cases c with
 |seq c1 U=>
  simp only[aS] at j;split at j
  ·rename_i a1 a2 h1 h2;simp only[ab,az.seq.injEq] at j;obtain ⟨rfl,rfl⟩:=j;refine HY (h c1 h1 M Fz w s _ R A λx al1 σ1 W w' M' Fz' X hd Y Z E' hl=>?_);cases x with
   |normal=>obtain ⟨al2,am,hw,hs⟩:=X;obtain ⟨M2,R2,A2,E2,l2,W2⟩:=hw.use Y Z E' hl;exact hs U h2 M2 Fz' w' W K R2 A2 λx u z a3 w3 M3 E F G R3 A3 E3 L=>O x u z a3 w3 M3 E F (Mk.trans E3 E2.size (hd.Sp W2) G) R3 A3 (E2.trans E3 l2) (jI l2 L)
   |exit i=>grind [lA]
   |ret=>exact O .ret al1 σ1 W w' M' Fz' X hd Y Z E' hl
  simp_all
 |region id ops ad=>
  simp only[aS] at j
  grind
 |cond o c1 U=>grind [aS]
 |block id c1=>simp[aS] at j
 |loop c1=>simp[aS] at j
 |scope b=>grind [aS,Option.map_eq_some_iff,Dp]
 |rangeFunc g ps x y=>rcases cU j with ⟨_,_,_,_,_,_,_,e⟩ | e <;> cases e
 |_=>grind [aS]
theorem Sem.cond{o:ay}{t e:az}{b:Bool}(u:(match o with | .t k=>lk k al | .k d=>some d)=some (.c (.lit (.bool b))))
  (O:b=true->Sem P t n al σ Q) (U:b=false->Sem P e n al σ Q):Sem P (.cond o t e) n al σ Q:=by
 intro c i M Fz w j K R A z;cases c with
 |cond x c1 E=>
  simp only[aS] at i;split at i
  ·rename_i F Z a2 W X Y;simp only[ab,az.cond.injEq] at i;obtain ⟨rfl,rfl,rfl⟩:=i;have G:=jc A.bV.1 W;have s:fD (F.ev (sf n al))=some b:=by
    cases F with
    |t k=>dsimp only at u;simp[ay.ev,A.bV.2.2 k _ u,fD]
    |k d=>simp only[ab] at u;subst u;rfl
   cases b with
   |true=>exact ua (kG G s) (O rfl c1 X M Fz w j K R A z)
   |false=>exact sa (kG G s) (U rfl E Y M Fz w j K R A z)
  simp_all
 |region id ops L=>
  simp only[aS] at i
  grind
 |seq c1 E=>grind [aS]
 |block id c1=>simp[aS] at i
 |loop c1=>simp[aS] at i
 |scope b=>grind [aS,Option.map_eq_some_iff,Dp]
 |rangeFunc g ps x y=>rcases cU i with ⟨_,_,_,_,_,_,_,e⟩ | e <;> cases e
 |_=>grind [aS]
theorem Sem.step{a b:az}(al2:AL)(am:aa)(i:Sem P a n al σ λx al1 σ1=>x=.normal/\Wk σ.length al1 σ1 al2 am)(j:Sem P b n al2 am Q):Sem P (.seq a b) n al σ Q:=
 Sem.seq (i.mono λx al1 σ1 ⟨o,s⟩=>⟨al1,σ1,.refl,by grind⟩)
def out(id:Nat):jr->jr
 |.exit i=>if i=id then .normal else .exit i
 |x=>x
def behind(id:Nat)(Q:jr->AL->aa->Prop)(al:AL)(σ:aa):jr->Prop
 |.normal=>Q .normal al σ
 |.ret=>Q .ret al σ
 |.exit i=>(i=id->Q .normal al σ)/\(i≠id->Q (.exit i) al σ)
theorem Sem.block{id:Nat}{b:az}(O:Sem P b n al σ λx al1 σ1=>∃al2 am,Wk σ.length al1 σ1 al2 am/\behind id Q al2 am x):Sem P (.block id b) n al σ Q:=by
 have h:Sem P b n al σ λx al1 σ1=>∃al2 am,Wk σ.length al1 σ1 al2 am/\Q (out id x) al2 am:=O.mono λx al1 σ1 ⟨al2,am,E,u⟩=>⟨al1,σ1,.refl,al2,am,E,by
  cases x with
  |normal=>exact u
  |ret=>exact u
  |exit i=>
   by_cases z:i=id
   ·simp only[out,if_pos z];exact u.1 z
   ·simp only[out,if_neg z];exact u.2 z⟩
 intro c s M Fz w F K R A U;cases c with
 |block i c1=>
  simp only[aS,bq,az.block.injEq] at s;obtain ⟨a1,W,rfl,rfl⟩:=s;refine Ed (h c1 W M Fz w F _ R A λx al1 σ1 X w' M' Fz' Y hd Z A' E' hl=>?_);obtain ⟨al2,am,E,hq⟩:=Y;obtain ⟨M2,R2,A2,E2,l2,W2⟩:=E.use Z A' E' hl;have:=U _ al2 am X w' M2 Fz' hq (hd.Sp W2) R2 A2 E2 l2;cases x with
  |normal=>exact this
  |ret=>exact this
  |exit j=>
   by_cases G:j=2 * i
   ·simp only[out,if_pos G] at this;rw[G];exact yA this
   ·simp only[out,if_neg G] at this
    grind [vX]
 |region id ops L=>
  simp only[aS] at s
  grind
 |seq c1 c2=>grind [aS]
 |cond o c1 c2=>grind [aS]
 |loop c1=>simp[aS] at s
 |scope b=>grind [aS,Option.map_eq_some_iff,Dp]
 |rangeFunc g ps x y=>rcases cU s with ⟨_,_,_,_,_,_,_,e⟩ | e <;> cases e
 |_=>grind [aS]
theorem Sem.loop{b:az}(k:Nat)(h:iU P b k n al σ Q):Sem P (.loop b) n al σ Q:=by
 intro c i M Fz w j K R A u;cases c with
 |loop c1=>simp only[aS,bq,az.loop.injEq] at i;obtain ⟨F,z,rfl⟩:=i;exact pc k (h c1 z M Fz w j K R A u)
 |region id ops s=>
  simp only[aS] at i
  grind
 |seq c1 E=>grind [aS]
 |cond o c1 E=>grind [aS]
 |block id c1=>simp[aS] at i
 |scope b=>grind [aS,Option.map_eq_some_iff,Dp]
 |rangeFunc g G x y=>rcases cU i with ⟨_,_,_,_,_,_,_,e⟩ | e <;> cases e
 |_=>grind [aS]
theorem iU.succ{b:az}{k:Nat}(h:Sem P b n al σ λx al1 σ1=>match x with | .normal=>∃al2 am,Wk σ.length al1 σ1 al2 am/\iU P b k n al2 am Q | x=>∃al2 am,Wk σ.length al1 σ1 al2 am/\Q x al2 am):iU P b (k+1) n al σ Q:=by
 intro c hc M Fz w G K R A hK;rw[Dd];refine h c hc M Fz w G _ R A λx al1 σ1 a' w' M' Fz' L hd O U W X=>?_;cases x with
 |normal=>obtain ⟨al2,am,j,hs⟩:=L;obtain ⟨z,E,F,o,s,u⟩:=j.use O U W X;exact hs c hc z Fz' w' a' K E F λx Y Z a3 w3 M3 ad af ak R3 A3 E3 ax=>hK x Y Z a3 w3 M3 ad af (Mk.trans E3 o.size (hd.Sp u) ak) R3 A3 (o.trans E3 s) (jI s ax)
 |exit i=>
  obtain ⟨al2,am,j,hq⟩:=L;obtain ⟨z,E,F,o,s,u⟩:=j.use O U W X;have hd:=hd.Sp u
  grind [lA]
 |ret=>obtain ⟨al2,am,j,hq⟩:=L;obtain ⟨z,E,F,o,s,u⟩:=j.use O U W X;exact hK .ret al2 am a' w' z Fz' hq (hd.Sp u) E F o s
theorem Sem.rounds{b:az}{V:Type}(L:V->AL)(H:V->aa)(p:Nat->V->Prop)(k:Nat)(v:V)(s:p k v)(u:∀v,p 0 v->False)
  (hs:∀k v,p (k+1) v->Sem P b n (L v) (H v) λx al1 σ1=>match x with | .normal=>∃i,p k i/\Wk (H v).length al1 σ1 (L i) (H i) | x=>∃al2 am,Wk (H v).length al1 σ1 al2 am/\Q x al2 am)
  (o:Sub al (L v)) (j:σ=H v):Sem P (.loop b) n al σ Q:=by
 subst j;refine Sem.loop k (iU.pre o ?_);clear o;induction k generalizing v with
 |zero=>simp_all
 |succ k ih=>
  refine iU.succ ((hs k v s).mono λx al1 σ1 z=>⟨al1,σ1,.refl,?_⟩)
  grind
def Df(P:Program)(orc:ey)(k:Nat)(os:List av)(n:Nat)(al:AL)(σ:aa)(al':AL)(σ':aa)(is:List cP):Prop:=
 ∀e,Env n al e->∃a,iT P orc k os e σ=some (a,σ',is)/\Env n al' a
theorem DD:∀(os:List av)(e e':List D)(σ σ':aa)(is:List cP),iT P orc 0 os e σ=some (e',σ',is)->kz P orc os e σ=some (e',σ',is.flatMap (·.wr)):=by
 intro os;induction os with
 |nil=>intro e e' σ σ' is h;simp only[iT,ab,aC] at h;obtain ⟨rfl,rfl,rfl⟩:=h;rfl
 |cons o os ih=>grind [iT,kz,ce]
theorem Sem.wm(i:P.follows .mixedOrders=true)(O:jX P orc){os:List av}{is:List cP}(h:Df P orc 0 os n al σ al1 σ1 is)(j:Q .normal al1 σ1):Sem P (.wm os) n al σ Q:=by intro c o M Fz w a K R A s;obtain ⟨e',u,z⟩:=h _ A.bV.2;have E:=DD _ _ _ _ _ _ u;have:Sem P (.wm os) n al σ Q:=Sem.yS i O (k:=1) (wr:=[]) (e:=sf n al) (e':=e') (x:=.normal) (σ':=σ1) (wr':=is.flatMap (·.wr)++[]) (by grind [ij]) rfl z j;exact this c o M Fz w a K R A s
theorem Sem.AE(j:P.follows .mixedOrders=true)(O:jX P orc){os:List av}{i:List Nat}{k p:Nat}{is:List cP}(h:Df P orc k os n al σ al1 σ1 is)(F:(dk i is&&kU i p k os.length&&Nat.ble p k)=true)(o:Q .normal al1 σ1) :
  Sem P (.AE os i k p) n al σ Q:=by
 intro c s M Fz w a K R A u;obtain ⟨e',G,z⟩:=h _ A.bV.2;have E:gW P orc os i p k (sf n al) σ=some (e',σ1,is.flatMap (·.wr)):=by
  unfold gW
  simp_all
 have:Sem P (.AE os i k p) n al σ Q:=Sem.yS j O (k:=1) (wr:=[]) (e:=sf n al) (e':=e') (x:=.normal) (σ':=σ1) (by simp only[ij,E];rfl) rfl z o;exact this c s M Fz w a K R A u
theorem Ee:∀(os:List av)(n m:Nat)(e:List D)(σ:aa)(r a:List D×aa×List cP),iT P orc n os e σ=some r->iT P orc m os e σ=some a->r=a:=by
 intro os;induction os with
 |nil=>grind [iT]
 |cons o os ih=>grind [iT]
theorem Sem.drwN(j:P.follows .mixedOrders=true)(O:jX P orc){os:List av}{i:List Nat}{k p:Nat}{is:List cP}(h:Df P orc os.length os n al σ al1 σ1 is)(X:(dk i is&&kU i p os.length os.length&&Nat.ble p os.length)=true)(u:Q .normal al1 σ1) :
  Sem P (.AE os i k p) n al σ Q:=by
 intro c z M Fz w a K R A E;obtain ⟨e',F,G⟩:=h _ A.bV.2;have L:∀m r,gW P orc os i p m (sf n al) σ=some r->r=(e',σ1,is.flatMap (·.wr)):=by
  intro m r o;unfold gW at o;split at o
  ·rename_i Y am U s;have:=Ee _ _ _ _ _ _ _ s F
   simp_all
  simp_all
 have s:gW P orc os i p os.length (sf n al) σ=some (e',σ1,is.flatMap (·.wr)):=by
  unfold gW
  simp_all
 have W:ij P orc 1 (.AE os i k p) (sf n al) σ []=some (.normal,e',σ1,is.flatMap (·.wr)++[]):=by grind [ij]
 have:Sem P (.AE os i k p) n al σ Q:=Sem.yS j O (k:=1) (wr:=[]) (e:=sf n al) (e':=e') (x:=.normal) (σ':=σ1) W rfl G u;exact this c z M Fz w a K R A E
end
end Go.Abs
end
section
namespace Go.Abs
variable[Gl]
open Go.RowKit
def Pure(P:Program)(g:FuncId)(ds:List D)(r:D):Prop:=aH P g=true/\Ok P g ds [] r []
section
variable{P:Program}{σ σ':aa}{M M':Nat->Option Nat}{Fz Fz':Nat->Prop}{w w':World}
theorem V.data{d:D}{v:Value}(h:V σ M Fz w d v)(j:d.low 0=true)(σ':aa)(M':Nat->Option Nat):V σ' M' Fz w d v:=by
 induction h with
 |c h=>exact .c h
 |any v=>exact .any v
 |ptr a E h x o=>grind [D.low]
 |sl a n cap F E h x o=>grind [D.low]
 |mp c E h o=>grind [D.low]
 |fn s G u K o L z A=>simp only[D.low,aU] at j;exact .fn s G u K (λi d v a b=>z i d v a b (D.aE j.1 i d a)) (λi d v a b=>A i d v a b (D.aE j.2 i d a))
 |agg s u o ih=>simp only[D.low] at j;exact .agg s u (λi d v a b=>ih i d v a b (D.aE j i d a))
 |aB s u o ih=>simp only[D.low] at j;exact .aB s u (λi d v a b=>ih i d v a b (D.aE j i d a))
def D.ground:D->Bool
 |.c (.lit _)=>true
 |.agg ds=>fi ds
 |.aB ds=>fi ds
 |_=>false
where fi:List D->Bool
 |[]=>true
 |d::ds=>d.ground&&fi ds
theorem D.vO:∀{ds:List D},D.ground.fi ds=true->∀(i:Nat) d,ds[i]? = some d->d.ground=true:=by
 intro ds;induction ds with
 |nil=>simp_all
 |cons x ds ih=>
  intro h i d j;simp only[D.ground.fi,aU] at h
  grind
theorem V.lit{d:D}{v:Value}(h:V σ M Fz w d v)(o:d.ground=true)(σ':aa)(M':Nat->Option Nat)(Fz':Nat->Prop)(w':World):V σ' M' Fz' w' d v:=by
 induction h with
 |c h=>
  rename_i x v;cases x with
  |lit u=>cases h;exact .c (.lit _)
  |_=>grind [D.ground]
 |any v=>grind [D.ground]
 |ptr a E h A j=>grind [D.ground]
 |sl a n cap F E h A j=>grind [D.ground]
 |mp c E h j=>grind [D.ground]
 |fn s L z O j R G K=>grind [D.ground]
 |agg s z j ih=>simp only[D.ground] at o;exact .agg s z (λi d v a b=>ih i d v a b (D.vO o i d a))
 |aB s z j ih=>simp only[D.ground] at o;exact .aB s z (λi d v a b=>ih i d v a b (D.vO o i d a))
theorem Pure.data{g:FuncId}{ds:List D}{r:D}(h:Pure P g ds r)(hd:ds.all (D.low 0)=true)(F:r.low 0=true):Ok P g ds σ r σ:=by
 intro M Fz w G R hs u;have K:Rel [] (λ_=>none) Fz w:=⟨λb c h=>by simp at h,λb Z c h=>by simp at h,R.fz,R.gl⟩;refine (h.2 _ Fz w G K hs λi d v a b=>(u i d v a b).data (eG.1 hd d (sT a)) _ _).mono λe w' L=>?_;obtain ⟨v,M',Fz',rfl,A,O,j⟩:=L;have U:∀c:Nat,c<w.heap.size->w'.heap[c]? = w.heap[c]?:=λc s=>j.frame c s (λb h=>by simp at h);have E:aW σ M Fz w σ M Fz' w':={
  size:=j.size
  frame:=λc s _=>U c s
  hY:=λb c h=>.inl ⟨b,h⟩
  fz:=j.fz
  jj:=λc h=>by
   rcases j.jj c h with h | ⟨b,h⟩ | h
   ·simp_all
   ·simp at h
   omega
  lm:=λc x T fr h=>⟨x,by grind,rfl⟩
  bX:=λb z h=>⟨z,h,bQ _,λ_=>rfl⟩
  out:=j.out }
 refine ⟨v,M,Fz',rfl,⟨λb c h=>?_,R.inj,A.fz,A.gl⟩,O.data F _ _,E⟩;obtain ⟨h1,z,o,W,h3,X⟩:=R.blk b c h;have s:=(R.lt h).2;refine ⟨λY=>?_,z,o,W,by simp_all,X.mono E⟩;rcases j.jj c Y with h | ⟨b,h⟩ | h
 ·grind
 ·simp at h
 ·omega
theorem Pure.lend{g:FuncId}{ds j:List D}{r:D}(h:Pure P g j r)(hd:ds.mapM (qQ σ 0 100)=some j)(u:r.ground=true):Ok P g ds σ r σ:=by
 intro M Fz w x R hs z;have A:Rel [] (λ_=>none) (zF M Fz 0) w:=⟨λb c h=>by simp at h,λb G c h=>by simp at h,λc h=>by
  rcases h with h | ⟨b,_,h⟩
  ·exact R.fz c h
  ·exact (R.lt h).2,Gl.mono (λc h=>⟨.inl h,rfl⟩) R.gl⟩
 have K:j.length=ds.length:=(Eo hd).1;refine (h.2 _ _ w x A (by omega) λi d v a b=>?_).mono λe w' E=>?_
 ·grind [Eo,Co]
 ·obtain ⟨v,M',Fz',rfl,L,F,o⟩:=E;have s:Below w.heap.size w w':=⟨o.out.1,o.out.2.1,o.out.2.2,o.size,λk hk=>o.frame k hk (λb h=>by simp at h)⟩;exact ⟨v,M,Fz,rfl,R.below s,F.lit u _ _ _ _,aW.below R s⟩
end
def Se:C->C
 |.lit (.slice none 0 0)=>.bG false []
 |.bG _ a=>.bG false a
 |x=>x
def qM:D->D
 |.c x=>.c (Se x)
 |d=>d
def wy:D->D
 |.c x=>.c (Se x)
 |.agg ds=>.agg (ds.map qM)
 |d=>d
theorem Bu{Fz:Nat->Prop}{w:World}{x:C}{v:Value}(h:VC Fz w x v):VC Fz w (Se x) v:=by
 unfold Se;split
 ·cases h;exact .bG (es:=[]) 0 none 0 (by simp) (λ_=>rfl) (λ_ _=>undef) (by simp) (by simp) (by simp) (by simp)
 ·cases h with
  |bG ai a cap j l c i b m o=>exact .bG ai a cap (by simp) l c i b m o
 omega
theorem Cw{σ:aa}{M:Nat->Option Nat}{Fz:Nat->Prop}{w:World}{d:D}{v:Value}(h:V σ M Fz w d v):V σ M Fz w (qM d) v:=by
 unfold qM;split
 ·cases h with | c h=>exact .c (Bu h)
 omega
theorem yP{σ:aa}{M:Nat->Option Nat}{Fz:Nat->Prop}{w:World}{d:D}{v:Value}(h:V σ M Fz w d v):V σ M Fz w (wy d) v:=by
 unfold wy;split
 ·cases h with | c h=>exact .c (Bu h)
 ·cases h with
  |agg j l m=>
   refine .agg j (by simp_all) (λi d v a b=>?_)
   grind [Cw]
 omega
theorem Ok.wy{P:Program}{g:FuncId}{ds:List D}{σ σ':aa}{r:D}(h:Ok P g (ds.map wy) σ r σ'):Ok P g ds σ r σ':=by
 intro M Fz w j R hs o;refine h M Fz w j R (by simp_all) λi d v a b=>?_
 grind [yP]
abbrev rT:=List (Nat×(List D->Option D))
def Mg(g:Nat):rT->Option (List D->Option D)
 |[]=>none
 |(s,f)::l=>match Nat.beq s g with | true=>some f | false=>Mg g l
def D.plain:D->Bool
 |.fn ..=>false
 |.agg ds=>ds.all λd=>match d with | .fn ..=>false | _=>true
 |.aB ds=>ds.all λd=>match d with | .fn ..=>false | _=>true
 |_=>true
def xw(S:rT):qB:=λg ds σ=>
 match Mg g S with
 |none=>none
 |some f=>
  if ds.all (λd=>d.low 0&&d.plain) then (f (ds.map wy)).bind λr=>if r.low 0 then some (r,σ,[]) else none
  else
   match ds.mapM (qQ σ 0 100) with
   |some a=>(f (a.map wy)).bind λr=>if r.ground then some (r,σ,[]) else none
   |none=>none
def mR(P:Program)(S:rT):Prop:=∀p∈S,∀ds r,p.2 ds=some r->Pure P p.1 ds r
theorem RA{g:Nat}{f:List D->Option D}:∀{S:rT},Mg g S=some f->(g,f)∈S:=by
 intro S;induction S with
 |nil=>grind [Mg]
 |cons p S ih=>grind [Mg,Nat.eq_of_beq_eq_true]
theorem NN{m:Nat}{d:D}(h:d.low m=true):(qM d).low m=true:=by unfold qM;grind [D.low]
theorem Oc{m:Nat}:∀{ds:List D},D.low.bM m ds=true->D.low.bM m (ds.map qM)=true:=by
 intro ds;induction ds with
 |nil=>simp_all
 |cons d ds ih=>intro h;simp only[D.low.bM,aU,mb] at h ⊢;grind [NN]
theorem Ru{m:Nat}{d:D}(h:d.low m=true):(wy d).low m=true:=by
 unfold wy
 grind [D.low,Oc]
theorem jv{P:Program}{S:rT}(h:mR P S):pj P (xw S):=by
 intro g ds σ r σ' wr a;unfold xw at a;split at a
 ·grind
 ·rename_i f x;have s:=RA x;split at a
  ·rename_i u;rw[bC] at a;obtain ⟨v,j,b⟩:=a;split at b
   ·rename_i l;simp only[ab,aC] at b;obtain ⟨rfl,rfl,rfl⟩:=b;have i:=h _ s _ _ j;refine ⟨i.1,(i.data ?_ l).wy,bQ _,λ_ _ _=>rfl⟩;rw[eG] at u ⊢;intro d hd;rw[gZ] at hd;obtain ⟨y,z,rfl⟩:=hd;have:=u y z;rw[aU] at this
    grind [Ru]
   simp_all
  ·split at a
   ·rename_i m o;rw[bC] at a;obtain ⟨v,j,b⟩:=a;split at b
    ·rename_i l;simp only[ab,aC] at b;obtain ⟨rfl,rfl,rfl⟩:=b;have i:=h _ s _ _ j;have p:Pure P g m v:=⟨i.1,i.2.wy⟩;exact ⟨i.1,p.lend o l,bQ _,λ_ _ _=>rfl⟩
    simp_all
   simp_all
noncomputable def spec{A R:Type}(args:A->List D)(LU:R->D)(f:A->Option R):List D->Option D:=λds=>open Classical in if h:∃a,args a=ds then (f (Classical.choose h)).map LU else none
theorem I_{A R:Type}{args:A->List D}{LU:R->D}{f:A->Option R}(inj:∀a b,args a=args b->a=b){a:A}{r:R}(h:f a=some r):spec args LU f (args a)=some (LU r):=by
 have i:∃b,args b=args a:=⟨a,rfl⟩;unfold spec
 grind
theorem Uh{P:Program}{g:Nat}{A R:Type}{args:A->List D}{LU:R->D}{f:A->Option R}(H:∀a r,f a=some r->Pure P g (args a) (LU r)):∀ds r,spec args LU f ds=some r->Pure P g ds r:=by
 intro ds r h;unfold spec at h;split at h
 ·grind [Option.map_eq_some_iff]
 simp_all
theorem tI{S:rT}{g:Nat}{F:List D->Option D}{ds a:List D}{σ:aa}{r:D}(b:Mg g S=some F)(i:(ds.all λd=>d.low 0&&d.plain)=true)(hd:ds.map wy=a)(h:F a=some r)(j:r.low 0=true) :
  xw S g ds σ=some (r,σ,[]):=by
 subst hd;simp only[xw,b,i,if_true,h,Option.bind_some,j]
theorem BB{S:rT}{g:Nat}{F:List D->Option D}{ds a b:List D}{σ:aa}{r:D}(i:Mg g S=some F)(j:(ds.all λd=>d.low 0&&d.plain)=false)(l:ds.mapM (qQ σ 0 100)=some a)(hd:a.map wy=b)(h:F b=some r)(m:r.ground=true) :
  xw S g ds σ=some (r,σ,[]):=by
 subst hd;simp only[xw,i,j,aV,bm,l,h,Option.bind_some,m,if_true]
def JX:D->D
 |.aB ds=>.aB (ds.map wy)
 |d=>wy d
theorem xW.JX(d:D):xW d (JX d):=by
 intro σ M Fz w v h;unfold Go.Abs.JX;split
 ·cases h with
  |aB j o s=>
   refine .aB j (by simp_all) (λi d v a b=>?_)
   grind [yP]
 grind [yP]
theorem xW.HM{d i:D}(h:Go.Abs.JX d=i):xW d i:=h▸xW.JX d
theorem mR.nil{P:Program}:mR P []:=λp i=>by grind
theorem mR.cons{P:Program}{g:Nat}{F:List D->Option D}{S:rT}(h:∀ds r,F ds=some r->Pure P g ds r)(j:mR P S):mR P ((g,F)::S):=by
 intro p i;rcases dO.1 i with rfl | i
 ·exact h
 ·exact j p i
def lr(al:AL)(σ:aa):Nat×Option (Option Nat)->Option D
 |(t,none)=>lk t al
 |(t, some n)=>
  match lk t al with
  |some (.ptr b off sz)=>(jZ σ b sz).bind λa=>oW n a off
  |_=>none
def gP:Nat->List D->AL
 |_,[]=>[]
 |i,d::ds=>(i,d)::gP (i+1) ds
theorem zb:∀(ds:List D)(i t:Nat)(d:D),lk t (gP i ds)=some d->i<=t/\ds[t-i]? = some d:=by
 intro ds;induction ds with
 |nil=>grind [gP,lk]
 |cons x ds ih=>
  intro i t d h;simp only[gP,lk] at h;split at h
  ·simp_all
  grind
theorem pT{P:Program}{g:FuncId}{fn:Func}{m:iw}{fz:Bool}{ds:List D}{r:D}(hg:P.funcs[g]? = some fn)(s:aH P g=true)(u:e_ P fn fz=some m)
  (y:ds.length<=m.ntmps)
  (h:Sem P m.body m.ntmps (gP 0 ds) [] λx al σ=>(x=.normal∨x=.ret)/\∃a F,m.results.mapM (lr al σ)=some a/\qQ σ 0 100 (one a)=some F/\xW F r):Pure P g ds r:=by
 refine ⟨s,?_⟩;unfold e_ at u;split at u
 ·rename_i c hb;split at u
  ·rename_i ac rs h1 h2;simp only[ab] at u;subst u;dsimp only at h y;intro M Fz w j R hs G;refine jJ hg hb ?_;have A0:dq fn.ntmps [] M Fz w (gP 0 ds) (j++Array.replicate (fn.ntmps-j.size) undef):=by
    refine ⟨by simp_all,λt d K=>?_⟩;obtain ⟨_,h3⟩:=zb ds 0 t d K;rw[Nat.sub_zero] at h3;have L:t<j.size:=by grind
    exact ⟨j[t],by grind,G t d _ h3 (nE L)⟩
   refine Fw (h c h1 M Fz w { tmps:=j++Array.replicate (fn.ntmps-j.size) undef,defers:=[] } _ R A0 λx al' σ' a' w' M' Fz' hQ hd R' E EV hl=>?_);obtain ⟨hx,a,F,hm,N,O⟩:=hQ;have S:rs.mapM (EE (sf fn.ntmps al') σ')=some a:=by
    have ak:∀(l:List (Nat×Option (Option Nat))) a,l.mapM (lr al' σ')=some a->l.mapM (EE (sf fn.ntmps al') σ')=some a:=by
     intro l;induction l with
     |nil=>simp_all
     |cons p l ih=>
      intro a h;rw[Lm] at h ⊢;cases z:lr al' σ' p with
      |none=>simp_all
      |some d=>
       rw[z] at h;have:EE (sf fn.ntmps al') σ' p=some d:=by
        obtain ⟨t,o⟩:=p;cases o with
        |none=>exact E.bV.2.2 t d z
        |some k=>
         simp only[lr] at z;split at z
         ·rename_i b off sz T;simp only[EE,E.bV.2.2 t _ T];exact z
         simp_all
       rw[this];cases hr:l.mapM (lr al' σ') with
       |none=>simp_all
       |some q=>simp_all
    simp_all
   have U:sX x=.normal∨sX x=.ret:=by rcases hx with rfl | rfl <;> simp[sX]
   refine ⟨U,Mk.end hd R' EV λW i A mv=>?_⟩;have X:dq fn.ntmps σ' M' Fz' W al' a'.tmps:=⟨E.1,λt d K=>by obtain ⟨v,q1,q2⟩:=E.2 t d K;exact ⟨v,q1,mv d v q2⟩⟩
   obtain ⟨v,Y,Z⟩:=gp (P:=P) i X.bV.1 h2 S;obtain ⟨R2,ad⟩:=Rel.forget R i A (λb hb=>by grind);exact ⟨v,Y,v,_,_,rfl,R2,O _ _ _ _ _ (Co i N Z _ _),ad⟩
  simp_all
 simp_all
end Go.Abs
namespace Go.Abs
variable[Gl]
theorem Ns{P:Program}{g:FuncId}{es:List (List C)}{r:D}(p:∀e∈es,e≠[])(s:Pure P g [.c (.bG true es)] r)(G:es=[]->Pure P g [.c (.lit (.slice none 0 0))] r):Pure P g [.c (.bG false es)] r:=by
 refine ⟨s.1,λM Fz w b R hs K=>?_⟩;have u:b[0]? = some (b[0]'(by simp_all)):=nE _;have h:=K 0 _ _ rfl u;generalize O:b[0]'(by simp_all)=x at h u;have only:∀d,V [] M Fz w d x->∀(i:Nat) z v,[d][i]? = some z->b[i]? = some v->V [] M Fz w z v:=by grind
 cases h with
 |c A=>
  generalize E:C.bG false es=y at A;cases A with
  |bG ai a cap L F c l j m o=>
   simp only[C.bG.injEq] at E;obtain ⟨rfl,rfl⟩:=E;cases a with
   |some a=>exact s.2 M Fz w b R hs (only _ (.c (.bG ai (some a) cap (λ_=>rfl) F c l j m o)))
   |none=>
    have N:es=[]:=by simp_all
    subst N;have:=F rfl;subst this;exact (G rfl).2 M Fz w b R hs (only _ (.c (.lit _)))
  |_=>grind
end Go.Abs
end
section
namespace Go.Abs
variable[Gl]
abbrev I(n:Int):D:=.c (.lit (.int .i64 n))
abbrev B(b:Bool):D:=.c (.lit (.bool b))
def lx(al:AL):ay->Option D
 |.t k=>lk k al
 |.k d=>some d
def uT(al:AL)(x:Operand):Option D:=
 match ba x with
 |some o=>lx al o
 |none=>none
def Mf(al:AL):List ay->Option (List D)
 |[]=>some []
 |x :: xs => match lx al x, Mf al xs with
  |some d,some ds=>some (d::ds)
  |_,_=>none
def de(P:Program)(orc:qB)(n:Nat)(al:AL)(σ:aa)(op:iA)(d:D)(σ1:aa)(w:List Nat):Prop:=∀e,Env n al e->aI P orc op e σ=some (d,σ1,w)
def au{α:Type}(l:List α)(i:Int):Option α:=if 0<=i/\i<l.length then l[i.toNat]? else none
section
variable{P:Program}{orc:qB}{n:Nat}{al:AL}{σ σ1:aa}{w:List Nat}{d d1 d2:D}{e:List D}
theorem dr(a:Env n al e){x:ay}(h:lx al x=some d):x.ev e=d:=by
 cases x with
 |t k=>simp only[lx] at h;simp[ay.ev,a.2 k d h]
 |k b=>simp only[lx,ab] at h;subst h;rfl
theorem Cv(a:Env n al e):∀{xs:List ay}{ds:List D},Mf al xs=some ds->xs.map (ay.ev e)=ds:=by
 intro xs;induction xs with
 |nil=>grind [Mf]
 |cons x xs ih=>grind [Mf,dr]
theorem um{x:ay}(h:lx al x=some d):de P orc n al σ (.uV x) d σ []:=λe a=>by grind [aI,dr]
theorem ql{c x y:ay}{b:Bool}(a:lx al c=some (B b))(i:b=true)(h:lx al x=some d):de P orc n al σ (.pick c x y) d σ []:=λe j=>by grind [aI,fD,dr]
theorem lM{c x y:ay}{b:Bool}(a:lx al c=some (B b))(i:b=false)(h:lx al y=some d):de P orc n al σ (.pick c x y) d σ []:=λe j=>by grind [aI,fD,dr]
def fe(P:Program)(o:BinOp)(t:TypeId)(x y:Operand)(a b:Value):Option Value:=ee P (do eqGuard o t x y a b;binOp o t a b)
theorem rW{α b:Type}{s:Go.Sem α}{f:α->Go.Sem b}:ee P (s >>= f)=(ee P s).bind λa=>ee P (f a):=by
 induction s with
 |pure a=>rfl
 |program k ih=>exact ih P
 |_=>rfl
theorem cI{o:BinOp}{t ty j:TypeId}{x y:Operand}{a b v:Value}(A:uT al x=some d1)(E:uT al y=some d2)(F:d1.bO = some a)(G:d2.bO = some b)
  (h:fe P o t x y a b=some v) (hd:cp v=d):de P orc n al σ (.gen (.binOp o t x y j) ty) d σ []:=λe K=>by
 subst hd;have L:∀{x:Operand}{d:D},uT al x=some d->((ba x).map (ay.ev e))=some d:=by grind [uT,dr]
 have N:((ba x).map (ay.ev e)).bind D.bO = some a:=by grind
 have O:((ba y).map (ay.ev e)).bind D.bO = some b:=by grind
 have:kl P (.binOp o t x y j) ty e=some (cp v):=by
  unfold kl;have i:(Op.binOp o t x y j).operands.toList.all (λx=>(((ba x).map (ay.ev e)).bind D.bO).isSome)=true:=by grind [Go.Op.operands]
  rw[if_pos i];have s:ee P (execOp (λx=>((((ba x).map (ay.ev e)).bind D.bO).getD undef)) { dst:=none,op:=.binOp o t x y j,type:=ty,pos:="",after:=#[],guard:=none })=some (.value v):=by
   have p:∀l m:Value,l=a->m=b->ee P (do let r <-(do eqGuard o t x y l m;binOp o t l m);Go.Sem.pure (Next.value r))=some (.value v):=by intro l m u z;subst u z;rw[rW];unfold fe at h;rw[h];rfl
   exact p _ _ (by simp_all) (by simp_all)
  rw[s]
 grind [aI]
theorem ML{o:UnOp}{t ty:TypeId}{x:Operand}{a v:Value}(s:uT al x=some d1)(u:d1.bO = some a)
  (h:ee P (Op.unary o a)=some v) (hd:cp v=d):de P orc n al σ (.gen (.unOp o t x) ty) d σ []:=λe y=>by
 subst hd;have z:((ba x).map (ay.ev e))=some d1:=by grind [uT,dr]
 have l:((ba x).map (ay.ev e)).bind D.bO = some a:=by grind
 have:kl P (.unOp o t x) ty e=some (cp v):=by
  unfold kl;have b:(Op.unOp o t x).operands.toList.all (λx=>(((ba x).map (ay.ev e)).bind D.bO).isSome)=true:=by simp[Op.operands,l]
  rw[if_pos b];have m:ee P (execOp (λx=>((((ba x).map (ay.ev e)).bind D.bO).getD undef)) { dst:=none,op:=.unOp o t x,type:=ty,pos:="",after:=#[],guard:=none })=some (.value v):=by
   have i:∀j:Value,j=a->ee P (do let r <-Op.unary o j;Go.Sem.pure (Next.value r))=some (.value v):=by intro j p;subst p;rw[rW,h];rfl
   exact i _ (by simp_all)
  rw[m]
 grind [aI]
theorem xg{t b ty:TypeId}{x:Operand}{a v:Value}(s:uT al x=some d1)(u:d1.bO = some a)
  (h:ee P (convert t b a)=some v) (hd:cp v=d):de P orc n al σ (.gen (.convert t b x) ty) d σ []:=λe y=>by
 subst hd;have z:((ba x).map (ay.ev e))=some d1:=by grind [uT,dr]
 have m:((ba x).map (ay.ev e)).bind D.bO = some a:=by grind
 have:kl P (.convert t b x) ty e=some (cp v):=by
  unfold kl;have i:(Op.convert t b x).operands.toList.all (λx=>(((ba x).map (ay.ev e)).bind D.bO).isSome)=true:=by simp[Op.operands,m]
  rw[if_pos i];have o:ee P (execOp (λx=>((((ba x).map (ay.ev e)).bind D.bO).getD undef)) { dst:=none,op:=.convert t b x,type:=ty,pos:="",after:=#[],guard:=none })=some (.value v):=by
   have j:∀l:Value,l=a->ee P (do let r <-convert t b l;Go.Sem.pure (Next.value r))=some (.value v):=by intro l p;subst p;rw[rW,h];rfl
   exact j _ (by simp_all)
  rw[o]
 grind [aI]
theorem XM{x:ay}{cs:List D}(h:lx al x=some d)(a:d.cells? = some cs)(b:D.ptr σ.length 0 cs.length=d1)(hs:σ++[.cells cs]=σ1):de P orc n al σ (.box x) d1 σ1 []:=λe i=>by grind [aI,dr]
theorem ER{z:List D}(a:D.ptr σ.length 0 z.length=d1)(hs:σ++[.cells z]=σ1):de P orc n al σ (.alloc z) d1 σ1 []:=λe b=>by grind [aI]
def vS(al:AL):List D->List (Nat×Nat×ay)->Option (List D)
 |a,[]=>some a
 |a, (o, n, x) :: rest=>
  match (lx al x).bind D.cells? with
  |some b=>if b.length≠n∨o+n > a.length then none else vS al (put a o b) rest
  |none=>none
theorem Fc(i:Env n al e):∀{ps:List (Nat×Nat×ay)}{cs a:List D},vS al cs ps=some a->lL e cs ps=some a:=by
 intro ps;induction ps with
 |nil=>intro cs a h;exact h
 |cons p ps ih=>
  intro cs a h;obtain ⟨o,m,x⟩:=p;simp only[vS] at h;split at h
  ·rename_i r b;rw[bC] at b;obtain ⟨d,j,l⟩:=b;simp only[lL,dr i j,l,Option.bind_eq_bind,Option.bind_some]
   simp_all
  simp_all
theorem Pv{z cs:List D}{ps:List (Nat×Nat×ay)}(h:vS al z ps=some cs):de P orc n al σ (.build z ps) (.agg cs) σ []:=λe a=>by grind [aI,Fc]
theorem Bk{z cs:List D}{ai len:Nat}{ps:List (Nat×Nat×ay)}(h:vS al (oH len z) ps=some cs)(a:D.sl σ.length 0 len ai cs.length=d1)(hs:σ++[.cells cs]=σ1):de P orc n al σ (.fZ ai len z ps) d1 σ1 []:=λe b=>by grind [aI,Fc]
theorem mP{m:Option Nat}{a:ay}{b off sz:Nat}{cs:List D}(h:lx al a=some (.ptr b off sz))(i:jZ σ b sz=some cs)(j:oW m cs off=some d):de P orc n al σ (.load m a) d σ []:=λe l=>by grind [aI,dr]
theorem xF{m:Option Nat}{a:ay}{off:Nat}{cs:List C}(h:lx al a=some (.c (.bE cs off)))(b:oW m (cs.map .c) off=some d):de P orc n al σ (.load m a) d σ []:=λe i=>by grind [aI,dr]
theorem yc{m:Nat}{a x:ay}{b off sz:Nat}{cs xs:List D}(h:lx al a=some (.ptr b off sz))(i:jZ σ b sz=some cs)(j:lx al x=some d)(l:d.cells? = some xs)(hm:xs.length=m/\off+m<=sz)(hs:σ.set b (.cells (put cs off xs))=σ1) :
  de P orc n al σ (.store m a x) (.aB []) σ1 [b]:=λe o=>by
 grind [aI,dr]
theorem FO{x:ay}{b off sz:Nat}(h:lx al x=some (.ptr b off sz)):de P orc n al σ (.jH x) (.ptr b off sz) σ []:=λe a=>by grind [aI,dr]
theorem dz{k:Nat}{neg:Bool}{x:ay}{b:Bool}(h:lx al x=some d)(a:isNil k d=some b):de P orc n al σ (.fS k neg x) (B (if neg then !b else b)) σ []:=λe i=>by grind [aI,dr]
theorem CZ{o:Nat}{x:ay}{b off sz:Nat}(h:lx al x=some (.ptr b off sz)):de P orc n al σ (.Aw o x) (.ptr b (off+o) sz) σ []:=λe a=>by grind [aI,dr]
theorem QU{o:Nat}{x:ay}{cs:List C}{off:Nat}(h:lx al x=some (.c (.bE cs off))):de P orc n al σ (.Aw o x) (.c (.bE cs (off+o))) σ []:=λe a=>by grind [aI,dr]
theorem kH{α:Type}{l:List α}{i:Int}{a:α}(h:au l i=some a):0<=i/\i<l.length/\l[i.toNat]? = some a:=by grind [au]
theorem Nz{α:Type}{ai:Nat}{x i:ay}{nn:Bool}{l:List α}{f:α->List C}{k:Int}{a:α}(h:lx al x=some (.c (.bG nn (l.map f))))(j:lx al i=some (I k))(m:au l k=some a)(o:(f a).length=ai) :
  de P orc n al σ (.idx ai none x i) (.c (.bE (f a) 0)) σ []:=λe b=>by
 obtain ⟨s,u,p⟩:=kH m;have r:wi k (l.map f).length=some k.toNat:=by unfold wi;simp_all
 simp only[aI,dr b h,dr b j,oF,Option.bind_eq_bind,Option.bind_some,r,gT,p,Option.map_some,o,if_true]
theorem MN{α:Type}{x:ay}{nn:Bool}{l:List α}{f:α->List C}(h:lx al x=some (.c (.bG nn (l.map f)))):de P orc n al σ (.len x) (I l.length) σ []:=λe a=>by grind [aI,AV,dr]
theorem TX{x:ay}(h:lx al x=some (.c (.lit (.slice none 0 0)))):de P orc n al σ (.len x) (I 0) σ []:=λe a=>by grind [aI,AV,dr]
theorem xS{x:ay}{i:Nat}{ds:List D}(h:lx al x=some (.aB ds))(hd:ds[i]? = some d):de P orc n al σ (.extract x i) d σ []:=λe a=>by grind [aI,dr]
theorem Sf{m:Option Nat}{off:Nat}{x:ay}{cs:List D}(h:lx al x=some (.agg cs))(a:oW m cs off=some d):de P orc n al σ (.part off m x) d σ []:=λe b=>by grind [aI,dr]
theorem Cz{g:FuncId}{f:ay}{args:List ay}{ds:List D}(a:lx al f=some (.c (.fn (.func g) [] [])))(b:Mf al args=some ds)(h:orc g ds σ=some (d,σ1,w)):de P orc n al σ (.call f args) d σ1 w:=λe i=>by grind [aI,dr,Cv]
def zH(o:av)(c:Nat)(blk:Option Nat)(w:List Nat)(lo hi:Nat):cP:={ cat:=c,blk:=blk,wr:=w,dst:=o.dst,Vf:=sL o,lo:=lo,hi:=hi }
def Gd(al:AL)(g:Option (Nat×Bool))(b:Bool):Prop:=∀n e,Env n al e->eU e g=some b
theorem fB:Gd al none true:=λ_ _ _=>rfl
theorem eO{t:Nat}{a b:Bool}(h:lk t al=some (B b))(i:b=a):Gd al (some (t,a)) true:=λn e j=>by simp[eU,j.2 t _ h,i]
theorem Ie{t:Nat}{a b:Bool}(h:lk t al=some (B b))(i:b=!a):Gd al (some (t,a)) false:=λn e j=>by simp[eU,j.2 t _ h,i]
theorem Jm{t:Nat}{a:Bool}(h:lk t al=some (.aB [])):Gd al (some (t,a)) false:=λn e b=>by simp[eU,b.2 t _ h]
def sR(al:AL):iA->Option Nat
 |.load _ x=>match lx al x with | some (.ptr b _ _)=>some b | _=>none
 |_=>none
def z_(al:AL):iA->Bool
 |.load _ x=>(lx al x).isSome
 |_=>true
theorem Xd(b:Env n al e){o:av}(h:z_ al o.op=true)(lo a:Nat):(ce o e lo a w).blk=sR al o.op:=by
 obtain ⟨t,op,g⟩:=o;cases op with
 |load m x=>grind [z_,Option.isSome_iff_exists,ce,KD,sR,dr]
 |_=>rfl
theorem Ct(i:Env n al e){o:av}{b:Bool}(m:∀n e,Env n al e->eU e o.g=some b)(h:z_ al o.op=true)(lo a:Nat):ce o e lo a w=zH o (if b then cat o.op else 0) (sR al o.op) w lo a:=by
 have j:=Xd (w:=w) i h lo a;have l:(ce o e lo a w).cat=if b then cat o.op else 0:=by grind [ce]
 unfold zH;rw[<-j,<-l];rfl
theorem JL(a:Env n al e){t:Nat}(j:t<n)(d:D):Env n ((t,d)::al) (e.set t d):=by
 refine ⟨by simp[a.1],λs l h=>?_⟩;simp only[lk] at h;split at h
 ·rename_i i;have:=bP i;simp only[ab] at h;subst this h;rw[List.getElem?_set_self (by rw[a.1];exact j)]
 ·rename_i i;have b:t≠s:=λm=>by simp_all
  rw[xAg b];exact a.2 s l h
variable{k:Nat}{os:List av}{al':AL}{σ':aa}{is:List cP}{t:Nat}{ao:iA}{g:Option (Nat×Bool)}
theorem Df.nil{i:ey}:Df P i k [] n al σ al σ []:=λe j=>⟨e,rfl,j⟩
theorem Df.op{j:ey}(h:de P (j (some t)) n al σ ao d σ1 w)(s:Gd al g true)(hs:(Nat.blt t n&&z_ al ao&&(k == 0 || ie σ σ1 w))=true)(r:Df P j (k-1) os n ((t,d)::al) σ1 al' σ' is) :
  Df P j k (⟨some t,ao,g⟩::os) n al σ al' σ' (zH ⟨some t,ao,g⟩ (cat ao) (sR al ao) w σ.length σ1.length::is):=λe i=>by
 simp only[aU] at hs;obtain ⟨⟨x,z⟩,A⟩:=hs;obtain ⟨E,F,G⟩:=r _ (JL i (oS.mp x) d);refine ⟨E,?_,G⟩;have u:=Ct (w:=w) i (o:=⟨some t,ao,g⟩) s z σ.length σ1.length;simp only[if_true,aV,bm] at u;simp only[iT,du,s n e i,h e i,Option.map_some,kc,A,if_true,F,u]
theorem Df.Yu{j:ey}(h:de P (j none) n al σ ao d σ1 w)(s:Gd al g true)(hs:(z_ al ao&&(k == 0 || ie σ σ1 w))=true)(r:Df P j (k-1) os n al σ1 al' σ' is) :
  Df P j k (⟨none,ao,g⟩::os) n al σ al' σ' (zH ⟨none,ao,g⟩ (cat ao) (sR al ao) w σ.length σ1.length::is):=λe i=>by
 simp only[aU] at hs;obtain ⟨x,z⟩:=hs;obtain ⟨A,E,F⟩:=r _ i;refine ⟨A,?_,F⟩;have u:=Ct (w:=w) i (o:=⟨none,ao,g⟩) s x σ.length σ1.length;simp only[if_true,aV,bm] at u;simp only[iT,du,s n e i,h e i,Option.map_some,kc,z,if_true,E,u]
theorem Df.no{j:ey}(s:Gd al g false)(hs:(Nat.blt t n&&z_ al ao)=true)(r:Df P j (k-1) os n ((t,.aB [])::al) σ al' σ' is) :
  Df P j k (⟨some t,ao,g⟩::os) n al σ al' σ' (zH ⟨some t,ao,g⟩ 0 (sR al ao) [] σ.length σ.length::is):=λe i=>by
 simp only[aU] at hs;obtain ⟨x,z⟩:=hs;obtain ⟨A,E,F⟩:=r _ (JL i (oS.mp x) (.aB []));refine ⟨A,?_,F⟩;have u:=Ct (w:=[]) i (o:=⟨some t,ao,g⟩) s z σ.length σ.length;simp only[if_true,aV,bm] at u;simp only[iT,du,s n e i,kc,ie,List.all_nil,Bool.or_true,if_true,E,u]
end
end Go.Abs
end
section
namespace Go.Abs
variable[Gl]
abbrev ST(cs:List C):D:=.agg (cs.map .c)
theorem map_inj{α:Type}{f:α->List C}(i:∀{a b:α},f a=f b->a=b){l m:List α}(h:l.map f=m.map f):l=m:=by
 induction l generalizing m with
 |nil=>simp_all
 |cons a l ih => cases m with
  |nil=>simp at h
  |cons b m=>grind
theorem Fq:∀{l m:List C},l.map D.c=m.map D.c->l=m:=by
 intro l;induction l with
 |nil=>simp_all
 |cons a l ih => intro m h;cases m with
  |nil=>simp at h
  |cons b m=>grind
theorem WK{α:Type}{f:α->List C}(i:∀{a b:α},f a=f b->a=b){a b:α}(h:ST (f a)=ST (f b)):a=b:=by grind [Fq]
theorem sZ{al1:AL}:Sub al1 []:=True.intro
section
variable{P:Program}{orc:qB}{n:Nat}{al:AL}{σ σ1:aa}{w:List Nat}{d d1 d2:D}{e:List D}
theorem Sz{α:Type}{len:Nat}{x i:ay}{cs:List D}{l:List α}{f:α->D}{k:Int}{a:α}(h:lx al x=some (.agg cs))(j:lx al i=some (I k))(m:au l k=some a)(o:cs=l.map f)(s:l.length=len) :
  de P orc n al σ (.wx 1 len none x i) (f a) σ []:=λe b=>by
 obtain ⟨u,v,p⟩:=kH m;have r:wi k len=some k.toNat:=by unfold wi;simp_all
 subst o;simp[aI,dr b h,dr b j,oF,r,oW,p]
end
end Go.Abs
end
section
namespace Go.Abs
variable[Gl]
section
variable{P:Program}
theorem WH{t:TypeId}{d:TypeDesc}(h:P.underlying t=some d):ee P (underlying t)=some d:=by show ee P (match P.underlying t with | some d=>Go.Sem.pure d | none=>_)=_;rw[h];rfl
theorem FP{d:Nat}{xs h:Array Value}{f:Field}{j:List Field}{a b:Value}{r q:Bool}(p:(f.name != "_")=true)(l:ee P (part f.type xs f.offset)=some a)(m:ee P (part f.type h f.offset)=some b)
  (o:ee P (Op.equalIn d f.type a b)=some r) (s:ee P (Op.eqFields d xs h j)=some q):ee P (Op.eqFields d xs h (f::j))=some (r&&q):=by
 unfold Op.eqFields;have i:f.name≠"_":=by simp_all
 rw[if_pos i,rW,l,aF,rW,m,aF,rW,o,aF];cases r
 ·rfl
 simp_all
theorem eq_int{d:Nat}{t:TypeId}{k i:IntKind}{a b:Int}(h:P.underlying t=some (.int i)):ee P (Op.equalIn (d+1) t (.int k a) (.int k b))=some (a == b):=by simp only[Op.equalIn];rw[rW,WH h,aF];simp only[if_true];rfl
theorem Cm{d:Nat}{t:TypeId}{a b:Bool}(h:P.underlying t=some .bool):ee P (Op.equalIn (d+1) t (.bool a) (.bool b))=some (a == b):=by simp only[Op.equalIn];rw[rW,WH h,aF];rfl
theorem WG{d:Nat}{t:TypeId}{xs i:Array Value}{r:Bool}(l:P.underlying t=some (.struct (P.fieldsOf t)))(o:P.stoodInHeld t=false)(h:ee P (Op.eqFields d xs i (P.fieldsOf t).toList)=some r) :
  ee P (Op.equalIn (d+1) t (.agg xs) (.agg i))=some r:=by
 simp only[Op.equalIn];rw[rW,WH l,aF];dsimp only;rw[rW];show (ee P (Go.Sem.pure P)).bind _=_;simp only[ee,Option.bind_some,o,aV,bm];rw[rW,<-Array.forIn_toList];generalize (P.fieldsOf t).toList=m at h;clear l;induction m generalizing r with
 |nil=>exact h
 |cons f m ih=>
  simp only[List.forIn_cons,Op.eqFields] at h ⊢;rw[rW];split at h
  ·rename_i j;rw[if_pos j];rw[rW] at h ⊢;cases p:ee P (part f.type xs f.offset) with
   |none=>simp_all
   |some a=>
    rw[p] at h;simp only[Option.bind_some] at h ⊢;rw[rW] at h ⊢;cases s:ee P (part f.type i f.offset) with
    |none=>simp_all
    |some b=>
     rw[s] at h;simp only[Option.bind_some] at h ⊢;rw[rW] at h ⊢;cases u:ee P (Op.equalIn d f.type a b) with
     |none=>simp_all
     |some q=>
      rw[u] at h;simp only[Option.bind_some] at h ⊢;cases q
      ·simp only[Bool.not_false,if_true] at h ⊢;exact h
      ·simp only[Dm,aV,bm] at h ⊢;exact ih h
  ·rename_i j;rw[if_neg j];exact ih h
theorem Sv{t:TypeId}{x y:Operand}{xs a:Array Value}{r:Bool}(hm:P.eqGuardType P.depth t=false)(h:ee P (Op.equalIn 10000 t (.agg xs) (.agg a))=some r):fe P .eql t x y (.agg xs) (.agg a)=some (.bool r):=by
 unfold fe;rw[rW];have b:ee P (eqGuard .eql t x y (.agg xs) (.agg a))=some ():=by simp only[eqGuard,Dm,aV,bm];show ee P (if (!P.eqGuardType P.depth t)=true then Go.Sem.pure () else _)=_;rw[hm];rfl
 rw[b,aF];show ee P (do Go.Sem.pure (Value.bool (<-Op.equal t (.agg xs) (.agg a))))=_;rw[rW];unfold Op.equal Op.maxDepth;rw[h];rfl
theorem RG{t:TypeId}{x y:Operand}{xs a:Array Value}{r:Bool}(hm:P.eqGuardType P.depth t=false)(h:ee P (Op.equalIn 10000 t (.agg xs) (.agg a))=some r):fe P .neq t x y (.agg xs) (.agg a)=some (.bool (!r)):=by
 unfold fe;rw[rW];have b:ee P (eqGuard .neq t x y (.agg xs) (.agg a))=some ():=by simp only[eqGuard,Dm,aV,bm];show ee P (if (!P.eqGuardType P.depth t)=true then Go.Sem.pure () else _)=_;rw[hm];rfl
 rw[b,aF];show ee P (do Go.Sem.pure (Value.bool (!(<-Op.equal t (.agg xs) (.agg a)))))=_;rw[rW];unfold Op.equal Op.maxDepth;rw[h];rfl
end
end Go.Abs
namespace Go.Abs
variable[Gl]
section
variable{P:Program}{orc:qB}{n:Nat}{al:AL}{σ:aa}{d:D}{e:List D}
def zI(P:Program)(op:Op)(ty:TypeId)(al:AL):Option D:=
 if op.operands.toList.all (λx=>((uT al x).bind D.bO).isSome) then
  match ee P (execOp (λx=>(((uT al x).bind D.bO).getD undef)) { dst:=none,op:=op,type:=ty,pos:="",after:=#[],guard:=none }) with
  |some (.value v)=>some (cp v)
  |_=>none
 else none
theorem SI{op:Op}{ty:TypeId}(i:∀cs b,op≠.select cs b)(h:zI P op ty al=some d)(m:Env n al e):kl P op ty e=some d:=by
 unfold zI at h;split at h
 ·rename_i a;rw[eG] at a;have l:∀x∈op.operands.toList,((ba x).map (ay.ev e)).bind D.bO = (uT al x).bind D.bO:=by
   grind [Option.isSome_iff_exists,Option.bind_eq_some_iff,uT,dr]
  have j:∀x:Operand,(x∈op.operands.toList)->((((ba x).map (ay.ev e)).bind D.bO).getD undef)=(((uT al x).bind D.bO).getD undef):=λx o=>by simp_all
  unfold kl;rw[if_pos (by simp_all)]
  grind [Go.execOp_congr]
 simp_all
theorem d_{c:Call}{ty:TypeId}(h:zI P (.call c) ty al=some d):de P orc n al σ (.gen (.call c) ty) d σ []:=λe a=>by simp[aI,SI (λi b=>by simp) h a]
end
end Go.Abs
namespace Go.Abs
variable[Gl]
section
variable{P:Program}{orc:qB}{n:Nat}{al:AL}{σ:aa}{d:D}{e:List D}
theorem NA{t:TypeId}{x y:Operand}{a b:Bool}(h:P.underlying t=some .bool):fe P .eql t x y (.bool a) (.bool b)=some (.bool (a == b)):=by unfold fe;rw[rW];show (some ()).bind _=_;rw[aF];show ee P (do Go.Sem.pure (Value.bool (<-Op.equal t (.bool a) (.bool b))))=_;rw[rW];unfold Op.equal Op.maxDepth;rw[Cm (d:=9999) h];rfl
theorem N_{t:TypeId}{x y:Operand}{a b:Bool}(h:P.underlying t=some .bool):fe P .neq t x y (.bool a) (.bool b)=some (.bool (!(a == b))):=by unfold fe;rw[rW];show (some ()).bind _=_;rw[aF];show ee P (do Go.Sem.pure (Value.bool (!(<-Op.equal t (.bool a) (.bool b)))))=_;rw[rW];unfold Op.equal Op.maxDepth;rw[Cm (d:=9999) h];rfl
def zx(k:IntKind)(a b:Int):Option Int:=if b=0 then none else some (k.wrap (a.tdiv b))
def Vu(a b:Int):Option Int:=if b=0 then none else some (a.tmod b)
def Wa(k:IntKind)(a b:Int):Option Int:=if b<0 then none else some (a.fdiv (2 ^ min b.toNat k.bits))
theorem Tm{t:TypeId}{x y:Operand}{i j:IntKind}{a b v:Int}(h:Wa i a b=some v):fe P .shr t x y (.int i a) (.int j b)=some (.int i v):=by
 unfold Wa at h;split at h
 ·simp at h
 ·rename_i l;simp only[ab] at h;subst h;unfold fe;rw[rW];show (some ()).bind _=_;rw[aF];simp only[binOp,Op.shift,if_neg l];rfl
def Xj(k:IntKind)(a b:Int):Option Int:=if b<0 then none else some (k.wrap (a * 2 ^ min b.toNat k.bits))
theorem RU{t:TypeId}{x y:Operand}{i j:IntKind}{a b v:Int}(h:Xj i a b=some v):fe P .shl t x y (.int i a) (.int j b)=some (.int i v):=by
 unfold Xj at h;split at h
 ·simp at h
 ·rename_i l;simp only[ab] at h;subst h;unfold fe;rw[rW];show (some ()).bind _=_;rw[aF];simp only[binOp,Op.shift,if_neg l];rfl
theorem Tj{t:TypeId}{x y:Operand}{k:IntKind}{a b v:Int}(h:zx k a b=some v):fe P .quo t x y (.int k a) (.int k b)=some (.int k v):=by
 unfold zx at h;split at h
 ·simp at h
 ·rename_i i;simp only[ab] at h;subst h;unfold fe;rw[rW];show (some ()).bind _=_;rw[aF];simp only[binOp,ne_eq,not_true_eq_false,bm,Op.intDiv,if_neg i];rfl
theorem R_{t:TypeId}{x y:Operand}{k:IntKind}{a b v:Int}(h:Vu a b=some v):fe P .rem t x y (.int k a) (.int k b)=some (.int k v):=by
 unfold Vu at h;split at h
 ·simp at h
 ·rename_i i;simp only[ab] at h;subst h;unfold fe;rw[rW];show (some ()).bind _=_;rw[aF];simp only[binOp,ne_eq,not_true_eq_false,bm,Op.intDiv,if_neg i];rfl
theorem Rp{α:Type}{x i:ay}{b off sz len ai:Nat}{k:Int}{l:List α}{a:α}(h:lx al x=some (.ptr b off sz))(m:lx al i=some (I k))(j:au l k=some a)(o:l.length=len)(hd:D.ptr b (off+k.toNat * ai) sz=d) :
  de P orc n al σ (.idx ai (some len) x i) d σ []:=λe p=>by
 subst hd;obtain ⟨r,s,u⟩:=kH j;have v:wi k len=some k.toNat:=by unfold wi;simp_all
 grind [aI,oF,dr]
end
end Go.Abs
end
section
namespace Go.Abs
variable[Gl]
abbrev OS(ai b n:Nat):D:=.sl b 0 n ai (n * ai)
abbrev OB{α:Type}(f:α->List C)(l:List α):Ob:=.cells ((l.flatMap f).map .c)
section
variable{α:Type}{f:α->List C}{ai:Nat}
theorem gL(b:∀a,(f a).length=ai):∀(l:List α),(l.flatMap f).length=l.length * ai:=by
 intro l;induction l with
 |nil=>simp
 |cons a l ih=>grind
theorem QZ(b:∀a,(f a).length=ai):∀(l:List α)(i:Nat)(a:α),l[i]? = some a->((l.flatMap f).drop (i * ai)).take ai=f a:=by
 intro l;induction l with
 |nil=>simp_all
 |cons x l ih=>
  intro i a h;cases i with
  |zero=>simp_all
  |succ i=>
   simp only[List.getElem?_cons_succ] at h;simp only[Vl];have:(i+1) * ai=(f x).length+i * ai:=by grind
   rw[this,xAc,<-ih i a h,UK (by omega),QF]
   simp_all
theorem Fe(h:∀a,(f a).length=ai)(l:List α)(lo n:Nat):((l.flatMap f).drop (lo * ai)).take (n * ai)=((l.drop lo).take n).flatMap f:=by
 induction l generalizing lo n with
 |nil=>simp
 |cons x l ih=>
  cases lo with
  |succ lo=>
   simp only[Vl,List.drop_succ_cons];have:(lo+1) * ai=(f x).length+lo * ai:=by grind
   rw[this,xAc,<-ih lo n,UK (by omega),QF]
   simp_all
  |zero=>
   cases n with
   |zero=>simp
   |succ n=>
    simp only[VU,ZL,Vl,List.take_succ_cons];have b:(n+1) * ai=(f x).length+n * ai:=by grind
    rw[b,List.take_append];have:=ih 0 n
    grind
theorem eW{σ:aa}{b:Nat}{l:List α}(i:∀a,(f a).length=ai)(h:σ[b]? = some (OB f l)):jZ σ b (l.length * ai)=some ((l.flatMap f).map .c):=by grind [jZ,gL]
theorem HP(b:∀a,(f a).length=ai):∀(l:List α),chunks ai l.length (l.flatMap f)=l.map f:=by
 intro l;induction l with
 |nil=>rfl
 |cons a l ih=>
  simp only[List.length_cons,chunks,Vl,mb]
  simp_all
theorem Kx{σ:aa}{n k:Nat}:∀(l:List C),(l.map D.c).mapM (dK σ n (k+1))=some l:=by
 intro l;induction l with
 |nil=>rfl
 |cons x l ih=>rw[mb,Lm,ih];rfl
theorem zh{σ:aa}{b k n:Nat}{l:List α}(i:∀a,(f a).length=ai)(j:0<ai)(h:σ[b]? = some (OB f l))(m:l.length=n):dK σ 0 (k+2) (OS ai b n)=some (.bG (Nat.blt 0 n) (l.map f)):=by
 subst m;have:dK σ 0 (k+2) (OS ai b l.length)=(if 0<=b/\0<ai/\0+l.length * ai<=l.length * ai then
    match jZ σ b (l.length * ai) with
    |some o=>(((o.drop 0).take (l.length * ai)).mapM (dK σ 0 (k+1))).map λr=>C.bG (Nat.blt 0 l.length) (chunks ai l.length r)
    |none=>none
   else none):=rfl
 rw[this,if_pos ⟨JG _,j,by omega⟩,eW i h]
 grind [List.take_of_length_le,gL,Kx,HP]
theorem SA{σ:aa}{b n:Nat}{l:List α}(i:∀a,(f a).length=ai)(j:0<ai)(h:σ[b]? = some (OB f l))(m:l.length=n):qQ σ 0 100 (OS ai b n)=some (.c (.bG (Nat.blt 0 n) (l.map f))):=by
 show (dK σ 0 100 (OS ai b n)).map D.c=_
 grind [zh]
theorem VP{a:Type}{g:D->Option a}{d:D}{ds:List D}{r:a}{rs:List a}(h:g d=some r)(b:ds.mapM g=some rs):(d::ds).mapM g=some (r::rs):=by simp_all
theorem TN{σ:aa}{ds rs:List D}(h:ds.mapM (kK σ 0 100)=some rs):qQ σ 0 100 (.aB ds)=some (.aB rs):=by
 show (ds.mapM (kK σ 0 100)).map D.aB=_
 simp_all
theorem TD{σ:aa}{ds:List D}{rs:List C}(h:ds.mapM (dK σ 0 100)=some rs):kK σ 0 100 (.agg ds)=some (.agg (rs.map .c)):=by
 show (ds.mapM (dK σ 0 100)).map (λl=>D.agg (l.map .c))=_
 simp_all
def Src(σ:aa)(f:α->List C)(ai:Nat)(d:D)(m:List α):Prop:=AV σ d=some m.length/\Nc σ ai m.length d=some ((m.flatMap f).map .c)
def Om(σ:aa)(f:α->List C)(ai:Nat)(d:D)(m:List α):Prop:=AV σ d=some m.length/\∀n,n<=m.length->Nc σ ai n d=some (((m.take n).flatMap f).map .c)
theorem Pk{σ:aa}{nn:Bool}{m:List α}(b:∀a,(f a).length=ai):Om σ f ai (.c (.bG nn (m.map f))) m:=by
 refine ⟨by simp[AV],λn h=>?_⟩;show (if n<=(m.map f).length/\(m.map f).all (λe=>e.length=ai) then some (((m.map f).take n).flatten.map D.c) else none)=_;rw[if_pos ⟨by simp_all,by simp[b]⟩,<-Yd]
 grind
theorem MK{σ:aa}:Om σ f ai (.c (.lit (.slice none 0 0))) []:=⟨rfl,λn a=>by
 obtain rfl:n=0:=by simp_all
 rfl⟩
theorem My{σ:aa}{b n:Nat}{l:List α}(i:∀a,(f a).length=ai)(h:σ[b]? = some (OB f l))(j:l.length=n):Om σ f ai (OS ai b n) l:=by subst j;refine ⟨by grind [AV,eW],λk hk=>?_⟩;show ((jZ σ b (l.length * ai)).bind λm=>if ai=ai/\k<=l.length/\0+l.length * ai<=l.length * ai then some ((m.drop 0).take (k * ai)) else none)=_;have:=Fe i l 0 k;simp only[VU,ZL] at this;rw[eW i h,aF,if_pos ⟨rfl,hk,by omega⟩,ZL,<-Yd,this]
theorem Lq(b:∀a,(f a).length=ai)(l:List α)(n:Nat):(l.flatMap f).take (n * ai)=(l.take n).flatMap f:=by
 have:=Fe b l 0 n
 simp_all
theorem Kb(b:∀a,(f a).length=ai):∀(l:List α)(n:Nat),(l.flatMap f).drop (n * ai)=(l.drop n).flatMap f:=by
 intro l;induction l with
 |nil=>simp_all
 |cons x l ih=>
  intro n;cases n with
  |zero=>simp
  |succ n=>
   have:(n+1) * ai=(f x).length+n * ai:=by grind
   rw[Vl,List.drop_succ_cons,<-ih n,this,xAc,UK (by omega),QF]
   simp_all
def QP(l m:List α)(lo len:Nat):List α:=l.take lo++m.take len++l.drop (lo+(m.take len).length)
theorem Jy{l m:List α}{lo len:Nat}(h:lo+len<=l.length):(QP l m lo len).length=l.length:=by grind [QP]
theorem wX{σ:aa}{nn:Bool}{m:List α}(b:∀a,(f a).length=ai):Src σ f ai (.c (.bG nn (m.map f))) m:=by
 refine ⟨by simp[AV],?_⟩;show (if m.length<=(m.map f).length/\(m.map f).all (λe=>e.length=ai) then some (((m.map f).take m.length).flatten.map D.c) else none)=_
 grind
theorem RD{σ:aa}:Src σ f ai (.c (.lit (.slice none 0 0))) []:=⟨rfl,rfl⟩
theorem IC{σ:aa}{b n:Nat}{l:List α}(i:∀a,(f a).length=ai)(h:σ[b]? = some (OB f l))(j:l.length=n):Src σ f ai (OS ai b n) l:=by subst j;refine ⟨by grind [AV,eW],?_⟩;show ((jZ σ b (l.length * ai)).bind λm=>if ai=ai/\l.length<=l.length/\0+l.length * ai<=l.length * ai then some ((m.drop 0).take (l.length * ai)) else none)=_;rw[eW i h,aF,if_pos ⟨rfl,bQ _,by omega⟩,ZL,Za (by simp[gL i])]
end
section
variable{P:Program}{orc:qB}{n:Nat}{al:AL}{σ σ1:aa}{d d1 d2:D}{α:Type}{f:α->List C}{ai:Nat}{ac:az}{Q:jr->AL->aa->Prop}
theorem Sem.own(t ai:Nat)(hk:lk t al=some (.c (.lit (.slice none 0 0))))(hd:D.sl σ.length 0 0 ai 0=d)(hs:σ++[.cells []]=σ1)(h:Sem P ac n ((t,d)::al) σ1 Q):Sem P ac n al σ Q:=by
 subst hd hs;intro c z M Fz w a K R A E;have j:=aW.ph R;have F:=R.ph;have i:∀{d v},V σ M Fz w d v->V (σ++[.cells []]) M Fz w d v:=λh=>h.mono j;have G:dq n (σ++[.cells []]) M Fz w ((t,.sl σ.length 0 0 ai 0)::al) a.tmps:=by
  refine ⟨A.1,λs d hs=>?_⟩;simp only[lk] at hs;split at hs
  ·rename_i L;have:=bP L;simp only[ab] at hs;subst this hs;obtain ⟨v,o,u⟩:=A.2 t _ hk;refine ⟨v,o,?_⟩;rw[u.bx];exact .sl none 0 0 (by simp) (.cells []) (by simp) (by omega) (λ_=>.inl ⟨rfl,rfl,rfl,rfl,rfl,rfl⟩)
  ·obtain ⟨v,o,u⟩:=A.2 s d hs
   simp_all
 exact h c z M Fz w a K F G λx al' σ' O w' M' Fz' U hd W X Y Z=>E x al' σ' O w' M' Fz' U hd W X (j.trans Y (by simp)) (by grind)
theorem Gg{x:ay}{b k:Nat}{l:List α}(i:∀a,(f a).length=ai)(h:lx al x=some (OS ai b k))(j:σ[b]? = some (OB f l))(m:l.length=k):de P orc n al σ (.len x) (I k) σ []:=λe o=>by grind [aI,AV,dr,eW]
def cL{α:Type}(l m:List α):Option (List α):=if l.length+m.length<=1000000 then some (l++m) else none
theorem pV{l m r:List α}(h:cL l m=some r):l.length+m.length<=1000000/\r=l++m:=by
 unfold cL at h
 simp_all
theorem qJ{i:Nat}{s x:ay}{b k:Nat}{l m r:List α}(F:∀a,(f a).length=ai)(h:lx al s=some (OS ai b k))(G:σ[b]? = some (OB f l))(hk:l.length=k)(K:lx al x=some d)(hm:Src σ f ai d m)(L:cL l m=some r)
  (v:Nat.ble i 1000=true) (hd:OS ai b r.length=d1) (hs:σ.set b (OB f r)=σ1):de P orc n al σ (.append ai i s x) d1 σ1 [b]:=by
 obtain ⟨o,rfl⟩:=pV L;subst hd hs hk;have p:i<=1000:=wS v;have j:zn (l.length+m.length) i=true:=by have:(l.length+m.length) * i<=1000000 * 1000:=Nat.mul_le_mul o p;simp only[zn,aU,aM];omega
 have y:∀e,Env n al e->aI P orc (.append ai i s x) e σ=(if m.length=0 then some (OS ai b l.length,σ,[b]) else some (.sl b 0 (l.length+m.length) ai (l.length * ai+m.length * ai),σ.set b (.cells ((l.flatMap f).map .c++(m.flatMap f).map .c)),[b])):=by
  intro e u;have:aI P orc (.append ai i s x) e σ=(AV σ d).bind λk=>(Nc σ ai k d).bind λnew=>(jZ σ b (l.length * ai)).bind λz=>if ai=ai/\0=0/\l.length * ai=l.length * ai/\zn (l.length+k) i then
     if k=0 then some (.sl b 0 l.length ai (l.length * ai),σ,[b])
     else some (.sl b 0 (l.length+k) ai (l.length * ai+k * ai),σ.set b (.cells (z++new)),[b])
    else if ai=ai/\0=0/\(l.length+k) * ai<=l.length * ai/\zn (l.length+k) i then
     if k=0 then some (.sl b 0 l.length ai (l.length * ai),σ,[b])
     else some (.sl b 0 (l.length+k) ai (l.length * ai),σ.set b (.cells (put z (l.length * ai) new)),[b])
    else none:=by
   simp only[aI,dr u h,dr u K];rfl
  rw[this,hm.1,aF,hm.2,aF,eW F G,aF,if_pos ⟨rfl,rfl,rfl,j⟩]
 intro e u;by_cases A:m.length=0
 ·rw[y e u,if_pos A];have:m=[]:=QI A;subst this;have E:σ.set b (OB f (l++[]))=σ:=by
   rw[DA];apply L_
   grind
  simp_all
 grind
theorem Rb{x y:ay}{b lo len:Nat}{l m:List α}(i:∀a,(f a).length=ai)(h:lx al x=some (.sl b (0+lo * ai) len ai (l.length * ai)))(p:σ[b]? = some (OB f l))(j:lo+len<=l.length)(r:lx al y=some d)(hm:Om σ f ai d m)(hs:σ.set b (OB f (QP l m lo len))=σ1) :
  de P orc n al σ (.copy ai x y) (I ((m.take len).length:Int)) σ1 [b]:=λe o=>by
 subst hs;have s:min m.length len=(m.take len).length:=by grind
 have u:m.take (min m.length len)=m.take len:=by simp_all
 have v:0+lo * ai+len * ai<=l.length * ai:=by
  have:=Ol ai j
  grind
 have z:put ((l.flatMap f).map D.c) (0+lo * ai) (((m.take len).flatMap f).map D.c)=((QP l m lo len).flatMap f).map D.c:=by simp only[put,QP,<-Yd,<-List.map_drop,vN,gL i,List.flatMap_append,YI,Dn,Lq i];rw[<-Ph,Kb i]
 simp only[aI,dr o h,dr o r,eW i p,hm.1,Option.bind_eq_bind,Option.bind_some,Option.map_some,hm.2 _ (Nat.min_le_left m.length len)]
 grind
theorem Gr{x i:ay}{b m:Nat}{k:Int}{l:List α}{a:α}(p:∀a,(f a).length=ai)(h:lx al x=some (OS ai b m))(r:σ[b]? = some (OB f l))(j:l.length=m)(s:lx al i=some (I k))(o:au l k=some a) :
  de P orc n al σ (.idx ai none x i) (.ptr b (k.toNat * ai) (m * ai)) σ []:=λe u=>by
 subst j;obtain ⟨v,y,z⟩:=kH o;have A:wi k l.length=some k.toNat:=by unfold wi;simp_all
 grind [aI,oF,dr,eW]
theorem PU{l:List α}{k:Int}{a:α}(b:au l k=some a):l[k.toNat]? = some a:=(kH b).2.2
theorem zA(j:∀a,(f a).length=ai){l:List α}{i o:Nat}{a:α}{m:Option Nat}(p:l[i]? = some a)(h:oW m ((f a).map .c) o=some d):oW m ((l.flatMap f).map .c) (i * ai+o)=some d:=by
 have r:=QZ j l i a p;have b:(i+1) * ai<=(l.flatMap f).length:=by grind
 rw[Ph,Nat.one_mul] at b;cases m with
 |none=>
  simp only[oW,gT,bq] at h ⊢
  grind
 |some m=>
  simp only[oW] at h ⊢;split at h
  ·rename_i s;simp only[vN,j] at s;rw[if_pos (by grind)]
   grind [List.map_drop,List.map_take,List.drop_take,List.drop_drop]
  simp_all
theorem NM{m:Option Nat}{x:ay}{b p q o i:Nat}{l:List α}{a:α}(j:∀a,(f a).length=ai)(h:lx al x=some (.ptr b p (q * ai)))(r:p=i * ai+o)(s:σ[b]? = some (OB f l))(u:l.length=q)(v:l[i]? = some a)
  (y:oW m ((f a).map .c) o=some d):de P orc n al σ (.load m x) d σ []:=by
 subst u r;exact mP h (eW j s) (zA j v y)
theorem Nw(j:∀a,(f a).length=ai){xs:List C}:∀(l:List α)(i o:Nat)(a b:α),l[i]? = some a->o+xs.length<=ai->f b=(f a).take o++xs++(f a).drop (o+xs.length) ->
  (l.flatMap f).take (i * ai+o)++xs++(l.flatMap f).drop (i * ai+o+xs.length)=(l.set i b).flatMap f:=by
 intro l;induction l with
 |nil=>simp_all
 |cons x l ih=>
  intro i o a b h m p;cases i with
  |zero=>grind
  |succ i=>
   simp only[List.getElem?_cons_succ] at h;have u:=j x;have r:(i+1) * ai+o=(f x).length+(i * ai+o):=by grind
   simp only[Vl,List.set_cons_succ];rw[<-ih i o a b h m p,r,List.take_append,Za (by omega)];have s:(f x).length+(i * ai+o)+xs.length=(f x).length+(i * ai+o+xs.length):=by omega
   rw[s,xAc,UK (by omega),QF,yBV,yBV];simp
theorem KA{m:Nat}{x y:ay}{b p q o i:Nat}{l:List α}{a j:α}{xs:List C}(v:∀a,(f a).length=ai)(h:lx al x=some (.ptr b p (q * ai)))(E:p=i * ai+o)(F:σ[b]? = some (OB f l))(G:l.length=q)(z:l[i]? = some a)
  (K:lx al y=some d) (L:d.cells? = some (xs.map .c)) (hm:xs.length=m) (N:Nat.ble (o+m) ai=true) (O:f j=(f a).take o++xs++(f a).drop (o+xs.length)) {A:List α} (r:l.set i j=A) (hs:σ.set b (OB f A)=σ1) :
  de P orc n al σ (.store m x y) (.aB []) σ1 [b]:=by
 subst G E r hs hm;have s:o+xs.length<=ai:=wS N;have R:=(dT.1 z).1;have u:(i+1) * ai<=l.length * ai:=Ol _ R;rw[Ph,Nat.one_mul] at u;refine yc h (eW v F) K L ⟨by simp,by omega⟩ ?_;congr 2;rw[<-Nw v l i o a j z s O];simp[put]
theorem gu{len:Nat}{z cs:List D}{ps:List (Nat×Nat×ay)}{l:List α}(h:vS al (oH len z) ps=some cs)(b:cs=(l.flatMap f).map .c)(i:l.length=len)(j:∀a,(f a).length=ai)(m:OS σ.length ai len=OS σ.length ai len)(hd:OS ai σ.length len=d1)(hs:σ++[OB f l]=σ1) :
  de P orc n al σ (.fZ ai len z ps) d1 σ1 []:=by
 grind [Bk,gL]
theorem KP{z:α}:∀(k:Nat),oH k ((f z).map .c)=((List.replicate k z).flatMap f).map .c:=by
 intro k;induction k with
 |zero=>rfl
 |succ k ih=>grind [oH]
def Ms{α:Type}(z:α)(l c:Int):Option (List α):=if 0<=l/\l<=c/\c<=1000000 then some (List.replicate l.toNat z) else none
def Kr{α:Type}(c:Int):Option (List α):=if 0<=c/\c<=1000000 then some [] else none
theorem Ww{a:Nat}{m:List D}{x y:ay}{c:Int}{l:List α}(o:lx al x=some (I 0))(p:lx al y=some (I c))(hm:Kr c=some l)(i:Nat.ble a 1000=true)
  (hd:OS ai σ.length l.length=d1) (hs:σ++[OB f l]=σ1):de P orc n al σ (.mk ai a m x y) d1 σ1 []:=λe j=>by
 subst hd hs;unfold Kr at hm;split at hm
 ·rename_i s;simp only[ab] at hm;subst hm;have h:a<=1000:=wS i;have b:zn c.toNat a=true:=by
   have r:c.toNat<=1000000:=by omega
   have:c.toNat * a<=1000000 * 1000:=Nat.mul_le_mul r h;simp only[zn,aU,aM];omega
  simp only[aI,dr j o,dr j p,oF,Option.bind_eq_bind,Option.bind_some];rw[if_pos ⟨by omega,by omega,b⟩];simp[OS,OB,oH]
 simp_all
theorem ZZ{a:Nat}{j:List D}{x y:ay}{k c:Int}{z:α}{l:List α}(p:lx al x=some (I k))(r:lx al y=some (I c))(s:j=(f z).map .c)(hm:Ms z k c=some l)(i:Nat.ble a 1000=true)
  (hd:OS ai σ.length l.length=d1) (hs:σ++[OB f l]=σ1):de P orc n al σ (.mk ai a j x y) d1 σ1 []:=λe m=>by
 subst hd hs s;unfold Ms at hm;split at hm
 ·rename_i o;simp only[ab] at hm;subst hm;have h:a<=1000:=wS i;have b:zn c.toNat a=true:=by
   have u:c.toNat<=1000000:=by omega
   have:c.toNat * a<=1000000 * 1000:=Nat.mul_le_mul u h;simp only[zn,aU,aM];omega
  simp only[aI,dr m p,dr m r,oF,Option.bind_eq_bind,Option.bind_some];rw[if_pos ⟨o.1,o.2.1,b⟩,KP];simp[OS]
 simp_all
def slice?{α:Type}(l:List α)(lo a:Int):Option (List α):=if 0<=lo/\lo<=a/\a<=l.length then some ((l.take a.toNat).drop lo.toNat) else none
theorem Wu{x:ay}{lo p:Option ay}{nn:Bool}{l r:List α}{i j:Int}(z:∀a,(f a).length=ai)(h:lx al x=some (.c (.bG nn (l.map f))))(b:(match lo with | none=>some (I 0) | some o=>lx al o)=some (I i))
  (m:(match p with | none=>some (I l.length) | some o=>lx al o)=some (I j)) (s:slice? l i j=some r):de P orc n al σ (.Mp ai x lo p) (.c (.bG nn (r.map f))) σ []:=λe u=>by
 unfold slice? at s;split at s
 ·rename_i A;simp only[ab] at s;subst s;have v:kI e (l.map f).length (l.map f).length p=some j.toNat:=by
   cases p with
   |none=>simp only[ab,I,D.c.injEq,C.lit.injEq,Value.int.injEq,true_and] at m;grind [kI]
   |some o=>
    simp only at m;simp only[kI,dr u m,oF,Option.bind_some,Iq]
    grind
  have y:kI e 0 j.toNat lo=some i.toNat:=by
   cases lo with
   |none=>simp only[ab,I,D.c.injEq,C.lit.injEq,Value.int.injEq,true_and] at b;grind [kI]
   |some o=>
    simp only at b;simp only[kI,dr u b,oF,Option.bind_some,Iq]
    grind
  simp only[aI,dr u h,v,y,Option.bind_eq_bind,Option.bind_some]
  simp_all
 simp_all
end
end Go.Abs
namespace Go.Abs
variable[Gl]
end Go.Abs
namespace Go.Abs
variable[Gl]
theorem MQ{m:Nat}:∀(l:List C),D.low.bM m (l.map D.c)=true:=by
 intro l;induction l with
 |nil=>rfl
 |cons x l ih=>grind [D.low.bM,D.low]
end Go.Abs
end
section
namespace Go.Abs
variable[Gl]
def bj(P:Program)(orc:ey)(k:Nat)(os:List av)(n:Nat)(al:AL)(σ:aa)(Q:AL->aa->List cP->Prop):Prop:=
 ∃al' σ' is,Df P orc k os n al σ al' σ' is/\Q al' σ' is
section
variable{P:Program}{orc:ey}{n k:Nat}{al al1:AL}{σ σ1:aa}{w:List Nat}{d:D}{os:List av}{t:Nat}{ao:iA}{g:Option (Nat×Bool)}{Q:AL->aa->List cP->Prop}
theorem bj.nil(h:Q al σ []):bj P orc k [] n al σ Q:=⟨al,σ,[],Df.nil,h⟩
theorem bj.op(h:de P (orc (some t)) n al σ ao d σ1 w)(i:Gd al g true)(hs:(Nat.blt t n&&z_ al ao&&(k == 0 || ie σ σ1 w))=true)
  (r:bj P orc (k-1) os n ((t,d)::al) σ1 λal' σ' is=>Q al' σ' (zH ⟨some t,ao,g⟩ (cat ao) (sR al ao) w σ.length σ1.length::is)):bj P orc k (⟨some t,ao,g⟩::os) n al σ Q:=by
 obtain ⟨al',σ',is,j,o⟩:=r;exact ⟨al',σ',_,Df.op h i hs j,o⟩
theorem bj.Yu(h:de P (orc none) n al σ ao d σ1 w)(i:Gd al g true)(hs:(z_ al ao&&(k == 0 || ie σ σ1 w))=true)
  (r:bj P orc (k-1) os n al σ1 λal' σ' is=>Q al' σ' (zH ⟨none,ao,g⟩ (cat ao) (sR al ao) w σ.length σ1.length::is)):bj P orc k (⟨none,ao,g⟩::os) n al σ Q:=by
 obtain ⟨al',σ',is,j,o⟩:=r;exact ⟨al',σ',_,Df.Yu h i hs j,o⟩
theorem bj.no(i:Gd al g false)(hs:(Nat.blt t n&&z_ al ao)=true)
  (r:bj P orc (k-1) os n ((t,.aB [])::al) σ λal' σ' is=>Q al' σ' (zH ⟨some t,ao,g⟩ 0 (sR al ao) [] σ.length σ.length::is)):bj P orc k (⟨some t,ao,g⟩::os) n al σ Q:=by
 obtain ⟨al',σ',is,j,o⟩:=r;exact ⟨al',σ',_,Df.no i hs j,o⟩
theorem Sem.lP{Q:jr->AL->aa->Prop}(i:P.follows .mixedOrders=true)(O:jX P orc)(h:bj P orc 0 os n al σ λal' σ' _=>Q .normal al' σ'):Sem P (.wm os) n al σ Q:=by
 obtain ⟨al',σ',is,j,o⟩:=h
 grind [Sem.wm]
theorem Sem.drwQ{Q:jr->AL->aa->Prop}{i:List Nat}{p:Nat}(j:P.follows .mixedOrders=true)(O:jX P orc)
  (h:bj P orc k os n al σ λal' σ' is=>(dk i is&&kU i p k os.length&&Nat.ble p k)=true/\Q .normal al' σ'):Sem P (.AE os i k p) n al σ Q:=by
 obtain ⟨al',σ',is,o,s,u⟩:=h
 grind [Sem.AE]
theorem Sem.Y_{Q:jr->AL->aa->Prop}{i:List Nat}{p:Nat}(j:P.follows .mixedOrders=true)(O:jX P orc)
  (h:bj P orc os.length os n al σ λal' σ' is=>(dk i is&&kU i p os.length os.length&&Nat.ble p os.length)=true/\Q .normal al' σ'):Sem P (.AE os i k p) n al σ Q:=by
 obtain ⟨al',σ',is,o,s,u⟩:=h
 grind [Sem.drwN]
def shut(n:Nat)(al:AL)(o:av):Option Nat:=
 match o.g,o.dst with
 |some (t, want), some s=>
  match lk t al with
  |some (.c (.lit (.bool b)))=>if (b != want)&&(Nat.blt s n&&z_ al o.op) then some s else none
  |some (.aB [])=>if Nat.blt s n&&z_ al o.op then some s else none
  |_=>none
 |_,_=>none
end
end Go.Abs
end
section
namespace Go.Abs
variable[Gl]
def cq{α:Type}:List (Int×α)->Int->Option α
 |[],_=>none
 |(b,a)::l,k=>if b=k then some a else cq l k
def kj{α:Type}:List (Int×α)->Int->α->List (Int×α)
 |[],k,a=>[(k,a)]
 |(b,h)::l,k,a=>if b=k then (b,a)::l else (b,h)::kj l k a
def zG{α:Type}:List (Int×α)->Int->Nat
 |[],_=>0
 |(a,_)::l,k=>if a=k then 0 else zG l k+1
def ud{α:Type}(g:α->D):Nat->List (Int×α)->List (Value×D×Nat)
 |_,[]=>[]
 |i,(k,a)::l=>(.int .i64 k,g a,i)::ud g (i+1) l
abbrev MB{α:Type}(g:α->D)(l:List (Int×α)):Ob:=.map (ud g 0 l) l.length
def Zh{α b:Type}(o:Option α)(n:b)(s:α->b):b:=match o with | none=>n | some a=>s a
section
variable{α:Type}
theorem tY{m:IntKind}{g:α->D}{k:Int}:∀(l:List (Int×α))(i j:Nat),mY (.int m) (.int .i64 k) (ud g i l) j=some ((cq l k).map λa=>(j+zG l k,g a)):=by
 intro l;induction l with
 |nil=>intro i j;rfl
 |cons x l ih=>
  intro i j;obtain ⟨b,a⟩:=x;simp only[ud,mY,Instr.sameNow,if_true];by_cases h:b=k
  ·grind [cq,zG]
  ·have o:(k == b)=false:=by grind
   simp only[o,ih,cq,zG,if_neg h]
   grind
theorem Lu{g:α->D}{k:Int}{a:α}:∀(l:List (Int×α))(i:Nat)(b:α),cq l k=some b->(ud g i l).modify (zG l k) (λp=>(p.1,g a,p.2.2))=ud g i (kj l k a)/\(kj l k a).length=l.length:=by
 intro l;induction l with
 |nil=>grind [cq]
 |cons x l ih=>
  intro i b h;obtain ⟨j,m⟩:=x;by_cases hk:j=k
  ·grind [zG,kj,ud]
  ·simp only[cq,if_neg hk] at h;obtain ⟨o,r⟩:=ih (i+1) b h
   grind [zG,kj,ud]
theorem Lf{g:α->D}{k:Int}{a:α}:∀(l:List (Int×α))(i:Nat),cq l k=none->ud g i l++[(.int .i64 k,g a,i+l.length)]=ud g i (kj l k a)/\(kj l k a).length=l.length+1:=by
 intro l;induction l with
 |nil=>grind [kj,ud]
 |cons x l ih=>
  intro i h;obtain ⟨b,j⟩:=x;by_cases hk:b=k
  ·grind [cq]
  ·simp only[cq,if_neg hk] at h;obtain ⟨m,o⟩:=ih (i+1) h;refine ⟨?_,by grind [kj]⟩;simp only[kj,if_neg hk,ud,List.cons_append,List.length_cons]
   grind
end
section
variable{P:Program}{orc:qB}{n:Nat}{al:AL}{σ σ1:aa}{d d1 d2:D}{α:Type}
theorem PT{g:α->D}(hd:D.mp σ.length=d)(hs:σ++[MB g ([]:List (Int×α))]=σ1):de P orc n al σ .pP d σ1 []:=λe a=>by subst hd hs;rfl
theorem Uw{i:IntKind}{zero:D}{m k:ay}{b:Nat}{g:α->D}{l:List (Int×α)}{x:Int}{ok:Bool}{a:α}(hm:lx al m=some (.mp b))(j:σ[b]? = some (MB g l))(hk:lx al k=some (I x))(o:cq l x=some a)(hd:(if ok then .aB [g a,B true] else g a)=d) :
  de P orc n al σ (.lookup (.int i) zero m k ok) d σ []:=λe h=>by
 subst hd;simp only[aI,dr h hm,dr h hk,fA,AK,j,Option.bind_eq_bind,Option.bind_some,tY,o,Option.map_some,Dr]
theorem Pp{h:IntKind}{zero:D}{m k:ay}{b:Nat}{g:α->D}{l:List (Int×α)}{x:Int}{ok:Bool}(hm:lx al m=some (.mp b))(i:σ[b]? = some (MB g l))(hk:lx al k=some (I x))(j:cq l x=none)(hd:(if ok then .aB [zero,B false] else zero)=d) :
  de P orc n al σ (.lookup (.int h) zero m k ok) d σ []:=λe a=>by
 subst hd;simp only[aI,dr a hm,dr a hk,fA,AK,i,Option.bind_eq_bind,Option.bind_some,tY,j,Option.map_none,Dr]
theorem Xc{o:IntKind}{m k x:ay}{b:Nat}{g:α->D}{l:List (Int×α)}{i:Int}{a:α}(hm:lx al m=some (.mp b))(p:σ[b]? = some (MB g l))(hk:lx al k=some (I i))(r:lx al x=some (g a))(hs:σ.set b (MB g (kj l i a))=σ1) :
  de P orc n al σ (.rK (.int o) m k x) (.aB []) σ1 [b]:=λe h=>by
 subst hs;simp only[aI,dr h hm,dr h hk,fA,p,Option.bind_eq_bind,Option.bind_some,tY,dr h r];cases j:cq l i with
 |some s=>
  obtain ⟨u,v⟩:=Lu (g:=g) (a:=a) l 0 s j
  grind
 |none=>
  obtain ⟨u,v⟩:=Lf (g:=g) (a:=a) l 0 j
  grind
def yd{α:Type}:List (Int×α)->Int->List (Int×α)
 |[],_=>[]
 |(b,a)::l,k=>if b=k then l else (b,a)::yd l k
theorem Ay{α:Type}{k:Int}:∀(l:List (Int×α)),cq l k=none->yd l k=l
 |[],_=>rfl
 |(b, a) :: l, h => by
  by_cases hk:b=k
  ·grind [cq]
  ·simp only[cq,if_neg hk] at h;simp only[yd,if_neg hk,Ay l h]
theorem Er{α:Type}{g:α->D}:∀(l:List (Int×α))(i j:Nat),jQ j (ud g i l)=ud g j l
 |[],_,_=>rfl
 |(k,a)::l,i,j=>by simp only[ud,jQ,Er l]
theorem Al{α:Type}{g:α->D}{k:Int}:∀(l:List (Int×α))(i j:Nat)(b:α),cq l k=some b->jQ j ((ud g i l).eraseIdx (zG l k))=ud g j (yd l k)/\(yd l k).length=l.length-1
 |[],_,_,_,h=>by grind [cq]
 |(m, a) :: l, i, j, b, h => by
  by_cases hk:m=k
  ·grind [zG,yd,ud,Er]
  ·simp only[cq,if_neg hk] at h;obtain ⟨o,p⟩:=Al l (i+1) (j+1) b h;have r:0<l.length:=by
    grind [cq]
   simp only[zG,yd,hk,ud,bm,List.eraseIdx_cons_succ,jQ,List.length_cons];exact ⟨by rw[o],by omega⟩
theorem VQ{h:IntKind}{m k:ay}{b:Nat}{g:α->D}{l:List (Int×α)}{i:Int}(hm:lx al m=some (.mp b))(j:σ[b]? = some (MB g l))(hk:lx al k=some (I i))(hs:σ.set b (MB g (yd l i))=σ1) :
  de P orc n al σ (.del (.int h) m k) (.aB []) σ1 [b]:=λe a=>by
 subst hs;simp only[aI,dr a hm,dr a hk,fA,j,Option.bind_eq_bind,Option.bind_some,tY];cases o:cq l i with
 |some p=>
  obtain ⟨r,s⟩:=Al (g:=g) l 0 0 p o
  grind
 |none=>grind [Ay]
theorem Jl{f:Fn}{first cap:List ay}{a b:List D}(h:Mf al first=some a)(i:Mf al cap=some b):de P orc n al σ (.yD f first cap) (.fn f a b) σ []:=λe j=>by grind [aI,Cv]
theorem Em{g:FuncId}{f:ay}{args:List ay}{ds a b:List D}{w:List Nat}(h:lx al f=some (.fn (.func g) a b))(i:Mf al args=some ds)(j:orc g (a++ds++b) σ=some (d,σ1,w)):de P orc n al σ (.call f args) d σ1 w:=λe l=>by grind [aI,dr,Cv]
theorem NU{g:FuncId}{f:ay}{args:List ay}{ds:List D}{a b:List C}{w:List Nat}(h:lx al f=some (.c (.fn (.func g) a b)))(i:Mf al args=some ds)(j:orc g (a.map .c++ds++b.map .c) σ=some (d,σ1,w)):de P orc n al σ (.call f args) d σ1 w:=λe l=>by grind [aI,dr,Cv]
theorem Rc{ai j b off len sz:Nat}{x i:ay}{k:Int}{cs:List D}(h:lx al x=some (.sl b off len ai sz))(l:lx al i=some (I k))(m:jZ σ b sz=some cs)(hk:wi k len=some j)(hd:D.ptr b (off+j * ai) sz=d) :
  de P orc n al σ (.idx ai none x i) d σ []:=λe a=>by
 subst hd;simp only[aI,dr a h,dr a l,oF,Option.bind_eq_bind,Option.bind_some,m,hk,if_true]
theorem SK{b off len ai sz:Nat}{x:ay}{cs:List D}(h:lx al x=some (.sl b off len ai sz))(a:jZ σ b sz=some cs)(hd:I len=d):de P orc n al σ (.len x) d σ []:=λe i=>by grind [aI,AV,dr]
theorem Ld{x:ay}{cs:List C}{off:Nat}(h:lx al x=some (.c (.bE cs off))):de P orc n al σ (.jH x) (.c (.bE cs off)) σ []:=λe a=>by grind [aI,dr]
theorem Lk{x:ay}{f:FuncId}{a b:List C}(h:lx al x=some (.c (.fn (.func f) a b))):de P orc n al σ (.jH x) (.c (.fn (.func f) a b)) σ []:=λe i=>by grind [aI,dr]
theorem Bo{x:ay}{f:FuncId}{a b:List D}(h:lx al x=some (.fn (.func f) a b)):de P orc n al σ (.jH x) (.fn (.func f) a b) σ []:=λe i=>by grind [aI,dr]
end
section
variable{P:Program}{orc:qB}{n:Nat}{al:AL}{σ σ1:aa}{d d1 d2:D}{α:Type}{f:α->List C}{ai:Nat}
theorem yw{a:Nat}{s x:ay}{m:List α}(h:lx al s=some (.c (.lit (.slice none 0 0))))(p:lx al x=some d)(hm:Src σ f ai d m)(r:Nat.ble m.length 1000000=true)
  (l:Nat.ble a 1000=true) (hd:OS ai σ.length m.length=d1) (hs:σ++[OB f m]=σ1):de P orc n al σ (.append ai a s x) d1 σ1 []:=by
 subst hd hs;have i:a<=1000:=wS l;have j:m.length<=1000000:=wS r;have b:zn m.length a=true:=by have:m.length * a<=1000000 * 1000:=Nat.mul_le_mul j i;simp only[zn,aU,aM];omega
 intro e o;have:aI P orc (.append ai a s x) e σ=(AV σ d).bind λk=>(Nc σ ai k d).bind λnew=>if zn k a then some (.sl σ.length 0 k ai (k * ai),σ++[.cells new],[]) else none:=by simp only[aI,dr o h,dr o p];rfl
 rw[this,hm.1,aF,hm.2,aF,if_pos b]
end
def GI:Nat->C->C
 |n+1,.bG _ es=>.bG false (es.map λe=>e.map (GI n))
 |_+1,.lit (.slice none 0 0)=>.bG false []
 |_,x=>x
theorem IR{Fz:Nat->Prop}{w:World}:∀(n:Nat){x:C}{v:Value},VC Fz w x v->VC Fz w (GI n x) v:=by
 intro n;induction n with
 |zero=>intro x v h;exact h
 |succ n ih=>
  intro x v h;by_cases z:x=.lit (.slice none 0 0)
  ·subst z;cases h;exact .bG (es:=[]) 0 none 0 (by simp) (λ_=>rfl) (λ_ _=>undef) (by simp) (by simp) (by simp) (by simp)
  cases h with
  | @bG nn es ai a cap A E c F u y l=>
   have h:=VC.bG (Fz:=Fz) (w:=w) (nn:=false) (es:=es.map λe=>e.map (GI n)) ai a cap (by simp) E c (λe O=>?_) (by simp_all) (λi j e d m p=>?_) (λi j e d m p=>?_)
   ·rw[vN] at h;exact h
   ·grind
   ·grind
   grind
  |lit v=>
   have:GI (n+1) (.lit v)=.lit v:=by
    unfold GI
    simp_all
   rw[this];exact .lit v
  |bE blk o c r y l=>exact .bE blk o c r y l
  |fn G K m p l L=>exact .fn G K m p l L
  |Ei blk b s r N hs hk l=>exact .Ei blk b s r N hs hk l
  |Ml g=>exact .Ml g
def WQ:D->D
 |.c x=>.c (GI 5 x)
 |.agg ds=>.agg (ds.map λd=>match d with | .c x=>.c (GI 5 x) | d=>d)
 |d=>d
theorem xW.Ug{d j:D}(h:WQ d=j):xW d j:=by
 subst h;intro σ M Fz w v h;unfold WQ;split
 ·cases h with | c h=>exact .c (IR 5 h)
 ·cases h with
  |agg o z s=>
   refine .agg o (by simp_all) (λi d v a b=>?_);simp only[gT,bq] at a;obtain ⟨u,x,rfl⟩:=a;have:=s i u v x b;split
   ·cases this with | c h=>exact .c (IR 5 h)
   omega
 omega
def WZ(S F:D):Ob->Ob->Prop
 |.map es c,.map b l=>c=l/\b.length=es.length/\∀(i:Nat) k a n,b[i]? = some (k,a,n)->∃d,es[i]? = some (k,d,n)/\(a=d∨d=S/\a=F)
 |.cells j,.cells h=>h.length=j.length/\∀(i:Nat) a,h[i]? = some a->∃d,j[i]? = some d/\(a=d∨d=S/\a=F)
 |_,_=>False
theorem WZ.sz{S F:D}{ob ob':Ob}(h:WZ S F ob ob'):ob'.sz=ob.sz:=by
 cases ob <;> cases ob' <;> simp only[WZ] at h
 ·exact h.1
 ·rfl
section
variable{P:Program}{σ σ0 σ1:aa}{n:Nat}{al:AL}{ac:az}{Q:jr->AL->aa->Prop}{α:Type}{f:α->List C}{ai:Nat}
end
end Go.Abs
end
section
namespace Go.Fl
open Ieee
theorem log2_lt{n k:Nat}(a:n≠0)(h:n<2 ^ k):n.log2<k:=(Nat.log2_lt a).2 h
theorem IF{n:Nat}(a:n≠0):2 ^ n.log2<=n:=Nat.log2_self_le a
theorem IH(n:Nat):n<2 ^ (n.log2+1):=Nat.lt_log2_self
theorem lp:double.leastPlace=-1074:=by decide
def can(s:Bool)(n:Nat):Datum:=if n=0 then .number s 0 (-1074) else .number s (n * 2 ^ (52-n.log2)) ((n.log2:Int)-52)
theorem xH(a:Toward)(s:Bool)(n:Nat):a.cut s n 0=n:=by
 unfold Toward.cut;have h:1 <<< min 0 (n.log2+2)=1:=by simp_all
 have b:n % 1=0:=Nat.mod_one n;simp only[h,Nat.div_one,b];cases a <;> simp
theorem LB{s:Bool}{n d m:Nat}(hd:d<=n.log2+2)(h:n=m * 2 ^ d):Toward.even.cut s n d=m:=by
 unfold Toward.cut;have a:1 <<< min d (n.log2+2)=2 ^ d:=by rw[Nat.min_eq_left hd,Nat.one_shiftLeft]
 have b:0<2 ^ d:=Nat.pow_pos (by decide)
 simp_all
theorem tV{m d:Nat}(h:m≠0):(m * 2 ^ d).log2=m.log2+d:=by
 have b:=IF h;have i:=IH m;have a:m * 2 ^ d≠0:=by grind [Nat.mul_ne_zero]
 apply Nat.le_antisymm
 ·have:m * 2 ^ d<2 ^ (m.log2+d+1):=by
   rw[show m.log2+d+1=(m.log2+1)+d by omega,VH];exact Nat.mul_lt_mul_of_pos_right i (Nat.pow_pos (by decide))
  have:=log2_lt a this;omega
 ·have:2 ^ (m.log2+d)<=m * 2 ^ d:=by
   rw[VH];exact Ol _ b
  exact (Nat.le_log2 a).2 this
theorem Lx{s:Bool}{n k:Nat}(a:n≠0)(h:n<2 ^ 53):double.nearest s (n * 2 ^ k) (-(k:Int))=double.nearest s n 0:=by
 have o:=log2_lt a h;have e:(n * 2 ^ k).log2=n.log2+k:=tV a;have j:n * 2 ^ k≠0:=Nat.mul_ne_zero a (by simp_all);have fb:double.fractionBits=52:=rfl;have l:max (-(k:Int)+((n * 2 ^ k).log2:Nat)-((52:Nat):Int)) (-1074)=(n.log2:Int)-52:=by omega
 have m:max ((0:Int)+(n.log2:Nat)-((52:Nat):Int)) (-1074)=(n.log2:Int)-52:=by omega
 have p:Toward.even.cut s ((n * 2 ^ k) <<< (-(k:Int)-((n.log2:Int)-52)).toNat) (((n.log2:Int)-52) - -(k:Int)).toNat=n * 2 ^ (52-n.log2):=by
  by_cases hk:k+n.log2<=52
  ·have b:(-(k:Int)-((n.log2:Int)-52)).toNat=52-n.log2-k:=by omega
   have i:(((n.log2:Int)-52) - -(k:Int)).toNat=0:=by omega
   rw[b,i,xH,Nat.shiftLeft_eq,Nat.mul_assoc,<-VH]
   grind
  ·have b:(-(k:Int)-((n.log2:Int)-52)).toNat=0:=by omega
   have i:(((n.log2:Int)-52) - -(k:Int)).toNat=k+n.log2-52:=by omega
   rw[b,i,Nat.shiftLeft_zero];refine LB (by omega) ?_;rw[Nat.mul_assoc,<-VH]
   grind
 have r:Toward.even.cut s (n <<< ((0:Int)-((n.log2:Int)-52)).toNat) (((n.log2:Int)-52)-0).toNat=n * 2 ^ (52-n.log2):=by
  have b:((0:Int)-((n.log2:Int)-52)).toNat=52-n.log2:=by omega
  have i:(((n.log2:Int)-52)-0).toNat=0:=by omega
  grind [xH,Nat.shiftLeft_eq]
 unfold Format.nearest;rw[if_neg j,if_neg a]
 grind [lp]
theorem Ll{s:Bool}{n:Nat}(h:n<2 ^ 53):double.read (double.nearest s n 0)=can s n:=by
 by_cases b:n=0
 ·subst b;cases s <;> rfl
 have p:=log2_lt b h;have r:=IF b;have u:=IH n;have fb:double.fractionBits=52:=rfl;have a:max ((0:Int)+(n.log2:Nat)-((52:Nat):Int)) (-1074)=(n.log2:Int)-52:=by omega
 have i:Toward.even.cut s (n <<< ((0:Int)-((n.log2:Int)-52)).toNat) (((n.log2:Int)-52)-0).toNat=n * 2 ^ (52-n.log2):=by
  have G:((0:Int)-((n.log2:Int)-52)).toNat=52-n.log2:=by omega
  have N:(((n.log2:Int)-52)-0).toNat=0:=by omega
  grind [xH,Nat.shiftLeft_eq]
 have v:4503599627370496<=n * 2 ^ (52-n.log2):=by have:2 ^ n.log2 * 2 ^ (52-n.log2)<=n * 2 ^ (52-n.log2):=Ol _ r;rw[<-VH,show n.log2+(52-n.log2)=52 by omega] at this;omega
 have x:n * 2 ^ (52-n.log2)<9007199254740992:=by have:n * 2 ^ (52-n.log2)<2 ^ (n.log2+1) * 2 ^ (52-n.log2):=Nat.mul_lt_mul_of_pos_right u (Nat.pow_pos (by decide));rw[<-VH,show n.log2+1+(52-n.log2)=53 by omega] at this;omega
 have m:double.infRung=9218868437227405312:=by decide
 have y:double.signWeight=9223372036854775808:=by decide
 have o:double.binade=4503599627370496:=by decide
 unfold can;rw[if_neg b];generalize n * 2 ^ (52-n.log2)=K at i v x ⊢;generalize z:n.log2=L at i a p ⊢;have A:double.nearest s n 0=double.word s ((L+1022) * 4503599627370496+K):=by
  unfold Format.nearest;rw[if_neg b];simp only[fb,lp,z,a,i,m,o];have E:(((L:Int)-52) - -1074).toNat=L+1022:=by omega
  rw[E,Nat.min_eq_left (by omega)]
 rw[A];generalize O:(L+1022) * 4503599627370496+K=R;have F:R<9223372036854775808:=by omega
 have j:(double.word s R / double.signWeight % 2 == 1)=s:=by
  unfold Format.word;rw[y];cases s
  ·grind
  ·rw[if_pos rfl,Nat.add_div_left _ (by decide),Nat.div_eq_of_lt F];rfl
 have l:double.word s R % double.signWeight=R:=by
  unfold Format.word
  grind
 unfold Format.read;simp only[j,l,o,m,lp]
 grind
theorem Pe(s:Bool)(k:Nat):Datum.number s (0 * 2 ^ k) (-(k:Int))=Datum.number s 0 (-(k:Int)):=by simp_all
theorem jG(s:Bool){n:Nat}(h:n<2 ^ 53):∃k:Nat,can s n=.number s (n * 2 ^ k) (-(k:Int)):=by
 unfold can;split
 ·rename_i e;subst e;exact ⟨1074,(Pe s 1074).symm⟩
 ·rename_i a;have:=log2_lt a h
  grind
theorem HQ(s:Bool){n:Nat}(k:Nat)(h:n<2 ^ 53):double.nearest s (n * 2 ^ k) (-(k:Int))=double.nearest s n 0:=by
 by_cases a:n=0
 ·subst a;rw[VU];unfold Format.nearest
  simp_all
 grind [Lx]
def fl(n:Int):Nat:=FloatKind.f64.nearest n
theorem PP(n:Int):fl n=double.nearest (decide (n<0)) n.natAbs 0:=rfl
theorem mC{n:Int}(h:n.natAbs<2 ^ 53):double.read (fl n)=can (decide (n<0)) n.natAbs:=Ll h
def sg(s:Bool)(n:Nat):Int:=if s then -(n:Int) else n
theorem Aj(s:Bool)(n i m:Nat)(h:i<=m):signed s (n * 2 ^ i) (m-i)=sg s n * (2 ^ m:Nat):=by
 have e:(n * 2 ^ i) <<< (m-i)=n * 2 ^ m:=by rw[Nat.shiftLeft_eq,Nat.mul_assoc,<-VH];simp_all
 unfold signed sg;rw[e]
 grind
theorem PG(s t:Bool)(a b i j:Nat):Datum.sum (.number s (a * 2 ^ i) (-(i:Int))) (.number t (b * 2 ^ j) (-(j:Int))) =
  some (.number (if sg s a+sg t b=0 then s&&t else decide (sg s a+sg t b<0)) ((sg s a+sg t b).natAbs * 2 ^ (max i j)) (-((max i j:Nat):Int))):=by
 unfold Datum.sum;have p:min (-(i:Int)) (-(j:Int))=-((max i j:Nat):Int):=by omega
 have r:(-(i:Int) - -((max i j:Nat):Int)).toNat=max i j-i:=by omega
 have u:(-(j:Int) - -((max i j:Nat):Int)).toNat=max i j-j:=by omega
 simp only[p,r,u,Aj s a i (max i j) (by omega),Aj t b j (max i j) (by omega),<-Int.add_mul];have o:(0:Int)<((2 ^ max i j:Nat):Int):=by have:0<2 ^ max i j:=Nat.pow_pos (by decide);omega
 have z:((sg s a+sg t b) * ((2 ^ max i j:Nat):Int)=0)↔sg s a+sg t b=0:=by grind [Int.mul_eq_zero]
 have l:((sg s a+sg t b) * ((2 ^ max i j:Nat):Int)<0)↔sg s a+sg t b<0:=by
  constructor
  ·intro h;rcases Int.lt_or_le (sg s a+sg t b) 0 with m | m
   ·exact m
   ·have:=Ys m (Int.le_of_lt o);omega
  ·intro h;exact Int.mul_neg_of_neg_of_pos h o
 grind
theorem GM(n:Int):sg (decide (n<0)) n.natAbs=n:=by
 unfold sg
 grind
theorem WM{a b:Int}(p:a.natAbs<2 ^ 52)(r:b.natAbs<2 ^ 52):double.add (fl a) (fl b)=some (fl (a+b)):=by
 have h:a.natAbs<2 ^ 53:=by omega
 have l:b.natAbs<2 ^ 53:=by omega
 obtain ⟨i,m⟩:=jG (decide (a<0)) h;obtain ⟨j,o⟩:=jG (decide (b<0)) l;unfold Format.add;rw[mC h,mC l,m,o,PG,GM,GM];simp only[Option.map_some,Format.write];rw[HQ _ _ (by omega),PP]
 grind
theorem Xo{a b:Int}(p:a.natAbs<2 ^ 52)(r:b.natAbs<2 ^ 52):double.sub (fl a) (fl b)=some (fl (a-b)):=by
 have h:a.natAbs<2 ^ 53:=by omega
 have l:b.natAbs<2 ^ 53:=by omega
 obtain ⟨i,m⟩:=jG (decide (a<0)) h;obtain ⟨j,o⟩:=jG (decide (b<0)) l;have hs:sg (!decide (b<0)) b.natAbs=-b:=by
  unfold sg
  grind
 unfold Format.sub;rw[mC h,mC l,m,o];simp only[Datum.opposite];rw[PG,GM,hs];simp only[Option.map_some,Format.write];rw[HQ _ _ (by omega),PP,<-Int.sub_eq_add_neg]
 grind
theorem VN{a b:Int}(v:0<=a)(x:0<=b)(l:a.natAbs<2 ^ 53)(o:b.natAbs<2 ^ 53)(h:(a * b).natAbs<2 ^ 53):double.mul (fl a) (fl b)=some (fl (a * b)):=by
 obtain ⟨i,p⟩:=jG (decide (a<0)) l;obtain ⟨j,r⟩:=jG (decide (b<0)) o;have s:decide (a<0)=false:=by simp_all
 have u:decide (b<0)=false:=by simp_all
 have y:decide (a * b<0)=false:=by grind [Int.mul_nonneg]
 unfold Format.mul;rw[mC l,mC o,p,r];simp only[Datum.product,s,u,Option.map_some,Format.write];have m:a.natAbs * 2 ^ i * (b.natAbs * 2 ^ j)=(a * b).natAbs * 2 ^ (i+j):=by grind
 grind [HQ,PP]
theorem VV{n:Int}(h:n.natAbs<2 ^ 53):(double.read (fl n)).toInt .zero=some n:=by
 obtain ⟨k,hk⟩:=jG (decide (n<0)) h;rw[mC h,hk];unfold Datum.toInt Datum.integral;have a:(-(k:Int)).toNat=0:=by omega
 have b:(- -(k:Int)).toNat=k:=by omega
 have c:Toward.zero.cut (decide (n<0)) (n.natAbs * 2 ^ k) k=n.natAbs:=by
  by_cases i:n.natAbs=0
  ·rw[i,VU];unfold Toward.cut;simp
  ·unfold Toward.cut
   grind [tV,Nat.one_shiftLeft,Nat.mul_div_cancel]
 simp only[a,b,Nat.shiftLeft_zero,c]
 grind [Ieee.signed]
end Go.Fl
end
section
namespace Go.Abs
variable[Gl]
def Yt:D->Bool
 |.c _=>true
 |_=>false
section
variable{σ σ':aa}{M M':Nat->Option Nat}{Fz Fz':Nat->Prop}{w w':World}
theorem NR(ob:Ob):ju σ (σ++[ob]):=λb o h=>⟨o,by grind,rfl⟩
theorem GU(R:Rel σ M Fz w){z:List D}{b:Nat}(hb:σ[b]? = some (.cells z))(hM:M b=none)(hz:z.all Yt=true){A:Nat->Option Nat}{j:Nat->Prop}{w1:World}{v:Value}
  (N:Rel (σ++[.cells z]) A j w1) (hv:V (σ++[.cells z]) A j w1 (.ptr σ.length 0 z.length) v) (EV:aW σ M Fz w (σ++[.cells z]) A j w1) :
  ∃ O, Rel σ O j w1 /\ V σ O j w1 (.ptr b 0 z.length) v /\ (∀ x c, M x = some c -> O x = some c) /\ (∀ x, x ≠ b -> O x = M x) /\
   ∀(σ0:aa)(M0:Nat->Option Nat)(Fz0:Nat->Prop)(w0:World),aW σ0 M0 Fz0 w0 σ M Fz w->σ0.length<=σ.length->σ0.length<=b->aW σ0 M0 Fz0 w0 σ O j w1:=by
 have a0:=(dT.1 hb).1;have p:∀x,x<σ.length->A x=M x:=λx u=>by have S:σ[x]? = some σ[x]:=cE u;obtain ⟨U,r,_,F⟩:=EV.bX x _ S;rw[CU u,S] at r;simp only[ab] at r;exact F (by rw[<-r])
 have s:(σ++[Ob.cells z])[σ.length]? = some (.cells z):=by simp
 obtain ⟨G,a,l,ha,rfl⟩:∃G a,A σ.length=some G/\a=(⟨G,0,none⟩:Addr)/\v=.pointer (some a):=by
  cases hv with
  |ptr a W h a1 hv=>rw[s] at h;simp only[ab] at h;subst h;obtain ⟨c,r,m⟩:=hv (by simp[Ob.sz]);exact ⟨c,a,r,m,rfl⟩
 have Z:w.heap.size<=G:=by
  rcases EV.hY _ _ l with ⟨b0,h⟩ | h
  ·have X:=(R.lt h).1;have:=N.inj b0 σ.length G (by rw[p b0 X];exact h) l;omega
  ·exact h
 have e1:∀x c,(if x=b then A σ.length else M x)=some c->(x=b/\c=G)∨(x≠b/\M x=some c):=λx c h=>by
  split at h
  ·rw[l] at h;simp only[ab] at h;exact .inl ⟨‹_›,h.symm⟩
  ·exact .inr ⟨‹_›,h⟩
 have ad:∀x c,M x=some c->x≠b:=λx c h e=>by rw[e,hM] at h;simp at h
 have E:∀x c,M x=some c->(if x=b then A σ.length else M x)=some c:=λx c h=>by rw[if_neg (ad x c h)];exact h
 have af:∀(i:Nat) d,z[i]? = some d->∃x,d=.c x:=λi d h=>by have:=eG.1 hz d (sT h);cases d <;> first | exact ⟨_,rfl⟩ | simp[Yt] at this
 refine ⟨λx=>if x=b then A σ.length else M x,⟨λx c h=>?_,λx x' c h h'=>?_,N.fz,N.gl⟩,?_,E,λx u=>if_neg u,λσ0 M0 Fz0 w0 E0 X a2=>?_⟩
 ·rcases e1 x c h with ⟨rfl,rfl⟩ | ⟨u,h⟩
  ·obtain ⟨r,W,o,m,F,h4⟩:=N.blk _ _ l;rw[s] at m;simp only[ab] at m;subst m;refine ⟨r,_,o,hb,F,?_⟩;obtain ⟨ak,T,ho,X,u⟩:=h4;refine ⟨ak,T,ho,X,λi d v q1 q2=>?_⟩;obtain ⟨x,rfl⟩:=af i d q1;obtain ⟨q3,q4⟩:=u i _ v q1 q2;refine ⟨?_,q4⟩;cases q3 with
   |c q3=>exact .c q3
  ·obtain ⟨_,a3,o0,k2,_,k4⟩:=R.blk x c h;have K:=(R.lt h).1;obtain ⟨r,W,o,m,F,h4⟩:=N.blk x c (by rw[p x K];exact h);rw[CU K] at m;refine ⟨r,W,o,m,F,?_⟩;rw[k2] at m;simp only[ab] at m;subst m;refine (bb.down (NR (.cells z)) h4 k4).cut.sub ju.refl (λy c' Y=>?_);unfold bN at Y;split at Y
   ·rename_i ax;rw[p y ax] at Y;exact E y c' Y
   ·simp at Y
 ·rcases e1 x c h with ⟨g1,g2⟩ | ⟨_,g2⟩ <;> rcases e1 x' c h' with ⟨g3,g4⟩ | ⟨_,g4⟩
  ·rw[g1,g3]
  ·have:=(R.lt g4).2;omega
  ·have:=(R.lt g2).2;omega
  ·exact R.inj x x' c g2 g4
 ·subst ha;exact .ptr _ (.cells z) hb (bQ _) λ_=>⟨G,by rw[if_pos rfl];exact l,rfl⟩
 ·have L:=E0.trans EV X;refine ⟨L.size,L.frame,λx c h=>?_,L.fz,L.jj,L.lm,λx W u=>?_,L.out⟩
  ·rcases e1 x c h with ⟨rfl,rfl⟩ | ⟨_,h⟩
   ·exact L.hY _ _ l
   ·exact E0.hY _ _ h
  ·obtain ⟨U,r,m,F⟩:=E0.bX x W u;have K:=(dT.1 u).1;exact ⟨U,r,m,λe=>by rw[if_neg (by omega)];exact F e⟩
end
section
variable{P:Program}{orc:ey}{ops:Array Oper}{os:List av}{q n0:Nat}{env:Nat->List D}{sg:Nat->aa}{wrs:Nat->List Nat}
variable{M0:Nat->Option Nat}{Fz0:Nat->Prop}{w0:World}{oI:List Deferred}
def kA(os:List av)(q:Nat):Prop:=∀i,i<q->∃t ao,os[i]? = some ⟨some t,ao,none⟩/\((∃z,ao=.alloc z/\z.all Yt=true)∨(∃x,ao=.uV x)∨∃n x,ao=.load n x)
theorem FR{P:Program}{orc:qB}{ao:iA}(h:(∃x,ao=.uV x)∨∃n x,ao=.load n x){env:List D}{σ σ1:aa}{d:D}{wr:List Nat}(a:aI P orc ao env σ=some (d,σ1,wr)) :
  σ1=σ/\wr=[]/\∀am:aa,(∀b off sz,KD ao env=.ptr b off sz->am[b]? = σ[b]?)->aI P orc ao env am=some (d,am,[]):=by
 rcases h with ⟨x,rfl⟩ | ⟨n,x,rfl⟩
 ·simp only[aI,ab,aC] at a;obtain ⟨rfl,rfl,rfl⟩:=a;exact ⟨rfl,rfl,λ_ _=>rfl⟩
 ·simp only[aI] at a;split at a
  ·rename_i b off sz i;simp only[Option.bind_eq_bind,bC,ab,aC] at a;obtain ⟨j,m,v,l,rfl,rfl,rfl⟩:=a;refine ⟨rfl,rfl,λam h=>?_⟩;have e:=h b off sz i
   grind [jZ,aI]
  ·rename_i j off i;simp only[Option.bind_eq_bind,bC,ab,aC] at a;obtain ⟨v,l,rfl,rfl,rfl⟩:=a;exact ⟨rfl,rfl,λam _=>by grind [aI]⟩
  simp_all
theorem kA.step(H:kA os q)(T:Tr P orc ops os 0 n0 env sg wrs){i:Nat}(u:i<q):∃t ao d,os[i]? = some ⟨some t,ao,none⟩/\env (i+1)=kc (env i) (some t) d/\wrs i=[]/\aI P (orc (some t)) ao (env i) (sg i)=some (d,sg (i+1),[]) /\
  ((∃z,ao=.alloc z/\z.all Yt=true/\d=.ptr (sg i).length 0 z.length/\sg (i+1)=sg i++[.cells z])∨(((∃x,ao=.uV x)∨∃n x,ao=.load n x)/\sg (i+1)=sg i)):=by
 obtain ⟨t,ao,A,j⟩:=H i u;have:=T.step i _ A;simp only[du,eU,bq] at this;obtain ⟨⟨d,s1,w1⟩,o,s⟩:=this;simp only[aC] at s;obtain ⟨F,rfl,rfl⟩:=s;rcases j with ⟨z,rfl,G⟩ | j
 ·have E:=o;simp only[aI,ab,aC] at E
  grind
 ·obtain ⟨K,L,_⟩:=FR j o
  grind
theorem kA.wr(H:kA os q)(T:Tr P orc ops os 0 n0 env sg wrs){i:Nat}(j:i<q):wrs i=[]:=by obtain ⟨_,_,_,_,_,h,_⟩:=H.step T j;exact h
theorem kA.blk(H:kA os q)(T:Tr P orc ops os 0 n0 env sg wrs){i t:Nat}{z:List D}(j:i<q)(o:os[i]? = some ⟨some t,.alloc z,none⟩):z.all Yt=true/\env (i+1)=kc (env i) (some t) (.ptr (sg i).length 0 z.length)/\sg (i+1)=sg i++[.cells z]:=by
 obtain ⟨s,ao,d,u,x,_,_,A⟩:=H.step T j
 simp_all
structure Lt (os:List av) (q:Nat) (env:Nat->List D) (sg:Nat->aa) (M0:Nat->Option Nat) (Fz0:Nat->Prop) (w0:World) (oI:List Deferred) (S:Nat->Prop) (k:Nat) (M:Nat->Option Nat) (Fz:Nat->Prop) (w:World) (a:Act):Prop where
 Kj:a.tmps.size=(env k).length
 oI:a.defers=oI
 rel:Rel (sg k) M Fz w
 tmp:∀t d v,(∀i x,i<q->os[i]? = some x->x.dst=some t->S i)->(env k)[t]? = some d->a.tmps[t]? = some v->V (sg k) M Fz w d v
 non:∀i t z,i<q->os[i]? = some ⟨some t,.alloc z,none⟩->¬S i->M (sg i).length=none
 Rj:aW (sg 0) M0 Fz0 w0 (sg k) M Fz w
theorem Inv.late{S:Nat->Prop}{M:Nat->Option Nat}{Fz:Nat->Prop}{w:World}{a:Act}(I:Inv os n0 env sg wrs M0 Fz0 w0 oI S M Fz w a)(T:Tr P orc ops os 0 n0 env sg wrs)(O:jX P orc)(H:kA os q)
  (hS:∀i,q<=i->i<n0->S i) (hq:q<=n0) (R:∀b,M0 b≠none->b<(sg 0).length):Lt os q env sg M0 Fz0 w0 oI S n0 M Fz w a:=by
 have X:=T.le;refine ⟨by rw[I.Kj,T.vd O T.le],I.oI,⟨λb c h=>?_,I.inj,I.fz,Gl.mono I.xC.fz I.Wy⟩,λt d v hc x E=>?_,λi t z u U hn=>?_,?_⟩
 ·obtain ⟨x,E,s⟩:=I.own b c h;have A:b<(sg n0).length:=by
   rcases s with ⟨s,_⟩ | ⟨j,W,_,_,s⟩
   ·exact xD s (T.bD O (by omega) T.le)
   ·exact xD s (T.bD O (by omega) T.le)
  have F:(sg n0)[b]? = some (sg n0)[b]:=cE A;obtain ⟨o,Y,Z⟩:=I.blk b c h n0 _ (bQ _) F (λi u hw=>⟨λ_=>by
   rcases pY i q with h | h
   ·rw[H.wr T h] at hw
    grind
   simp_all,λ_=>u⟩)
  simp_all
 ·exact I.tmp t n0 (bQ _) (λi o u U hd=>⟨λ_=>by grind,λ_=>u⟩) d v x E
 ·cases G:M (sg i).length with
  |none=>rfl
  |some c=>
   obtain ⟨_,_,s⟩:=I.own _ c G;have l1:=T.bD O (m:=0) (m':=i) (by omega) (by omega);have l2:(sg (i+1)).length=(sg i).length+1:=by rw[(H.blk T u U).2.2];simp
   rcases s with ⟨s,_⟩ | ⟨j,W,ad,Y,Z⟩
   ·omega
   ·rcases Yx j i with h | h | h
    ·have:=T.bD O (m:=j+1) (m':=i) (by omega) (by omega);omega
    ·simp_all
    ·have:=T.bD O (m:=i+1) (m':=j) (by omega) (by omega);omega
 ·refine ⟨I.xC.size,I.xC.frame,λb c h=>?_,I.xC.fz,λc h=>?_,I.xC.lm,λb ob A=>?_,I.xC.out⟩
  ·rcases I.xC.hY b c h with h | h
   ·grind
   omega
  ·rcases I.xC.jj c h with h | h
   ·simp_all
   omega
  ·obtain ⟨K,x,E⟩:=T.sz O (by omega) (bQ n0) b ob A;refine ⟨K,x,by omega,λ_=>?_⟩;have af:=(dT.1 A).1;cases G:M0 b with
   |some c=>exact I.xC.ext b c G
   |none=>
    cases L:M b with
    |none=>rfl
    |some c=>
     obtain ⟨_,_,s⟩:=I.own b c L;rcases s with ⟨_,s⟩ | ⟨j,W,_,s,_⟩
     ·simp_all
     ·have:=T.bD O (m:=0) (m':=j) (by omega) (by omega);omega
theorem kA.off(H:kA os q)(T:Tr P orc ops os 0 n0 env sg wrs){i k t:Nat}{z:List D}(s:i<q)(o:os[i]? = some ⟨some t,.alloc z,none⟩)(j:i<k)(hk:k<os.length)(x:¬wD ops i k):(sg i).length∉wrs k:=by
 obtain ⟨y,u⟩:=T.at hk;rcases T.pair i k _ y j o u with h | h
 ·simp_all
 ·obtain ⟨_,_,_,_,_,A,_⟩:=ed h;have E:(sg (i+1)).length=(sg i).length+1:=by rw[(H.blk T s o).2.2];simp
  grind [ce]
theorem kA.look(T:Tr P orc ops os 0 n0 env sg wrs){i k t b off sz:Nat}{ao:iA}(o:os[i]? = some ⟨some t,ao,none⟩)(u:(∃x,ao=.uV x)∨∃n x,ao=.load n x)(z:KD ao (env i)=.ptr b off sz)(j:i<k)(hk:k<os.length)(A:¬wD ops i k):b∉wrs k:=by
 obtain ⟨y,s⟩:=T.at hk;rcases T.pair i k _ y j o s with h | h
 ·simp_all
 ·obtain ⟨_,_,_,E,_⟩:=ed h
  grind [KD,safe,ce,eU,cat]
theorem Cf{a:Act}{b:Option Nat}{v i:Value}{t:Nat}(h:(a.put b v).tmps[t]? = some i):(b=some t/\i=v)∨(b≠some t/\a.tmps[t]? = some i):=by
 cases b with
 |none=>exact .inr ⟨by simp,h⟩
 |some s=>
  simp only[Act.put,QH] at h
  grind
theorem xM{a:Act}{b:Option Nat}{v:Value}:(a.put b v).tmps.size=a.tmps.size:=by cases b <;> simp[Act.put]
theorem Dk{a:Act}{b:Option Nat}{v:Value}:(a.put b v).defers=a.defers:=by cases b <;> rfl
theorem Jk(O:jX P orc)(T:Tr P orc ops os 0 n0 env sg wrs)(H:kA os q)(hq:q<=n0)(b8:∀i j,q<=i->i<j->n0<=j->j<os.length->wD ops i j)
  (hg:∀(i:Nat) x,os[i]? = some x->x.g=none) (bd:∀(i j:Nat) x y t,i<q->i<j->os[i]? = some x->os[j]? = some y->x.dst=some t->y.dst≠some t) (be:∀(i j:Nat) x y t,i<q->i<=j->os[i]? = some x->os[j]? = some y->y.dst=some t->t∉sL x)
  (b9:∀listed:Array Bool,listed.size=ops.size->Region.ready .any ops listed=[]->∀i,i<ops.size->eE listed i) {Q:Exit->Act->World->Prop}
  (hQ:∀a' w' M' Fz',a'.defers=oI->Rel (sg os.length) M' Fz' w'->cf (sg os.length) M' Fz' w' (env os.length) a'.tmps->aW (sg 0) M0 Fz0 w0 (sg os.length) M' Fz' w'->Q .normal a' w') :
  ∀ (R : Nat) (listed : Array Bool) (k : Nat) (M : Nat -> Option Nat) (Fz : Nat -> Prop) (w : World) (a : Act), listed.size = ops.size -> n0 <= k -> k <= os.length -> (∀ i, q <= i -> i < ops.size -> (eE listed i ↔ i < k)) -> dU ops (eE listed) ->
   LK ops.size listed<=R->Lt os q env sg M0 Fz0 w0 oI (eE listed) k M Fz w a->wpAny P .any ops Q R listed a w:=by
 have c8:=T.len;have fin:∀(listed:Array Bool)(k:Nat)(M:Nat->Option Nat)(Fz:Nat->Prop)(w:World)(a:Act),n0<=k->k<=os.length->(∀i,q<=i->i<ops.size->(eE listed i↔i<k))->(∀i,i<ops.size->eE listed i) ->
   Lt os q env sg M0 Fz0 w0 oI (eE listed) k M Fz w a->Q .normal a w:=λlisted k M Fz w a hk u hS af L=>by
  have ch:k=os.length:=by grind
  subst ch;exact hQ a w M Fz L.oI L.rel ⟨L.Kj,λt d v h1 h2=>L.tmp t d v (λi x r _ _=>af i (by omega)) h1 h2⟩ L.Rj
 intro R;induction R with
 |zero=>
  intro listed k M Fz w a bh hk u hS hC hf L;have af:=oM (N:=ops.size) (listed:=listed) (by omega);refine ⟨?_,fin listed k M Fz w a hk u hS af L⟩;cases hr:Region.ready .any ops listed with
  |nil=>rfl
  |cons j l=>
   have hm:j∈Region.ready .any ops listed:=by simp_all
   rw[mem_ready] at hm
   grind [eE]
 |succ R ih=>
  intro listed k M Fz w a bh hk u hS hC hf L;refine ⟨λhr=>fin listed k M Fz w a hk u hS (b9 listed bh hr) L,λj hj=>?_⟩;rw[mem_ready] at hj;obtain ⟨h1,o,ho,ck⟩:=hj;have cm:j<ops.size:=(CS.1 ho).1;have a1:¬eE listed j:=by grind [eE]
  have a3:∀o' e,ops[j]? = some o'->e∈o'.after->Region.binds .any e=true->eE listed e.on:=λo' e A he co=>by rw[ho] at A;simp only[ab] at A;subst A;exact ck e he co
  have a6:dU ops (eE (listed.setIfInBounds j true)):=by
   intro i o' e r A he U;rw[BH (by omega)] at r ⊢;rcases r with r | rfl
   ·exact .inl (hC i o' e r A he U)
   simp_all
  have hu:=wQ (N:=ops.size) (listed:=listed) (k:=j) (by omega) cm a1;have cv:∀i,i<q->¬eE listed i->¬wD ops i j:=λi r hn U=>hn (U.ready hC a3);rcases pY j q with ad | ad
  ·
   obtain ⟨t,ao,d,F,ak,bi,a4,a7⟩:=H.step T ad;obtain ⟨o',A,G⟩:=T.comp j _ F;rw[ho] at A;simp only[ab] at A;subst A;unfold aO at G;split at G
   ·rename_i g p a8 E;simp only[ab,av.mk.injEq] at G;obtain ⟨bk,rfl,rfl⟩:=G;have same:∀s,s∈sL (⟨some t,p,none⟩:av)->(env k)[s]? = (env j)[s]?:=λs hs=>
     T.uG O (m:=j) (m':=k) (t:=s) (by omega) u (λi x r _ Z hd=>be j i _ x s ad r F Z hd hs)
    have hE:cf (sg k) M Fz w (gN (sL ⟨some t,p,none⟩) (env k)) a.tmps:=by
     refine ⟨by grind [Lt.Kj,gN],λi d v h1 h2=>?_⟩;rw[lJ] at h1;simp only[bq] at h1;obtain ⟨d0,h3,h4⟩:=h1;by_cases ht:(sL ⟨some t,p,none⟩).contains i=true
     ·rw[if_pos ht] at h4;subst h4;refine L.tmp i d0 v (λm x hm Z hd=>?_) h3 h2;rcases pY m j with bl | bl
      ·rcases T.pair m j x _ bl Z F with U | U
       ·grind
       ·obtain ⟨h5,_⟩:=ed U;exact absurd (show i∈sL ⟨some t,p,none⟩ by simp_all) (h5 i hd)
      grind
     ·rw[if_neg ht] at h4;subst h4;exact .any v
    have W:=kC (ops:=ops) (o:=o) (g:=none) (b:=true) hE a8 rfl;have a5:∀S d' v',(env k)[S]? = some d'->a.tmps[S]? = some v'->S≠t->(∀i x,i<q->os[i]? = some x->x.dst=some S->eE (listed.setIfInBounds j true) i)->V (sg k) M Fz w d' v':=λS d' v' q1 q2 e hc=>by
     refine L.tmp S d' v' (λi x r Z hd=>?_) q1 q2;rcases (BH (by omega) i).1 (hc i x r Z hd) with h | h
     ·exact h
     grind
    have c9:∀d',(env k)[t]? = some d'->d'=d:=λd' q1=>by
     have c0:=T.uG O (m:=j+1) (m':=k) (t:=t) (by omega) u (λi x r _ Z hd=>bd j i _ x t ad (by omega) F Z rfl hd);rw[c0,ak] at q1;simp only[kc,UJ,if_true] at q1
     simp_all
    have bt:∀i,q<=i->i<ops.size->(eE (listed.setIfInBounds j true) i↔i<k):=λi r bu=>by rw[BH (by omega),hS i r bu];omega
    unfold wpOp;rw[ho];simp only[W,if_true];left;rcases a7 with ⟨z,rfl,hz,rfl,a2⟩ | ⟨a9,a2⟩
    ·refine EF (O o.dst) L.rel hE E rfl _ λv w1 M1 ax R1 hv EV _=>?_;have c2:(sg j).length<(sg (j+1)).length:=by grind
     have bv:=T.Kk O (m:=j+1) (m':=k) (b:=(sg j).length) (by omega) u c2 (λi r bc hw=>by
      rcases pY i q with h | h
      ·rw[H.wr T h] at hw
       grind
      ·exact H.off T ad F (by omega) (by omega) (λU=>a1 (U.in hC ((hS i h (by omega)).2 bc))) hw)
     rw[a2,Jo (bQ _),YH,xAd] at bv;obtain ⟨M2,R2,da,bw,b0,a4⟩:=GU L.rel bv (L.non j t z ad F a1) hz R1 hv EV;refine ih (listed.setIfInBounds j true) k M2 ax w1 _ (by grind) hk u bt a6 (by omega) ⟨by rw[xM,L.Kj],by rw[Dk,L.oI],R2,λS d v' hc q1 q2=>?_,λi S z' r K hn=>?_,?_⟩
     ·rcases Cf q2 with ⟨e,rfl⟩ | ⟨e,q2⟩
      ·grind
      ·exact (a5 S d v' q1 q2 (λh=>e (by grind)) hc).sub ju.refl bw EV.fz EV.lm
     ·have c3:i≠j:=λe=>hn ((BH (by omega) i).2 (.inr e));have db:(sg (i+1)).length=(sg i).length+1:=by rw[(H.blk T r K).2.2];simp
      have dc:(sg (j+1)).length=(sg j).length+1:=by grind
      rw[b0 _ (by
       intro e;rcases Nat.lt_or_gt_of_ne c3 with h | h
       ·have:=T.bD O (m:=i+1) (m':=j) (by omega) (by omega);omega
       ·have:=T.bD O (m:=j+1) (m':=i) (by omega) (by omega);omega)]
      exact L.non i S z' r K (λh=>hn ((BH (by omega) i).2 (.inl h)))
     ·exact a4 _ _ _ _ L.Rj (T.bD O (by omega) u) (T.bD O (by omega) (by omega))
    ·have b1:aI P (orc (some t)) p (env j) (sg j)=some (d,sg j,[]):=by grind
     have X:∀σ,aI P (orc (some t)) p (gN (sL ⟨some t,p,none⟩) (env k)) σ=aI P (orc (some t)) p (env j) σ:=λσ=>by
      refine sy (jF E) (λx Z=>?_);have b2:∀n,x=.t n->n∈sL (⟨some t,p,none⟩:av):=λn hn=>by
       subst hn;simp only[sL,uQ,List.mem_filterMap]
       grind
      rw[uf b2];cases x with
      |k d=>rfl
      |t n=>simp only[ay.ev,same n (b2 n rfl)]
     have b3:aI P (orc o.dst) p (gN (sL ⟨some t,p,none⟩) (env k)) (sg k)=some (d,sg k,[]):=by
      rw[bk,X];refine (FR a9 b1).2.2 (sg k) (λb off sz Z=>?_);by_cases Y:b<(sg j).length
      ·exact T.Kk O (m:=j) (m':=k) (b:=b) (by omega) u Y (λi r bc hw=>by
        rcases pY i q with h | h
        ·rw[H.wr T h] at hw
         grind
        ·exact kA.look T F a9 Z (by omega) (by omega) (λU=>a1 (U.in hC ((hS i h (by omega)).2 bc))) hw)
      ·exfalso;rcases a9 with ⟨x,rfl⟩ | ⟨n,x,rfl⟩
       ·grind [KD]
       grind [KD,aI,jZ]
     refine EF (O o.dst) L.rel hE E b3 _ λv w1 M1 ax R1 hv EV _=>?_;refine ih (listed.setIfInBounds j true) k M1 ax w1 _ (by grind) hk u bt a6 (by omega) ⟨by rw[xM,L.Kj],by rw[Dk,L.oI],R1,λS d' v' hc q1 q2=>?_,λi S z' r K hn=>?_,?_⟩
     ·rcases Cf q2 with ⟨e,rfl⟩ | ⟨e,q2⟩
      ·grind
      ·exact (a5 S d' v' q1 q2 (λh=>e (by grind)) hc).mono EV
     ·have Y:(sg i).length<(sg k).length:=by
       have h1:(sg (i+1)).length=(sg i).length+1:=by rw[(H.blk T r K).2.2];simp
       have:=T.bD O (m:=i+1) (m':=k) (by omega) u;omega
      obtain ⟨c4,k1,_,k3⟩:=EV.bX _ _ (cE Y);rw[cE Y] at k1;simp only[ab] at k1;rw[k3 (by grind)];exact L.non i S z' r K (λh=>hn ((BH (by omega) i).2 (.inl h)))
     ·exact L.Rj.trans EV (T.bD O (by omega) u)
   simp_all
  ·have dd:k<=j:=by
    simp_all
   have c5:j=k:=by
    rcases pY k j with h | h
    ·have U:=b8 k j (by omega) h (by omega) (by omega);have:=(hS k (by omega) (by omega)).1 (U.ready hC a3);omega
    ·omega
   subst c5;obtain ⟨ao,F⟩:=T.at (i:=j) (by omega);obtain ⟨o',A,G⟩:=T.comp j ao F;rw[ho] at A;simp only[ab] at A;subst A;have a0:=T.step j ao F;have b4:=hg j ao F;have hE:cf (sg j) M Fz w (gN (sL ao) (env j)) a.tmps:=by
    refine ⟨by grind [Lt.Kj,gN],λi d v h1 h2=>?_⟩;rw[lJ] at h1;simp only[bq] at h1;obtain ⟨d0,h3,h4⟩:=h1;by_cases ht:(sL ao).contains i=true
    ·rw[if_pos ht] at h4;subst h4;refine L.tmp i d0 v (λm x hm Z hd=>?_) h3 h2;rcases T.pair m j x ao (by omega) Z F with U | U
     ·grind
     ·obtain ⟨h5,_⟩:=ed U;exact absurd (show i∈sL ao by simp_all) (h5 i hd)
    ·rw[if_neg ht] at h4;subst h4;exact .any v
   unfold aO at G;split at G
   ·rename_i g p a8 E;simp only[ab] at G;subst G;simp only at b4;subst b4;have W:=kC (ops:=ops) (o:=o) (g:=none) (b:=true) hE a8 rfl;have X:aI P (orc o.dst) p (gN (sL ⟨o.dst,p,none⟩) (env j)) (sg j)=aI P (orc o.dst) p (env j) (sg j):=by
     refine sy (jF E) (λx Z=>uf (λn hn=>?_));subst hn;simp only[sL,uQ,List.mem_filterMap]
     grind
    simp only[du,eU,bq] at a0;obtain ⟨⟨d,σ1,bF⟩,c6,h⟩:=a0;simp only[aC] at h;obtain ⟨ak,a2,bi⟩:=h;subst a2 bi;unfold wpOp;rw[ho];simp only[W,if_true];left;refine EF (O o.dst) L.rel hE E (by rw[X];exact c6) _ λv w1 M1 ax R1 hv EV _=>?_;refine ih (listed.setIfInBounds j true) (j+1) M1 ax w1 _ (by grind) (by omega) (by omega) (λi r bu=>?_) a6 (by omega) ⟨by rw[xM,L.Kj,T.vd O (m:=j) (by omega),T.vd O (m:=j+1) (by omega)],by rw[Dk,L.oI],R1,λS d' v' hc q1 q2=>?_,λi c7 z' r K hn=>?_,?_⟩
    ·grind [BH]
    ·rw[<-ak] at q1;rcases Cf q2 with ⟨e,rfl⟩ | ⟨e,q2⟩
     ·rw[e] at q1;simp only[kc,UJ,if_true] at q1
      simp_all
     ·have q3:(env j)[S]? = some d':=by
       rw[<-q1];cases hd:o.dst with
       |none=>rfl
       |some s=>grind [kc,List.getElem?_set_ne]
      refine (L.tmp S d' v' (λi x r Z hd=>?_) q3 q2).mono EV
      grind [BH]
    ·have b5:¬eE listed i:=λh=>hn ((BH (by omega) i).2 (.inl h));have b6:=H.off T r K (by omega) (by omega) (cv i r b5);have Y:(sg i).length<(sg j).length:=by
      have h1:(sg (i+1)).length=(sg i).length+1:=by rw[(H.blk T r K).2.2];simp
      have:=T.bD O (m:=i+1) (m':=j) (by omega) (by omega);omega
     have b7:(sg j)[(sg i).length]? = some (sg j)[(sg i).length]:=cE Y;obtain ⟨c4,k1,_,k3⟩:=EV.bX _ _ b7;rw[(T.frame O (i:=j) (by omega)).2 _ Y b6,b7] at k1;simp only[ab] at k1;rw[k3 (by simp_all)];exact L.non i c7 z' r K b5
    ·exact L.Rj.trans EV (T.bD O (by omega) (by omega))
   simp_all
theorem LS{M:Nat->Option Nat}{Fz:Nat->Prop}{w:World}{a:Act}(O:jX P orc)(T:Tr P orc ops os 0 n0 env sg wrs)(H:kA os q)(hq:q<=n0)(K:∀i j,q<=i->i<j->n0<=j->j<os.length->wD ops i j)
  (hg:∀(i:Nat) x,os[i]? = some x->x.g=none) (v:∀(i j:Nat) x y t,i<q->i<j->os[i]? = some x->os[j]? = some y->x.dst=some t->y.dst≠some t) (z:∀(i j:Nat) x y t,i<q->i<=j->os[i]? = some x->os[j]? = some y->y.dst=some t->t∉sL x)
  (W:∀listed:Array Bool,listed.size=ops.size->Region.ready .any ops listed=[]->∀i,i<ops.size->eE listed i) (R:Rel (sg 0) M Fz w) (E:cf (sg 0) M Fz w (env 0) a.tmps) {Q:Exit->Act->World->Prop}
  (hQ:∀u w' M' Fz',u.defers=a.defers->Rel (sg os.length) M' Fz' w'->cf (sg os.length) M' Fz' w' (env os.length) u.tmps->aW (sg 0) M Fz w (sg os.length) M' Fz' w'->Q .normal u w') :
  wpAny P .any ops Q ops.size (Array.replicate ops.size false) a w:=by
 have a2:=T.len;have X:=T.le;have A:∀b,M b≠none->b<(sg 0).length:=λb h=>by
  cases hM:M b with
  |none=>simp_all
  |some c=>exact (R.lt hM).1
 have Y:∀(l:Nat)(listed:Array Bool)(M':Nat->Option Nat)(Fz':Nat->Prop)(w':World)(u:Act),listed.size=ops.size->LK ops.size listed<=l->dU ops (eE listed)->(∀i,eE listed i->i<n0) ->
   Inv os n0 env sg wrs M Fz w a.defers (eE listed) M' Fz' w' u->wpAny P .any ops Q l listed u w':=by
  intro l;induction l with
  |zero=>intro listed M' Fz' w' u L hu U S I;have F:=oM (N:=ops.size) (listed:=listed) (by omega);exact Jk O T H hq K hg v z W hQ 0 listed n0 M' Fz' w' u L (bQ _) X (λi _ r=>⟨λh=>S i h,λ_=>F i r⟩) U (by omega) (I.late T O H (λi _ h=>F i (by omega)) hq A)
  |succ l ih=>
   intro listed M' Fz' w' u L hu U S I;by_cases m:∀i,q<=i->i<n0->eE listed i
   ·exact Jk O T H hq K hg v z W hQ (l+1) listed n0 M' Fz' w' u L (bQ _) X (λi r _=>⟨λh=>S i h,λh=>m i r h⟩) U hu (I.late T O H m hq A)
   ·refine ⟨λhr=>?_,λj hj=>?_⟩
    ·grind
    ·rw[mem_ready] at hj;obtain ⟨h1,o,ho,ad⟩:=hj;have af:j<ops.size:=(CS.1 ho).1;have Z:¬eE listed j:=by
      grind [eE]
     have G:∀o' e,ops[j]? = some o'->e∈o'.after->Region.binds .any e=true->eE listed e.on:=λo' e s he ak=>by rw[ho] at s;simp only[ab] at s;subst s;exact ad e he ak
     have ax:j<n0:=by
      rcases pY j n0 with h | h
      ·exact h
      ·exact absurd (λi r a3=>(K i j r (by omega) h (by omega)).ready U G) m
     refine I.step (S':=eE (listed.setIfInBounds j true)) T O U ax Z G (λi=>BH (by omega) i) _ λa1 w1 M1 a0 I1=>?_;refine ih (listed.setIfInBounds j true) M1 a0 w1 a1 (by grind) ?_ ?_ ?_ I1
     ·have:=wQ (N:=ops.size) (listed:=listed) (k:=j) (by omega) af Z;omega
     ·intro i o' e r s he hb;rw[BH (by omega)] at r ⊢;rcases r with r | rfl
      ·exact .inl (U i o' e r s he hb)
      simp_all
     grind [BH]
 have p:∀i,¬eE (Array.replicate ops.size false) i:=λi h=>by grind [eE,fU]
 refine Y ops.size _ M Fz w a (by simp) ?_ (λj o e hj=>absurd hj (p j)) (λi r=>absurd r (p i)) (Inv.start R rfl E (λi _=>⟨λh=>absurd h (p i),λh=>by omega⟩) T O)
 grind [LK]
def rI(g:Nat->Nat)(o:Oper):Oper:={ o with after:=o.after.map λe=>{ e with on:=g e.on } }
structure Perm (ops ops2:Array Oper) (f g:Nat->Nat):Prop where
 size:ops2.size=ops.size
 get:∀i,i<ops.size->ops2[i]? = (ops[f i]?).map (rI g)
 LG:∀i,i<ops.size->f i<ops.size
 BS:∀i,i<ops.size->g i<ops.size
 fg:∀i,i<ops.size->f (g i)=i
 gf:∀i,i<ops.size->g (f i)=i
 guard:∀(i:Nat) o,ops[i]? = some o->o.guard=none
 on:∀(i:Nat) o e,ops[i]? = some o->e∈o.after->Region.binds .any e=true->e.on<ops.size
theorem QQ{g:Nat->Nat}{o:Oper}{a:Act}{w:World}{K:Act->World->Prop}{Q:Exit->Act->World->Prop}(h:(rI g o).wp P a w K Q∨((rI g o).asks P a w/\LetsOut Q)):o.wp P a w K Q∨(o.asks P a w/\LetsOut Q):=h
theorem uF(l:Array Bool)(i:Nat)(b a:Bool)(h:i<l.size):l.getD i b=l.getD i a:=by simp_all
theorem yt{ops b:Array Oper}{f g:Nat->Nat}(X:Perm ops b f g):∀(listed a:Array Bool),listed.size=ops.size->a.size=ops.size->(∀i,i<ops.size->a.getD i true=listed.getD (f i) true)->∀j,j∈Region.ready .any ops listed->g j∈Region.ready .any b a:=by intro listed a hs p s j h;rw[mem_ready] at h ⊢;obtain ⟨y,o,r,z⟩:=h;have h:j<ops.size:=(CS.1 r).1;refine ⟨by rw[s _ (X.BS j h),X.fg j h];exact y,rI g o,by rw[X.get _ (X.BS j h),X.fg j h,r];rfl,λe u v=>?_⟩;simp only[rI,Array.mem_map] at u;obtain ⟨x,m,rfl⟩:=u;have l:=X.on j o x r m v;rw[uF _ _ false true (by rw[p];exact X.BS _ l),s _ (X.BS _ l),X.fg _ l,uF _ _ true false (by omega)];exact z x m v
theorem Sk{ops m:Array Oper}{f g:Nat->Nat}(X:Perm ops m f g){Q:Exit->Act->World->Prop}:∀(p:Nat)(listed b:Array Bool)(a:Act)(w:World),listed.size=ops.size->b.size=ops.size->(∀i,i<ops.size->b.getD i true=listed.getD (f i) true) ->
  wpAny P .any m Q p b a w->wpAny P .any ops Q p listed a w:=by
 have x:∀(listed b:Array Bool),listed.size=ops.size->b.size=ops.size->(∀i,i<ops.size->b.getD i true=listed.getD (f i) true)->Region.ready .any ops listed=[]->Region.ready .any m b=[]:=by
  intro listed b hs r u h;cases F:Region.ready .any m b with
  |nil=>rfl
  |cons i l=>
   exfalso;have R:i∈Region.ready .any m b:=by simp_all
   rw[mem_ready] at R;obtain ⟨y,o,s,G⟩:=R;have E:i<ops.size:=by grind
   rw[X.get i E] at s;simp only[bq] at s;obtain ⟨S,z,rfl⟩:=s;have:f i∈Region.ready .any ops listed:=by rw[mem_ready];refine ⟨by simp_all,S,z,λe U T=>?_⟩;have A:=X.on _ S e z U T;have:=G { e with on:=g e.on } (by simp only[rI,Array.mem_map];grind) T;simp only at this;rw[uF _ _ false true (by grind),u _ (X.BS _ A),X.fg _ A,uF _ _ true false (by omega)] at this;omega
   simp_all
 intro p;induction p with
 |zero=>
  intro listed b a w hs r u h;refine ⟨?_,h.2⟩;cases F:Region.ready .any ops listed with
  |nil=>rfl
  |cons j l=>
   have:=yt X listed b hs r u j (by simp_all);rw[h.1] at this
   simp_all
 |succ p ih=>
  intro listed b a w hs r u h;refine ⟨λF=>h.1 (x listed b hs r u F),λj L=>?_⟩;have N:=yt X listed b hs r u j L;have:=h.2 (g j) N;rw[mem_ready] at L;obtain ⟨_,o,s,_⟩:=L;have v:j<ops.size:=(CS.1 s).1;have O:m[g j]? = some (rI g o):=by rw[X.get _ (X.BS j v),X.fg j v,s];rfl
  have W:o.guard=none:=X.guard j o s;refine wpOp_mono (K:=wpAny P .any m Q p (b.setIfInBounds (g j) true)) (λa w Y=>ih _ _ a w (by simp[hs]) (by grind) (λi E=>?_) Y) ?_
  ·have Z:(b.setIfInBounds (g j) true).getD i true=if g j=i then true else b.getD i true:=by
    simp only[Up,QH]
    grind
   have e2:(listed.setIfInBounds j true).getD (f i) true=if j=f i then true else listed.getD (f i) true:=by
    simp only[Up,QH]
    grind
   rw[Z,e2,u i E];by_cases y:g j=i
   ·rw[if_pos y,if_pos (by rw[<-y,X.fg j v])]
   ·rw[if_neg y,if_neg (λh2=>y (by rw[h2,X.gf i E]))]
  ·unfold wpOp at this ⊢;rw[O] at this;rw[s];have w1:Region.wanted (rI g o) (yielded m a.tmps)=true:=by grind [Go.Region.wanted,rI]
   have w2:Region.wanted o (yielded ops a.tmps)=true:=by grind [Go.Region.wanted]
   simp only[w1,if_true] at this;simp only[w2,if_true]
   grind [QQ]
theorem EZ{ops a:Array Oper}{f g:Nat->Nat}(X:Perm ops a f g){i j:Nat}(h:wD ops i j):wD a (g i) (g j):=by
 have l:∀{j o},ops[j]? = some o->a[g j]? = some (rI g o):=λ{j o} b=>by have r:=(CS.1 b).1;rw[X.get _ (X.BS j r),X.fg j r,b];rfl
 induction h with
 |one b m p s=>exact .one (l b) (by simp only[rI,Array.mem_map];exact ⟨_,m,rfl⟩) (e:={ on:=g _,ground:=_ }) p (by simp_all)
 |more b m p hk _ ih=>exact .more (l b) (by simp only[rI,Array.mem_map];exact ⟨_,m,rfl⟩) (e:={ on:=g _,ground:=_ }) p (by simp_all) ih
def isLt(o:av):Bool:=match o with
 | ⟨some _,.alloc z,none⟩=>z.all Yt
 | ⟨some _,.uV _,none⟩=>true
 | ⟨some _,.load _ _,none⟩=>true
 |_=>false
def ZU(o:av):Bool:=match o.op with | .call ..=>true | _=>false
def Hj:Nat->Nat->List av->List Nat->List Nat
 |i, m, o :: os, b :: bs => match isLt o && Nat.beq (Nat.lor b m) m with
  |true=>i::Hj (i+1) (Nat.lor m (2 ^ i)) os bs
  |false=>Hj (i+1) m os bs
 |_,_,_,_=>[]
def permP(hs:List Nat)(n:Nat):List Nat:=hs++(List.range n).filter λi=>hs.all λj=>!Nat.beq j i
def ky(a:List Nat)(os:List av):List av:=a.map λi=>os.getD i default
def EX(a:List Nat)(i:Nat):Nat:=a.getD i 0
def Iw(a:List Nat)(i:Nat):Nat:=a.findIdx λj=>Nat.beq j i
def PD(a:List Nat)(n:Nat):Bool:=Nat.beq a.length n&&(List.range n).all λi=>(Nat.blt (EX a i) n&&Nat.beq (Iw a (EX a i)) i)&&(Nat.blt (Iw a i) n&&Nat.beq (EX a (Iw a i)) i)
def Ca(a b:List Nat)(q n0:Nat)(os:List av):Bool:=
 ((List.range os.length).all λj=>Nat.blt j n0 || (List.range j).all λi=>Nat.blt i q || (a.getD (EX b j) 0).testBit (EX b i)) &&
 (((os.take q).all isLt&&os.all (λo=>o.g.isNone)) &&
 (((List.range os.length).all λj=>(List.range j).all λi=>!Nat.blt i q || (match (os.getD i default).dst,(os.getD j default).dst with | some s,some t=>!Nat.beq s t | _,_=>true)) &&
 (((List.range os.length).all λj=>(List.range (j+1)).all λi=>!Nat.blt i q || (match (os.getD j default).dst with | some t=>!(sL (os.getD i default)).contains t | _=>true)) &&
 (PD b os.length&&(Nat.ble q n0&&Nat.ble n0 os.length)))))
def GJ(a b:List Nat)(is:List cP):Bool:=
 (List.range is.length).all λj=>(List.range j).all λi=>(a.getD (EX b j) 0).testBit (EX b i) || apart (is.getD i default) (is.getD j default)
def Ji(os:List av)(a:List Nat):Option (List Nat×Nat×Nat):=
 let hs:=Hj 0 0 os a
 let i:=(os.takeWhile λo=>!ZU o).length
 match hs.any λh=>Nat.blt i h with
 |false=>none
 |true=>
  let b:=permP hs os.length
  let n0:=hs.length+(((ky b os).drop hs.length).takeWhile λo=>!ZU o).length
  match Nat.beq b.length os.length&&Ca a b hs.length n0 (ky b os) with
  |true=>some (b,hs.length,n0)
  |false=>none
theorem OD{os:List av}{a b:List Nat}{q n0:Nat}(h:Ji os a=some (b,q,n0)):b.length=os.length/\Ca a b q n0 (ky b os)=true:=by
 unfold Ji at h;dsimp only at h;split at h
 ·simp at h
 ·split at h
  ·simp only[ab,aC] at h;obtain ⟨rfl,rfl,rfl⟩:=h
   simp_all
  simp_all
theorem Mx (af:P.follows .mixedOrders=true) (O:jX P orc) {id q n0:Nat} {r:List Nat} {ops:Array Oper} {os:List av} {σ σ':aa} {M:Nat→Option Nat} {Fz:Nat→Prop} {w:World} {e e':List D} {a:Act} {is:List cP} {Q:Exit→Act→World→Prop}
  (hc:ops.toList.mapM (aO P ops)=some os) (G:uo ops.toList=true) (R:Rel σ M Fz w) (E:cf σ M Fz w e a.tmps) (h:iT P orc n0 (ky r os) e σ=some (e',σ',is)) (bk:r.length=os.length)
  (ak:Ca (HH ops.toList) r q n0 (ky r os)=true) (a7:GJ (HH ops.toList) r is=true)
  (hQ:∀K w' M' Fz',K.defers=a.defers→Rel σ' M' Fz' w'→cf σ' M' Fz' w' e' K.tmps→aW σ M Fz w σ' M' Fz' w'→Q .normal K w'):(Code.region id ops true).wq P Q a w:=by
 obtain ⟨h1,h2⟩:=Eo hc
 have ax:os.length=ops.size:=by omega
 have a0:(ky r os).length=os.length:=by grind [ky]
 simp only [Ca,aU] at ak
 obtain ⟨c2,⟨c3,c4⟩,c5,c6,c7,c8,c9⟩:=ak
 have c8:=wS c8
 have c9:=wS c9
 simp only [PD,aU,eG,Zb] at c7
 have pm:=c7.2
 rw [a0,ax] at pm
 have LG:∀i,i<ops.size→EX r i<ops.size:=fun i u=>oS.mp (pm i u).1.1
 have BS:∀i,i<ops.size→Iw r i<ops.size:=fun i u=>oS.mp (pm i u).2.1
 have fg:∀i,i<ops.size→EX r (Iw r i)=i:=fun i u=>bP (pm i u).2.2
 have gf:∀i,i<ops.size→Iw r (EX r i)=i:=fun i u=>bP (pm i u).1.2
 have L:∀i,i<ops.size→(ky r os)[i]? = os[EX r i]?:=fun i u=>by
  grind [EX,ky]
 generalize be:ky r os=v at h a0 L c2 c3 c4 c5 c6 c9
 obtain ⟨env,sg,wrs,k1,k2,k3,k4,k5,k6,k7⟩:=JC (n:=n0) v n0 e e' σ σ' is h
 subst k1 k2 k3 k4
 have c1:=a7
 unfold GJ at c1
 have a1:∀(i:Nat) x,v[i]? = some x→x.g=none:=fun i x N=>by
  have:=eG.1 c4 x (sT N)
  simpa using this
 have U:∀(i:Nat) o,ops[i]? = some o→o.guard=none:=fun i o S=>by
  have a2:=(CS.1 S).1
  have N:v[Iw r i]? = some os[i]:=by grind
  obtain ⟨o',W,z⟩:=h2 i _ (cE (by omega))
  rw [Gq,S] at W
  simp only [ab] at W
  subst W
  have Y:=a1 _ _ N
  unfold aO at z
  split at z
  ·rename_i g ao hg _
   simp only [ab] at z
   rw [←z] at Y
   simp only at Y
   subst Y
   cases hq:o.guard with
   | none=>rfl
   | some p =>
    obtain ⟨j,bh⟩:=p
    rw [hq] at hg
    simp only [tU] at hg
    split at hg <;> simp at hg
  grind
 let s:Array Oper:=Array.ofFn fun i:Fin ops.size=>rI (Iw r) (ops[EX r i]'(LG i i.isLt))
 have a8:s.size=ops.size:=by simp [s]
 have a3:∀i,i<ops.size→s[i]? = (ops[EX r i]?).map (rI (Iw r)):=fun i u=>by
  rw [nE (by omega),nE (LG i u)]
  simp [s]
 have X:Perm ops s (EX r) (Iw r):=⟨a8,a3,LG,BS,fg,gf,U,fun i o e S he hb=>by
  have:=oV G i o e S he hb
  grind⟩
 have T:Tr P orc s v 0 n0 env sg wrs:={
  len:=by omega
  comp:=fun j ao Z=>by
   have bl:=(dT.1 Z).1
   rw [L j (by omega)] at Z
   obtain ⟨o,S,z⟩:=h2 _ ao Z
   rw [Gq] at S
   refine ⟨rI (Iw r) o,by grind,?_⟩
   unfold aO at z ⊢
   have e1:tU ops o.guard=some none:=by rw [U _ o S]; rfl
   have e2:tU s (rI (Iw r) o).guard=some none:=by
    show tU s o.guard=some none
    rw [U _ o S]; rfl
   rw [e1] at z
   rw [e2]
   exact z
  step:=fun i ao u=>(k6 i ao u).1
  wrk:=fun i u=>k7 i (by omega) u
  le:=by omega
  pair:=fun i j x y ad N hy=>by
   have Z:=(dT.1 hy).1
   have F:=eG.1 c1 j (by grind)
   have A:=eG.1 F i (by grind)
   simp only [dQ] at A
   rcases A with A | A
   ·left
    have:=EZ X (wP A)
    grind
   grind
  lead:=fun i u=>by omega
  XU:=by omega }
 have H:kA v q:=fun i u=>by
  have a2:i<v.length:=by omega
  have:=eG.1 c3 (v[i]) (by
   rw [yB2]
   exact ⟨i,by grind⟩)
  rw [cE a2]
  generalize v[i]=x at this
  unfold isLt at this
  split at this
  ·grind
  ·grind
  ·grind
  grind
 refine sc af (pZ hc) ?_
 replace hQ:=fun K w' M' Fz' h1 h2 F A=>(⟨hQ K w' M' Fz' h1 h2 F A,by simp⟩:jz Q .normal K w')
 have R1:Rel (sg 0) M Fz { w with drawn:=w.drawn+1 }:=R.heap rfl ⟨rfl,rfl,rfl⟩
 have EH:aW (sg 0) M Fz w (sg 0) M Fz { w with drawn:=w.drawn+1 }:=aW.heap R rfl ⟨rfl,rfl,rfl⟩
 have bi:=LS (Q:=jz Q) O T H (by omega) (fun i j bt ad bu Z=>by
   have F:=eG.1 c2 j (by grind)
   simp only [dQ] at F
   rcases F with F | F
   ·grind [Nat.blt_eq]
   ·have A:=eG.1 F i (by grind)
    simp only [dQ] at A
    rcases A with A | A
    ·grind [Nat.blt_eq]
    ·have:=EZ X (wP A)
     grind) a1
  (fun i j x y t u ad N hy hd a9=>by
   have Z:=(dT.1 hy).1
   have F:=eG.1 c5 j (by grind)
   have A:=eG.1 F i (by grind)
   simp only [LQ,N,hy,Option.getD_some,hd,a9,oS.mpr u,Nat.beq_refl] at A
   grind)
  (fun i j x y t u ad N hy hd hm=>by
   have Z:=(dT.1 hy).1
   have F:=eG.1 c6 j (by grind)
   have A:=eG.1 F i (by grind)
   have bc:(sL x).contains t=true:=by grind
   simp only [LQ,N,hy,Option.getD_some,hd,oS.mpr u,bc] at A
   grind)
  (fun m bv hr i u=>by
   let b:Array Bool:=Array.ofFn fun i:Fin ops.size=>m.getD (Iw r i) true
   have a4:b.size=ops.size:=by simp [b]
   have bw:∀i,i<ops.size→b.getD i true=m.getD (Iw r i) true:=fun i u=>by
    rw [Up,nE (by omega)]
    simp [b]
   have a5:∀i,i<ops.size→m.getD i true=b.getD (EX r i) true:=fun i u=>by grind
   have bd:Region.ready .any ops b=[]:=by
    cases hq:Region.ready .any ops b with
    | nil=>rfl
    | cons j l =>
     have:=yt X b m a4 (by omega) a5 j (by grind)
     grind
   have a6:=sx a4 (oV G) bd
   have:=a6 (EX r i) (LG i (by omega))
   unfold eE at this ⊢
   grind)
  R1 (E.mono EH) (fun K w' M' Fz' hd R' E' EV=>hQ K w' M' Fz' hd R' E' (EH.trans EV (bQ _)))
 exact Sk X ops.size (Array.replicate ops.size false) (Array.replicate ops.size false) a _ (by simp) (by simp) (fun i u=>by
  rw [Up,Up,yBS,yBS,if_pos (by omega),if_pos (LG i u)]) (by grind)
theorem Sem.drwG{nn q n0:Nat}{z:List Nat}{al:AL}{σ:aa}{Q:jr->AL->aa->Prop}{os:List av}{k:Nat}{s:List Nat}{p:Nat}(u:P.follows .mixedOrders=true)(O:jX P orc)(W:Ji os s=some (z,q,n0))
  (h:bj P orc n0 (ky z os) nn al σ λal' σ' is=>GJ s z is=true/\Q .normal al' σ'):Sem P (.AE os s k p) nn al σ Q:=by
 obtain ⟨al1,σ1,is,h,X,Y⟩:=h;obtain ⟨E,F⟩:=OD W;intro c j M Fz w a K R A Z;obtain ⟨e',L,h2⟩:=h _ A.bV.2;cases c with
 |region id ops U=>
  simp only[aS] at j;split at j
  ·rename_i ad G;split at j
   ·rename_i hd;subst hd;split at j
    ·rename_i hb;simp only[ab,az.AE.injEq] at j;obtain ⟨rfl,rfl,_,_⟩:=j;refine Mx u O G hb R A.bV.1 L E F X λa' w' M' Fz' hd R' E' EV=>?_;exact Z .normal al1 σ1 a' w' M' Fz' Y (Mk.of_eq hd) R' (dq.NZ E' h2) EV (yW O _ _ _ _ _ _ _ L).1
    simp_all
   simp_all
  simp_all
 |seq a b=>grind [aS]
 |cond o a b=>grind [aS]
 |block i b=>simp[aS] at j
 |loop b=>simp[aS] at j
 |scope b=>grind [aS,Option.map_eq_some_iff,Dp]
 |rangeFunc g ps x y=>rcases cU j with ⟨_,_,_,_,_,_,_,e⟩ | e <;> cases e
 |_=>grind [aS]
end
end Go.Abs
end
