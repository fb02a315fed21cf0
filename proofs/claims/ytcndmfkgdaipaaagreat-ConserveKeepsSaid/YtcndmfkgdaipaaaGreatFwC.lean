/- DfwV, DfwW, DfwX, DfwY, DfwZ, DfwOp, DfwEnc, DfwEq, DfwOwn, DfwTq, DfwMp, DfwFl, DfwGh -/
import Derived.Test.YtcndmfkgdaipaaaGreatFwB
import GoSem.ClaimChange
import Derived.DataReads
import Derived.Below
import Derived.Laws.StructEq
import GoSem.Core.Float
import GoSem.Op.Complex
import GoSem.Conv.FloatToInt
set_option linter.all false
section
namespace Go.Abs
variable[Gl]
inductive Sh where
 |int (k:IntKind)
 |bool
 |str
 |sl (e:List Sh)
 |no
 deriving Inhabited
inductive Shaped:Sh->C->Prop where
 |int {k:IntKind} {n:Int} (h:(Lit.int k n).wf=true):Shaped (.int k) (.lit (.int k n))
 |bool (b:Bool):Shaped .bool (.lit (.bool b))
 |str {s:ByteArray} (h:s.size<=maxLen):Shaped .str (.lit (.string s))
 |sl {e:List Sh} {es:List (List C)} (hl:es.length<=maxLen) (hn:∀x∈es,x.length=e.length) (h:∀(x:List C),x∈es->∀(j:Nat) s c,e[j]? = some s->x[j]? = some c->Shaped s c):Shaped (.sl e) (.cJ false es)
def fD(P:Program):Nat->TypeId->Option (List Sh)
 |0,_=>none
 |f + 1, t=>
  match P.underlying t with
  |some .bool=>some [.bool]
  |some (.int k)=>some [.int k]
  |some .string=>some [.str]
  |some (.slice e)=>
   match fD P f e with
   |some s=>if s.length=P.cellsOf e/\s≠[] then some [.sl s] else none
   |none=>none
  |some (.struct h)=>
   match h.toList.foldl (λa b=>match a,fD P f b.type with
    |some l,some s=>if b.offset=l.length/\s.length=P.cellsOf b.type then some (l++s) else none
    |_,_=>none) (some []) with
   |some l=>if l.length=P.cellsOf t then some l else none
   |none=>none
  |some (.array n e)=>
   match fD P f e with
   |some s=>if s.length=P.cellsOf e/\n * s.length=P.cellsOf t then some (List.replicate n s).flatten else none
   |none=>none
  |_=>none
def FX(w:World)(a:List Sh)(xs:List C)(cs:List Value):Prop:=
 xs.length=a.length/\cs.length=a.length/\(∀(i:Nat) s x,a[i]? = some s->xs[i]? = some x->Shaped s x) /\
  ∀(i:Nat) x v,xs[i]? = some x->cs[i]? = some v->VC (λc=>c<w.heap.size) w x v/\v.oneCell'=true
theorem FX.append{w:World}{s1 s2:List Sh}{j o:List C}{c1 u:List Value}(z:FX w s1 j c1)(A:FX w s2 o u):FX w (s1++s2) (j++o) (c1++u):=by
 obtain ⟨F,G,K,O⟩:=z;obtain ⟨R,U,W,X⟩:=A;refine ⟨by simp_all,by simp_all,λi s x hs E=>?_,λi x v E Y=>?_⟩
 ·grind
 grind
theorem FX.nil{w:World}:FX w [] [] []:=⟨rfl,rfl,λi s x h=>by simp at h,λi x v h=>by simp at h⟩
theorem FX.one{w:World}{s:Sh}{x:C}{v:Value}(u:Shaped s x)(z:VC (λc=>c<w.heap.size) w x v)(A:v.oneCell'=true):FX w [s] [x] [v]:=by
 refine ⟨rfl,rfl,λi E j hs o=>?_,λi j F o G=>?_⟩
 ·grind
 grind
theorem HB{w:World}{b:Nat}{a:Addr}{n:Nat}{cs:List Value}(h:w.cells? b a n=some cs):cs.length=n/\∀(j:Nat) v,cs[j]? = some v->w.cell? (a.add j)=some v:=by
 unfold World.cells? at h;split at h
 ·obtain ⟨i,l⟩:=Mt h
  grind
 simp_all
theorem Vt{α:Type}{n:Nat}{p:Nat->α->Prop}(h:∀i,i<n->∃a,p i a):∃l:List α,l.length=n/\∀(i:Nat) a,l[i]? = some a->p i a:=by
 induction n with
 |zero=>simp_all
 |succ n ih=>
  obtain ⟨l,j,m⟩:=ih (λi o=>h i (by omega));obtain ⟨a,r⟩:=h n (by omega);refine ⟨l++[a],by simp[j],λi b s=>?_⟩
  grind
theorem Eb{H:Type}{enc:TypeId×Value->H}{P:Program}{w:World}{b:Nat->Bool}{j:Bool}{f:Nat}{t e:TypeId}{cs:List Value}{d:DataW H}{ps:List MemPlace}
  (v:P.underlying t=some (.slice e)) (h:DataW.trod enc P w 0 b j (f+1) t cs=some (d,ps)) :
  cs=[.slice none 0 0]∨∃a len cap,cs=[.slice (some a) len cap]/\len<=cap/\cap<=maxLen/\∀i,i<len->∃ci o p,w.cells? 0 (a.add (i * P.cellsOf e)) (P.cellsOf e)=some ci/\DataW.trod enc P w 0 b j f e ci=some (o,p):=by
 unfold DataW.trod at h;rw[v] at h;split at h <;> rename_i l <;> first
  |(simp only[au,reduceCtorEq] at l;done)
  |skip
 ·exact .inl rfl
 ·rename_i A a len cap;simp only[au,TypeDesc.slice.injEq] at l;subst l;simp only at h;split at h
  ·rename_i u;simp only[cM] at h;obtain ⟨r,s,_⟩:=h;refine .inr ⟨a,len,cap,rfl,u.2.1,u.2.2,λi x=>?_⟩;obtain ⟨⟨o,p⟩,_,m⟩:=Bo s i i (List.getElem?_range x);simp only[cM] at m;obtain ⟨ci,y,z⟩:=m;exact ⟨ci,o,p,y,z⟩
  ·simp at h
 ·simp at h
theorem CL{H:Type}{enc:TypeId×Value->H}{P:Program}{w:World}{a:Nat->Bool}{b:Bool}{f:Nat}{t:TypeId}{o:Array Field}{cs:List Value}{d:DataW H}{ps:List MemPlace}
  (v:P.underlying t=some (.struct o)) (h:DataW.trod enc P w 0 a b (f+1) t cs=some (d,ps)) :
  cs.length=P.cellsOf t/\∀l∈o.toList,∃p r,DataW.trod enc P w 0 a b f l.type ((cs.drop l.offset).take (P.cellsOf l.type))=some (p,r):=by
 unfold DataW.trod at h;rw[v] at h;split at h <;> rename_i j <;> first
  |(simp only[au,reduceCtorEq] at j;done)
  |skip
 ·simp only[au,TypeDesc.struct.injEq] at j;subst j;split at h
  ·rename_i x;simp only[cE] at h;obtain ⟨A,s,_⟩:=h;refine ⟨x,λl u=>?_⟩;obtain ⟨i,y⟩:=yBG.1 u;obtain ⟨⟨p,r⟩,_,z⟩:=Bo s i l y;exact ⟨p,r,z⟩
  ·simp at h
 ·exact absurd rfl (‹∀(m:Array Field),some (TypeDesc.struct o)=some (TypeDesc.struct m)->False› o)
theorem Fy{H:Type}{enc:TypeId×Value->H}{P:Program}{w:World}{a:Nat->Bool}{b:Bool}{f n:Nat}{t e:TypeId}{cs:List Value}{d:DataW H}{ps:List MemPlace}
  (s:P.underlying t=some (.array n e)) (h:DataW.trod enc P w 0 a b (f+1) t cs=some (d,ps)) :
  cs.length=P.cellsOf t/\∀i,i<n->∃l m,DataW.trod enc P w 0 a b f e ((cs.drop (i * P.cellsOf e)).take (P.cellsOf e))=some (l,m):=by
 unfold DataW.trod at h;rw[s] at h;split at h <;> rename_i j <;> first
  |(simp only[au,reduceCtorEq] at j;done)
  |skip
 ·simp only[au,TypeDesc.array.injEq] at j;obtain ⟨rfl,rfl⟩:=j;split at h
  ·rename_i u;simp only[cE] at h;obtain ⟨y,o,_⟩:=h;refine ⟨u,λi v=>?_⟩;obtain ⟨⟨l,m⟩,_,x⟩:=Bo o i i (List.getElem?_range v);exact ⟨l,m,x⟩
  ·simp at h
 ·exact absurd rfl (‹∀(p:Nat)(r:TypeId),some (TypeDesc.array n e)=some (TypeDesc.array p r)->False› n e)
theorem Pv{H:Type}{enc:TypeId×Value->H}{P:Program}{w:World}{N:Nat->Bool}{aa:Bool}:∀(f:Nat)(O:Nat)(t:TypeId)(cs:List Value)(d:DataW H)(ps:List MemPlace)(R:List Sh),
  DataW.trod enc P w 0 N aa O t cs=some (d,ps)->fD P f t=some R->∃xs,FX w R xs cs:=by
 intro f;induction f with
 |zero=>grind [fD]
 |succ f ih=>
  intro O t cs d ps R v hs;cases O with
  |zero=>simp[DataW.trod] at v
  |succ O=>
   simp only[fD] at hs;split at hs
   ·
    rename_i A;simp only[au] at hs;subst hs;unfold DataW.trod at v;rw[A] at v;split at v <;> simp_all
    subst_vars
    exact ⟨_,FX.one (.bool _) (.lit _) rfl⟩
   ·
    rename_i k A;simp only[au] at hs;subst hs;unfold DataW.trod at v;rw[A] at v;split at v <;> simp_all
    obtain ⟨⟨rfl,ak⟩,_⟩:=v;exact ⟨_,FX.one (.int ak) (.lit _) rfl⟩
   ·
    rename_i A;simp only[au] at hs;subst hs;unfold DataW.trod at v;rw[A] at v;split at v <;> simp_all
    exact ⟨_,FX.one (.str v.1) (.lit _) rfl⟩
   ·
    rename_i e A;split at hs
    ·rename_i s S;split at hs
     ·rename_i b;obtain ⟨b,ab⟩:=b;simp only[au] at hs;subst hs;have a8:0<s.length:=Wg.2 ab;rcases Eb A v with rfl | ⟨r,len,cap,rfl,bd,be,T⟩
      ·refine ⟨[.cJ false []],FX.one (.sl (by simp) (λx h=>by simp at h) (λx h=>by simp at h)) ?_ rfl⟩;exact .cJ 0 none 0 (by simp) (λ_=>rfl) (λ_ _=>undef) (λe h=>by simp at h) (by simp) (λi j e d h=>by simp at h) (λi j e d h=>by simp at h)
      ·rw[<-b] at T;have an:∀i,i<len->∃(p:List C×List Value),w.cells? 0 (r.add (i * s.length)) s.length=some p.2/\FX w s p.1 p.2:=by
        intro i K;obtain ⟨ci,Z,pi,E,z⟩:=T i K;obtain ⟨xs,o⟩:=ih O e ci Z pi s z S;exact ⟨(xs,ci),E,o⟩
       obtain ⟨l,bh,G⟩:=Vt an;have U:0<len->r.spot=none/\r.block<w.heap.size:=by
        intro h0;obtain ⟨ci,Z,pi,E,_⟩:=T 0 h0;obtain ⟨h3,h4⟩:=HB E;have hc:=h4 0 _ (eS (by omega));have e0:(r.add (0 * s.length)).add 0=r:=by simp[Addr.add]
        rw[e0] at hc;exact ⟨World.cell?_spot hc,block_lt_of_cell hc⟩
       let g:Nat->Nat->Value:=λi j=>(((l[i]?).map (·.2)).bind (·[j]?)).getD undef
       have F:∀(i j:Nat)(x:List C)(c:C),(l.map (·.1))[i]? = some x->x[j]? = some c->r=⟨r.block,r.off,none⟩/\r.block<w.heap.size/\w.cell? ⟨r.block,r.off+i * s.length+j,none⟩=some (g i j) /\
         VC (λc=>c<w.heap.size) w c (g i j)/\(g i j).oneCell'=true:=by
        intro i j x c y hc;simp only[mE,cE] at y;obtain ⟨p,W,rfl⟩:=y;obtain ⟨E,z,h3,h4,h5⟩:=G i p W;have K:i<len:=by grind
        obtain ⟨bi,bk⟩:=U (by omega);have bl:r=⟨r.block,r.off,none⟩:=by cases r;simp_all
        grind [HB,eW]
       have a9:(l.map (·.1)).length=len:=by grind
       refine ⟨[.cJ false (l.map (·.1))],FX.one (.sl (by omega) (λx y=>?_) (λx y j sj c E z=>?_)) ?_ rfl⟩
       ·simp only[gD] at y;obtain ⟨p,W,rfl⟩:=y;obtain ⟨i,K⟩:=yBG.1 W;exact (G i p K).2.1
       ·simp only[gD] at y;obtain ⟨p,W,rfl⟩:=y;obtain ⟨i,K⟩:=yBG.1 W;exact (G i p K).2.2.2.1 j sj c E z
       ·have:=VC.cJ (Fz:=λc=>c<w.heap.size) (w:=w) (nn:=false) (es:=l.map (·.1)) s.length (some r) cap (by simp) (λh=>by cases h) g (λx y=>?_) (by omega) (λi j x c E z=>?_) (λi j x c E z=>(F i j x c E z).2.2.2.1)
        ·grind
        ·simp only[gD] at y;obtain ⟨p,W,rfl⟩:=y;obtain ⟨i,K⟩:=yBG.1 W;exact (G i p K).2.1
        grind
     simp_all
    simp_all
   ·
    rename_i fs A;split at hs
    ·rename_i l hl;split at hs
     ·rename_i bt;simp only[au] at hs;subst hs;obtain ⟨E,z⟩:=CL A v;have X:∀(fl:List Field)(a:List Sh)(ax:List C),(∀u∈fl,u∈fs.toList)->a.length<=cs.length->FX w a ax (cs.take a.length) ->
        fl.foldl (λa u=>match a,fD P f u.type with
         |some l,some s=>if u.offset=l.length/\s.length=P.cellsOf u.type then some (l++s) else none
         |_,_=>none) (some a)=some l->l.length<=cs.length->∃xs,FX w l xs (cs.take l.length):=by
       intro fl;induction fl with
       |nil=>grind
       |cons u fl av=>
        intro a ax L bb a0 he a1;simp only[List.foldl_cons] at he;have a2:∀(gl:List Field),gl.foldl (λa u=>match a,fD P f u.type with
         |some l,some s=>if u.offset=l.length/\s.length=P.cellsOf u.type then some (l++s) else none
         |_,_=>none) none=none:=by
         intro gl;induction gl with
         |nil=>rfl
         |cons _ _ ih=>simp_all
        cases af:fD P f u.type with
        |none=>simp_all
        |some s=>
         rw[af] at he;simp only at he;split at he
         ·rename_i hc;obtain ⟨bc,b⟩:=hc;obtain ⟨Z,pi,hd⟩:=z u (L u (by simp));obtain ⟨xs,o⟩:=ih O u.type _ Z pi s hd af;have a5:a.length+s.length<=cs.length:=by
           have:=o.2.1
           grind
          refine av (a++s) (ax++xs) (λx y=>L x (by simp[y])) (by simp_all) ?_ he a1;have Y:cs.take (a++s).length=cs.take a.length++(cs.drop u.offset).take (P.cellsOf u.type):=by grind
          rw[Y];exact a0.append o
         simp_all
      obtain ⟨xs,o⟩:=X fs.toList [] [] (λ_ h=>h) (by simp) (by grind [FX.nil]) hl (by omega)
      grind
     simp_all
    simp_all
   ·
    rename_i n e A;split at hs
    ·rename_i s S;split at hs
     ·rename_i b;obtain ⟨b,bu⟩:=b;simp only[au] at hs;subst hs;obtain ⟨E,z⟩:=Fy A v;rw[<-b] at z;have X:∀m,m<=n->∃xs,FX w (List.replicate m s).flatten xs (cs.take (m * s.length)):=by
       intro m;induction m with
       |zero=>intro _;exact ⟨[],by grind [FX.nil]⟩
       |succ m a6=>
        intro hm;obtain ⟨xs,o⟩:=a6 (by omega);obtain ⟨Z,pi,hd⟩:=z m (by omega);obtain ⟨ys,a7⟩:=ih O e _ Z pi s hd S;refine ⟨xs++ys,?_⟩;have e1:(List.replicate (m+1) s).flatten=(List.replicate m s).flatten++s:=by grind [List.replicate_succ']
        rw[e1,Nat.succ_mul,List.take_add];exact o.append a7
      obtain ⟨xs,o⟩:=X n (cX _)
      grind
     simp_all
    simp_all
   simp_all
end Go.Abs
end
section
namespace Go.Abs
variable[Gl]
open Go.RowKit
theorem Rel.start(w:World)(i:Gl.ok (λc=>c<w.heap.size) w):Rel [] (λ_=>none) (λc=>c<w.heap.size) w:={
 blk:=λb c h=>by simp at h
 inj:=λb j c h=>by simp at h
 fz:=λc h=>h
 gl:=i }
theorem V.UR{w:World}{j:List Sh}{xs:List C}{vs:Array Value}(h:FX w j xs vs.toList){σ:ar}{M:Nat->Option Nat}:V σ M (λc=>c<w.heap.size) w (.agg (xs.map .c)) (.agg vs):=by obtain ⟨u,z,_,o⟩:=h;refine .agg vs (by simp_all) (λi d v a b=>?_);simp only[mE,cE] at a;obtain ⟨x,s,rfl⟩:=a;exact .c (o i x v s (by simp_all)).1
theorem bH.below{σ:ar}{M:Nat->Option Nat}{Fz:Nat->Prop}{w w':World}(R:Rel σ M Fz w)(i:Below w.heap.size w w'):bH σ M Fz w σ M Fz w':={
 size:=i.size
 frame:=λc o _=>i.block c o
 ld:=λb c h=>.inl ⟨b,h⟩
 fz:=λc h=>⟨h,i.block c (R.fz c h)⟩
 ow:=λc h=>.inl h
 qo:=λc j T u h=>⟨j,by rw[i.block c (Cy.1 h).1];exact h,rfl⟩
 keep:=λb s h=>⟨s,h,cX _,λ_=>rfl⟩
 out:=⟨i.os,i.tape,i.output⟩ }
theorem Rel.below{σ:ar}{M:Nat->Option Nat}{Fz:Nat->Prop}{w w':World}(R:Rel σ M Fz w)(i:Below w.heap.size w w'):Rel σ M Fz w':={
 blk:=λb c h=>by obtain ⟨j,ob,o,h2,h3,s⟩:=R.blk b c h;exact ⟨j,ob,o,h2,by rw[i.block c (R.lt h).2];exact h3,s.mono (bH.below R i)⟩
 inj:=R.inj
 fz:=λc h=>FY (R.fz c h) i.size
 gl:=Gl.mono (bH.below R i).fz R.gl }
noncomputable def Tk(P:Program)(a:List Nat)(g:FuncId):Option lh:=
 match P.funcs[g]? with
 |some fn=>if aV P g then iG P fn (!a.contains g) else none
 |none=>none
theorem YS(P:Program)(a:List Nat):TblOk P (Tk P a):=by
 intro g b h
 grind [Tk]
end Go.Abs
end
section
namespace Go.Abs
variable[Gl]
abbrev AL:=List (Nat×D)
def lk(t:Nat):AL->Option D
 |[]=>none
 |(s,d)::al=>match Nat.beq s t with | true=>some d | false=>lk t al
def xU(n:Nat)(al:AL):List D:=(List.range n).map λt=>(lk t al).getD .any
def Env(n:Nat)(al:AL)(e:List D):Prop:=e.length=n/\∀t d,lk t al=some d->e[t]? = some d
def eU(n:Nat)(σ:ar)(M:Nat->Option Nat)(Fz:Nat->Prop)(w:World)(al:AL)(a:Array Value):Prop:=
 a.size=n/\∀t d,lk t al=some d->∃v,a[t]? = some v/\V σ M Fz w d v
section
variable{P:Program}{orc:wK}{σ σ' σ1 aA:ar}{M M':Nat->Option Nat}{Fz Fz':Nat->Prop}{w w':World}{n:Nat}{al al1 al2:AL}
theorem eU.dk{o:Array Value}(h:eU n σ M Fz w al o):dB σ M Fz w (xU n al) o/\Env n al (xU n al):=by
 refine ⟨⟨by simp[xU,h.1],λi d v a b=>?_⟩,by simp[xU],λt d u=>?_⟩
 ·simp only[xU,mE,cE] at a;obtain ⟨j,A,rfl⟩:=a;have:j=i:=by
   grind
  subst this;cases x:lk j al with
  |none=>exact .any v
  |some d=>
   obtain ⟨E,s,F⟩:=h.2 j d x
   simp_all
 ·obtain ⟨v,s,_⟩:=h.2 t d u;have z:t<n:=by have:=(Cy.1 s).1;rw[h.1] at this;omega
  grind [xU]
theorem eU.aad{i:Array Value}{e:List D}(h:dB σ M Fz w e i)(j:Env n al e):eU n σ M Fz w al i:=by
 refine ⟨by rw[h.1,j.1],λt d s=>?_⟩;have u:=j.2 t d s;have o:t<i.size:=by rw[h.1];grind
 exact ⟨i[t],sI o,h.2 t d _ u (sI o)⟩
def Sem(P:Program)(ac:aR)(n:Nat)(al:AL)(σ:ar)(Q:mS->AL->ar->Prop):Prop:=
 ∀ (c : Code), bM P c = some ac -> ∀ (M : Nat -> Option Nat) (Fz : Nat -> Prop) (w : World) (a : Act) (K : Exit -> Act -> World -> Prop), Rel σ M Fz w -> eU n σ M Fz w al a.tmps ->
  (∀x al' σ' b w' M' Fz',Q x al' σ'->Mk w.heap.size M' Fz' w' b.defers a.defers->Rel σ' M' Fz' w'->eU n σ' M' Fz' w' al' b.tmps->bH σ M Fz w σ' M' Fz' w'->σ.length<=σ'.length->K (yu x) b w')->c.wq P K a w
def lM(P:Program)(ac:aR)(k:Nat)(n:Nat)(al:AL)(σ:ar)(Q:mS->AL->ar->Prop):Prop:=
 ∀ (c : Code), bM P c = some ac -> ∀ (M : Nat -> Option Nat) (Fz : Nat -> Prop) (w : World) (a : Act) (K : Exit -> Act -> World -> Prop), Rel σ M Fz w -> eU n σ M Fz w al a.tmps ->
  (∀x al' σ' b w' M' Fz',Q x al' σ'->Mk w.heap.size M' Fz' w' b.defers a.defers->Rel σ' M' Fz' w'->eU n σ' M' Fz' w' al' b.tmps->bH σ M Fz w σ' M' Fz' w'->σ.length<=σ'.length->K (yu x) b w')->Code.rq P c K k a w
def Fe(d a:D):Prop:=∀σ M Fz w v,V σ M Fz w d v->V σ M Fz w a v
theorem Fe.refl(d:D):Fe d d:=λ_ _ _ _ _ h=>h
def Sub(al1:AL):AL->Prop
 |[]=>True
 |(t,d)::al2=>(∃d1,lk t al1=some d1/\Fe d1 d)/\Sub al1 al2
theorem Sub.get{al1 al2:AL}(h:Sub al1 al2){t:Nat}{d:D}(i:lk t al2=some d):∃d1,lk t al1=some d1/\Fe d1 d:=by
 induction al2 with
 |nil=>grind [lk]
 |cons p al2 ih=>
  obtain ⟨s,o⟩:=p;simp only[lk] at i;split at i
  ·rename_i j;have:=cY j;simp only[au] at i;subst this i;exact h.1
  ·exact ih h.2 i
theorem Sub.one{al1 al2:AL}{t:Nat}{d d1:D}(h:lk t al1=some d1)(hd:Fe d1 d)(r:Sub al1 al2):Sub al1 ((t,d)::al2):=⟨⟨d1,h,hd⟩,r⟩
theorem Sub.same{al1 al2:AL}{t:Nat}{d:D}(h:lk t al1=some d)(r:Sub al1 al2):Sub al1 ((t,d)::al2):=⟨⟨d,h,Fe.refl d⟩,r⟩
theorem eU.sub {i:Array Value} (h:eU n σ M Fz w al1 i) (hs:Sub al1 al2):eU n σ M Fz w al2 i:=
 ⟨h.1,fun t d j=>by
  obtain ⟨d1,o,s⟩:=hs.get j
  obtain ⟨v,u,x⟩:=h.2 t d1 o
  exact ⟨v,u,s _ _ _ _ _ x⟩⟩
def D.low(m:Nat):D->Bool
 |.c _=>true
 |.any=>true
 |.ptr b _ _=>b<m
 |.sl b _ _ _ _=>b<m
 |.mp b=>b<m
 |.fn _ a b=>cV m a&&cV m b
 |.agg ds=>cV m ds
 |.aS ds=>cV m ds
where cV (m:Nat):List D->Bool
 |[]=>true
 |d::ds=>d.low m&&cV m ds
theorem D.aZ{m:Nat}:∀{ds:List D},D.low.cV m ds=true->∀(i:Nat) d,ds[i]? = some d->d.low m=true:=by
 intro ds;induction ds with
 |nil=>simp_all
 |cons x ds ih=>
  intro h i d j;simp only[D.low.cV,bN] at h
  grind
def Ob.low(m:Nat):Ob->Bool
 |.cells i=>D.low.cV m i
 |.map j _=>j.all λe=>e.2.1.low m
 |.gone _=>true
theorem V.FF{m:Nat}{d:D}{v:Value}(h:V σ M Fz w d v)(j:d.low m=true):V (σ.take m) (cZ M m) Fz w d v:=by
 induction h with
 |c h=>exact .c h
 |any v=>exact .any v
 |ptr a u h o s=>simp only[D.low,bA] at j;exact .ptr a u (by simp_all) o (λA=>by grind [cZ])
 |sl a n cap E u h o s=>simp only[D.low,bA] at j;exact .sl a n cap E u (by simp_all) o (λA=>by simpa[cZ,j] using s A)
 |mp c u h s=>simp only[D.low,bA] at j;exact .mp c u (by simp_all) (λA=>by grind [cZ])
 |fn x K z O s R F G=>simp only[D.low,bN] at j;exact .fn x K z O (λi d v a b=>F i d v a b (D.aZ j.1 i d a)) (λi d v a b=>G i d v a b (D.aZ j.2 i d a))
 |agg x z s ih=>simp only[D.low] at j;exact .agg x z (λi d v a b=>ih i d v a b (D.aZ j i d a))
 |aS x z s ih=>simp only[D.low] at j;exact .aS x z (λi d v a b=>ih i d v a b (D.aZ j i d a))
theorem Rel.FF{m:Nat}(R:Rel σ M Fz w)(U:(σ.take m).all (Ob.low m)=true):Rel (σ.take m) (cZ M m) Fz w:=by
 refine ⟨λb c h=>?_,λb W c h F=>?_,R.fz,R.gl⟩
 ·unfold cZ at h;split at h
  ·rename_i Z;obtain ⟨X,z,o,h2,Y,G⟩:=R.blk b c h;have A:(σ.take m)[b]? = some z:=by simp_all
   have j:z.low m=true:=iR.1 U z (Bb A);refine ⟨X,z,o,A,Y,?_⟩;cases z with
   |cells cs=>obtain ⟨s,T,K,u,E⟩:=G;exact ⟨s,T,K,u,λi d v x y=>⟨(E i d v x y).1.FF (D.aZ j i d x),(E i d v x y).2⟩⟩
   |map es O=>obtain ⟨s,K,u,E⟩:=G;refine ⟨s,K,u,λi k d n e x y=>?_⟩;obtain ⟨p,q,r⟩:=E i k d n e x y;simp only[Ob.low,iR] at j;exact ⟨p,q,r.FF (j (k,d,n) (Bb x))⟩
   |gone n=>exact G.elim
  simp_all
 ·unfold cZ at h F;split at h
  ·split at F
   ·exact R.inj b W c h F
   simp_all
  simp_all
theorem bH.FF{m:Nat}(E:bH σ M Fz w σ1 M' Fz' w')(hm:σ.length<=m):bH σ M Fz w (σ1.take m) (cZ M' m) Fz' w':=by
 refine ⟨E.size,E.frame,λb c h=>?_,E.fz,E.ow,E.qo,λb j h=>?_,E.out⟩
 ·unfold cZ at h;split at h
  ·exact E.ld b c h
  simp_all
 ·obtain ⟨i,u,o,x⟩:=E.keep b j h;have s:b<m:=FY (gC.1 h).1 hm;exact ⟨i,by simp_all,o,λz=>by simp only[cZ,if_pos s];simp_all⟩
inductive Wk (k:Nat) (al1:AL) (σ1:ar):AL->ar->Prop where
 |refl:Wk k al1 σ1 al1 σ1
 |same {al2:AL} (h:Sub al1 al2):Wk k al1 σ1 al2 σ1
 |cut {al2:AL} (m:Nat) (hm:k<=m) (hs:m<=σ1.length) (h:Sub al1 al2) (hd:al2.all (λp=>p.2.low m)=true) (hl:(σ1.take m).all (Ob.low m)=true):Wk k al1 σ1 al2 (σ1.take m)
theorem mO{t:Nat}{d:D}:∀{al:AL},lk t al=some d->(t,d)∈al:=by
 intro al;induction al with
 |nil=>grind [lk]
 |cons p al ih=>grind [lk,Nat.eq_of_beq_eq_true]
theorem Wk.use{aA:ar}(h:Wk σ.length al1 σ1 al2 aA){i:Array Value}(R:Rel σ1 M' Fz' w')(A:eU n σ1 M' Fz' w' al1 i)(E:bH σ M Fz w σ1 M' Fz' w')(s:σ.length<=σ1.length) :
  ∃j,Rel aA j Fz' w'/\eU n aA j Fz' w' al2 i/\bH σ M Fz w aA j Fz' w'/\σ.length<=aA.length/\KK M' Fz' j Fz':=by
 cases h with
 |refl=>exact ⟨M',R,A,E,s,KK.refl⟩
 |same h=>exact ⟨M',R,A.sub h,E,s,KK.refl⟩
 |cut m x hs h hd o=>
  refine ⟨cZ M' m,R.FF o,⟨A.1,λt d u=>?_⟩,E.FF x,by simp_all,⟨λb c h=>⟨b,by simp only[cZ] at h;split at h <;> simp_all⟩,λc h=>.inl h,λc h=>h⟩⟩
  obtain ⟨v,z,F⟩:=(A.sub h).2 t d u;exact ⟨v,z,F.FF (iR.1 hd (t,d) (mO u))⟩
end
end Go.Abs
end
section
namespace Go.Abs
variable[Gl]
section
variable{P:Program}{orc:gz}{σ σ' σ1 aA:ar}{n:Nat}{al al1 al2:AL}{Q:mS->AL->ar->Prop}
theorem Sem.mono{ac:aR}{Q':mS->AL->ar->Prop}(h:Sem P ac n al σ Q)(i:∀x al' σ',Q x al' σ'->∃al2 aA,Wk σ.length al' σ' al2 aA/\Q' x al2 aA):Sem P ac n al σ Q':=by
 intro c j M Fz w a K R A U;refine h c j M Fz w a K R A λx al' σ' W w' M' Fz' o hd s u z E=>?_;obtain ⟨al2,aA,F,G⟩:=i x al' σ' o;obtain ⟨X,Y,Z,E2,l2,O⟩:=F.use s u z E;have hd:=hd.wth O
 grind
theorem Sem.pre{ac:aR}(hs:Sub al al1)(h:Sem P ac n al1 σ Q):Sem P ac n al σ Q:=by intro c i M Fz w a K R A j;exact h c i M Fz w a K R (A.sub hs) j
theorem lM.pre{ac:aR}{k:Nat}(hs:Sub al al1)(h:lM P ac k n al1 σ Q):lM P ac k n al σ Q:=by intro c i M Fz w a K R A j;exact h c i M Fz w a K R (A.sub hs) j
theorem Sem.EQ(i:P.follows .mixedOrders=true)(O:ou P orc){ac:aR}{k:Nat}{x:mS}{e e':List D}{wr wr':List Nat}(h:kV P orc k ac e σ wr=some (x,e',σ',wr'))
  (j:e=xU n al) (o:Env n al1 e') (z:Q x al1 σ'):Sem P ac n al σ Q:=by
 intro c s M Fz w a K R A E;subst j;refine (Ji i O k).1 c ac σ σ' M Fz w _ e' a wr wr' x K s R A.dk.1 h λu w' M' Fz' hd F G U=>?_;have hd:=(Mk.of_eq hd:Mk w.heap.size M' Fz' w' u.defers a.defers)
 grind [eU.aad,wz]
theorem Sem.skip(i:P.follows .mixedOrders=true)(j:Q .normal al σ):Sem P .skip n al σ Q:=by intro c o M Fz w a K R A s;have:Sem P .skip n al σ Q:=Sem.EQ i (orc:=λ_ _ _ _=>none) (λt g ds σ r σ' wr h=>by simp at h) (k:=1) (wr:=[]) (wr':=[]) (e:=xU n al) rfl rfl A.dk.2 j;exact this c o M Fz w a K R A s
theorem Sem.ret(i:P.follows .mixedOrders=true)(j:Q .ret al σ):Sem P .ret n al σ Q:=by intro c o M Fz w a K R A s;have:Sem P .ret n al σ Q:=Sem.EQ i (orc:=λ_ _ _ _=>none) (λt g ds σ r σ' wr h=>by simp at h) (k:=1) (wr:=[]) (wr':=[]) (e:=xU n al) rfl rfl A.dk.2 j;exact this c o M Fz w a K R A s
theorem Sem.exit(i:P.follows .mixedOrders=true){id:Nat}(j:Q (.exit id) al σ):Sem P (.exit id) n al σ Q:=by intro c o M Fz w a K R A s;have:Sem P (.exit id) n al σ Q:=Sem.EQ i (orc:=λ_ _ _ _=>none) (λt g ds σ r σ' wr h=>by simp at h) (k:=1) (wr:=[]) (wr':=[]) (e:=xU n al) rfl rfl A.dk.2 j;exact this c o M Fz w a K R A s
theorem Sem.seq{a b:aR}(h:Sem P a n al σ λx al1 σ1=>match x with | .normal=>∃al2 aA,Wk σ.length al1 σ1 al2 aA/\Sem P b n al2 aA Q | x=>Q x al1 σ1):Sem P (.seq a b) n al σ Q:=by
 intro c j M Fz w s K R A U;cases c with
 |seq c1 W=>
  simp only[bM] at j;split at j
  ·rename_i a1 a2 h1 h2;simp only[au,aR.seq.injEq] at j;obtain ⟨rfl,rfl⟩:=j;refine Rc (h c1 h1 M Fz w s _ R A λx al1 σ1 X w' M' Fz' Y hd Z A' E' hl=>?_);cases x with
   |normal=>obtain ⟨al2,aA,hw,hs⟩:=Y;obtain ⟨M2,R2,A2,E2,l2,W2⟩:=hw.use Z A' E' hl;exact hs W h2 M2 Fz' w' X K R2 A2 λx u z a3 w3 M3 E F G R3 A3 E3 O=>U x u z a3 w3 M3 E F (Mk.trans E3 E2.size (hd.wth W2) G) R3 A3 (E2.trans E3 l2) (lK l2 O)
   |exit i=>grind [qD]
   |ret=>exact U .ret al1 σ1 X w' M' Fz' Y hd Z A' E' hl
  simp_all
 |region id ops aa=>
  simp only[bM] at j
  grind
 |cond o c1 W=>grind [bM]
 |block id c1=>simp[bM] at j
 |loop c1=>simp[bM] at j
 |scope b=>grind [bM,Option.map_eq_some_iff,KT]
 |rangeFunc g ps x y=>rcases eE j with ⟨_,_,_,_,_,_,_,e⟩ | e <;> cases e
 |_=>grind [bM]
theorem Sem.cond{o:aP}{t e:aR}{b:Bool}(u:(match o with | .t k=>lk k al | .k d=>some d)=some (.c (.lit (.bool b))))
  (U:b=true->Sem P t n al σ Q) (W:b=false->Sem P e n al σ Q):Sem P (.cond o t e) n al σ Q:=by
 intro c i M Fz w j K R A z;cases c with
 |cond x c1 E=>
  simp only[bM] at i;split at i
  ·rename_i F a1 a2 X Y Z;simp only[au,aR.cond.injEq] at i;obtain ⟨rfl,rfl,rfl⟩:=i;have G:=my A.dk.1 X;have s:iz (F.ev (xU n al))=some b:=by
    cases F with
    |t k=>dsimp only at u;simp[aP.ev,A.dk.2.2 k _ u,iz]
    |k d=>simp only[au] at u;subst u;rfl
   cases b with
   |true=>exact zY (pr G s) (U rfl c1 Y M Fz w j K R A z)
   |false=>exact ya (pr G s) (W rfl E Z M Fz w j K R A z)
  simp_all
 |region id ops O=>
  simp only[bM] at i
  grind
 |seq c1 E=>grind [bM]
 |block id c1=>simp[bM] at i
 |loop c1=>simp[bM] at i
 |scope b=>grind [bM,Option.map_eq_some_iff,KT]
 |rangeFunc g ps x y=>rcases eE i with ⟨_,_,_,_,_,_,_,e⟩ | e <;> cases e
 |_=>grind [bM]
theorem Sem.step{a b:aR}(al2:AL)(aA:ar)(i:Sem P a n al σ λx al1 σ1=>x=.normal/\Wk σ.length al1 σ1 al2 aA)(j:Sem P b n al2 aA Q):Sem P (.seq a b) n al σ Q:=
 Sem.seq (i.mono λx al1 σ1 ⟨o,s⟩=>⟨al1,σ1,.refl,by grind⟩)
def out(id:Nat):mS->mS
 |.exit i=>if i=id then .normal else .exit i
 |x=>x
def behind(id:Nat)(Q:mS->AL->ar->Prop)(al:AL)(σ:ar):mS->Prop
 |.normal=>Q .normal al σ
 |.ret=>Q .ret al σ
 |.exit i=>(i=id->Q .normal al σ)/\(i≠id->Q (.exit i) al σ)
theorem Sem.block{id:Nat}{b:aR}(U:Sem P b n al σ λx al1 σ1=>∃al2 aA,Wk σ.length al1 σ1 al2 aA/\behind id Q al2 aA x):Sem P (.block id b) n al σ Q:=by
 have h:Sem P b n al σ λx al1 σ1=>∃al2 aA,Wk σ.length al1 σ1 al2 aA/\Q (out id x) al2 aA:=U.mono λx al1 σ1 ⟨al2,aA,E,u⟩=>⟨al1,σ1,.refl,al2,aA,E,by
  cases x with
  |normal=>exact u
  |ret=>exact u
  |exit i=>
   by_cases z:i=id
   ·simp only[out,if_pos z];exact u.1 z
   ·simp only[out,if_neg z];exact u.2 z⟩
 intro c s M Fz w F K R A W;cases c with
 |block i c1=>
  simp only[bM,cE,aR.block.injEq] at s;obtain ⟨a1,X,rfl,rfl⟩:=s;refine MH (h c1 X M Fz w F _ R A λx al1 σ1 Y w' M' Fz' Z hd R' A' E' hl=>?_);obtain ⟨al2,aA,E,hq⟩:=Z;obtain ⟨M2,R2,A2,E2,l2,W2⟩:=E.use R' A' E' hl;have:=W _ al2 aA Y w' M2 Fz' hq (hd.wth W2) R2 A2 E2 l2;cases x with
  |normal=>exact this
  |ret=>exact this
  |exit j=>
   by_cases G:j=2 * i
   ·simp only[out,if_pos G] at this;rw[G];exact EX this
   ·simp only[out,if_neg G] at this
    grind [Ci]
 |region id ops O=>
  simp only[bM] at s
  grind
 |seq c1 c2=>grind [bM]
 |cond o c1 c2=>grind [bM]
 |loop c1=>simp[bM] at s
 |scope b=>grind [bM,Option.map_eq_some_iff,KT]
 |rangeFunc g ps x y=>rcases eE s with ⟨_,_,_,_,_,_,_,e⟩ | e <;> cases e
 |_=>grind [bM]
theorem Sem.loop{b:aR}(k:Nat)(h:lM P b k n al σ Q):Sem P (.loop b) n al σ Q:=by
 intro c i M Fz w j K R A u;cases c with
 |loop c1=>simp only[bM,cE,aR.loop.injEq] at i;obtain ⟨F,z,rfl⟩:=i;exact uz k (h c1 z M Fz w j K R A u)
 |region id ops s=>
  simp only[bM] at i
  grind
 |seq c1 E=>grind [bM]
 |cond o c1 E=>grind [bM]
 |block id c1=>simp[bM] at i
 |scope b=>grind [bM,Option.map_eq_some_iff,KT]
 |rangeFunc g G x y=>rcases eE i with ⟨_,_,_,_,_,_,_,e⟩ | e <;> cases e
 |_=>grind [bM]
theorem lM.succ{b:aR}{k:Nat}(h:Sem P b n al σ λx al1 σ1=>match x with | .normal=>∃al2 aA,Wk σ.length al1 σ1 al2 aA/\lM P b k n al2 aA Q | x=>∃al2 aA,Wk σ.length al1 σ1 al2 aA/\Q x al2 aA):lM P b (k+1) n al σ Q:=by
 intro c hc M Fz w G K R A hK;rw[JT];refine h c hc M Fz w G _ R A λx al1 σ1 a' w' M' Fz' O hd U W X Y=>?_;cases x with
 |normal=>obtain ⟨al2,aA,j,hs⟩:=O;obtain ⟨z,E,F,o,s,u⟩:=j.use U W X Y;exact hs c hc z Fz' w' a' K E F λx Z aa a3 w3 M3 ab ad af R3 A3 E3 ak=>hK x Z aa a3 w3 M3 ab ad (Mk.trans E3 o.size (hd.wth u) af) R3 A3 (o.trans E3 s) (lK s ak)
 |exit i=>
  obtain ⟨al2,aA,j,hq⟩:=O;obtain ⟨z,E,F,o,s,u⟩:=j.use U W X Y;have hd:=hd.wth u
  grind [qD]
 |ret=>obtain ⟨al2,aA,j,hq⟩:=O;obtain ⟨z,E,F,o,s,u⟩:=j.use U W X Y;exact hK .ret al2 aA a' w' z Fz' hq (hd.wth u) E F o s
theorem Sem.rounds{b:aR}{V:Type}(L:V->AL)(H:V->ar)(p:Nat->V->Prop)(k:Nat)(v:V)(s:p k v)(u:∀v,p 0 v->False)
  (hs:∀k v,p (k+1) v->Sem P b n (L v) (H v) λx al1 σ1=>match x with | .normal=>∃i,p k i/\Wk (H v).length al1 σ1 (L i) (H i) | x=>∃al2 aA,Wk (H v).length al1 σ1 al2 aA/\Q x al2 aA)
  (o:Sub al (L v)) (j:σ=H v):Sem P (.loop b) n al σ Q:=by
 subst j;refine Sem.loop k (lM.pre o ?_);clear o;induction k generalizing v with
 |zero=>simp_all
 |succ k ih=>
  refine lM.succ ((hs k v s).mono λx al1 σ1 z=>⟨al1,σ1,.refl,?_⟩)
  grind
def JW(P:Program)(orc:gz)(k:Nat)(os:List aH)(n:Nat)(al:AL)(σ:ar)(al':AL)(σ':ar)(is:List d_):Prop:=
 ∀e,Env n al e->∃a,me P orc k os e σ=some (a,σ',is)/\Env n al' a
theorem Nh:∀(os:List aH)(e e':List D)(σ σ':ar)(is:List d_),me P orc 0 os e σ=some (e',σ',is)->py P orc os e σ=some (e',σ',is.flatMap (·.wr)):=by
 intro os;induction os with
 |nil=>intro e e' σ σ' is h;simp only[me,au,aX] at h;obtain ⟨rfl,rfl,rfl⟩:=h;rfl
 |cons o os ih=>grind [me,py,dz]
theorem Sem.Dc(i:P.follows .mixedOrders=true)(O:ou P orc){os:List aH}{is:List d_}(h:JW P orc 0 os n al σ al1 σ1 is)(j:Q .normal al1 σ1):Sem P (.Dc os) n al σ Q:=by intro c o M Fz w a K R A s;obtain ⟨e',u,z⟩:=h _ A.dk.2;have E:=Nh _ _ _ _ _ _ u;have:Sem P (.Dc os) n al σ Q:=Sem.EQ i O (k:=1) (wr:=[]) (e:=xU n al) (e':=e') (x:=.normal) (σ':=σ1) (wr':=is.flatMap (·.wr)++[]) (by grind [kV]) rfl z j;exact this c o M Fz w a K R A s
theorem Sem.GZ(j:P.follows .mixedOrders=true)(O:ou P orc){os:List aH}{i:List Nat}{k p:Nat}{is:List d_}(h:JW P orc k os n al σ al1 σ1 is)(F:(e_ i is&&np i p k os.length&&Nat.ble p k)=true)(o:Q .normal al1 σ1) :
  Sem P (.GZ os i k p) n al σ Q:=by
 intro c s M Fz w a K R A u;obtain ⟨e',G,z⟩:=h _ A.dk.2;have E:ky P orc os i p k (xU n al) σ=some (e',σ1,is.flatMap (·.wr)):=by
  unfold ky
  simp_all
 have:Sem P (.GZ os i k p) n al σ Q:=Sem.EQ j O (k:=1) (wr:=[]) (e:=xU n al) (e':=e') (x:=.normal) (σ':=σ1) (by simp only[kV,E];rfl) rfl z o;exact this c s M Fz w a K R A u
theorem LK:∀(os:List aH)(n m:Nat)(e:List D)(σ:ar)(r a:List D×ar×List d_),me P orc n os e σ=some r->me P orc m os e σ=some a->r=a:=by
 intro os;induction os with
 |nil=>grind [me]
 |cons o os ih=>grind [me]
theorem Sem.drwN(j:P.follows .mixedOrders=true)(O:ou P orc){os:List aH}{i:List Nat}{k p:Nat}{is:List d_}(h:JW P orc os.length os n al σ al1 σ1 is)(Y:(e_ i is&&np i p os.length os.length&&Nat.ble p os.length)=true)(u:Q .normal al1 σ1) :
  Sem P (.GZ os i k p) n al σ Q:=by
 intro c z M Fz w a K R A E;obtain ⟨e',F,G⟩:=h _ A.dk.2;have U:∀m r,ky P orc os i p m (xU n al) σ=some r->r=(e',σ1,is.flatMap (·.wr)):=by
  intro m r o;unfold ky at o;split at o
  ·rename_i Z aA W s;have:=LK _ _ _ _ _ _ _ s F
   simp_all
  simp_all
 have s:ky P orc os i p os.length (xU n al) σ=some (e',σ1,is.flatMap (·.wr)):=by
  unfold ky
  simp_all
 have X:kV P orc 1 (.GZ os i k p) (xU n al) σ []=some (.normal,e',σ1,is.flatMap (·.wr)++[]):=by grind [kV]
 have:Sem P (.GZ os i k p) n al σ Q:=Sem.EQ j O (k:=1) (wr:=[]) (e:=xU n al) (e':=e') (x:=.normal) (σ':=σ1) X rfl G u;exact this c z M Fz w a K R A E
end
end Go.Abs
end
section
namespace Go.Abs
variable[Gl]
open Go.RowKit
def Pure(P:Program)(g:FuncId)(ds:List D)(r:D):Prop:=aV P g=true/\Ok P g ds [] r []
section
variable{P:Program}{σ σ':ar}{M M':Nat->Option Nat}{Fz Fz':Nat->Prop}{w w':World}
theorem V.data{d:D}{v:Value}(h:V σ M Fz w d v)(j:d.low 0=true)(σ':ar)(M':Nat->Option Nat):V σ' M' Fz w d v:=by
 induction h with
 |c h=>exact .c h
 |any v=>exact .any v
 |ptr a E h x o=>grind [D.low]
 |sl a n cap F E h x o=>grind [D.low]
 |mp c E h o=>grind [D.low]
 |fn s G u K o O z A=>simp only[D.low,bN] at j;exact .fn s G u K (λi d v a b=>z i d v a b (D.aZ j.1 i d a)) (λi d v a b=>A i d v a b (D.aZ j.2 i d a))
 |agg s u o ih=>simp only[D.low] at j;exact .agg s u (λi d v a b=>ih i d v a b (D.aZ j i d a))
 |aS s u o ih=>simp only[D.low] at j;exact .aS s u (λi d v a b=>ih i d v a b (D.aZ j i d a))
def D.ground:D->Bool
 |.c (.lit _)=>true
 |.agg ds=>hY ds
 |.aS ds=>hY ds
 |_=>false
where hY:List D->Bool
 |[]=>true
 |d::ds=>d.ground&&hY ds
theorem D.Cq:∀{ds:List D},D.ground.hY ds=true->∀(i:Nat) d,ds[i]? = some d->d.ground=true:=by
 intro ds;induction ds with
 |nil=>simp_all
 |cons x ds ih=>
  intro h i d j;simp only[D.ground.hY,bN] at h
  grind
theorem V.lit{d:D}{v:Value}(h:V σ M Fz w d v)(o:d.ground=true)(σ':ar)(M':Nat->Option Nat)(Fz':Nat->Prop)(w':World):V σ' M' Fz' w' d v:=by
 induction h with
 |c h=>
  rename_i x v;cases x with
  |lit u=>cases h;exact .c (.lit _)
  |_=>grind [D.ground]
 |any v=>grind [D.ground]
 |ptr a E h A j=>grind [D.ground]
 |sl a n cap F E h A j=>grind [D.ground]
 |mp c E h j=>grind [D.ground]
 |fn s O z R j U G K=>grind [D.ground]
 |agg s z j ih=>simp only[D.ground] at o;exact .agg s z (λi d v a b=>ih i d v a b (D.Cq o i d a))
 |aS s z j ih=>simp only[D.ground] at o;exact .aS s z (λi d v a b=>ih i d v a b (D.Cq o i d a))
theorem Pure.data{g:FuncId}{ds:List D}{r:D}(h:Pure P g ds r)(hd:ds.all (D.low 0)=true)(F:r.low 0=true):Ok P g ds σ r σ:=by
 intro M Fz w G R hs u;have K:Rel [] (λ_=>none) Fz w:=⟨λb c h=>by simp at h,λb b' c h=>by simp at h,R.fz,R.gl⟩;refine (h.2 _ Fz w G K hs λi d v a b=>(u i d v a b).data (iR.1 hd d (Bb a)) _ _).mono λe w' O=>?_;obtain ⟨v,M',Fz',rfl,A,U,j⟩:=O;have W:∀c:Nat,c<w.heap.size->w'.heap[c]? = w.heap[c]?:=λc s=>j.frame c s (λb h=>by simp at h);have E:bH σ M Fz w σ M Fz' w':={
  size:=j.size
  frame:=λc s _=>W c s
  ld:=λb c h=>.inl ⟨b,h⟩
  fz:=j.fz
  ow:=λc h=>by
   rcases j.ow c h with h | ⟨b,h⟩ | h
   ·simp_all
   ·simp at h
   omega
  qo:=λc x T fr h=>⟨x,by grind,rfl⟩
  keep:=λb z h=>⟨z,h,cX _,λ_=>rfl⟩
  out:=j.out }
 refine ⟨v,M,Fz',rfl,⟨λb c h=>?_,R.inj,A.fz,A.gl⟩,U.data F _ _,E⟩;obtain ⟨h1,z,o,X,h3,Y⟩:=R.blk b c h;have s:=(R.lt h).2;refine ⟨λZ=>?_,z,o,X,by simp_all,Y.mono E⟩;rcases j.ow c Z with h | ⟨b,h⟩ | h
 ·grind
 ·simp at h
 ·omega
theorem Pure.lend{g:FuncId}{ds j:List D}{r:D}(h:Pure P g j r)(hd:ds.mapM (wT σ 0 100)=some j)(u:r.ground=true):Ok P g ds σ r σ:=by
 intro M Fz w x R hs z;have A:Rel [] (λ_=>none) (Gi M Fz 0) w:=⟨λb c h=>by simp at h,λb G c h=>by simp at h,λc h=>by
  rcases h with h | ⟨b,_,h⟩
  ·exact R.fz c h
  ·exact (R.lt h).2,Gl.mono (λc h=>⟨.inl h,rfl⟩) R.gl⟩
 have K:j.length=ds.length:=(Mt hd).1;refine (h.2 _ _ w x A (by omega) λi d v a b=>?_).mono λe w' E=>?_
 ·grind [Mt,IT]
 ·obtain ⟨v,M',Fz',rfl,O,F,o⟩:=E;have s:Below w.heap.size w w':=⟨o.out.1,o.out.2.1,o.out.2.2,o.size,λk hk=>o.frame k hk (λb h=>by simp at h)⟩;exact ⟨v,M,Fz,rfl,R.below s,F.lit u _ _ _ _,bH.below R s⟩
end
def nrmC:C->C
 |.lit (.slice none 0 0)=>.cJ false []
 |.cJ _ a=>.cJ false a
 |x=>x
def xF:D->D
 |.c x=>.c (nrmC x)
 |d=>d
def CJ:D->D
 |.c x=>.c (nrmC x)
 |.agg ds=>.agg (ds.map xF)
 |d=>d
theorem KH{Fz:Nat->Prop}{w:World}{x:C}{v:Value}(h:VC Fz w x v):VC Fz w (nrmC x) v:=by
 unfold nrmC;split
 ·cases h;exact .cJ (es:=[]) 0 none 0 (by simp) (λ_=>rfl) (λ_ _=>undef) (by simp) (by simp) (by simp) (by simp)
 ·cases h with
  |cJ aw a cap j l c i b m o=>exact .cJ aw a cap (by simp) l c i b m o
 omega
theorem JL{σ:ar}{M:Nat->Option Nat}{Fz:Nat->Prop}{w:World}{d:D}{v:Value}(h:V σ M Fz w d v):V σ M Fz w (xF d) v:=by
 unfold xF;split
 ·cases h with | c h=>exact .c (KH h)
 omega
theorem FC{σ:ar}{M:Nat->Option Nat}{Fz:Nat->Prop}{w:World}{d:D}{v:Value}(h:V σ M Fz w d v):V σ M Fz w (CJ d) v:=by
 unfold CJ;split
 ·cases h with | c h=>exact .c (KH h)
 ·cases h with
  |agg j l m=>
   refine .agg j (by simp_all) (λi d v a b=>?_)
   grind [JL]
 omega
theorem Ok.CJ{P:Program}{g:FuncId}{ds:List D}{σ σ':ar}{r:D}(h:Ok P g (ds.map CJ) σ r σ'):Ok P g ds σ r σ':=by
 intro M Fz w j R hs o;refine h M Fz w j R (by simp_all) λi d v a b=>?_
 grind [FC]
abbrev ye:=List (Nat×(List D->Option D))
def VY(g:Nat):ye->Option (List D->Option D)
 |[]=>none
 |(s,f)::l=>match Nat.beq s g with | true=>some f | false=>VY g l
def D.plain:D->Bool
 |.fn ..=>false
 |.agg ds=>ds.all λd=>match d with | .fn ..=>false | _=>true
 |.aS ds=>ds.all λd=>match d with | .fn ..=>false | _=>true
 |_=>true
def Dn(S:ye):wK:=λg ds σ=>
 match VY g S with
 |none=>none
 |some f=>
  if ds.all (λd=>d.low 0&&d.plain) then (f (ds.map CJ)).bind λr=>if r.low 0 then some (r,σ,[]) else none
  else
   match ds.mapM (wT σ 0 100) with
   |some a=>(f (a.map CJ)).bind λr=>if r.ground then some (r,σ,[]) else none
   |none=>none
def sG(P:Program)(S:ye):Prop:=∀p∈S,∀ds r,p.2 ds=some r->Pure P p.1 ds r
theorem spk_mem{g:Nat}{f:List D->Option D}:∀{S:ye},VY g S=some f->(g,f)∈S:=by
 intro S;induction S with
 |nil=>grind [VY]
 |cons p S ih=>grind [VY,Nat.eq_of_beq_eq_true]
theorem Zk{m:Nat}{d:D}(h:d.low m=true):(xF d).low m=true:=by unfold xF;grind [D.low]
theorem YT{m:Nat}:∀{ds:List D},D.low.cV m ds=true->D.low.cV m (ds.map xF)=true:=by
 intro ds;induction ds with
 |nil=>simp_all
 |cons d ds ih=>intro h;simp only[D.low.cV,bN,ru] at h ⊢;grind [Zk]
theorem low_nrm{m:Nat}{d:D}(h:d.low m=true):(CJ d).low m=true:=by
 unfold CJ
 grind [D.low,YT]
theorem nE{P:Program}{S:ye}(h:sG P S):vV P (Dn S):=by
 intro g ds σ r σ' wr a;unfold Dn at a;split at a
 ·grind
 ·rename_i f x;have s:=spk_mem x;split at a
  ·rename_i u;rw[cM] at a;obtain ⟨v,j,b⟩:=a;split at b
   ·rename_i l;simp only[au,aX] at b;obtain ⟨rfl,rfl,rfl⟩:=b;have i:=h _ s _ _ j;refine ⟨i.1,(i.data ?_ l).CJ,cX _,λ_ _ _=>rfl⟩;rw[iR] at u ⊢;intro d hd;rw[gD] at hd;obtain ⟨y,z,rfl⟩:=hd;have:=u y z;rw[bN] at this
    grind [low_nrm]
   simp_all
  ·split at a
   ·rename_i m o;rw[cM] at a;obtain ⟨v,j,b⟩:=a;split at b
    ·rename_i l;simp only[au,aX] at b;obtain ⟨rfl,rfl,rfl⟩:=b;have i:=h _ s _ _ j;have p:Pure P g m v:=⟨i.1,i.2.CJ⟩;exact ⟨i.1,p.lend o l,cX _,λ_ _ _=>rfl⟩
    simp_all
   simp_all
noncomputable def spec{A R:Type}(args:A->List D)(UC:R->D)(f:A->Option R):List D->Option D:=λds=>open Classical in if h:∃a,args a=ds then (f (Classical.choose h)).map UC else none
theorem SQ{A R:Type}{args:A->List D}{UC:R->D}{f:A->Option R}(inj:∀a b,args a=args b->a=b){a:A}{r:R}(h:f a=some r):spec args UC f (args a)=some (UC r):=by
 have i:∃b,args b=args a:=⟨a,rfl⟩;unfold spec
 grind
theorem spec_ok{P:Program}{g:Nat}{A R:Type}{args:A->List D}{UC:R->D}{f:A->Option R}(H:∀a r,f a=some r->Pure P g (args a) (UC r)):∀ds r,spec args UC f ds=some r->Pure P g ds r:=by
 intro ds r h;unfold spec at h;split at h
 ·grind [Option.map_eq_some_iff]
 simp_all
theorem AN{S:ye}{g:Nat}{F:List D->Option D}{ds a:List D}{σ:ar}{r:D}(b:VY g S=some F)(i:(ds.all λd=>d.low 0&&d.plain)=true)(hd:ds.map CJ=a)(h:F a=some r)(j:r.low 0=true) :
  Dn S g ds σ=some (r,σ,[]):=by
 subst hd;simp only[Dn,b,i,if_true,h,Option.bind_some,j]
theorem Ku{S:ye}{g:Nat}{F:List D->Option D}{ds a b:List D}{σ:ar}{r:D}(i:VY g S=some F)(j:(ds.all λd=>d.low 0&&d.plain)=false)(l:ds.mapM (wT σ 0 100)=some a)(hd:a.map CJ=b)(h:F b=some r)(m:r.ground=true) :
  Dn S g ds σ=some (r,σ,[]):=by
 subst hd;simp only[Dn,i,j,b_,cw,l,h,Option.bind_some,m,if_true]
def Uf:D->D
 |.aS ds=>.aS (ds.map CJ)
 |d=>CJ d
theorem Fe.Uf(d:D):Fe d (Uf d):=by
 intro σ M Fz w v h;unfold Go.Abs.Uf;split
 ·cases h with
  |aS j o s=>
   refine .aS j (by simp_all) (λi d v a b=>?_)
   grind [FC]
 grind [FC]
theorem Fe.QS{d i:D}(h:Go.Abs.Uf d=i):Fe d i:=h▸Fe.Uf d
theorem sG.nil{P:Program}:sG P []:=λp i=>by grind
theorem sG.cons{P:Program}{g:Nat}{F:List D->Option D}{S:ye}(h:∀ds r,F ds=some r->Pure P g ds r)(j:sG P S):sG P ((g,F)::S):=by
 intro p i;rcases gq.1 i with rfl | i
 ·exact h
 ·exact j p i
def qe(al:AL)(σ:ar):Nat×Option (Option Nat)->Option D
 |(t,none)=>lk t al
 |(t, some n)=>
  match lk t al with
  |some (.ptr b off sz)=>(od σ b sz).bind λa=>uq n a off
  |_=>none
def kg:Nat->List D->AL
 |_,[]=>[]
 |i,d::ds=>(i,d)::kg (i+1) ds
theorem El:∀(ds:List D)(i t:Nat)(d:D),lk t (kg i ds)=some d->i<=t/\ds[t-i]? = some d:=by
 intro ds;induction ds with
 |nil=>grind [kg,lk]
 |cons x ds ih=>
  intro i t d h;simp only[kg,lk] at h;split at h
  ·simp_all
  grind
theorem uM{P:Program}{g:FuncId}{fn:Func}{m:lh}{fz:Bool}{ds:List D}{r:D}(hg:P.funcs[g]? = some fn)(s:aV P g=true)(u:iG P fn fz=some m)
  (y:ds.length<=m.ntmps)
  (h:Sem P m.body m.ntmps (kg 0 ds) [] λx al σ=>(x=.normal∨x=.ret)/\∃a F,m.results.mapM (qe al σ)=some a/\wT σ 0 100 (one a)=some F/\Fe F r):Pure P g ds r:=by
 refine ⟨s,?_⟩;unfold iG at u;split at u
 ·rename_i c hb;split at u
  ·rename_i ac rs h1 h2;simp only[au] at u;subst u;dsimp only at h y;intro M Fz w j R hs G;refine nk hg hb ?_;have A0:eU fn.ntmps [] M Fz w (kg 0 ds) (j++Array.replicate (fn.ntmps-j.size) undef):=by
    refine ⟨by simp_all,λt d K=>?_⟩;obtain ⟨_,h3⟩:=El ds 0 t d K;rw[Nat.sub_zero] at h3;have L:t<j.size:=by grind
    exact ⟨j[t],by grind,G t d _ h3 (sI L)⟩
   refine Om (h c h1 M Fz w { tmps:=j++Array.replicate (fn.ntmps-j.size) undef,defers:=[] } _ R A0 λx al' σ' a' w' M' Fz' hQ hd R' E EV hl=>?_);obtain ⟨hx,a,F,hm,N,O⟩:=hQ;have S:rs.mapM (Mu (xU fn.ntmps al') σ')=some a:=by
    have ab:∀(l:List (Nat×Option (Option Nat))) a,l.mapM (qe al' σ')=some a->l.mapM (Mu (xU fn.ntmps al') σ')=some a:=by
     intro l;induction l with
     |nil=>simp_all
     |cons p l ih=>
      intro a h;rw[Vw] at h ⊢;cases z:qe al' σ' p with
      |none=>simp_all
      |some d=>
       rw[z] at h;have:Mu (xU fn.ntmps al') σ' p=some d:=by
        obtain ⟨t,o⟩:=p;cases o with
        |none=>exact E.dk.2.2 t d z
        |some k=>
         simp only[qe] at z;split at z
         ·rename_i b off sz T;simp only[Mu,E.dk.2.2 t _ T];exact z
         simp_all
       rw[this];cases hr:l.mapM (qe al' σ') with
       |none=>simp_all
       |some q=>simp_all
    simp_all
   have U:yu x=.normal∨yu x=.ret:=by rcases hx with rfl | rfl <;> simp[yu]
   refine ⟨U,Mk.end hd R' EV λW i A mv=>?_⟩;have X:eU fn.ntmps σ' M' Fz' W al' a'.tmps:=⟨E.1,λt d K=>by obtain ⟨v,q1,q2⟩:=E.2 t d K;exact ⟨v,q1,mv d v q2⟩⟩
   obtain ⟨v,Y,Z⟩:=jA (P:=P) i X.dk.1 h2 S;obtain ⟨R2,aa⟩:=Rel.forget R i A (λb hb=>by grind);exact ⟨v,Y,v,_,_,rfl,R2,O _ _ _ _ _ (IT i N Z _ _),aa⟩
  simp_all
 simp_all
end Go.Abs
namespace Go.Abs
variable[Gl]
theorem aae{P:Program}{g:FuncId}{es:List (List C)}{r:D}(p:∀e∈es,e≠[])(s:Pure P g [.c (.cJ true es)] r)(G:es=[]->Pure P g [.c (.lit (.slice none 0 0))] r):Pure P g [.c (.cJ false es)] r:=by
 refine ⟨s.1,λM Fz w b R hs K=>?_⟩;have u:b[0]? = some (b[0]'(by simp_all)):=sI _;have h:=K 0 _ _ rfl u;generalize O:b[0]'(by simp_all)=x at h u;have only:∀d,V [] M Fz w d x->∀(i:Nat) z v,[d][i]? = some z->b[i]? = some v->V [] M Fz w z v:=by grind
 cases h with
 |c A=>
  generalize E:C.cJ false es=y at A;cases A with
  |cJ aw a cap L F c l j m o=>
   simp only[C.cJ.injEq] at E;obtain ⟨rfl,rfl⟩:=E;cases a with
   |some a=>exact s.2 M Fz w b R hs (only _ (.c (.cJ aw (some a) cap (λ_=>rfl) F c l j m o)))
   |none=>
    have N:es=[]:=by simp_all
    subst N;have:=F rfl;subst this;exact (G rfl).2 M Fz w b R hs (only _ (.c (.lit _)))
  |_=>grind
end Go.Abs
end
section
namespace Go.Abs
variable[Gl]
abbrev I(n:Int):D:=.c (.lit (.int .i64 n))
abbrev B(b:Bool):D:=.c (.lit (.bool b))
def lx(al:AL):aP->Option D
 |.t k=>lk k al
 |.k d=>some d
def Bc(al:AL)(x:Operand):Option D:=
 match bW x with
 |some o=>lx al o
 |none=>none
def VX(al:AL):List aP->Option (List D)
 |[]=>some []
 |x :: xs => match lx al x, VX al xs with
  |some d,some ds=>some (d::ds)
  |_,_=>none
def eQ(P:Program)(orc:wK)(n:Nat)(al:AL)(σ:ar)(op:lm)(d:D)(σ1:ar)(w:List Nat):Prop:=∀e,Env n al e->bm P orc op e σ=some (d,σ1,w)
def aB{α:Type}(l:List α)(i:Int):Option α:=if 0<=i/\i<l.length then l[i.toNat]? else none
section
variable{P:Program}{orc:wK}{n:Nat}{al:AL}{σ σ1:ar}{w:List Nat}{d d1 d2:D}{e:List D}
theorem ff(a:Env n al e){x:aP}(h:lx al x=some d):x.ev e=d:=by
 cases x with
 |t k=>simp only[lx] at h;simp[aP.ev,a.2 k d h]
 |k b=>simp only[lx,au] at h;subst h;rfl
theorem JR(a:Env n al e):∀{xs:List aP}{ds:List D},VX al xs=some ds->xs.map (aP.ev e)=ds:=by
 intro xs;induction xs with
 |nil=>grind [VX]
 |cons x xs ih=>grind [VX,ff]
theorem AD{x:aP}(h:lx al x=some d):eQ P orc n al σ (.Ba x) d σ []:=λe a=>by grind [bm,ff]
theorem vY{c x y:aP}{b:Bool}(a:lx al c=some (B b))(i:b=true)(h:lx al x=some d):eQ P orc n al σ (.pick c x y) d σ []:=λe j=>by grind [bm,iz,ff]
theorem qV{c x y:aP}{b:Bool}(a:lx al c=some (B b))(i:b=false)(h:lx al y=some d):eQ P orc n al σ (.pick c x y) d σ []:=λe j=>by grind [bm,iz,ff]
def gT(P:Program)(o:BinOp)(t:TypeId)(x y:Operand)(a b:Value):Option Value:=fE P (do eqGuard o t x y a b;binOp o t a b)
theorem xX{α b:Type}{s:Go.Sem α}{f:α->Go.Sem b}:fE P (s >>= f)=(fE P s).bind λa=>fE P (f a):=by
 induction s with
 |pure a=>rfl
 |program k ih=>exact ih P
 |_=>rfl
theorem dS{o:BinOp}{t ty j:TypeId}{x y:Operand}{a b v:Value}(A:Bc al x=some d1)(E:Bc al y=some d2)(F:d1.de = some a)(G:d2.de = some b)
  (h:gT P o t x y a b=some v) (hd:dH v=d):eQ P orc n al σ (.gen (.binOp o t x y j) ty) d σ []:=λe K=>by
 subst hd;have L:∀{x:Operand}{d:D},Bc al x=some d->((bW x).map (aP.ev e))=some d:=by grind [Bc,ff]
 have N:((bW x).map (aP.ev e)).bind D.de = some a:=by grind
 have O:((bW y).map (aP.ev e)).bind D.de = some b:=by grind
 have:oQ P (.binOp o t x y j) ty e=some (dH v):=by
  unfold oQ;have i:(Op.binOp o t x y j).operands.toList.all (λx=>(((bW x).map (aP.ev e)).bind D.de).isSome)=true:=by grind [Go.Op.operands]
  rw[if_pos i];have s:fE P (execOp (λx=>((((bW x).map (aP.ev e)).bind D.de).getD undef)) { dst:=none,op:=.binOp o t x y j,type:=ty,pos:="",after:=#[],guard:=none })=some (.value v):=by
   have p:∀l m:Value,l=a->m=b->fE P (do let r <-(do eqGuard o t x y l m;binOp o t l m);Go.Sem.pure (Next.value r))=some (.value v):=by intro l m u z;subst u z;rw[xX];unfold gT at h;rw[h];rfl
   exact p _ _ (by simp_all) (by simp_all)
  rw[s]
 grind [bm]
theorem YZ{o:UnOp}{t ty:TypeId}{x:Operand}{a v:Value}(s:Bc al x=some d1)(u:d1.de = some a)
  (h:fE P (Op.unary o a)=some v) (hd:dH v=d):eQ P orc n al σ (.gen (.unOp o t x) ty) d σ []:=λe y=>by
 subst hd;have z:((bW x).map (aP.ev e))=some d1:=by grind [Bc,ff]
 have l:((bW x).map (aP.ev e)).bind D.de = some a:=by grind
 have:oQ P (.unOp o t x) ty e=some (dH v):=by
  unfold oQ;have b:(Op.unOp o t x).operands.toList.all (λx=>(((bW x).map (aP.ev e)).bind D.de).isSome)=true:=by simp[Op.operands,l]
  rw[if_pos b];have m:fE P (execOp (λx=>((((bW x).map (aP.ev e)).bind D.de).getD undef)) { dst:=none,op:=.unOp o t x,type:=ty,pos:="",after:=#[],guard:=none })=some (.value v):=by
   have i:∀j:Value,j=a->fE P (do let r <-Op.unary o j;Go.Sem.pure (Next.value r))=some (.value v):=by intro j p;subst p;rw[xX,h];rfl
   exact i _ (by simp_all)
  rw[m]
 grind [bm]
theorem Do{t b ty:TypeId}{x:Operand}{a v:Value}(s:Bc al x=some d1)(u:d1.de = some a)
  (h:fE P (convert t b a)=some v) (hd:dH v=d):eQ P orc n al σ (.gen (.convert t b x) ty) d σ []:=λe y=>by
 subst hd;have z:((bW x).map (aP.ev e))=some d1:=by grind [Bc,ff]
 have m:((bW x).map (aP.ev e)).bind D.de = some a:=by grind
 have:oQ P (.convert t b x) ty e=some (dH v):=by
  unfold oQ;have i:(Op.convert t b x).operands.toList.all (λx=>(((bW x).map (aP.ev e)).bind D.de).isSome)=true:=by simp[Op.operands,m]
  rw[if_pos i];have o:fE P (execOp (λx=>((((bW x).map (aP.ev e)).bind D.de).getD undef)) { dst:=none,op:=.convert t b x,type:=ty,pos:="",after:=#[],guard:=none })=some (.value v):=by
   have j:∀l:Value,l=a->fE P (do let r <-convert t b l;Go.Sem.pure (Next.value r))=some (.value v):=by intro l p;subst p;rw[xX,h];rfl
   exact j _ (by simp_all)
  rw[o]
 grind [bm]
theorem op_box{x:aP}{cs:List D}(h:lx al x=some d)(a:d.cells? = some cs)(b:D.ptr σ.length 0 cs.length=d1)(hs:σ++[.cells cs]=σ1):eQ P orc n al σ (.box x) d1 σ1 []:=λe i=>by grind [bm,ff]
theorem MG{z:List D}(a:D.ptr σ.length 0 z.length=d1)(hs:σ++[.cells z]=σ1):eQ P orc n al σ (.alloc z) d1 σ1 []:=λe b=>by grind [bm]
def Cd(al:AL):List D->List (Nat×Nat×aP)->Option (List D)
 |a,[]=>some a
 |a, (o, n, x) :: rest=>
  match (lx al x).bind D.cells? with
  |some b=>if b.length≠n∨o+n > a.length then none else Cd al (put a o b) rest
  |none=>none
theorem Ml(i:Env n al e):∀{ps:List (Nat×Nat×aP)}{cs a:List D},Cd al cs ps=some a->rc e cs ps=some a:=by
 intro ps;induction ps with
 |nil=>intro cs a h;exact h
 |cons p ps ih=>
  intro cs a h;obtain ⟨o,m,x⟩:=p;simp only[Cd] at h;split at h
  ·rename_i r b;rw[cM] at b;obtain ⟨d,j,l⟩:=b;simp only[rc,ff i j,l,Option.bind_eq_bind,Option.bind_some]
   simp_all
  simp_all
theorem WV{z cs:List D}{ps:List (Nat×Nat×aP)}(h:Cd al z ps=some cs):eQ P orc n al σ (.build z ps) (.agg cs) σ []:=λe a=>by grind [bm,Ml]
theorem HI{z cs:List D}{aw len:Nat}{ps:List (Nat×Nat×aP)}(h:Cd al (uf len z) ps=some cs)(a:D.sl σ.length 0 len aw cs.length=d1)(hs:σ++[.cells cs]=σ1):eQ P orc n al σ (.js aw len z ps) d1 σ1 []:=λe b=>by grind [bm,Ml]
theorem rU{m:Option Nat}{a:aP}{b off sz:Nat}{cs:List D}(h:lx al a=some (.ptr b off sz))(i:od σ b sz=some cs)(j:uq m cs off=some d):eQ P orc n al σ (.load m a) d σ []:=λe l=>by grind [bm,ff]
theorem Es{m:Option Nat}{a:aP}{off:Nat}{cs:List C}(h:lx al a=some (.c (.cK cs off)))(b:uq m (cs.map .c) off=some d):eQ P orc n al σ (.load m a) d σ []:=λe i=>by grind [bm,ff]
theorem DL{m:Nat}{a x:aP}{b off sz:Nat}{cs xs:List D}(h:lx al a=some (.ptr b off sz))(i:od σ b sz=some cs)(j:lx al x=some d)(l:d.cells? = some xs)(hm:xs.length=m/\off+m<=sz)(hs:σ.set b (.cells (put cs off xs))=σ1) :
  eQ P orc n al σ (.store m a x) (.aS []) σ1 [b]:=λe o=>by
 grind [bm,ff]
theorem LP{x:aP}{b off sz:Nat}(h:lx al x=some (.ptr b off sz)):eQ P orc n al σ (.mT x) (.ptr b off sz) σ []:=λe a=>by grind [bm,ff]
theorem fy{k:Nat}{neg:Bool}{x:aP}{b:Bool}(h:lx al x=some d)(a:isNil k d=some b):eQ P orc n al σ (.iZ k neg x) (B (if neg then !b else b)) σ []:=λe i=>by grind [bm,ff]
theorem Kw{o:Nat}{x:aP}{b off sz:Nat}(h:lx al x=some (.ptr b off sz)):eQ P orc n al σ (.Ik o x) (.ptr b (off+o) sz) σ []:=λe a=>by grind [bm,ff]
theorem op_fldf{o:Nat}{x:aP}{cs:List C}{off:Nat}(h:lx al x=some (.c (.cK cs off))):eQ P orc n al σ (.Ik o x) (.c (.cK cs (off+o))) σ []:=λe a=>by grind [bm,ff]
theorem pA{α:Type}{l:List α}{i:Int}{a:α}(h:aB l i=some a):0<=i/\i<l.length/\l[i.toNat]? = some a:=by grind [aB]
theorem Yk{α:Type}{aw:Nat}{x i:aP}{nn:Bool}{l:List α}{f:α->List C}{k:Int}{a:α}(h:lx al x=some (.c (.cJ nn (l.map f))))(j:lx al i=some (I k))(m:aB l k=some a)(o:(f a).length=aw) :
  eQ P orc n al σ (.idx aw none x i) (.c (.cK (f a) 0)) σ []:=λe b=>by
 obtain ⟨s,u,p⟩:=pA m;have r:Cz k (l.map f).length=some k.toNat:=by unfold Cz;simp_all
 simp only[bm,ff b h,ff b j,ui,Option.bind_eq_bind,Option.bind_some,r,mE,p,Option.map_some,o,if_true]
theorem YO{α:Type}{x:aP}{nn:Bool}{l:List α}{f:α->List C}(h:lx al x=some (.c (.cJ nn (l.map f)))):eQ P orc n al σ (.len x) (I l.length) σ []:=λe a=>by grind [bm,Im,ff]
theorem op_len0{x:aP}(h:lx al x=some (.c (.lit (.slice none 0 0)))):eQ P orc n al σ (.len x) (I 0) σ []:=λe a=>by grind [bm,Im,ff]
theorem Ea{x:aP}{i:Nat}{ds:List D}(h:lx al x=some (.aS ds))(hd:ds[i]? = some d):eQ P orc n al σ (.extract x i) d σ []:=λe a=>by grind [bm,ff]
theorem op_part{m:Option Nat}{off:Nat}{x:aP}{cs:List D}(h:lx al x=some (.agg cs))(a:uq m cs off=some d):eQ P orc n al σ (.part off m x) d σ []:=λe b=>by grind [bm,ff]
theorem Jv{g:FuncId}{f:aP}{args:List aP}{ds:List D}(a:lx al f=some (.c (.fn (.func g) [] [])))(b:VX al args=some ds)(h:orc g ds σ=some (d,σ1,w)):eQ P orc n al σ (.call f args) d σ1 w:=λe i=>by grind [bm,ff,JR]
def Fk(o:aH)(c:Nat)(blk:Option Nat)(w:List Nat)(lo hi:Nat):d_:={ cat:=c,blk:=blk,wr:=w,dst:=o.dst,rds:=yt o,lo:=lo,hi:=hi }
def Gd(al:AL)(g:Option (Nat×Bool))(b:Bool):Prop:=∀n e,Env n al e->gS e g=some b
theorem iA:Gd al none true:=λ_ _ _=>rfl
theorem ig{t:Nat}{a b:Bool}(h:lk t al=some (B b))(i:b=a):Gd al (some (t,a)) true:=λn e j=>by simp[gS,j.2 t _ h,i]
theorem Qf{t:Nat}{a b:Bool}(h:lk t al=some (B b))(i:b=!a):Gd al (some (t,a)) false:=λn e j=>by simp[gS,j.2 t _ h,i]
theorem SK{t:Nat}{a:Bool}(h:lk t al=some (.aS [])):Gd al (some (t,a)) false:=λn e b=>by simp[gS,b.2 t _ h]
def za(al:AL):lm->Option Nat
 |.load _ x=>match lx al x with | some (.ptr b _ _)=>some b | _=>none
 |_=>none
def GN(al:AL):lm->Bool
 |.load _ x=>(lx al x).isSome
 |_=>true
theorem blk_ok(b:Env n al e){o:aH}(h:GN al o.op=true)(lo a:Nat):(dz o e lo a w).blk=za al o.op:=by
 obtain ⟨t,op,g⟩:=o;cases op with
 |load m x=>grind [GN,Option.isSome_iff_exists,dz,ZM,za,ff]
 |_=>rfl
theorem KJ(i:Env n al e){o:aH}{b:Bool}(m:∀n e,Env n al e->gS e o.g=some b)(h:GN al o.op=true)(lo a:Nat):dz o e lo a w=Fk o (if b then cat o.op else 0) (za al o.op) w lo a:=by
 have j:=blk_ok (w:=w) i h lo a;have l:(dz o e lo a w).cat=if b then cat o.op else 0:=by grind [dz]
 unfold Fk;rw[<-j,<-l];rfl
theorem SL(a:Env n al e){t:Nat}(j:t<n)(d:D):Env n ((t,d)::al) (e.set t d):=by
 refine ⟨by simp[a.1],λs l h=>?_⟩;simp only[lk] at h;split at h
 ·rename_i i;have:=cY i;simp only[au] at h;subst this h;rw[List.getElem?_set_self (by rw[a.1];exact j)]
 ·rename_i i;have b:t≠s:=λm=>by simp_all
  rw[List.getElem?_set_ne b];exact a.2 s l h
variable{k:Nat}{os:List aH}{al':AL}{σ':ar}{is:List d_}{t:Nat}{ao:lm}{g:Option (Nat×Bool)}
theorem JW.nil{i:gz}:JW P i k [] n al σ al σ []:=λe j=>⟨e,rfl,j⟩
theorem JW.op{j:gz}(h:eQ P (j (some t)) n al σ ao d σ1 w)(s:Gd al g true)(hs:(Nat.blt t n&&GN al ao&&(k == 0 || jt σ σ1 w))=true)(r:JW P j (k-1) os n ((t,d)::al) σ1 al' σ' is) :
  JW P j k (⟨some t,ao,g⟩::os) n al σ al' σ' (Fk ⟨some t,ao,g⟩ (cat ao) (za al ao) w σ.length σ1.length::is):=λe i=>by
 simp only[bN] at hs;obtain ⟨⟨x,z⟩,A⟩:=hs;obtain ⟨E,F,G⟩:=r _ (SL i (ug.mp x) d);refine ⟨E,?_,G⟩;have u:=KJ (w:=w) i (o:=⟨some t,ao,g⟩) s z σ.length σ1.length;simp only[if_true,b_,cw] at u;simp only[me,fi,s n e i,h e i,Option.map_some,oE,A,if_true,F,u]
theorem JW.eff{j:gz}(h:eQ P (j none) n al σ ao d σ1 w)(s:Gd al g true)(hs:(GN al ao&&(k == 0 || jt σ σ1 w))=true)(r:JW P j (k-1) os n al σ1 al' σ' is) :
  JW P j k (⟨none,ao,g⟩::os) n al σ al' σ' (Fk ⟨none,ao,g⟩ (cat ao) (za al ao) w σ.length σ1.length::is):=λe i=>by
 simp only[bN] at hs;obtain ⟨x,z⟩:=hs;obtain ⟨A,E,F⟩:=r _ i;refine ⟨A,?_,F⟩;have u:=KJ (w:=w) i (o:=⟨none,ao,g⟩) s x σ.length σ1.length;simp only[if_true,b_,cw] at u;simp only[me,fi,s n e i,h e i,Option.map_some,oE,z,if_true,E,u]
theorem JW.no{j:gz}(s:Gd al g false)(hs:(Nat.blt t n&&GN al ao)=true)(r:JW P j (k-1) os n ((t,.aS [])::al) σ al' σ' is) :
  JW P j k (⟨some t,ao,g⟩::os) n al σ al' σ' (Fk ⟨some t,ao,g⟩ 0 (za al ao) [] σ.length σ.length::is):=λe i=>by
 simp only[bN] at hs;obtain ⟨x,z⟩:=hs;obtain ⟨A,E,F⟩:=r _ (SL i (ug.mp x) (.aS []));refine ⟨A,?_,F⟩;have u:=KJ (w:=[]) i (o:=⟨some t,ao,g⟩) s z σ.length σ.length;simp only[if_true,b_,cw] at u;simp only[me,fi,s n e i,oE,jt,List.all_nil,Bool.or_true,if_true,E,u]
end
end Go.Abs
end
section
namespace Go.Abs
variable[Gl]
abbrev ST(cs:List C):D:=.agg (cs.map .c)
theorem map_inj{α:Type}{f:α->List C}(i:∀{a b:α},f a=f b->a=b){l m:List α}(h:l.map f=m.map f):l=m:=by
 induction l generalizing m with
 |nil=>simp_all
 |cons a l ih => cases m with
  |nil=>simp at h
  |cons b m=>grind
theorem Mg:∀{l m:List C},l.map D.c=m.map D.c->l=m:=by
 intro l;induction l with
 |nil=>simp_all
 |cons a l ih => intro m h;cases m with
  |nil=>simp at h
  |cons b m=>grind
theorem ST_inj{α:Type}{f:α->List C}(i:∀{a b:α},f a=f b->a=b){a b:α}(h:ST (f a)=ST (f b)):a=b:=by grind [Mg]
theorem sZ{al1:AL}:Sub al1 []:=True.intro
section
variable{P:Program}{orc:wK}{n:Nat}{al:AL}{σ σ1:ar}{w:List Nat}{d d1 d2:D}{e:List D}
theorem op_aidx{α:Type}{len:Nat}{x i:aP}{cs:List D}{l:List α}{f:α->D}{k:Int}{a:α}(h:lx al x=some (.agg cs))(j:lx al i=some (I k))(m:aB l k=some a)(o:cs=l.map f)(s:l.length=len) :
  eQ P orc n al σ (.Db 1 len none x i) (f a) σ []:=λe b=>by
 obtain ⟨u,v,p⟩:=pA m;have r:Cz k len=some k.toNat:=by unfold Cz;simp_all
 subst o;simp[bm,ff b h,ff b j,ui,r,uq,p]
end
end Go.Abs
end
section
namespace Go.Abs
variable[Gl]
section
variable{P:Program}
theorem zbS{t:TypeId}{d:TypeDesc}(h:P.underlying t=some d):fE P (underlying t)=some d:=by show fE P (match P.underlying t with | some d=>Go.Sem.pure d | none=>_)=_;rw[h];rfl
theorem uX{d:Nat}{xs h:Array Value}{f:Field}{j:List Field}{a b:Value}{r q:Bool}(p:(f.name != "_")=true)(l:fE P (part f.type xs f.offset)=some a)(m:fE P (part f.type h f.offset)=some b)
  (o:fE P (Op.equalIn d f.type a b)=some r) (s:fE P (Op.eqFields d xs h j)=some q):fE P (Op.eqFields d xs h (f::j))=some (r&&q):=by
 unfold Op.eqFields;have i:f.name≠"_":=by simp_all
 rw[if_pos i,xX,l,aD,xX,m,aD,xX,o,aD];cases r
 ·rfl
 simp_all
theorem eq_int{d:Nat}{t:TypeId}{k i:IntKind}{a b:Int}(h:P.underlying t=some (.int i)):fE P (Op.equalIn (d+1) t (.int k a) (.int k b))=some (a == b):=by simp only[Op.equalIn];rw[xX,zbS h,aD];simp only[if_true];rfl
theorem Dj{d:Nat}{t:TypeId}{a b:Bool}(h:P.underlying t=some .bool):fE P (Op.equalIn (d+1) t (.bool a) (.bool b))=some (a == b):=by simp only[Op.equalIn];rw[xX,zbS h,aD];rfl
theorem Xb{d:Nat}{t:TypeId}{xs i:Array Value}{r:Bool}(l:P.underlying t=some (.struct (P.fieldsOf t)))(o:P.stoodInHeld t=false)(h:fE P (Op.eqFields d xs i (P.fieldsOf t).toList)=some r) :
  fE P (Op.equalIn (d+1) t (.agg xs) (.agg i))=some r:=by
 simp only[Op.equalIn];rw[xX,zbS l,aD];dsimp only;rw[xX];show (fE P (Go.Sem.pure P)).bind _=_;simp only[fE,Option.bind_some,o,b_,cw];rw[xX,<-Array.forIn_toList];generalize (P.fieldsOf t).toList=m at h;clear l;induction m generalizing r with
 |nil=>exact h
 |cons f m ih=>
  simp only[List.forIn_cons,Op.eqFields] at h ⊢;rw[xX];split at h
  ·rename_i j;rw[if_pos j];rw[xX] at h ⊢;cases p:fE P (part f.type xs f.offset) with
   |none=>simp_all
   |some a=>
    rw[p] at h;simp only[Option.bind_some] at h ⊢;rw[xX] at h ⊢;cases s:fE P (part f.type i f.offset) with
    |none=>simp_all
    |some b=>
     rw[s] at h;simp only[Option.bind_some] at h ⊢;rw[xX] at h ⊢;cases u:fE P (Op.equalIn d f.type a b) with
     |none=>simp_all
     |some q=>
      rw[u] at h;simp only[Option.bind_some] at h ⊢;cases q
      ·simp only[Bool.not_false,if_true] at h ⊢;exact h
      ·simp only[OK,b_,cw] at h ⊢;exact ih h
  ·rename_i j;rw[if_neg j];exact ih h
theorem bin_eql{t:TypeId}{x y:Operand}{xs a:Array Value}{r:Bool}(hm:P.eqGuardType P.depth t=false)(h:fE P (Op.equalIn 10000 t (.agg xs) (.agg a))=some r):gT P .eql t x y (.agg xs) (.agg a)=some (.bool r):=by
 unfold gT;rw[xX];have b:fE P (eqGuard .eql t x y (.agg xs) (.agg a))=some ():=by simp only[eqGuard,OK,b_,cw];show fE P (if (!P.eqGuardType P.depth t)=true then Go.Sem.pure () else _)=_;rw[hm];rfl
 rw[b,aD];show fE P (do Go.Sem.pure (Value.bool (<-Op.equal t (.agg xs) (.agg a))))=_;rw[xX];unfold Op.equal Op.maxDepth;rw[h];rfl
theorem bin_neq{t:TypeId}{x y:Operand}{xs a:Array Value}{r:Bool}(hm:P.eqGuardType P.depth t=false)(h:fE P (Op.equalIn 10000 t (.agg xs) (.agg a))=some r):gT P .neq t x y (.agg xs) (.agg a)=some (.bool (!r)):=by
 unfold gT;rw[xX];have b:fE P (eqGuard .neq t x y (.agg xs) (.agg a))=some ():=by simp only[eqGuard,OK,b_,cw];show fE P (if (!P.eqGuardType P.depth t)=true then Go.Sem.pure () else _)=_;rw[hm];rfl
 rw[b,aD];show fE P (do Go.Sem.pure (Value.bool (!(<-Op.equal t (.agg xs) (.agg a)))))=_;rw[xX];unfold Op.equal Op.maxDepth;rw[h];rfl
end
end Go.Abs
namespace Go.Abs
variable[Gl]
section
variable{P:Program}{orc:wK}{n:Nat}{al:AL}{σ:ar}{d:D}{e:List D}
def Gh(P:Program)(op:Op)(ty:TypeId)(al:AL):Option D:=
 if op.operands.toList.all (λx=>((Bc al x).bind D.de).isSome) then
  match fE P (execOp (λx=>(((Bc al x).bind D.de).getD undef)) { dst:=none,op:=op,type:=ty,pos:="",after:=#[],guard:=none }) with
  |some (.value v)=>some (dH v)
  |_=>none
 else none
theorem genA_ok{op:Op}{ty:TypeId}(i:∀cs b,op≠.select cs b)(h:Gh P op ty al=some d)(m:Env n al e):oQ P op ty e=some d:=by
 unfold Gh at h;split at h
 ·rename_i a;rw[iR] at a;have l:∀x∈op.operands.toList,((bW x).map (aP.ev e)).bind D.de = (Bc al x).bind D.de:=by
   grind [Option.isSome_iff_exists,Option.bind_eq_some_iff,Bc,ff]
  have j:∀x:Operand,(x∈op.operands.toList)->((((bW x).map (aP.ev e)).bind D.de).getD undef)=(((Bc al x).bind D.de).getD undef):=λx o=>by simp_all
  unfold oQ;rw[if_pos (by simp_all)]
  grind [Go.execOp_congr]
 simp_all
theorem gh{c:Call}{ty:TypeId}(h:Gh P (.call c) ty al=some d):eQ P orc n al σ (.gen (.call c) ty) d σ []:=λe a=>by simp[bm,genA_ok (λi b=>by simp) h a]
end
end Go.Abs
namespace Go.Abs
variable[Gl]
section
variable{P:Program}{orc:wK}{n:Nat}{al:AL}{σ:ar}{d:D}{e:List D}
theorem W_{t:TypeId}{x y:Operand}{a b:Bool}(h:P.underlying t=some .bool):gT P .eql t x y (.bool a) (.bool b)=some (.bool (a == b)):=by unfold gT;rw[xX];show (some ()).bind _=_;rw[aD];show fE P (do Go.Sem.pure (Value.bool (<-Op.equal t (.bool a) (.bool b))))=_;rw[xX];unfold Op.equal Op.maxDepth;rw[Dj (d:=9999) h];rfl
theorem Zw{t:TypeId}{x y:Operand}{a b:Bool}(h:P.underlying t=some .bool):gT P .neq t x y (.bool a) (.bool b)=some (.bool (!(a == b))):=by unfold gT;rw[xX];show (some ()).bind _=_;rw[aD];show fE P (do Go.Sem.pure (Value.bool (!(<-Op.equal t (.bool a) (.bool b)))))=_;rw[xX];unfold Op.equal Op.maxDepth;rw[Dj (d:=9999) h];rfl
def Oq(k:IntKind)(a b:Int):Option Int:=if b=0 then none else some (k.wrap (a.tdiv b))
def WA(a b:Int):Option Int:=if b=0 then none else some (a.tmod b)
def shr?(k:IntKind)(a b:Int):Option Int:=if b<0 then none else some (a.fdiv (2 ^ min b.toNat k.bits))
theorem bin_shr{t:TypeId}{x y:Operand}{i j:IntKind}{a b v:Int}(h:shr? i a b=some v):gT P .shr t x y (.int i a) (.int j b)=some (.int i v):=by
 unfold shr? at h;split at h
 ·simp at h
 ·rename_i l;simp only[au] at h;subst h;unfold gT;rw[xX];show (some ()).bind _=_;rw[aD];simp only[binOp,Op.shift,if_neg l];rfl
def shl?(k:IntKind)(a b:Int):Option Int:=if b<0 then none else some (k.wrap (a * 2 ^ min b.toNat k.bits))
theorem bin_shl{t:TypeId}{x y:Operand}{i j:IntKind}{a b v:Int}(h:shl? i a b=some v):gT P .shl t x y (.int i a) (.int j b)=some (.int i v):=by
 unfold shl? at h;split at h
 ·simp at h
 ·rename_i l;simp only[au] at h;subst h;unfold gT;rw[xX];show (some ()).bind _=_;rw[aD];simp only[binOp,Op.shift,if_neg l];rfl
theorem bin_quo{t:TypeId}{x y:Operand}{k:IntKind}{a b v:Int}(h:Oq k a b=some v):gT P .quo t x y (.int k a) (.int k b)=some (.int k v):=by
 unfold Oq at h;split at h
 ·simp at h
 ·rename_i i;simp only[au] at h;subst h;unfold gT;rw[xX];show (some ()).bind _=_;rw[aD];simp only[binOp,ne_eq,not_true_eq_false,cw,Op.intDiv,if_neg i];rfl
theorem bin_rem{t:TypeId}{x y:Operand}{k:IntKind}{a b v:Int}(h:WA a b=some v):gT P .rem t x y (.int k a) (.int k b)=some (.int k v):=by
 unfold WA at h;split at h
 ·simp at h
 ·rename_i i;simp only[au] at h;subst h;unfold gT;rw[xX];show (some ()).bind _=_;rw[aD];simp only[binOp,ne_eq,not_true_eq_false,cw,Op.intDiv,if_neg i];rfl
theorem op_idxA{α:Type}{x i:aP}{b off sz len aw:Nat}{k:Int}{l:List α}{a:α}(h:lx al x=some (.ptr b off sz))(m:lx al i=some (I k))(j:aB l k=some a)(o:l.length=len)(hd:D.ptr b (off+k.toNat * aw) sz=d) :
  eQ P orc n al σ (.idx aw (some len) x i) d σ []:=λe p=>by
 subst hd;obtain ⟨r,s,u⟩:=pA j;have v:Cz k len=some k.toNat:=by unfold Cz;simp_all
 grind [bm,ui,ff]
end
end Go.Abs
end
section
namespace Go.Abs
variable[Gl]
abbrev OS(aw b n:Nat):D:=.sl b 0 n aw (n * aw)
abbrev OB{α:Type}(f:α->List C)(l:List α):Ob:=.cells ((l.flatMap f).map .c)
section
variable{α:Type}{f:α->List C}{aw:Nat}
theorem eK(b:∀a,(f a).length=aw):∀(l:List α),(l.flatMap f).length=l.length * aw:=by
 intro l;induction l with
 |nil=>simp
 |cons a l ih=>grind
theorem flat_at(b:∀a,(f a).length=aw):∀(l:List α)(i:Nat)(a:α),l[i]? = some a->((l.flatMap f).drop (i * aw)).take aw=f a:=by
 intro l;induction l with
 |nil=>simp_all
 |cons x l ih=>
  intro i a h;cases i with
  |zero=>simp_all
  |succ i=>
   simp only[List.getElem?_cons_succ] at h;simp only[yBz];have:(i+1) * aw=(f x).length+i * aw:=by grind
   rw[this,xAe,<-ih i a h,yBo (by omega),xAb]
   simp_all
theorem LB(h:∀a,(f a).length=aw)(l:List α)(lo n:Nat):((l.flatMap f).drop (lo * aw)).take (n * aw)=((l.drop lo).take n).flatMap f:=by
 induction l generalizing lo n with
 |nil=>simp
 |cons x l ih=>
  cases lo with
  |succ lo=>
   simp only[yBz,List.drop_succ_cons];have:(lo+1) * aw=(f x).length+lo * aw:=by grind
   rw[this,xAe,<-ih lo n,yBo (by omega),xAb]
   simp_all
  |zero=>
   cases n with
   |zero=>simp
   |succ n=>
    simp only[yCa,yCj,yBz,List.take_succ_cons];have b:(n+1) * aw=(f x).length+n * aw:=by grind
    rw[b,List.take_append];have:=ih 0 n
    grind
theorem iK{σ:ar}{b:Nat}{l:List α}(i:∀a,(f a).length=aw)(h:σ[b]? = some (OB f l)):od σ b (l.length * aw)=some ((l.flatMap f).map .c):=by grind [od,eK]
theorem QM(b:∀a,(f a).length=aw):∀(l:List α),chunks aw l.length (l.flatMap f)=l.map f:=by
 intro l;induction l with
 |nil=>rfl
 |cons a l ih=>
  simp only[List.length_cons,chunks,yBz,ru]
  simp_all
theorem Ug{σ:ar}{n k:Nat}:∀(l:List C),(l.map D.c).mapM (fN σ n (k+1))=some l:=by
 intro l;induction l with
 |nil=>rfl
 |cons x l ih=>rw[ru,Vw,ih];rfl
theorem Ed{σ:ar}{b k n:Nat}{l:List α}(i:∀a,(f a).length=aw)(j:0<aw)(h:σ[b]? = some (OB f l))(m:l.length=n):fN σ 0 (k+2) (OS aw b n)=some (.cJ (Nat.blt 0 n) (l.map f)):=by
 subst m;have:fN σ 0 (k+2) (OS aw b l.length)=(if 0<=b/\0<aw/\0+l.length * aw<=l.length * aw then
    match od σ b (l.length * aw) with
    |some o=>(((o.drop 0).take (l.length * aw)).mapM (fN σ 0 (k+1))).map λr=>C.cJ (Nat.blt 0 l.length) (chunks aw l.length r)
    |none=>none
   else none):=rfl
 rw[this,if_pos ⟨Px _,j,by omega⟩,iK i h]
 grind [List.take_of_length_le,eK,Ug,QM]
theorem frz_own{σ:ar}{b n:Nat}{l:List α}(i:∀a,(f a).length=aw)(j:0<aw)(h:σ[b]? = some (OB f l))(m:l.length=n):wT σ 0 100 (OS aw b n)=some (.c (.cJ (Nat.blt 0 n) (l.map f))):=by
 show (fN σ 0 100 (OS aw b n)).map D.c=_
 grind [Ed]
theorem mapM_c{a:Type}{g:D->Option a}{d:D}{ds:List D}{r:a}{rs:List a}(h:g d=some r)(b:ds.mapM g=some rs):(d::ds).mapM g=some (r::rs):=by simp_all
theorem frz_tup{σ:ar}{ds rs:List D}(h:ds.mapM (pu σ 0 100)=some rs):wT σ 0 100 (.aS ds)=some (.aS rs):=by
 show (ds.mapM (pu σ 0 100)).map D.aS=_
 simp_all
theorem frz_agg{σ:ar}{ds:List D}{rs:List C}(h:ds.mapM (fN σ 0 100)=some rs):pu σ 0 100 (.agg ds)=some (.agg (rs.map .c)):=by
 show (ds.mapM (fN σ 0 100)).map (λl=>D.agg (l.map .c))=_
 simp_all
def Src(σ:ar)(f:α->List C)(aw:Nat)(d:D)(m:List α):Prop:=Im σ d=some m.length/\WZ σ aw m.length d=some ((m.flatMap f).map .c)
def Wi(σ:ar)(f:α->List C)(aw:Nat)(d:D)(m:List α):Prop:=Im σ d=some m.length/\∀n,n<=m.length->WZ σ aw n d=some (((m.take n).flatMap f).map .c)
theorem WS{σ:ar}{nn:Bool}{m:List α}(b:∀a,(f a).length=aw):Wi σ f aw (.c (.cJ nn (m.map f))) m:=by
 refine ⟨by simp[Im],λn h=>?_⟩;show (if n<=(m.map f).length/\(m.map f).all (λe=>e.length=aw) then some (((m.map f).take n).flatten.map D.c) else none)=_;rw[if_pos ⟨by simp_all,by simp[b]⟩,<-yCe]
 grind
theorem XN{σ:ar}:Wi σ f aw (.c (.lit (.slice none 0 0))) []:=⟨rfl,λn a=>by
 obtain rfl:n=0:=by simp_all
 rfl⟩
theorem Za{σ:ar}{b n:Nat}{l:List α}(i:∀a,(f a).length=aw)(h:σ[b]? = some (OB f l))(j:l.length=n):Wi σ f aw (OS aw b n) l:=by subst j;refine ⟨by grind [Im,iK],λk hk=>?_⟩;show ((od σ b (l.length * aw)).bind λm=>if aw=aw/\k<=l.length/\0+l.length * aw<=l.length * aw then some ((m.drop 0).take (k * aw)) else none)=_;have:=LB i l 0 k;simp only[yCa,yCj] at this;rw[iK i h,aD,if_pos ⟨rfl,hk,by omega⟩,yCj,<-yCe,this]
theorem VL(b:∀a,(f a).length=aw)(l:List α)(n:Nat):(l.flatMap f).take (n * aw)=(l.take n).flatMap f:=by
 have:=LB b l 0 n
 simp_all
theorem TI(b:∀a,(f a).length=aw):∀(l:List α)(n:Nat),(l.flatMap f).drop (n * aw)=(l.drop n).flatMap f:=by
 intro l;induction l with
 |nil=>simp_all
 |cons x l ih=>
  intro n;cases n with
  |zero=>simp
  |succ n=>
   have:(n+1) * aw=(f x).length+n * aw:=by grind
   rw[yBz,List.drop_succ_cons,<-ih n,this,xAe,yBo (by omega),xAb]
   simp_all
def cpL(l m:List α)(lo len:Nat):List α:=l.take lo++m.take len++l.drop (lo+(m.take len).length)
theorem Te{l m:List α}{lo len:Nat}(h:lo+len<=l.length):(cpL l m lo len).length=l.length:=by grind [cpL]
theorem DH{σ:ar}{nn:Bool}{m:List α}(b:∀a,(f a).length=aw):Src σ f aw (.c (.cJ nn (m.map f))) m:=by
 refine ⟨by simp[Im],?_⟩;show (if m.length<=(m.map f).length/\(m.map f).all (λe=>e.length=aw) then some (((m.map f).take m.length).flatten.map D.c) else none)=_
 grind
theorem src_nil{σ:ar}:Src σ f aw (.c (.lit (.slice none 0 0))) []:=⟨rfl,rfl⟩
theorem Sy{σ:ar}{b n:Nat}{l:List α}(i:∀a,(f a).length=aw)(h:σ[b]? = some (OB f l))(j:l.length=n):Src σ f aw (OS aw b n) l:=by subst j;refine ⟨by grind [Im,iK],?_⟩;show ((od σ b (l.length * aw)).bind λm=>if aw=aw/\l.length<=l.length/\0+l.length * aw<=l.length * aw then some ((m.drop 0).take (l.length * aw)) else none)=_;rw[iK i h,aD,if_pos ⟨rfl,cX _,by omega⟩,yCj,yBD (by simp[eK i])]
end
section
variable{P:Program}{orc:wK}{n:Nat}{al:AL}{σ σ1:ar}{d d1 d2:D}{α:Type}{f:α->List C}{aw:Nat}{ac:aR}{Q:mS->AL->ar->Prop}
theorem Sem.own(t aw:Nat)(hk:lk t al=some (.c (.lit (.slice none 0 0))))(hd:D.sl σ.length 0 0 aw 0=d)(hs:σ++[.cells []]=σ1)(h:Sem P ac n ((t,d)::al) σ1 Q):Sem P ac n al σ Q:=by
 subst hd hs;intro c z M Fz w a K R A E;have j:=bH.ph R;have F:=R.ph;have i:∀{d v},V σ M Fz w d v->V (σ++[.cells []]) M Fz w d v:=λh=>h.mono j;have G:eU n (σ++[.cells []]) M Fz w ((t,.sl σ.length 0 0 aw 0)::al) a.tmps:=by
  refine ⟨A.1,λs d hs=>?_⟩;simp only[lk] at hs;split at hs
  ·rename_i O;have:=cY O;simp only[au] at hs;subst this hs;obtain ⟨v,o,u⟩:=A.2 t _ hk;refine ⟨v,o,?_⟩;rw[u.cj];exact .sl none 0 0 (by simp) (.cells []) (by simp) (by omega) (λ_=>.inl ⟨rfl,rfl,rfl,rfl,rfl,rfl⟩)
  ·obtain ⟨v,o,u⟩:=A.2 s d hs
   simp_all
 exact h c z M Fz w a K F G λx al' σ' U w' M' Fz' W hd X Y Z hl=>E x al' σ' U w' M' Fz' W hd X Y (j.trans Z (by simp)) (by grind)
theorem PN{x:aP}{b k:Nat}{l:List α}(i:∀a,(f a).length=aw)(h:lx al x=some (OS aw b k))(j:σ[b]? = some (OB f l))(m:l.length=k):eQ P orc n al σ (.len x) (I k) σ []:=λe o=>by grind [bm,Im,ff,iK]
def cA{α:Type}(l m:List α):Option (List α):=if l.length+m.length<=1000000 then some (l++m) else none
theorem uC{l m r:List α}(h:cA l m=some r):l.length+m.length<=1000000/\r=l++m:=by
 unfold cA at h
 simp_all
theorem wC{i:Nat}{s x:aP}{b k:Nat}{l m r:List α}(F:∀a,(f a).length=aw)(h:lx al s=some (OS aw b k))(G:σ[b]? = some (OB f l))(hk:l.length=k)(K:lx al x=some d)(hm:Src σ f aw d m)(L:cA l m=some r)
  (v:Nat.ble i 1000=true) (hd:OS aw b r.length=d1) (hs:σ.set b (OB f r)=σ1):eQ P orc n al σ (.append aw i s x) d1 σ1 [b]:=by
 obtain ⟨o,rfl⟩:=uC L;subst hd hs hk;have p:i<=1000:=CY v;have j:FT (l.length+m.length) i=true:=by have:(l.length+m.length) * i<=1000000 * 1000:=yCk o p;simp only[FT,bN,bA];omega
 have y:∀e,Env n al e->bm P orc (.append aw i s x) e σ=(if m.length=0 then some (OS aw b l.length,σ,[b]) else some (.sl b 0 (l.length+m.length) aw (l.length * aw+m.length * aw),σ.set b (.cells ((l.flatMap f).map .c++(m.flatMap f).map .c)),[b])):=by
  intro e u;have:bm P orc (.append aw i s x) e σ=(Im σ d).bind λk=>(WZ σ aw k d).bind λnew=>(od σ b (l.length * aw)).bind λz=>if aw=aw/\0=0/\l.length * aw=l.length * aw/\FT (l.length+k) i then
     if k=0 then some (.sl b 0 l.length aw (l.length * aw),σ,[b])
     else some (.sl b 0 (l.length+k) aw (l.length * aw+k * aw),σ.set b (.cells (z++new)),[b])
    else if aw=aw/\0=0/\(l.length+k) * aw<=l.length * aw/\FT (l.length+k) i then
     if k=0 then some (.sl b 0 l.length aw (l.length * aw),σ,[b])
     else some (.sl b 0 (l.length+k) aw (l.length * aw),σ.set b (.cells (put z (l.length * aw) new)),[b])
    else none:=by
   simp only[bm,ff u h,ff u K];rfl
  rw[this,hm.1,aD,hm.2,aD,iK F G,aD,if_pos ⟨rfl,rfl,rfl,j⟩]
 intro e u;by_cases A:m.length=0
 ·rw[y e u,if_pos A];have:m=[]:=Yy A;subst this;have E:σ.set b (OB f (l++[]))=σ:=by
   rw[DA];apply T_
   grind
  simp_all
 grind
theorem op_copy{x y:aP}{b lo len:Nat}{l m:List α}(i:∀a,(f a).length=aw)(h:lx al x=some (.sl b (0+lo * aw) len aw (l.length * aw)))(p:σ[b]? = some (OB f l))(j:lo+len<=l.length)(r:lx al y=some d)(hm:Wi σ f aw d m)(hs:σ.set b (OB f (cpL l m lo len))=σ1) :
  eQ P orc n al σ (.copy aw x y) (I ((m.take len).length:Int)) σ1 [b]:=λe o=>by
 subst hs;have s:min m.length len=(m.take len).length:=by grind
 have u:m.take (min m.length len)=m.take len:=by simp_all
 have v:0+lo * aw+len * aw<=l.length * aw:=by
  have:=Gv aw j
  grind
 have z:put ((l.flatMap f).map D.c) (0+lo * aw) (((m.take len).flatMap f).map D.c)=((cpL l m lo len).flatMap f).map D.c:=by simp only[put,cpL,<-yCe,<-List.map_drop,wj,eK i,List.flatMap_append,Yb,Rz,VL i];rw[<-MO,TI i]
 simp only[bm,ff o h,ff o r,iK i p,hm.1,Option.bind_eq_bind,Option.bind_some,Option.map_some,hm.2 _ (Nat.min_le_left m.length len)]
 grind
theorem Qw{x i:aP}{b m:Nat}{k:Int}{l:List α}{a:α}(p:∀a,(f a).length=aw)(h:lx al x=some (OS aw b m))(r:σ[b]? = some (OB f l))(j:l.length=m)(s:lx al i=some (I k))(o:aB l k=some a) :
  eQ P orc n al σ (.idx aw none x i) (.ptr b (k.toNat * aw) (m * aw)) σ []:=λe u=>by
 subst j;obtain ⟨v,y,z⟩:=pA o;have A:Cz k l.length=some k.toNat:=by unfold Cz;simp_all
 grind [bm,ui,ff,iK]
theorem YW{l:List α}{k:Int}{a:α}(b:aB l k=some a):l[k.toNat]? = some a:=(pA b).2.2
theorem Gs(j:∀a,(f a).length=aw){l:List α}{i o:Nat}{a:α}{m:Option Nat}(p:l[i]? = some a)(h:uq m ((f a).map .c) o=some d):uq m ((l.flatMap f).map .c) (i * aw+o)=some d:=by
 have r:=flat_at j l i a p;have b:(i+1) * aw<=(l.flatMap f).length:=by grind
 rw[MO,Nat.one_mul] at b;cases m with
 |none=>
  simp only[uq,mE,cE] at h ⊢
  grind
 |some m=>
  simp only[uq] at h ⊢;split at h
  ·rename_i s;simp only[wj,j] at s;rw[if_pos (by grind)]
   grind [List.map_drop,List.map_take,List.drop_take,List.drop_drop]
  simp_all
theorem Zj{m:Option Nat}{x:aP}{b p q o i:Nat}{l:List α}{a:α}(j:∀a,(f a).length=aw)(h:lx al x=some (.ptr b p (q * aw)))(r:p=i * aw+o)(s:σ[b]? = some (OB f l))(u:l.length=q)(v:l[i]? = some a)
  (y:uq m ((f a).map .c) o=some d):eQ P orc n al σ (.load m x) d σ []:=by
 subst u r;exact rU h (iK j s) (Gs j v y)
theorem ZO(j:∀a,(f a).length=aw){xs:List C}:∀(l:List α)(i o:Nat)(a b:α),l[i]? = some a->o+xs.length<=aw->f b=(f a).take o++xs++(f a).drop (o+xs.length) ->
  (l.flatMap f).take (i * aw+o)++xs++(l.flatMap f).drop (i * aw+o+xs.length)=(l.set i b).flatMap f:=by
 intro l;induction l with
 |nil=>simp_all
 |cons x l ih=>
  intro i o a b h m p;cases i with
  |zero=>grind
  |succ i=>
   simp only[List.getElem?_cons_succ] at h;have u:=j x;have r:(i+1) * aw+o=(f x).length+(i * aw+o):=by grind
   simp only[yBz,List.set_cons_succ];rw[<-ih i o a b h m p,r,List.take_append,yBD (by omega)];have s:(f x).length+(i * aw+o)+xs.length=(f x).length+(i * aw+o+xs.length):=by omega
   rw[s,xAe,yBo (by omega),xAb,yBA,yBA];simp
theorem Vy{m:Nat}{x y:aP}{b p q o i:Nat}{l:List α}{a j:α}{xs:List C}(v:∀a,(f a).length=aw)(h:lx al x=some (.ptr b p (q * aw)))(E:p=i * aw+o)(F:σ[b]? = some (OB f l))(G:l.length=q)(z:l[i]? = some a)
  (K:lx al y=some d) (L:d.cells? = some (xs.map .c)) (hm:xs.length=m) (N:Nat.ble (o+m) aw=true) (O:f j=(f a).take o++xs++(f a).drop (o+xs.length)) {A:List α} (r:l.set i j=A) (hs:σ.set b (OB f A)=σ1) :
  eQ P orc n al σ (.store m x y) (.aS []) σ1 [b]:=by
 subst G E r hs hm;have s:o+xs.length<=aw:=CY N;have R:=(gC.1 z).1;have u:(i+1) * aw<=l.length * aw:=Gv _ R;rw[MO,Nat.one_mul] at u;refine DL h (iK v F) K L ⟨by simp,by omega⟩ ?_;congr 2;rw[<-ZO v l i o a j z s O];simp[put]
theorem jO{len:Nat}{z cs:List D}{ps:List (Nat×Nat×aP)}{l:List α}(h:Cd al (uf len z) ps=some cs)(b:cs=(l.flatMap f).map .c)(i:l.length=len)(j:∀a,(f a).length=aw)(m:OS σ.length aw len=OS σ.length aw len)(hd:OS aw σ.length len=d1)(hs:σ++[OB f l]=σ1) :
  eQ P orc n al σ (.js aw len z ps) d1 σ1 []:=by
 grind [HI,eK]
theorem Us{z:α}:∀(k:Nat),uf k ((f z).map .c)=((List.replicate k z).flatMap f).map .c:=by
 intro k;induction k with
 |zero=>rfl
 |succ k ih=>grind [uf]
def Cs{α:Type}(z:α)(l c:Int):Option (List α):=if 0<=l/\l<=c/\c<=1000000 then some (List.replicate l.toNat z) else none
def mk0?{α:Type}(c:Int):Option (List α):=if 0<=c/\c<=1000000 then some [] else none
theorem op_mk0{a:Nat}{zs:List D}{x y:aP}{c:Int}{l:List α}(m:lx al x=some (I 0))(o:lx al y=some (I c))(hm:mk0? c=some l)(i:Nat.ble a 1000=true)
  (hd:OS aw σ.length l.length=d1) (hs:σ++[OB f l]=σ1):eQ P orc n al σ (.mk aw a zs x y) d1 σ1 []:=λe j=>by
 subst hd hs;unfold mk0? at hm;split at hm
 ·rename_i r;simp only[au] at hm;subst hm;have h:a<=1000:=CY i;have b:FT c.toNat a=true:=by
   have p:c.toNat<=1000000:=by omega
   have:c.toNat * a<=1000000 * 1000:=yCk p h;simp only[FT,bN,bA];omega
  simp only[bm,ff j m,ff j o,ui,Option.bind_eq_bind,Option.bind_some];rw[if_pos ⟨by omega,by omega,b⟩];simp[OS,OB,uf]
 simp_all
theorem op_mk{a:Nat}{zs:List D}{x y:aP}{k c:Int}{z:α}{l:List α}(o:lx al x=some (I k))(p:lx al y=some (I c))(r:zs=(f z).map .c)(hm:Cs z k c=some l)(i:Nat.ble a 1000=true)
  (hd:OS aw σ.length l.length=d1) (hs:σ++[OB f l]=σ1):eQ P orc n al σ (.mk aw a zs x y) d1 σ1 []:=λe j=>by
 subst hd hs r;unfold Cs at hm;split at hm
 ·rename_i m;simp only[au] at hm;subst hm;have h:a<=1000:=CY i;have b:FT c.toNat a=true:=by
   have s:c.toNat<=1000000:=by omega
   have:c.toNat * a<=1000000 * 1000:=yCk s h;simp only[FT,bN,bA];omega
  simp only[bm,ff j o,ff j p,ui,Option.bind_eq_bind,Option.bind_some];rw[if_pos ⟨m.1,m.2.1,b⟩,Us];simp[OS]
 simp_all
def slice?{α:Type}(l:List α)(lo a:Int):Option (List α):=if 0<=lo/\lo<=a/\a<=l.length then some ((l.take a.toNat).drop lo.toNat) else none
theorem op_slc{x:aP}{lo p:Option aP}{nn:Bool}{l r:List α}{i j:Int}(z:∀a,(f a).length=aw)(h:lx al x=some (.c (.cJ nn (l.map f))))(b:(match lo with | none=>some (I 0) | some o=>lx al o)=some (I i))
  (m:(match p with | none=>some (I l.length) | some o=>lx al o)=some (I j)) (s:slice? l i j=some r):eQ P orc n al σ (.Wf aw x lo p) (.c (.cJ nn (r.map f))) σ []:=λe u=>by
 unfold slice? at s;split at s
 ·rename_i A;simp only[au] at s;subst s;have v:oS e (l.map f).length (l.map f).length p=some j.toNat:=by
   cases p with
   |none=>simp only[au,I,D.c.injEq,C.lit.injEq,Value.int.injEq,true_and] at m;grind [oS]
   |some o=>
    simp only at m;simp only[oS,ff u m,ui,Option.bind_some,Sn]
    grind
  have y:oS e 0 j.toNat lo=some i.toNat:=by
   cases lo with
   |none=>simp only[au,I,D.c.injEq,C.lit.injEq,Value.int.injEq,true_and] at b;grind [oS]
   |some o=>
    simp only at b;simp only[oS,ff u b,ui,Option.bind_some,Sn]
    grind
  simp only[bm,ff u h,v,y,Option.bind_eq_bind,Option.bind_some]
  simp_all
 simp_all
end
end Go.Abs
namespace Go.Abs
variable[Gl]
end Go.Abs
namespace Go.Abs
variable[Gl]
theorem Wz{m:Nat}:∀(l:List C),D.low.cV m (l.map D.c)=true:=by
 intro l;induction l with
 |nil=>rfl
 |cons x l ih=>grind [D.low.cV,D.low]
end Go.Abs
end
section
namespace Go.Abs
variable[Gl]
def cn(P:Program)(orc:gz)(k:Nat)(os:List aH)(n:Nat)(al:AL)(σ:ar)(Q:AL->ar->List d_->Prop):Prop:=
 ∃al' σ' is,JW P orc k os n al σ al' σ' is/\Q al' σ' is
section
variable{P:Program}{orc:gz}{n k:Nat}{al al1:AL}{σ σ1:ar}{w:List Nat}{d:D}{os:List aH}{t:Nat}{ao:lm}{g:Option (Nat×Bool)}{Q:AL->ar->List d_->Prop}
theorem cn.nil(h:Q al σ []):cn P orc k [] n al σ Q:=⟨al,σ,[],JW.nil,h⟩
theorem cn.op(h:eQ P (orc (some t)) n al σ ao d σ1 w)(i:Gd al g true)(hs:(Nat.blt t n&&GN al ao&&(k == 0 || jt σ σ1 w))=true)
  (r:cn P orc (k-1) os n ((t,d)::al) σ1 λal' σ' is=>Q al' σ' (Fk ⟨some t,ao,g⟩ (cat ao) (za al ao) w σ.length σ1.length::is)):cn P orc k (⟨some t,ao,g⟩::os) n al σ Q:=by
 obtain ⟨al',σ',is,j,o⟩:=r;exact ⟨al',σ',_,JW.op h i hs j,o⟩
theorem cn.eff(h:eQ P (orc none) n al σ ao d σ1 w)(i:Gd al g true)(hs:(GN al ao&&(k == 0 || jt σ σ1 w))=true)
  (r:cn P orc (k-1) os n al σ1 λal' σ' is=>Q al' σ' (Fk ⟨none,ao,g⟩ (cat ao) (za al ao) w σ.length σ1.length::is)):cn P orc k (⟨none,ao,g⟩::os) n al σ Q:=by
 obtain ⟨al',σ',is,j,o⟩:=r;exact ⟨al',σ',_,JW.eff h i hs j,o⟩
theorem cn.no(i:Gd al g false)(hs:(Nat.blt t n&&GN al ao)=true)
  (r:cn P orc (k-1) os n ((t,.aS [])::al) σ λal' σ' is=>Q al' σ' (Fk ⟨some t,ao,g⟩ 0 (za al ao) [] σ.length σ.length::is)):cn P orc k (⟨some t,ao,g⟩::os) n al σ Q:=by
 obtain ⟨al',σ',is,j,o⟩:=r;exact ⟨al',σ',_,JW.no i hs j,o⟩
theorem Sem.qt{Q:mS->AL->ar->Prop}(i:P.follows .mixedOrders=true)(O:ou P orc)(h:cn P orc 0 os n al σ λal' σ' _=>Q .normal al' σ'):Sem P (.Dc os) n al σ Q:=by
 obtain ⟨al',σ',is,j,o⟩:=h
 grind [Sem.Dc]
theorem Sem.drwQ{Q:mS->AL->ar->Prop}{i:List Nat}{p:Nat}(j:P.follows .mixedOrders=true)(O:ou P orc)
  (h:cn P orc k os n al σ λal' σ' is=>(e_ i is&&np i p k os.length&&Nat.ble p k)=true/\Q .normal al' σ'):Sem P (.GZ os i k p) n al σ Q:=by
 obtain ⟨al',σ',is,o,s,u⟩:=h
 grind [Sem.GZ]
theorem Sem.drwNQ{Q:mS->AL->ar->Prop}{i:List Nat}{p:Nat}(j:P.follows .mixedOrders=true)(O:ou P orc)
  (h:cn P orc os.length os n al σ λal' σ' is=>(e_ i is&&np i p os.length os.length&&Nat.ble p os.length)=true/\Q .normal al' σ'):Sem P (.GZ os i k p) n al σ Q:=by
 obtain ⟨al',σ',is,o,s,u⟩:=h
 grind [Sem.drwN]
def shut(n:Nat)(al:AL)(o:aH):Option Nat:=
 match o.g,o.dst with
 |some (t, want), some s=>
  match lk t al with
  |some (.c (.lit (.bool b)))=>if (b != want)&&(Nat.blt s n&&GN al o.op) then some s else none
  |some (.aS [])=>if Nat.blt s n&&GN al o.op then some s else none
  |_=>none
 |_,_=>none
end
end Go.Abs
end
section
namespace Go.Abs
variable[Gl]
def cN{α:Type}:List (Int×α)->Int->Option α
 |[],_=>none
 |(b,a)::l,k=>if b=k then some a else cN l k
def jZ{α:Type}:List (Int×α)->Int->α->List (Int×α)
 |[],k,a=>[(k,a)]
 |(b,h)::l,k,a=>if b=k then (b,a)::l else (b,h)::jZ l k a
def Gu{α:Type}:List (Int×α)->Int->Nat
 |[],_=>0
 |(a,_)::l,k=>if a=k then 0 else Gu l k+1
def Af{α:Type}(g:α->D):Nat->List (Int×α)->List (Value×D×Nat)
 |_,[]=>[]
 |i,(k,a)::l=>(.int .i64 k,g a,i)::Af g (i+1) l
abbrev MB{α:Type}(g:α->D)(l:List (Int×α)):Ob:=.map (Af g 0 l) l.length
def oel{α b:Type}(o:Option α)(n:b)(s:α->b):b:=match o with | none=>n | some a=>s a
section
variable{α:Type}
theorem zA{m:IntKind}{g:α->D}{k:Int}:∀(l:List (Int×α))(i j:Nat),sM (.int m) (.int .i64 k) (Af g i l) j=some ((cN l k).map λa=>(j+Gu l k,g a)):=by
 intro l;induction l with
 |nil=>intro i j;rfl
 |cons x l ih=>
  intro i j;obtain ⟨b,a⟩:=x;simp only[Af,sM,Instr.sameNow,if_true];by_cases h:b=k
  ·grind [cN,Gu]
  ·have o:(k == b)=false:=by grind
   simp only[o,ih,cN,Gu,if_neg h]
   grind
theorem TX{g:α->D}{k:Int}{a:α}:∀(l:List (Int×α))(i:Nat)(b:α),cN l k=some b->(Af g i l).modify (Gu l k) (λp=>(p.1,g a,p.2.2))=Af g i (jZ l k a)/\(jZ l k a).length=l.length:=by
 intro l;induction l with
 |nil=>grind [cN]
 |cons x l ih=>
  intro i b h;obtain ⟨j,m⟩:=x;by_cases hk:j=k
  ·grind [Gu,jZ,Af]
  ·simp only[cN,if_neg hk] at h;obtain ⟨o,r⟩:=ih (i+1) b h
   grind [Gu,jZ,Af]
theorem Ud{g:α->D}{k:Int}{a:α}:∀(l:List (Int×α))(i:Nat),cN l k=none->Af g i l++[(.int .i64 k,g a,i+l.length)]=Af g i (jZ l k a)/\(jZ l k a).length=l.length+1:=by
 intro l;induction l with
 |nil=>grind [jZ,Af]
 |cons x l ih=>
  intro i h;obtain ⟨b,j⟩:=x;by_cases hk:b=k
  ·grind [cN]
  ·simp only[cN,if_neg hk] at h;obtain ⟨m,o⟩:=ih (i+1) h;refine ⟨?_,by grind [jZ]⟩;simp only[jZ,if_neg hk,Af,List.cons_append,List.length_cons]
   grind
end
section
variable{P:Program}{orc:wK}{n:Nat}{al:AL}{σ σ1:ar}{d d1 d2:D}{α:Type}
theorem Xk{g:α->D}(hd:D.mp σ.length=d)(hs:σ++[MB g ([]:List (Int×α))]=σ1):eQ P orc n al σ .vq d σ1 []:=λe a=>by subst hd hs;rfl
theorem op_look{i:IntKind}{zero:D}{m k:aP}{b:Nat}{g:α->D}{l:List (Int×α)}{x:Int}{ok:Bool}{a:α}(hm:lx al m=some (.mp b))(j:σ[b]? = some (MB g l))(hk:lx al k=some (I x))(o:cN l x=some a)(hd:(if ok then .aS [g a,B true] else g a)=d) :
  eQ P orc n al σ (.lookup (.int i) zero m k ok) d σ []:=λe h=>by
 subst hd;simp only[bm,ff h hm,ff h hk,gN,Ip,j,Option.bind_eq_bind,Option.bind_some,zA,o,Option.map_some,OM]
theorem Zv{h:IntKind}{zero:D}{m k:aP}{b:Nat}{g:α->D}{l:List (Int×α)}{x:Int}{ok:Bool}(hm:lx al m=some (.mp b))(i:σ[b]? = some (MB g l))(hk:lx al k=some (I x))(j:cN l x=none)(hd:(if ok then .aS [zero,B false] else zero)=d) :
  eQ P orc n al σ (.lookup (.int h) zero m k ok) d σ []:=λe a=>by
 subst hd;simp only[bm,ff a hm,ff a hk,gN,Ip,i,Option.bind_eq_bind,Option.bind_some,zA,j,Option.map_none,OM]
theorem op_upd{o:IntKind}{m k x:aP}{b:Nat}{g:α->D}{l:List (Int×α)}{i:Int}{a:α}(hm:lx al m=some (.mp b))(p:σ[b]? = some (MB g l))(hk:lx al k=some (I i))(r:lx al x=some (g a))(hs:σ.set b (MB g (jZ l i a))=σ1) :
  eQ P orc n al σ (.tH (.int o) m k x) (.aS []) σ1 [b]:=λe h=>by
 subst hs;simp only[bm,ff h hm,ff h hk,gN,p,Option.bind_eq_bind,Option.bind_some,zA,ff h r];cases j:cN l i with
 |some s=>
  obtain ⟨u,v⟩:=TX (g:=g) (a:=a) l 0 s j
  grind
 |none=>
  obtain ⟨u,v⟩:=Ud (g:=g) (a:=a) l 0 j
  grind
def Ex{α:Type}:List (Int×α)->Int->List (Int×α)
 |[],_=>[]
 |(b,a)::l,k=>if b=k then l else (b,a)::Ex l k
theorem HO{α:Type}{k:Int}:∀(l:List (Int×α)),cN l k=none->Ex l k=l
 |[],_=>rfl
 |(b, a) :: l, h => by
  by_cases hk:b=k
  ·grind [cN]
  ·simp only[cN,if_neg hk] at h;simp only[Ex,if_neg hk,HO l h]
theorem No{α:Type}{g:α->D}:∀(l:List (Int×α))(i j:Nat),ol j (Af g i l)=Af g j l
 |[],_,_=>rfl
 |(k,a)::l,i,j=>by simp only[Af,ol,No l]
theorem HU{α:Type}{g:α->D}{k:Int}:∀(l:List (Int×α))(i j:Nat)(b:α),cN l k=some b->ol j ((Af g i l).eraseIdx (Gu l k))=Af g j (Ex l k)/\(Ex l k).length=l.length-1
 |[],_,_,_,h=>by grind [cN]
 |(m, a) :: l, i, j, b, h => by
  by_cases hk:m=k
  ·grind [Gu,Ex,Af,No]
  ·simp only[cN,if_neg hk] at h;obtain ⟨o,p⟩:=HU l (i+1) (j+1) b h;have r:0<l.length:=by
    grind [cN]
   simp only[Gu,Ex,hk,Af,cw,List.eraseIdx_cons_succ,ol,List.length_cons];exact ⟨by rw[o],by omega⟩
theorem op_del{h:IntKind}{m k:aP}{b:Nat}{g:α->D}{l:List (Int×α)}{i:Int}(hm:lx al m=some (.mp b))(j:σ[b]? = some (MB g l))(hk:lx al k=some (I i))(hs:σ.set b (MB g (Ex l i))=σ1) :
  eQ P orc n al σ (.del (.int h) m k) (.aS []) σ1 [b]:=λe a=>by
 subst hs;simp only[bm,ff a hm,ff a hk,gN,j,Option.bind_eq_bind,Option.bind_some,zA];cases o:cN l i with
 |some p=>
  obtain ⟨r,s⟩:=HU (g:=g) l 0 0 p o
  grind
 |none=>grind [HO]
theorem SV{f:Fn}{first cap:List aP}{a b:List D}(h:VX al first=some a)(i:VX al cap=some b):eQ P orc n al σ (.EL f first cap) (.fn f a b) σ []:=λe j=>by grind [bm,JR]
theorem Lh{g:FuncId}{f:aP}{args:List aP}{ds a b:List D}{w:List Nat}(h:lx al f=some (.fn (.func g) a b))(i:VX al args=some ds)(j:orc g (a++ds++b) σ=some (d,σ1,w)):eQ P orc n al σ (.call f args) d σ1 w:=λe l=>by grind [bm,ff,JR]
theorem Yw{g:FuncId}{f:aP}{args:List aP}{ds:List D}{a b:List C}{w:List Nat}(h:lx al f=some (.c (.fn (.func g) a b)))(i:VX al args=some ds)(j:orc g (a.map .c++ds++b.map .c) σ=some (d,σ1,w)):eQ P orc n al σ (.call f args) d σ1 w:=λe l=>by grind [bm,ff,JR]
theorem op_idxS{aw j b off len sz:Nat}{x i:aP}{k:Int}{cs:List D}(h:lx al x=some (.sl b off len aw sz))(l:lx al i=some (I k))(m:od σ b sz=some cs)(hk:Cz k len=some j)(hd:D.ptr b (off+j * aw) sz=d) :
  eQ P orc n al σ (.idx aw none x i) d σ []:=λe a=>by
 subst hd;simp only[bm,ff a h,ff a l,ui,Option.bind_eq_bind,Option.bind_some,m,hk,if_true]
theorem op_lenS{b off len aw sz:Nat}{x:aP}{cs:List D}(h:lx al x=some (.sl b off len aw sz))(a:od σ b sz=some cs)(hd:I len=d):eQ P orc n al σ (.len x) d σ []:=λe i=>by grind [bm,Im,ff]
theorem VG{x:aP}{cs:List C}{off:Nat}(h:lx al x=some (.c (.cK cs off))):eQ P orc n al σ (.mT x) (.c (.cK cs off)) σ []:=λe a=>by grind [bm,ff]
theorem UZ{x:aP}{f:FuncId}{a b:List C}(h:lx al x=some (.c (.fn (.func f) a b))):eQ P orc n al σ (.mT x) (.c (.fn (.func f) a b)) σ []:=λe i=>by grind [bm,ff]
theorem Ib{x:aP}{f:FuncId}{a b:List D}(h:lx al x=some (.fn (.func f) a b)):eQ P orc n al σ (.mT x) (.fn (.func f) a b) σ []:=λe i=>by grind [bm,ff]
end
section
variable{P:Program}{orc:wK}{n:Nat}{al:AL}{σ σ1:ar}{d d1 d2:D}{α:Type}{f:α->List C}{aw:Nat}
theorem DZ{a:Nat}{s x:aP}{m:List α}(h:lx al s=some (.c (.lit (.slice none 0 0))))(p:lx al x=some d)(hm:Src σ f aw d m)(r:Nat.ble m.length 1000000=true)
  (l:Nat.ble a 1000=true) (hd:OS aw σ.length m.length=d1) (hs:σ++[OB f m]=σ1):eQ P orc n al σ (.append aw a s x) d1 σ1 []:=by
 subst hd hs;have i:a<=1000:=CY l;have j:m.length<=1000000:=CY r;have b:FT m.length a=true:=by have:m.length * a<=1000000 * 1000:=yCk j i;simp only[FT,bN,bA];omega
 intro e o;have:bm P orc (.append aw a s x) e σ=(Im σ d).bind λk=>(WZ σ aw k d).bind λnew=>if FT k a then some (.sl σ.length 0 k aw (k * aw),σ++[.cells new],[]) else none:=by simp only[bm,ff o h,ff o p];rfl
 rw[this,hm.1,aD,hm.2,aD,if_pos b]
end
def QL:Nat->C->C
 |n+1,.cJ _ es=>.cJ false (es.map λe=>e.map (QL n))
 |_+1,.lit (.slice none 0 0)=>.cJ false []
 |_,x=>x
theorem RP{Fz:Nat->Prop}{w:World}:∀(n:Nat){x:C}{v:Value},VC Fz w x v->VC Fz w (QL n x) v:=by
 intro n;induction n with
 |zero=>intro x v h;exact h
 |succ n ih=>
  intro x v h;by_cases z:x=.lit (.slice none 0 0)
  ·subst z;cases h;exact .cJ (es:=[]) 0 none 0 (by simp) (λ_=>rfl) (λ_ _=>undef) (by simp) (by simp) (by simp) (by simp)
  cases h with
  | @cJ nn es aw a cap A E c F u y l=>
   have h:=VC.cJ (Fz:=Fz) (w:=w) (nn:=false) (es:=es.map λe=>e.map (QL n)) aw a cap (by simp) E c (λe O=>?_) (by simp_all) (λi j e d m p=>?_) (λi j e d m p=>?_)
   ·rw[wj] at h;exact h
   ·grind
   ·grind
   grind
  |lit v=>
   have:QL (n+1) (.lit v)=.lit v:=by
    unfold QL
    simp_all
   rw[this];exact .lit v
  |cK blk o c r y l=>exact .cK blk o c r y l
  |fn G K m p l L=>exact .fn G K m p l L
  |Ng blk b s r N hs hk l=>exact .Ng blk b s r N hs hk l
  |V_ g=>exact .V_ g
def nrmY:D->D
 |.c x=>.c (QL 5 x)
 |.agg ds=>.agg (ds.map λd=>match d with | .c x=>.c (QL 5 x) | d=>d)
 |d=>d
theorem Fe.of_nrmY{d j:D}(h:nrmY d=j):Fe d j:=by
 subst h;intro σ M Fz w v h;unfold nrmY;split
 ·cases h with | c h=>exact .c (RP 5 h)
 ·cases h with
  |agg o z s=>
   refine .agg o (by simp_all) (λi d v a b=>?_);simp only[mE,cE] at a;obtain ⟨u,x,rfl⟩:=a;have:=s i u v x b;split
   ·cases this with | c h=>exact .c (RP 5 h)
   omega
 omega
def ObFz(S F:D):Ob->Ob->Prop
 |.map es c,.map b l=>c=l/\b.length=es.length/\∀(i:Nat) k a n,b[i]? = some (k,a,n)->∃d,es[i]? = some (k,d,n)/\(a=d∨d=S/\a=F)
 |.cells j,.cells h=>h.length=j.length/\∀(i:Nat) a,h[i]? = some a->∃d,j[i]? = some d/\(a=d∨d=S/\a=F)
 |_,_=>False
theorem ObFz.sz{S F:D}{ob ob':Ob}(h:ObFz S F ob ob'):ob'.sz=ob.sz:=by
 cases ob <;> cases ob' <;> simp only[ObFz] at h
 ·exact h.1
 ·rfl
section
variable{P:Program}{σ σ0 σ1:ar}{n:Nat}{al:AL}{ac:aR}{Q:mS->AL->ar->Prop}{α:Type}{f:α->List C}{aw:Nat}
end
end Go.Abs
end
section
namespace Go.Fl
open Ieee
theorem log2_lt{n k:Nat}(a:n≠0)(h:n<2 ^ k):n.log2<k:=(Nat.log2_lt a).2 h
theorem SY{n:Nat}(a:n≠0):2 ^ n.log2<=n:=Nat.log2_self_le a
theorem Su(n:Nat):n<2 ^ (n.log2+1):=Nat.lt_log2_self
theorem lp:double.leastPlace=-1074:=by decide
def can(s:Bool)(n:Nat):Datum:=if n=0 then .number s 0 (-1074) else .number s (n * 2 ^ (52-n.log2)) ((n.log2:Int)-52)
theorem Ek(a:Toward)(s:Bool)(n:Nat):a.cut s n 0=n:=by
 unfold Toward.cut;have h:1 <<< min 0 (n.log2+2)=1:=by simp_all
 have b:n % 1=0:=Nat.mod_one n;simp only[h,Nat.div_one,b];cases a <;> simp
theorem Uv{s:Bool}{n d m:Nat}(hd:d<=n.log2+2)(h:n=m * 2 ^ d):Toward.even.cut s n d=m:=by
 unfold Toward.cut;have a:1 <<< min d (n.log2+2)=2 ^ d:=by rw[Nat.min_eq_left hd,Nat.one_shiftLeft]
 have b:0<2 ^ d:=Nat.pow_pos (by decide)
 simp_all
theorem Ak{m d:Nat}(h:m≠0):(m * 2 ^ d).log2=m.log2+d:=by
 have b:=SY h;have i:=Su m;have a:m * 2 ^ d≠0:=by grind [Nat.mul_ne_zero]
 apply Nat.le_antisymm
 ·have:m * 2 ^ d<2 ^ (m.log2+d+1):=by
   rw[show m.log2+d+1=(m.log2+1)+d by omega,yCg];exact yBR i (Nat.pow_pos (by decide))
  have:=log2_lt a this;omega
 ·have:2 ^ (m.log2+d)<=m * 2 ^ d:=by
   rw[yCg];exact Gv _ b
  exact (Nat.le_log2 a).2 this
theorem Vx{s:Bool}{n k:Nat}(a:n≠0)(h:n<2 ^ 53):double.nearest s (n * 2 ^ k) (-(k:Int))=double.nearest s n 0:=by
 have o:=log2_lt a h;have e:(n * 2 ^ k).log2=n.log2+k:=Ak a;have j:n * 2 ^ k≠0:=Nat.mul_ne_zero a (by simp_all);have fb:double.fractionBits=52:=rfl;have l:max (-(k:Int)+((n * 2 ^ k).log2:Nat)-((52:Nat):Int)) (-1074)=(n.log2:Int)-52:=by omega
 have m:max ((0:Int)+(n.log2:Nat)-((52:Nat):Int)) (-1074)=(n.log2:Int)-52:=by omega
 have p:Toward.even.cut s ((n * 2 ^ k) <<< (-(k:Int)-((n.log2:Int)-52)).toNat) (((n.log2:Int)-52) - -(k:Int)).toNat=n * 2 ^ (52-n.log2):=by
  by_cases hk:k+n.log2<=52
  ·have b:(-(k:Int)-((n.log2:Int)-52)).toNat=52-n.log2-k:=by omega
   have i:(((n.log2:Int)-52) - -(k:Int)).toNat=0:=by omega
   rw[b,i,Ek,Nat.shiftLeft_eq,Nat.mul_assoc,<-yCg]
   grind
  ·have b:(-(k:Int)-((n.log2:Int)-52)).toNat=0:=by omega
   have i:(((n.log2:Int)-52) - -(k:Int)).toNat=k+n.log2-52:=by omega
   rw[b,i,Nat.shiftLeft_zero];refine Uv (by omega) ?_;rw[Nat.mul_assoc,<-yCg]
   grind
 have r:Toward.even.cut s (n <<< ((0:Int)-((n.log2:Int)-52)).toNat) (((n.log2:Int)-52)-0).toNat=n * 2 ^ (52-n.log2):=by
  have b:((0:Int)-((n.log2:Int)-52)).toNat=52-n.log2:=by omega
  have i:(((n.log2:Int)-52)-0).toNat=0:=by omega
  grind [Ek,Nat.shiftLeft_eq]
 unfold Format.nearest;rw[if_neg j,if_neg a]
 grind [lp]
theorem UB{s:Bool}{n:Nat}(h:n<2 ^ 53):double.read (double.nearest s n 0)=can s n:=by
 by_cases b:n=0
 ·subst b;cases s <;> rfl
 have p:=log2_lt b h;have r:=SY b;have u:=Su n;have fb:double.fractionBits=52:=rfl;have a:max ((0:Int)+(n.log2:Nat)-((52:Nat):Int)) (-1074)=(n.log2:Int)-52:=by omega
 have i:Toward.even.cut s (n <<< ((0:Int)-((n.log2:Int)-52)).toNat) (((n.log2:Int)-52)-0).toNat=n * 2 ^ (52-n.log2):=by
  have G:((0:Int)-((n.log2:Int)-52)).toNat=52-n.log2:=by omega
  have N:(((n.log2:Int)-52)-0).toNat=0:=by omega
  grind [Ek,Nat.shiftLeft_eq]
 have v:4503599627370496<=n * 2 ^ (52-n.log2):=by have:2 ^ n.log2 * 2 ^ (52-n.log2)<=n * 2 ^ (52-n.log2):=Gv _ r;rw[<-yCg,show n.log2+(52-n.log2)=52 by omega] at this;omega
 have x:n * 2 ^ (52-n.log2)<9007199254740992:=by have:n * 2 ^ (52-n.log2)<2 ^ (n.log2+1) * 2 ^ (52-n.log2):=yBR u (Nat.pow_pos (by decide));rw[<-yCg,show n.log2+1+(52-n.log2)=53 by omega] at this;omega
 have m:double.infRung=9218868437227405312:=by decide
 have y:double.signWeight=9223372036854775808:=by decide
 have o:double.binade=4503599627370496:=by decide
 unfold can;rw[if_neg b];generalize n * 2 ^ (52-n.log2)=K at i v x ⊢;generalize z:n.log2=L at i a p ⊢;have A:double.nearest s n 0=double.word s ((L+1022) * 4503599627370496+K):=by
  unfold Format.nearest;rw[if_neg b];simp only[fb,lp,z,a,i,m,o];have E:(((L:Int)-52) - -1074).toNat=L+1022:=by omega
  rw[E,Nat.min_eq_left (by omega)]
 rw[A];generalize O:(L+1022) * 4503599627370496+K=R;have F:R<9223372036854775808:=by omega
 have j:(double.word s R / double.signWeight % 2 == 1)=s:=by
  unfold Format.word;rw[y];cases s
  ·grind
  ·rw[if_pos rfl,Nat.add_div_left _ (by decide),Nat.div_eq_of_lt F];rfl
 have l:double.word s R % double.signWeight=R:=by
  unfold Format.word
  grind
 unfold Format.read;simp only[j,l,o,m,lp]
 grind
theorem Zq(s:Bool)(k:Nat):Datum.number s (0 * 2 ^ k) (-(k:Int))=Datum.number s 0 (-(k:Int)):=by simp_all
theorem nD(s:Bool){n:Nat}(h:n<2 ^ 53):∃k:Nat,can s n=.number s (n * 2 ^ k) (-(k:Int)):=by
 unfold can;split
 ·rename_i e;subst e;exact ⟨1074,(Zq s 1074).symm⟩
 ·rename_i a;have:=log2_lt a h
  grind
theorem Ri(s:Bool){n:Nat}(k:Nat)(h:n<2 ^ 53):double.nearest s (n * 2 ^ k) (-(k:Int))=double.nearest s n 0:=by
 by_cases a:n=0
 ·subst a;rw[yCa];unfold Format.nearest
  simp_all
 grind [Vx]
def fl(n:Int):Nat:=FloatKind.f64.nearest n
theorem Xn(n:Int):fl n=double.nearest (decide (n<0)) n.natAbs 0:=rfl
theorem rV{n:Int}(h:n.natAbs<2 ^ 53):double.read (fl n)=can (decide (n<0)) n.natAbs:=UB h
def sg(s:Bool)(n:Nat):Int:=if s then -(n:Int) else n
theorem He(s:Bool)(n i m:Nat)(h:i<=m):signed s (n * 2 ^ i) (m-i)=sg s n * (2 ^ m:Nat):=by
 have e:(n * 2 ^ i) <<< (m-i)=n * 2 ^ m:=by rw[Nat.shiftLeft_eq,Nat.mul_assoc,<-yCg];simp_all
 unfold signed sg;rw[e]
 grind
theorem Wo(s t:Bool)(a b i j:Nat):Datum.sum (.number s (a * 2 ^ i) (-(i:Int))) (.number t (b * 2 ^ j) (-(j:Int))) =
  some (.number (if sg s a+sg t b=0 then s&&t else decide (sg s a+sg t b<0)) ((sg s a+sg t b).natAbs * 2 ^ (max i j)) (-((max i j:Nat):Int))):=by
 unfold Datum.sum;have p:min (-(i:Int)) (-(j:Int))=-((max i j:Nat):Int):=by omega
 have r:(-(i:Int) - -((max i j:Nat):Int)).toNat=max i j-i:=by omega
 have u:(-(j:Int) - -((max i j:Nat):Int)).toNat=max i j-j:=by omega
 simp only[p,r,u,He s a i (max i j) (by omega),He t b j (max i j) (by omega),<-Int.add_mul];have o:(0:Int)<((2 ^ max i j:Nat):Int):=by have:0<2 ^ max i j:=Nat.pow_pos (by decide);omega
 have z:((sg s a+sg t b) * ((2 ^ max i j:Nat):Int)=0)↔sg s a+sg t b=0:=by grind [Int.mul_eq_zero]
 have l:((sg s a+sg t b) * ((2 ^ max i j:Nat):Int)<0)↔sg s a+sg t b<0:=by
  constructor
  ·intro h;rcases yBS (sg s a+sg t b) 0 with m | m
   ·exact m
   ·have:=yBO m (Int.le_of_lt o);omega
  ·intro h;exact Int.mul_neg_of_neg_of_pos h o
 grind
theorem OU(n:Int):sg (decide (n<0)) n.natAbs=n:=by
 unfold sg
 grind
theorem fl_add{a b:Int}(p:a.natAbs<2 ^ 52)(r:b.natAbs<2 ^ 52):double.add (fl a) (fl b)=some (fl (a+b)):=by
 have h:a.natAbs<2 ^ 53:=by omega
 have l:b.natAbs<2 ^ 53:=by omega
 obtain ⟨i,m⟩:=nD (decide (a<0)) h;obtain ⟨j,o⟩:=nD (decide (b<0)) l;unfold Format.add;rw[rV h,rV l,m,o,Wo,OU,OU];simp only[Option.map_some,Format.write];rw[Ri _ _ (by omega),Xn]
 grind
theorem fl_sub{a b:Int}(p:a.natAbs<2 ^ 52)(r:b.natAbs<2 ^ 52):double.sub (fl a) (fl b)=some (fl (a-b)):=by
 have h:a.natAbs<2 ^ 53:=by omega
 have l:b.natAbs<2 ^ 53:=by omega
 obtain ⟨i,m⟩:=nD (decide (a<0)) h;obtain ⟨j,o⟩:=nD (decide (b<0)) l;have hs:sg (!decide (b<0)) b.natAbs=-b:=by
  unfold sg
  grind
 unfold Format.sub;rw[rV h,rV l,m,o];simp only[Datum.opposite];rw[Wo,OU,hs];simp only[Option.map_some,Format.write];rw[Ri _ _ (by omega),Xn,<-Int.sub_eq_add_neg]
 grind
theorem fl_mul{a b:Int}(v:0<=a)(x:0<=b)(l:a.natAbs<2 ^ 53)(o:b.natAbs<2 ^ 53)(h:(a * b).natAbs<2 ^ 53):double.mul (fl a) (fl b)=some (fl (a * b)):=by
 obtain ⟨i,p⟩:=nD (decide (a<0)) l;obtain ⟨j,r⟩:=nD (decide (b<0)) o;have s:decide (a<0)=false:=by simp_all
 have u:decide (b<0)=false:=by simp_all
 have y:decide (a * b<0)=false:=by grind [Int.mul_nonneg]
 unfold Format.mul;rw[rV l,rV o,p,r];simp only[Datum.product,s,u,Option.map_some,Format.write];have m:a.natAbs * 2 ^ i * (b.natAbs * 2 ^ j)=(a * b).natAbs * 2 ^ (i+j):=by grind
 grind [Ri,Xn]
theorem fl_int{n:Int}(h:n.natAbs<2 ^ 53):(double.read (fl n)).toInt .zero=some n:=by
 obtain ⟨k,hk⟩:=nD (decide (n<0)) h;rw[rV h,hk];unfold Datum.toInt Datum.integral;have a:(-(k:Int)).toNat=0:=by omega
 have b:(- -(k:Int)).toNat=k:=by omega
 have c:Toward.zero.cut (decide (n<0)) (n.natAbs * 2 ^ k) k=n.natAbs:=by
  by_cases i:n.natAbs=0
  ·rw[i,yCa];unfold Toward.cut;simp
  ·unfold Toward.cut
   grind [Ak,Nat.one_shiftLeft,Nat.mul_div_cancel]
 simp only[a,b,Nat.shiftLeft_zero,c]
 grind [Ieee.signed]
end Go.Fl
end
section
namespace Go.Abs
variable[Gl]
def isC:D->Bool
 |.c _=>true
 |_=>false
section
variable{σ σ':ar}{M M':Nat->Option Nat}{Fz Fz':Nat->Prop}{w w':World}
theorem ZP(ob:Ob):mM σ (σ++[ob]):=λb o h=>⟨o,by grind,rfl⟩
theorem Pb(R:Rel σ M Fz w){z:List D}{b:Nat}(hb:σ[b]? = some (.cells z))(hM:M b=none)(hz:z.all isC=true){A:Nat->Option Nat}{j:Nat->Prop}{w1:World}{v:Value}
  (N:Rel (σ++[.cells z]) A j w1) (hv:V (σ++[.cells z]) A j w1 (.ptr σ.length 0 z.length) v) (EV:bH σ M Fz w (σ++[.cells z]) A j w1) :
  ∃ O, Rel σ O j w1 /\ V σ O j w1 (.ptr b 0 z.length) v /\ (∀ x c, M x = some c -> O x = some c) /\ (∀ x, x ≠ b -> O x = M x) /\
   ∀(σ0:ar)(M0:Nat->Option Nat)(Fz0:Nat->Prop)(w0:World),bH σ0 M0 Fz0 w0 σ M Fz w->σ0.length<=σ.length->σ0.length<=b->bH σ0 M0 Fz0 w0 σ O j w1:=by
 have ak:=(gC.1 hb).1;have p:∀x,x<σ.length->A x=M x:=λx u=>by have S:σ[x]? = some σ[x]:=eS u;obtain ⟨U,r,_,F⟩:=EV.keep x _ S;rw[HA u,S] at r;simp only[au] at r;exact F (by rw[<-r])
 have s:(σ++[Ob.cells z])[σ.length]? = some (.cells z):=by simp
 obtain ⟨G,a,l,ha,rfl⟩:∃G a,A σ.length=some G/\a=(⟨G,0,none⟩:Addr)/\v=.pointer (some a):=by
  cases hv with
  |ptr a W h an hv=>rw[s] at h;simp only[au] at h;subst h;obtain ⟨c,r,m⟩:=hv (by simp[Ob.sz]);exact ⟨c,a,r,m,rfl⟩
 have Z:w.heap.size<=G:=by
  rcases EV.ld _ _ l with ⟨b0,h⟩ | h
  ·have X:=(R.lt h).1;have:=N.inj b0 σ.length G (by rw[p b0 X];exact h) l;omega
  ·exact h
 have e1:∀x c,(if x=b then A σ.length else M x)=some c->(x=b/\c=G)∨(x≠b/\M x=some c):=λx c h=>by
  split at h
  ·rw[l] at h;simp only[au] at h;exact .inl ⟨‹_›,h.symm⟩
  ·exact .inr ⟨‹_›,h⟩
 have aa:∀x c,M x=some c->x≠b:=λx c h e=>by rw[e,hM] at h;simp at h
 have E:∀x c,M x=some c->(if x=b then A σ.length else M x)=some c:=λx c h=>by rw[if_neg (aa x c h)];exact h
 have ab:∀(i:Nat) d,z[i]? = some d->∃x,d=.c x:=λi d h=>by have:=iR.1 hz d (Bb h);cases d <;> first | exact ⟨_,rfl⟩ | simp[isC] at this
 refine ⟨λx=>if x=b then A σ.length else M x,⟨λx c h=>?_,λx x' c h h'=>?_,N.fz,N.gl⟩,?_,E,λx u=>if_neg u,λσ0 M0 Fz0 w0 E0 X av=>?_⟩
 ·rcases e1 x c h with ⟨rfl,rfl⟩ | ⟨u,h⟩
  ·obtain ⟨r,W,o,m,F,h4⟩:=N.blk _ _ l;rw[s] at m;simp only[au] at m;subst m;refine ⟨r,_,o,hb,F,?_⟩;obtain ⟨ad,T,ho,X,u⟩:=h4;refine ⟨ad,T,ho,X,λi d v q1 q2=>?_⟩;obtain ⟨x,rfl⟩:=ab i d q1;obtain ⟨q3,q4⟩:=u i _ v q1 q2;refine ⟨?_,q4⟩;cases q3 with
   |c q3=>exact .c q3
  ·obtain ⟨_,ax,o0,k2,_,k4⟩:=R.blk x c h;have K:=(R.lt h).1;obtain ⟨r,W,o,m,F,h4⟩:=N.blk x c (by rw[p x K];exact h);rw[HA K] at m;refine ⟨r,W,o,m,F,?_⟩;rw[k2] at m;simp only[au] at m;subst m;refine (bY.down (ZP (.cells z)) h4 k4).cut.sub mM.refl (λy c' Y=>?_);unfold cZ at Y;split at Y
   ·rename_i af;rw[p y af] at Y;exact E y c' Y
   ·simp at Y
 ·rcases e1 x c h with ⟨g1,g2⟩ | ⟨_,g2⟩ <;> rcases e1 x' c h' with ⟨g3,g4⟩ | ⟨_,g4⟩
  ·rw[g1,g3]
  ·have:=(R.lt g4).2;omega
  ·have:=(R.lt g2).2;omega
  ·exact R.inj x x' c g2 g4
 ·subst ha;exact .ptr _ (.cells z) hb (cX _) λ_=>⟨G,by rw[if_pos rfl];exact l,rfl⟩
 ·have L:=E0.trans EV X;refine ⟨L.size,L.frame,λx c h=>?_,L.fz,L.ow,L.qo,λx W u=>?_,L.out⟩
  ·rcases e1 x c h with ⟨rfl,rfl⟩ | ⟨_,h⟩
   ·exact L.ld _ _ l
   ·exact E0.ld _ _ h
  ·obtain ⟨U,r,m,F⟩:=E0.keep x W u;have K:=(gC.1 u).1;exact ⟨U,r,m,λe=>by rw[if_neg (by omega)];exact F e⟩
end
section
variable{P:Program}{orc:gz}{ops:Array Oper}{os:List aH}{q n0:Nat}{env:Nat->List D}{sg:Nat->ar}{wrs:Nat->List Nat}
variable{M0:Nat->Option Nat}{Fz0:Nat->Prop}{w0:World}{uh:List Deferred}
def oR(os:List aH)(q:Nat):Prop:=∀i,i<q->∃t ao,os[i]? = some ⟨some t,ao,none⟩/\((∃z,ao=.alloc z/\z.all isC=true)∨(∃x,ao=.Ba x)∨∃n x,ao=.load n x)
theorem My{P:Program}{orc:wK}{ao:lm}(h:(∃x,ao=.Ba x)∨∃n x,ao=.load n x){env:List D}{σ σ1:ar}{d:D}{wr:List Nat}(a:bm P orc ao env σ=some (d,σ1,wr)) :
  σ1=σ/\wr=[]/\∀aA:ar,(∀b off sz,ZM ao env=.ptr b off sz->aA[b]? = σ[b]?)->bm P orc ao env aA=some (d,aA,[]):=by
 rcases h with ⟨x,rfl⟩ | ⟨n,x,rfl⟩
 ·simp only[bm,au,aX] at a;obtain ⟨rfl,rfl,rfl⟩:=a;exact ⟨rfl,rfl,λ_ _=>rfl⟩
 ·simp only[bm] at a;split at a
  ·rename_i b off sz i;simp only[Option.bind_eq_bind,cM,au,aX] at a;obtain ⟨j,m,v,l,rfl,rfl,rfl⟩:=a;refine ⟨rfl,rfl,λaA h=>?_⟩;have e:=h b off sz i
   grind [od,bm]
  ·rename_i j off i;simp only[Option.bind_eq_bind,cM,au,aX] at a;obtain ⟨v,l,rfl,rfl,rfl⟩:=a;exact ⟨rfl,rfl,λaA _=>by grind [bm]⟩
  simp_all
theorem oR.step(H:oR os q)(T:Tr P orc ops os 0 n0 env sg wrs){i:Nat}(u:i<q):∃t ao d,os[i]? = some ⟨some t,ao,none⟩/\env (i+1)=oE (env i) (some t) d/\wrs i=[]/\bm P (orc (some t)) ao (env i) (sg i)=some (d,sg (i+1),[]) /\
  ((∃z,ao=.alloc z/\z.all isC=true/\d=.ptr (sg i).length 0 z.length/\sg (i+1)=sg i++[.cells z])∨(((∃x,ao=.Ba x)∨∃n x,ao=.load n x)/\sg (i+1)=sg i)):=by
 obtain ⟨t,ao,A,j⟩:=H i u;have:=T.step i _ A;simp only[fi,gS,cE] at this;obtain ⟨⟨d,s1,w1⟩,o,s⟩:=this;simp only[aX] at s;obtain ⟨F,rfl,rfl⟩:=s;rcases j with ⟨z,rfl,G⟩ | j
 ·have E:=o;simp only[bm,au,aX] at E
  grind
 ·obtain ⟨K,O,_⟩:=My j o
  grind
theorem oR.wr(H:oR os q)(T:Tr P orc ops os 0 n0 env sg wrs){i:Nat}(j:i<q):wrs i=[]:=by obtain ⟨_,_,_,_,_,h,_⟩:=H.step T j;exact h
theorem oR.blk(H:oR os q)(T:Tr P orc ops os 0 n0 env sg wrs){i t:Nat}{z:List D}(j:i<q)(o:os[i]? = some ⟨some t,.alloc z,none⟩):z.all isC=true/\env (i+1)=oE (env i) (some t) (.ptr (sg i).length 0 z.length)/\sg (i+1)=sg i++[.cells z]:=by
 obtain ⟨s,ao,d,u,x,_,_,A⟩:=H.step T j
 simp_all
structure Lt (os:List aH) (q:Nat) (env:Nat->List D) (sg:Nat->ar) (M0:Nat->Option Nat) (Fz0:Nat->Prop) (w0:World) (uh:List Deferred) (S:Nat->Prop) (k:Nat) (M:Nat->Option Nat) (Fz:Nat->Prop) (w:World) (a:Act):Prop where
 Vl:a.tmps.size=(env k).length
 uh:a.defers=uh
 rel:Rel (sg k) M Fz w
 tmp:∀t d v,(∀i x,i<q->os[i]? = some x->x.dst=some t->S i)->(env k)[t]? = some d->a.tmps[t]? = some v->V (sg k) M Fz w d v
 non:∀i t z,i<q->os[i]? = some ⟨some t,.alloc z,none⟩->¬S i->M (sg i).length=none
 evo:bH (sg 0) M0 Fz0 w0 (sg k) M Fz w
theorem Inv.late{S:Nat->Prop}{M:Nat->Option Nat}{Fz:Nat->Prop}{w:World}{a:Act}(I:Inv os n0 env sg wrs M0 Fz0 w0 uh S M Fz w a)(T:Tr P orc ops os 0 n0 env sg wrs)(O:ou P orc)(H:oR os q)
  (hS:∀i,q<=i->i<n0->S i) (hq:q<=n0) (U:∀b,M0 b≠none->b<(sg 0).length):Lt os q env sg M0 Fz0 w0 uh S n0 M Fz w a:=by
 have Y:=T.le;refine ⟨by rw[I.Vl,T.B_ O T.le],I.uh,⟨λb c h=>?_,I.inj,I.fz,Gl.mono I.Ff.fz I.gl0⟩,λt d v hc x E=>?_,λi t z u W hn=>?_,?_⟩
 ·obtain ⟨x,E,s⟩:=I.own b c h;have A:b<(sg n0).length:=by
   rcases s with ⟨s,_⟩ | ⟨j,X,_,_,s⟩
   ·exact FY s (T.cL O (by omega) T.le)
   ·exact FY s (T.cL O (by omega) T.le)
  have F:(sg n0)[b]? = some (sg n0)[b]:=eS A;obtain ⟨o,Z,h5⟩:=I.blk b c h n0 _ (cX _) F (λi u hw=>⟨λ_=>by
   rcases sO i q with h | h
   ·rw[H.wr T h] at hw
    grind
   simp_all,λ_=>u⟩)
  simp_all
 ·exact I.tmp t n0 (cX _) (λi o u W hd=>⟨λ_=>by grind,λ_=>u⟩) d v x E
 ·cases G:M (sg i).length with
  |none=>rfl
  |some c=>
   obtain ⟨_,_,s⟩:=I.own _ c G;have l1:=T.cL O (m:=0) (m':=i) (by omega) (by omega);have l2:(sg (i+1)).length=(sg i).length+1:=by rw[(H.blk T u W).2.2];simp
   rcases s with ⟨s,_⟩ | ⟨j,X,aa,Z,h5⟩
   ·omega
   ·rcases VV j i with h | h | h
    ·have:=T.cL O (m:=j+1) (m':=i) (by omega) (by omega);omega
    ·simp_all
    ·have:=T.cL O (m:=i+1) (m':=j) (by omega) (by omega);omega
 ·refine ⟨I.Ff.size,I.Ff.frame,λb c h=>?_,I.Ff.fz,λc h=>?_,I.Ff.qo,λb ob A=>?_,I.Ff.out⟩
  ·rcases I.Ff.ld b c h with h | h
   ·grind
   omega
  ·rcases I.Ff.ow c h with h | h
   ·simp_all
   omega
  ·obtain ⟨K,x,E⟩:=T.sz O (by omega) (cX n0) b ob A;refine ⟨K,x,by omega,λ_=>?_⟩;have ab:=(gC.1 A).1;cases G:M0 b with
   |some c=>exact I.Ff.ext b c G
   |none=>
    cases R:M b with
    |none=>rfl
    |some c=>
     obtain ⟨_,_,s⟩:=I.own b c R;rcases s with ⟨_,s⟩ | ⟨j,X,_,s,_⟩
     ·simp_all
     ·have:=T.cL O (m:=0) (m':=j) (by omega) (by omega);omega
theorem oR.off(H:oR os q)(T:Tr P orc ops os 0 n0 env sg wrs){i k t:Nat}{z:List D}(s:i<q)(o:os[i]? = some ⟨some t,.alloc z,none⟩)(j:i<k)(hk:k<os.length)(x:¬Dg ops i k):(sg i).length∉wrs k:=by
 obtain ⟨y,u⟩:=T.at hk;rcases T.pair i k _ y j o u with h | h
 ·simp_all
 ·obtain ⟨_,_,_,_,_,A,_⟩:=fY h;have E:(sg (i+1)).length=(sg i).length+1:=by rw[(H.blk T s o).2.2];simp
  grind [dz]
theorem oR.look(T:Tr P orc ops os 0 n0 env sg wrs){i k t b off sz:Nat}{ao:lm}(o:os[i]? = some ⟨some t,ao,none⟩)(u:(∃x,ao=.Ba x)∨∃n x,ao=.load n x)(z:ZM ao (env i)=.ptr b off sz)(j:i<k)(hk:k<os.length)(A:¬Dg ops i k):b∉wrs k:=by
 obtain ⟨y,s⟩:=T.at hk;rcases T.pair i k _ y j o s with h | h
 ·simp_all
 ·obtain ⟨_,_,_,E,_⟩:=fY h
  grind [ZM,safe,dz,gS,cat]
theorem Ju{a:Act}{b:Option Nat}{v i:Value}{t:Nat}(h:(a.put b v).tmps[t]? = some i):(b=some t/\i=v)∨(b≠some t/\a.tmps[t]? = some i):=by
 cases b with
 |none=>exact .inr ⟨by simp,h⟩
 |some s=>
  simp only[Act.put,yAQ] at h
  grind
theorem DN{a:Act}{b:Option Nat}{v:Value}:(a.put b v).tmps.size=a.tmps.size:=by cases b <;> simp[Act.put]
theorem Ks{a:Act}{b:Option Nat}{v:Value}:(a.put b v).defers=a.defers:=by cases b <;> rfl
theorem Sl(O:ou P orc)(T:Tr P orc ops os 0 n0 env sg wrs)(H:oR os q)(hq:q<=n0)(b5:∀i j,q<=i->i<j->n0<=j->j<os.length->Dg ops i j)
  (hg:∀(i:Nat) x,os[i]? = some x->x.g=none) (a9:∀(i j:Nat) x y t,i<q->i<j->os[i]? = some x->os[j]? = some y->x.dst=some t->y.dst≠some t) (bb:∀(i j:Nat) x y t,i<q->i<=j->os[i]? = some x->os[j]? = some y->y.dst=some t->t∉yt x)
  (b6:∀listed:Array Bool,listed.size=ops.size->Region.ready .any ops listed=[]->∀i,i<ops.size->gG listed i) {Q:Exit->Act->World->Prop}
  (hQ:∀a' w' M' Fz',a'.defers=uh->Rel (sg os.length) M' Fz' w'->dB (sg os.length) M' Fz' w' (env os.length) a'.tmps->bH (sg 0) M0 Fz0 w0 (sg os.length) M' Fz' w'->Q .normal a' w') :
  ∀ (R : Nat) (listed : Array Bool) (k : Nat) (M : Nat -> Option Nat) (Fz : Nat -> Prop) (w : World) (a : Act), listed.size = ops.size -> n0 <= k -> k <= os.length -> (∀ i, q <= i -> i < ops.size -> (gG listed i ↔ i < k)) -> fX ops (gG listed) ->
   Vr ops.size listed<=R->Lt os q env sg M0 Fz0 w0 uh (gG listed) k M Fz w a->wpAny P .any ops Q R listed a w:=by
 have c3:=T.len;have fin:∀(listed:Array Bool)(k:Nat)(M:Nat->Option Nat)(Fz:Nat->Prop)(w:World)(a:Act),n0<=k->k<=os.length->(∀i,q<=i->i<ops.size->(gG listed i↔i<k))->(∀i,i<ops.size->gG listed i) ->
   Lt os q env sg M0 Fz0 w0 uh (gG listed) k M Fz w a->Q .normal a w:=λlisted k M Fz w a hk u hS ab L=>by
  have b7:k=os.length:=by grind
  subst b7;exact hQ a w M Fz L.uh L.rel ⟨L.Vl,λt d v h1 h2=>L.tmp t d v (λi x r _ _=>ab i (by omega)) h1 h2⟩ L.evo
 intro R;induction R with
 |zero=>
  intro listed k M Fz w a bc hk u hS hC hf L;have ab:=vP (N:=ops.size) (listed:=listed) (by omega);refine ⟨?_,fin listed k M Fz w a hk u hS ab L⟩;cases hr:Region.ready .any ops listed with
  |nil=>rfl
  |cons j l=>
   have hm:j∈Region.ready .any ops listed:=by simp_all
   rw[mem_ready] at hm
   grind [gG]
 |succ R ih=>
  intro listed k M Fz w a bc hk u hS hC hf L;refine ⟨λhr=>fin listed k M Fz w a hk u hS (b6 listed bc hr) L,λj hj=>?_⟩;rw[mem_ready] at hj;obtain ⟨h1,o,ho,b8⟩:=hj;have b9:j<ops.size:=(Cy.1 ho).1;have an:¬gG listed j:=by grind [gG]
  have ax:∀o' e,ops[j]? = some o'->e∈o'.after->Region.binds .any e=true->gG listed e.on:=λo' e A he cg=>by rw[ho] at A;simp only[au] at A;subst A;exact b8 e he cg
  have a2:fX ops (gG (listed.setIfInBounds j true)):=by
   intro i o' e r A he U;rw[Jw (by omega)] at r ⊢;rcases r with r | rfl
   ·exact .inl (hC i o' e r A he U)
   simp_all
  have hu:=Dv (N:=ops.size) (listed:=listed) (k:=j) (by omega) b9 an;have ch:∀i,i<q->¬gG listed i->¬Dg ops i j:=λi r hn U=>hn (U.ready hC ax);rcases sO j q with aa | aa
  ·
   obtain ⟨t,ao,d,F,ad,bd,a0,a5⟩:=H.step T aa;obtain ⟨o',A,G⟩:=T.comp j _ F;rw[ho] at A;simp only[au] at A;subst A;unfold bx at G;split at G
   ·rename_i g p a6 E;simp only[au,aH.mk.injEq] at G;obtain ⟨be,rfl,rfl⟩:=G;have same:∀s,s∈yt (⟨some t,p,none⟩:aH)->(env k)[s]? = (env j)[s]?:=λs hs=>
     T.zF O (m:=j) (m':=k) (t:=s) (by omega) u (λi x r _ Z hd=>bb j i _ x s aa r F Z hd hs)
    have hE:dB (sg k) M Fz w (ko (yt ⟨some t,p,none⟩) (env k)) a.tmps:=by
     refine ⟨by grind [Lt.Vl,ko],λi d v h1 h2=>?_⟩;rw[qP] at h1;simp only[cE] at h1;obtain ⟨d0,h3,h4⟩:=h1;by_cases ht:(yt ⟨some t,p,none⟩).contains i=true
     ·rw[if_pos ht] at h4;subst h4;refine L.tmp i d0 v (λm x hm Z hd=>?_) h3 h2;rcases sO m j with bh | bh
      ·rcases T.pair m j x _ bh Z F with U | U
       ·grind
       ·obtain ⟨h5,_⟩:=fY U;exact absurd (show i∈yt ⟨some t,p,none⟩ by simp_all) (h5 i hd)
      grind
     ·rw[if_neg ht] at h4;subst h4;exact .any v
    have W:=oT (ops:=ops) (o:=o) (g:=none) (b:=true) hE a6 rfl;have a1:∀S d' v',(env k)[S]? = some d'->a.tmps[S]? = some v'->S≠t->(∀i x,i<q->os[i]? = some x->x.dst=some S->gG (listed.setIfInBounds j true) i)->V (sg k) M Fz w d' v':=λS d' v' q1 q2 e hc=>by
     refine L.tmp S d' v' (λi x r Z hd=>?_) q1 q2;rcases (Jw (by omega) i).1 (hc i x r Z hd) with h | h
     ·exact h
     grind
    have c4:∀d',(env k)[t]? = some d'->d'=d:=λd' q1=>by
     have ck:=T.zF O (m:=j+1) (m':=k) (t:=t) (by omega) u (λi x r _ Z hd=>a9 j i _ x t aa (by omega) F Z rfl hd);rw[ck,ad] at q1;simp only[oE,yBC,if_true] at q1
     simp_all
    have bi:∀i,q<=i->i<ops.size->(gG (listed.setIfInBounds j true) i↔i<k):=λi r bk=>by rw[Jw (by omega),hS i r bk];omega
    unfold wpOp;rw[ho];simp only[W,if_true];left;rcases a5 with ⟨z,rfl,hz,rfl,av⟩ | ⟨a7,av⟩
    ·refine Mw (O o.dst) L.rel hE E rfl _ λv w1 M1 af R1 hv EV _=>?_;have cm:(sg j).length<(sg (j+1)).length:=by grind
     have bl:=T.UE O (m:=j+1) (m':=k) (b:=(sg j).length) (by omega) u cm (λi r a8 hw=>by
      rcases sO i q with h | h
      ·rw[H.wr T h] at hw
       grind
      ·exact H.off T aa F (by omega) (by omega) (λU=>an (U.in hC ((hS i h (by omega)).2 a8))) hw)
     rw[av,OG (cX _),yCl,xAf] at bl;obtain ⟨M2,R2,c5,bt,bu,a0⟩:=Pb L.rel bl (L.non j t z aa F an) hz R1 hv EV;refine ih (listed.setIfInBounds j true) k M2 af w1 _ (by grind) hk u bi a2 (by omega) ⟨by rw[DN,L.Vl],by rw[Ks,L.uh],R2,λS d v' hc q1 q2=>?_,λi S z' r K hn=>?_,?_⟩
     ·rcases Ju q2 with ⟨e,rfl⟩ | ⟨e,q2⟩
      ·grind
      ·exact (a1 S d v' q1 q2 (λh=>e (by grind)) hc).sub mM.refl bt EV.fz EV.qo
     ·have co:i≠j:=λe=>hn ((Jw (by omega) i).2 (.inr e));have c6:(sg (i+1)).length=(sg i).length+1:=by rw[(H.blk T r K).2.2];simp
      have c7:(sg (j+1)).length=(sg j).length+1:=by grind
      rw[bu _ (by
       intro e;rcases Nat.lt_or_gt_of_ne co with h | h
       ·have:=T.cL O (m:=i+1) (m':=j) (by omega) (by omega);omega
       ·have:=T.cL O (m:=j+1) (m':=i) (by omega) (by omega);omega)]
      exact L.non i S z' r K (λh=>hn ((Jw (by omega) i).2 (.inl h)))
     ·exact a0 _ _ _ _ L.evo (T.cL O (by omega) u) (T.cL O (by omega) (by omega))
    ·have bv:bm P (orc (some t)) p (env j) (sg j)=some (d,sg j,[]):=by grind
     have X:∀σ,bm P (orc (some t)) p (ko (yt ⟨some t,p,none⟩) (env k)) σ=bm P (orc (some t)) p (env j) σ:=λσ=>by
      refine zc (mU E) (λx Z=>?_);have bw:∀n,x=.t n->n∈yt (⟨some t,p,none⟩:aH):=λn hn=>by
       subst hn;simp only[yt,gp,List.mem_filterMap]
       grind
      rw[AP bw];cases x with
      |k d=>rfl
      |t n=>simp only[aP.ev,same n (bw n rfl)]
     have b0:bm P (orc o.dst) p (ko (yt ⟨some t,p,none⟩) (env k)) (sg k)=some (d,sg k,[]):=by
      rw[be,X];refine (My a7 bv).2.2 (sg k) (λb off sz Z=>?_);by_cases Y:b<(sg j).length
      ·exact T.UE O (m:=j) (m':=k) (b:=b) (by omega) u Y (λi r a8 hw=>by
        rcases sO i q with h | h
        ·rw[H.wr T h] at hw
         grind
        ·exact oR.look T F a7 Z (by omega) (by omega) (λU=>an (U.in hC ((hS i h (by omega)).2 a8))) hw)
      ·exfalso;rcases a7 with ⟨x,rfl⟩ | ⟨n,x,rfl⟩
       ·grind [ZM]
       grind [ZM,bm,od]
     refine Mw (O o.dst) L.rel hE E b0 _ λv w1 M1 af R1 hv EV _=>?_;refine ih (listed.setIfInBounds j true) k M1 af w1 _ (by grind) hk u bi a2 (by omega) ⟨by rw[DN,L.Vl],by rw[Ks,L.uh],R1,λS d' v' hc q1 q2=>?_,λi S z' r K hn=>?_,?_⟩
     ·rcases Ju q2 with ⟨e,rfl⟩ | ⟨e,q2⟩
      ·grind
      ·exact (a1 S d' v' q1 q2 (λh=>e (by grind)) hc).mono EV
     ·have Y:(sg i).length<(sg k).length:=by
       have h1:(sg (i+1)).length=(sg i).length+1:=by rw[(H.blk T r K).2.2];simp
       have:=T.cL O (m:=i+1) (m':=k) (by omega) u;omega
      obtain ⟨cp,k1,_,k3⟩:=EV.keep _ _ (eS Y);rw[eS Y] at k1;simp only[au] at k1;rw[k3 (by grind)];exact L.non i S z' r K (λh=>hn ((Jw (by omega) i).2 (.inl h)))
     ·exact L.evo.trans EV (T.cL O (by omega) u)
   simp_all
  ·have c8:k<=j:=by
    simp_all
   have cv:j=k:=by
    rcases sO k j with h | h
    ·have U:=b5 k j (by omega) h (by omega) (by omega);have:=(hS k (by omega) (by omega)).1 (U.ready hC ax);omega
    ·omega
   subst cv;obtain ⟨ao,F⟩:=T.at (i:=j) (by omega);obtain ⟨o',A,G⟩:=T.comp j ao F;rw[ho] at A;simp only[au] at A;subst A;have ak:=T.step j ao F;have b1:=hg j ao F;have hE:dB (sg j) M Fz w (ko (yt ao) (env j)) a.tmps:=by
    refine ⟨by grind [Lt.Vl,ko],λi d v h1 h2=>?_⟩;rw[qP] at h1;simp only[cE] at h1;obtain ⟨d0,h3,h4⟩:=h1;by_cases ht:(yt ao).contains i=true
    ·rw[if_pos ht] at h4;subst h4;refine L.tmp i d0 v (λm x hm Z hd=>?_) h3 h2;rcases T.pair m j x ao (by omega) Z F with U | U
     ·grind
     ·obtain ⟨h5,_⟩:=fY U;exact absurd (show i∈yt ao by simp_all) (h5 i hd)
    ·rw[if_neg ht] at h4;subst h4;exact .any v
   unfold bx at G;split at G
   ·rename_i g p a6 E;simp only[au] at G;subst G;simp only at b1;subst b1;have W:=oT (ops:=ops) (o:=o) (g:=none) (b:=true) hE a6 rfl;have X:bm P (orc o.dst) p (ko (yt ⟨o.dst,p,none⟩) (env j)) (sg j)=bm P (orc o.dst) p (env j) (sg j):=by
     refine zc (mU E) (λx Z=>AP (λn hn=>?_));subst hn;simp only[yt,gp,List.mem_filterMap]
     grind
    simp only[fi,gS,cE] at ak;obtain ⟨⟨d,σ1,bU⟩,c0,h⟩:=ak;simp only[aX] at h;obtain ⟨ad,av,bd⟩:=h;subst av bd;unfold wpOp;rw[ho];simp only[W,if_true];left;refine Mw (O o.dst) L.rel hE E (by rw[X];exact c0) _ λv w1 M1 af R1 hv EV _=>?_;refine ih (listed.setIfInBounds j true) (j+1) M1 af w1 _ (by grind) (by omega) (by omega) (λi r bk=>?_) a2 (by omega) ⟨by rw[DN,L.Vl,T.B_ O (m:=j) (by omega),T.B_ O (m:=j+1) (by omega)],by rw[Ks,L.uh],R1,λS d' v' hc q1 q2=>?_,λi c2 z' r K hn=>?_,?_⟩
    ·grind [Jw]
    ·rw[<-ad] at q1;rcases Ju q2 with ⟨e,rfl⟩ | ⟨e,q2⟩
     ·rw[e] at q1;simp only[oE,yBC,if_true] at q1
      simp_all
     ·have q3:(env j)[S]? = some d':=by
       rw[<-q1];cases hd:o.dst with
       |none=>rfl
       |some s=>grind [oE,List.getElem?_set_ne]
      refine (L.tmp S d' v' (λi x r Z hd=>?_) q3 q2).mono EV
      grind [Jw]
    ·have b2:¬gG listed i:=λh=>hn ((Jw (by omega) i).2 (.inl h));have b3:=H.off T r K (by omega) (by omega) (ch i r b2);have Y:(sg i).length<(sg j).length:=by
      have h1:(sg (i+1)).length=(sg i).length+1:=by rw[(H.blk T r K).2.2];simp
      have:=T.cL O (m:=i+1) (m':=j) (by omega) (by omega);omega
     have b4:(sg j)[(sg i).length]? = some (sg j)[(sg i).length]:=eS Y;obtain ⟨cp,k1,_,k3⟩:=EV.keep _ _ b4;rw[(T.frame O (i:=j) (by omega)).2 _ Y b3,b4] at k1;simp only[au] at k1;rw[k3 (by simp_all)];exact L.non i c2 z' r K b2
    ·exact L.evo.trans EV (T.cL O (by omega) (by omega))
   simp_all
theorem VA{M:Nat->Option Nat}{Fz:Nat->Prop}{w:World}{a:Act}(O:ou P orc)(T:Tr P orc ops os 0 n0 env sg wrs)(H:oR os q)(hq:q<=n0)(K:∀i j,q<=i->i<j->n0<=j->j<os.length->Dg ops i j)
  (hg:∀(i:Nat) x,os[i]? = some x->x.g=none) (v:∀(i j:Nat) x y t,i<q->i<j->os[i]? = some x->os[j]? = some y->x.dst=some t->y.dst≠some t) (z:∀(i j:Nat) x y t,i<q->i<=j->os[i]? = some x->os[j]? = some y->y.dst=some t->t∉yt x)
  (W:∀listed:Array Bool,listed.size=ops.size->Region.ready .any ops listed=[]->∀i,i<ops.size->gG listed i) (R:Rel (sg 0) M Fz w) (E:dB (sg 0) M Fz w (env 0) a.tmps) {Q:Exit->Act->World->Prop}
  (hQ:∀u w' M' Fz',u.defers=a.defers->Rel (sg os.length) M' Fz' w'->dB (sg os.length) M' Fz' w' (env os.length) u.tmps->bH (sg 0) M Fz w (sg os.length) M' Fz' w'->Q .normal u w') :
  wpAny P .any ops Q ops.size (Array.replicate ops.size false) a w:=by
 have an:=T.len;have X:=T.le;have A:∀b,M b≠none->b<(sg 0).length:=λb h=>by
  cases hM:M b with
  |none=>simp_all
  |some c=>exact (R.lt hM).1
 have Y:∀(l:Nat)(listed:Array Bool)(M':Nat->Option Nat)(Fz':Nat->Prop)(w':World)(u:Act),listed.size=ops.size->Vr ops.size listed<=l->fX ops (gG listed)->(∀i,gG listed i->i<n0) ->
   Inv os n0 env sg wrs M Fz w a.defers (gG listed) M' Fz' w' u->wpAny P .any ops Q l listed u w':=by
  intro l;induction l with
  |zero=>intro listed M' Fz' w' u L hu U S I;have F:=vP (N:=ops.size) (listed:=listed) (by omega);exact Sl O T H hq K hg v z W hQ 0 listed n0 M' Fz' w' u L (cX _) X (λi _ r=>⟨λh=>S i h,λ_=>F i r⟩) U (by omega) (I.late T O H (λi _ h=>F i (by omega)) hq A)
  |succ l ih=>
   intro listed M' Fz' w' u L hu U S I;by_cases m:∀i,q<=i->i<n0->gG listed i
   ·exact Sl O T H hq K hg v z W hQ (l+1) listed n0 M' Fz' w' u L (cX _) X (λi r _=>⟨λh=>S i h,λh=>m i r h⟩) U hu (I.late T O H m hq A)
   ·refine ⟨λhr=>?_,λj hj=>?_⟩
    ·grind
    ·rw[mem_ready] at hj;obtain ⟨h1,o,ho,aa⟩:=hj;have ab:j<ops.size:=(Cy.1 ho).1;have Z:¬gG listed j:=by
      grind [gG]
     have G:∀o' e,ops[j]? = some o'->e∈o'.after->Region.binds .any e=true->gG listed e.on:=λo' e s he ad=>by rw[ho] at s;simp only[au] at s;subst s;exact aa e he ad
     have af:j<n0:=by
      rcases sO j n0 with h | h
      ·exact h
      ·exact absurd (λi r av=>(K i j r (by omega) h (by omega)).ready U G) m
     refine I.step (S':=gG (listed.setIfInBounds j true)) T O U af Z G (λi=>Jw (by omega) i) _ λa1 w1 M1 ak I1=>?_;refine ih (listed.setIfInBounds j true) M1 ak w1 a1 (by grind) ?_ ?_ ?_ I1
     ·have:=Dv (N:=ops.size) (listed:=listed) (k:=j) (by omega) ab Z;omega
     ·intro i o' e r s he hb;rw[Jw (by omega)] at r ⊢;rcases r with r | rfl
      ·exact .inl (U i o' e r s he hb)
      simp_all
     grind [Jw]
 have p:∀i,¬gG (Array.replicate ops.size false) i:=λi h=>by grind [gG,jc]
 refine Y ops.size _ M Fz w a (by simp) ?_ (λj o e hj=>absurd hj (p j)) (λi r=>absurd r (p i)) (Inv.start R rfl E (λi _=>⟨λh=>absurd h (p i),λh=>by omega⟩) T O)
 grind [Vr]
def xy(g:Nat->Nat)(o:Oper):Oper:={ o with after:=o.after.map λe=>{ e with on:=g e.on } }
structure Perm (ops ops2:Array Oper) (f g:Nat->Nat):Prop where
 size:ops2.size=ops.size
 get:∀i,i<ops.size->ops2[i]? = (ops[f i]?).map (xy g)
 TR:∀i,i<ops.size->f i<ops.size
 KM:∀i,i<ops.size->g i<ops.size
 fg:∀i,i<ops.size->f (g i)=i
 gf:∀i,i<ops.size->g (f i)=i
 guard:∀(i:Nat) o,ops[i]? = some o->o.guard=none
 on:∀(i:Nat) o e,ops[i]? = some o->e∈o.after->Region.binds .any e=true->e.on<ops.size
theorem reOn_wp{g:Nat->Nat}{o:Oper}{a:Act}{w:World}{K:Act->World->Prop}{Q:Exit->Act->World->Prop}(h:(xy g o).wp P a w K Q∨((xy g o).asks P a w/\LetsOut Q)):o.wp P a w K Q∨(o.asks P a w/\LetsOut Q):=h
theorem Av(l:Array Bool)(i:Nat)(b b':Bool)(h:i<l.size):l.getD i b=l.getD i b':=by simp_all
theorem DV{ops b:Array Oper}{f g:Nat->Nat}(X:Perm ops b f g):∀(listed a:Array Bool),listed.size=ops.size->a.size=ops.size->(∀i,i<ops.size->a.getD i true=listed.getD (f i) true)->∀j,j∈Region.ready .any ops listed->g j∈Region.ready .any b a:=by intro listed a hs p s j h;rw[mem_ready] at h ⊢;obtain ⟨y,o,r,z⟩:=h;have h:j<ops.size:=(Cy.1 r).1;refine ⟨by rw[s _ (X.KM j h),X.fg j h];exact y,xy g o,by rw[X.get _ (X.KM j h),X.fg j h,r];rfl,λe u v=>?_⟩;simp only[xy,Array.mem_map] at u;obtain ⟨x,m,rfl⟩:=u;have l:=X.on j o x r m v;rw[Av _ _ false true (by rw[p];exact X.KM _ l),s _ (X.KM _ l),X.fg _ l,Av _ _ true false (by omega)];exact z x m v
theorem perm_wp{ops m:Array Oper}{f g:Nat->Nat}(X:Perm ops m f g){Q:Exit->Act->World->Prop}:∀(p:Nat)(listed b:Array Bool)(a:Act)(w:World),listed.size=ops.size->b.size=ops.size->(∀i,i<ops.size->b.getD i true=listed.getD (f i) true) ->
  wpAny P .any m Q p b a w->wpAny P .any ops Q p listed a w:=by
 have x:∀(listed b:Array Bool),listed.size=ops.size->b.size=ops.size->(∀i,i<ops.size->b.getD i true=listed.getD (f i) true)->Region.ready .any ops listed=[]->Region.ready .any m b=[]:=by
  intro listed b hs r u h;cases F:Region.ready .any m b with
  |nil=>rfl
  |cons i l=>
   exfalso;have R:i∈Region.ready .any m b:=by simp_all
   rw[mem_ready] at R;obtain ⟨y,o,s,G⟩:=R;have E:i<ops.size:=by grind
   rw[X.get i E] at s;simp only[cE] at s;obtain ⟨S,z,rfl⟩:=s;have:f i∈Region.ready .any ops listed:=by rw[mem_ready];refine ⟨by simp_all,S,z,λe U T=>?_⟩;have A:=X.on _ S e z U T;have:=G { e with on:=g e.on } (by simp only[xy,Array.mem_map];grind) T;simp only at this;rw[Av _ _ false true (by grind),u _ (X.KM _ A),X.fg _ A,Av _ _ true false (by omega)] at this;omega
   simp_all
 intro p;induction p with
 |zero=>
  intro listed b a w hs r u h;refine ⟨?_,h.2⟩;cases F:Region.ready .any ops listed with
  |nil=>rfl
  |cons j l=>
   have:=DV X listed b hs r u j (by simp_all);rw[h.1] at this
   simp_all
 |succ p ih=>
  intro listed b a w hs r u h;refine ⟨λF=>h.1 (x listed b hs r u F),λj L=>?_⟩;have N:=DV X listed b hs r u j L;have:=h.2 (g j) N;rw[mem_ready] at L;obtain ⟨_,o,s,_⟩:=L;have v:j<ops.size:=(Cy.1 s).1;have O:m[g j]? = some (xy g o):=by rw[X.get _ (X.KM j v),X.fg j v,s];rfl
  have W:o.guard=none:=X.guard j o s;refine wpOp_mono (K:=wpAny P .any m Q p (b.setIfInBounds (g j) true)) (λa w Y=>ih _ _ a w (by simp[hs]) (by grind) (λi E=>?_) Y) ?_
  ·have Z:(b.setIfInBounds (g j) true).getD i true=if g j=i then true else b.getD i true:=by
    simp only[yAV,yAQ]
    grind
   have e2:(listed.setIfInBounds j true).getD (f i) true=if j=f i then true else listed.getD (f i) true:=by
    simp only[yAV,yAQ]
    grind
   rw[Z,e2,u i E];by_cases y:g j=i
   ·rw[if_pos y,if_pos (by rw[<-y,X.fg j v])]
   ·rw[if_neg y,if_neg (λh2=>y (by rw[h2,X.gf i E]))]
  ·unfold wpOp at this ⊢;rw[O] at this;rw[s];have w1:Region.wanted (xy g o) (yielded m a.tmps)=true:=by grind [Go.Region.wanted,xy]
   have w2:Region.wanted o (yielded ops a.tmps)=true:=by grind [Go.Region.wanted]
   simp only[w1,if_true] at this;simp only[w2,if_true]
   grind [reOn_wp]
theorem Lu{ops a:Array Oper}{f g:Nat->Nat}(X:Perm ops a f g){i j:Nat}(h:Dg ops i j):Dg a (g i) (g j):=by
 have l:∀{j o},ops[j]? = some o->a[g j]? = some (xy g o):=λ{j o} b=>by have r:=(Cy.1 b).1;rw[X.get _ (X.KM j r),X.fg j r,b];rfl
 induction h with
 |one b m p s=>exact .one (l b) (by simp only[xy,Array.mem_map];exact ⟨_,m,rfl⟩) (e:={ on:=g _,ground:=_ }) p (by simp_all)
 |more b m p hk _ ih=>exact .more (l b) (by simp only[xy,Array.mem_map];exact ⟨_,m,rfl⟩) (e:={ on:=g _,ground:=_ }) p (by simp_all) ih
def isLt(o:aH):Bool:=match o with
 | ⟨some _,.alloc z,none⟩=>z.all isC
 | ⟨some _,.Ba _,none⟩=>true
 | ⟨some _,.load _ _,none⟩=>true
 |_=>false
def isCl(o:aH):Bool:=match o.op with | .call ..=>true | _=>false
def QV:Nat->Nat->List aH->List Nat->List Nat
 |i, m, o :: os, b :: bs => match isLt o && Nat.beq (Nat.lor b m) m with
  |true=>i::QV (i+1) (Nat.lor m (2 ^ i)) os bs
  |false=>QV (i+1) m os bs
 |_,_,_,_=>[]
def permP(hs:List Nat)(n:Nat):List Nat:=hs++(List.range n).filter λi=>hs.all λj=>!Nat.beq j i
def pB(a:List Nat)(os:List aH):List aH:=a.map λi=>os.getD i default
def Mz(a:List Nat)(i:Nat):Nat:=a.getD i 0
def Rp(a:List Nat)(i:Nat):Nat:=a.findIdx λj=>Nat.beq j i
def ZV(a:List Nat)(n:Nat):Bool:=Nat.beq a.length n&&(List.range n).all λi=>(Nat.blt (Mz a i) n&&Nat.beq (Rp a (Mz a i)) i)&&(Nat.blt (Rp a i) n&&Nat.beq (Mz a (Rp a i)) i)
def Ka(a b:List Nat)(q n0:Nat)(os:List aH):Bool:=
 ((List.range os.length).all λj=>Nat.blt j n0 || (List.range j).all λi=>Nat.blt i q || (a.getD (Mz b j) 0).testBit (Mz b i)) &&
 (((os.take q).all isLt&&os.all (λo=>o.g.isNone)) &&
 (((List.range os.length).all λj=>(List.range j).all λi=>!Nat.blt i q || (match (os.getD i default).dst,(os.getD j default).dst with | some s,some t=>!Nat.beq s t | _,_=>true)) &&
 (((List.range os.length).all λj=>(List.range (j+1)).all λi=>!Nat.blt i q || (match (os.getD j default).dst with | some t=>!(yt (os.getD i default)).contains t | _=>true)) &&
 (ZV b os.length&&(Nat.ble q n0&&Nat.ble n0 os.length)))))
def Pr(a b:List Nat)(is:List d_):Bool:=
 (List.range is.length).all λj=>(List.range j).all λi=>(a.getD (Mz b j) 0).testBit (Mz b i) || apart (is.getD i default) (is.getD j default)
def Rq(os:List aH)(a:List Nat):Option (List Nat×Nat×Nat):=
 let hs:=QV 0 0 os a
 let i:=(os.takeWhile λo=>!isCl o).length
 match hs.any λh=>Nat.blt i h with
 |false=>none
 |true=>
  let b:=permP hs os.length
  let n0:=hs.length+(((pB b os).drop hs.length).takeWhile λo=>!isCl o).length
  match Nat.beq b.length os.length&&Ka a b hs.length n0 (pB b os) with
  |true=>some (b,hs.length,n0)
  |false=>none
theorem XM{os:List aH}{a b:List Nat}{q n0:Nat}(h:Rq os a=some (b,q,n0)):b.length=os.length/\Ka a b q n0 (pB b os)=true:=by
 unfold Rq at h;dsimp only at h;split at h
 ·simp at h
 ·split at h
  ·simp only[au,aX] at h;obtain ⟨rfl,rfl,rfl⟩:=h
   simp_all
  simp_all
theorem XZ (ab:P.follows .mixedOrders=true) (O:ou P orc) {id q n0:Nat} {r:List Nat} {ops:Array Oper} {os:List aH} {σ σ':ar} {M:Nat→Option Nat} {Fz:Nat→Prop} {w:World} {e e':List D} {a:Act} {is:List d_} {Q:Exit→Act→World→Prop}
  (hc:ops.toList.mapM (bx P ops)=some os) (G:Aa ops.toList=true) (R:Rel σ M Fz w) (E:dB σ M Fz w e a.tmps) (h:me P orc n0 (pB r os) e σ=some (e',σ',is)) (be:r.length=os.length)
  (ad:Ka (PU ops.toList) r q n0 (pB r os)=true) (a5:Pr (PU ops.toList) r is=true)
  (hQ:∀K w' M' Fz',K.defers=a.defers→Rel σ' M' Fz' w'→dB σ' M' Fz' w' e' K.tmps→bH σ M Fz w σ' M' Fz' w'→Q .normal K w'):(Code.region id ops true).wq P Q a w:=by
 obtain ⟨h1,h2⟩:=Mt hc
 have af:os.length=ops.size:=by omega
 have ak:(pB r os).length=os.length:=by grind [pB]
 simp only [Ka,bN] at ad
 obtain ⟨c2,⟨c3,c4⟩,c5,c6,c7,c8,c9⟩:=ad
 have c8:=CY c8
 have c9:=CY c9
 simp only [ZV,bN,iR,yBP] at c7
 have pm:=c7.2
 rw [ak,af] at pm
 have TR:∀i,i<ops.size→Mz r i<ops.size:=fun i u=>ug.mp (pm i u).1.1
 have KM:∀i,i<ops.size→Rp r i<ops.size:=fun i u=>ug.mp (pm i u).2.1
 have fg:∀i,i<ops.size→Mz r (Rp r i)=i:=fun i u=>cY (pm i u).2.2
 have gf:∀i,i<ops.size→Rp r (Mz r i)=i:=fun i u=>cY (pm i u).1.2
 have L:∀i,i<ops.size→(pB r os)[i]? = os[Mz r i]?:=fun i u=>by
  grind [Mz,pB]
 generalize bb:pB r os=v at h ak L c2 c3 c4 c5 c6 c9
 obtain ⟨env,sg,wrs,k1,k2,k3,k4,k5,k6,k7⟩:=Tu (n:=n0) v n0 e e' σ σ' is h
 subst k1 k2 k3 k4
 have c1:=a5
 unfold Pr at c1
 have an:∀(i:Nat) x,v[i]? = some x→x.g=none:=fun i x N=>by
  have:=iR.1 c4 x (Bb N)
  simpa using this
 have U:∀(i:Nat) o,ops[i]? = some o→o.guard=none:=fun i o S=>by
  have av:=(Cy.1 S).1
  have N:v[Rp r i]? = some os[i]:=by grind
  obtain ⟨o',W,z⟩:=h2 i _ (eS (by omega))
  rw [OD,S] at W
  simp only [au] at W
  subst W
  have Y:=an _ _ N
  unfold bx at z
  split at z
  ·rename_i g ao hg _
   simp only [au] at z
   rw [←z] at Y
   simp only at Y
   subst Y
   cases hq:o.guard with
   | none=>rfl
   | some p =>
    obtain ⟨j,bc⟩:=p
    rw [hq] at hg
    simp only [z_] at hg
    split at hg <;> simp at hg
  grind
 let s:Array Oper:=Array.ofFn fun i:Fin ops.size=>xy (Rp r) (ops[Mz r i]'(TR i i.isLt))
 have a6:s.size=ops.size:=by simp [s]
 have ax:∀i,i<ops.size→s[i]? = (ops[Mz r i]?).map (xy (Rp r)):=fun i u=>by
  rw [sI (by omega),sI (TR i u)]
  simp [s]
 have X:Perm ops s (Mz r) (Rp r):=⟨a6,ax,TR,KM,fg,gf,U,fun i o e S he hb=>by
  have:=uR G i o e S he hb
  grind⟩
 have T:Tr P orc s v 0 n0 env sg wrs:={
  len:=by omega
  comp:=fun j ao Z=>by
   have bh:=(gC.1 Z).1
   rw [L j (by omega)] at Z
   obtain ⟨o,S,z⟩:=h2 _ ao Z
   rw [OD] at S
   refine ⟨xy (Rp r) o,by grind,?_⟩
   unfold bx at z ⊢
   have e1:z_ ops o.guard=some none:=by rw [U _ o S]; rfl
   have e2:z_ s (xy (Rp r) o).guard=some none:=by
    show z_ s o.guard=some none
    rw [U _ o S]; rfl
   rw [e1] at z
   rw [e2]
   exact z
  step:=fun i ao u=>(k6 i ao u).1
  wrk:=fun i u=>k7 i (by omega) u
  le:=by omega
  pair:=fun i j x y aa N hy=>by
   have Z:=(gC.1 hy).1
   have F:=iR.1 c1 j (by grind)
   have A:=iR.1 F i (by grind)
   simp only [gF] at A
   rcases A with A | A
   ·left
    have:=Lu X (Dp A)
    grind
   grind
  lead:=fun i u=>by omega
  ple:=by omega }
 have H:oR v q:=fun i u=>by
  have av:i<v.length:=by omega
  have:=iR.1 c3 (v[i]) (by
   rw [yBG]
   exact ⟨i,by grind⟩)
  rw [eS av]
  generalize v[i]=x at this
  unfold isLt at this
  split at this
  ·grind
  ·grind
  ·grind
  grind
 refine xV ab (vK hc) ?_
 replace hQ:=fun K w' M' Fz' h1 h2 F A=>(⟨hQ K w' M' Fz' h1 h2 F A,by simp⟩:mX Q .normal K w')
 have R1:Rel (sg 0) M Fz { w with drawn:=w.drawn+1 }:=R.heap rfl ⟨rfl,rfl,rfl⟩
 have EH:bH (sg 0) M Fz w (sg 0) M Fz { w with drawn:=w.drawn+1 }:=bH.heap R rfl ⟨rfl,rfl,rfl⟩
 have bd:=VA (Q:=mX Q) O T H (by omega) (fun i j bi aa bk Z=>by
   have F:=iR.1 c2 j (by grind)
   simp only [gF] at F
   rcases F with F | F
   ·grind [Nat.blt_eq]
   ·have A:=iR.1 F i (by grind)
    simp only [gF] at A
    rcases A with A | A
    ·grind [Nat.blt_eq]
    ·have:=Lu X (Dp A)
     grind) an
  (fun i j x y t u aa N hy hd a7=>by
   have Z:=(gC.1 hy).1
   have F:=iR.1 c5 j (by grind)
   have A:=iR.1 F i (by grind)
   simp only [yAT,N,hy,Option.getD_some,hd,a7,ug.mpr u,yCm] at A
   grind)
  (fun i j x y t u aa N hy hd hm=>by
   have Z:=(gC.1 hy).1
   have F:=iR.1 c6 j (by grind)
   have A:=iR.1 F i (by grind)
   have a8:(yt x).contains t=true:=by grind
   simp only [yAT,N,hy,Option.getD_some,hd,ug.mpr u,a8] at A
   grind)
  (fun m bl hr i u=>by
   let b:Array Bool:=Array.ofFn fun i:Fin ops.size=>m.getD (Rp r i) true
   have a0:b.size=ops.size:=by simp [b]
   have bt:∀i,i<ops.size→b.getD i true=m.getD (Rp r i) true:=fun i u=>by
    rw [yAV,sI (by omega)]
    simp [b]
   have a1:∀i,i<ops.size→m.getD i true=b.getD (Mz r i) true:=fun i u=>by grind
   have a9:Region.ready .any ops b=[]:=by
    cases hq:Region.ready .any ops b with
    | nil=>rfl
    | cons j l =>
     have:=DV X b m a0 (by omega) a1 j (by grind)
     grind
   have a2:=yR a0 (uR G) a9
   have:=a2 (Mz r i) (TR i (by omega))
   unfold gG at this ⊢
   grind)
  R1 (E.mono EH) (fun K w' M' Fz' hd R' E' EV=>hQ K w' M' Fz' hd R' E' (EH.trans EV (cX _)))
 exact perm_wp X ops.size (Array.replicate ops.size false) (Array.replicate ops.size false) a _ (by simp) (by simp) (fun i u=>by
  rw [yAV,yAV,yCb,yCb,if_pos (by omega),if_pos (TR i u)]) (by grind)
theorem Sem.drwG{nn q n0:Nat}{z:List Nat}{al:AL}{σ:ar}{Q:mS->AL->ar->Prop}{os:List aH}{k:Nat}{s:List Nat}{p:Nat}(u:P.follows .mixedOrders=true)(O:ou P orc)(X:Rq os s=some (z,q,n0))
  (h:cn P orc n0 (pB z os) nn al σ λal' σ' is=>Pr s z is=true/\Q .normal al' σ'):Sem P (.GZ os s k p) nn al σ Q:=by
 obtain ⟨al1,σ1,is,h,Y,Z⟩:=h;obtain ⟨E,F⟩:=XM X;intro c j M Fz w a K R A hK;obtain ⟨e',U,h2⟩:=h _ A.dk.2;cases c with
 |region id ops W=>
  simp only[bM] at j;split at j
  ·rename_i aa G;split at j
   ·rename_i hd;subst hd;split at j
    ·rename_i hb;simp only[au,aR.GZ.injEq] at j;obtain ⟨rfl,rfl,_,_⟩:=j;refine XZ u O G hb R A.dk.1 U E F Y λa' w' M' Fz' hd R' E' EV=>?_;exact hK .normal al1 σ1 a' w' M' Fz' Z (Mk.of_eq hd) R' (eU.aad E' h2) EV (Fb O _ _ _ _ _ _ _ U).1
    simp_all
   simp_all
  simp_all
 |seq a b=>grind [bM]
 |cond o a b=>grind [bM]
 |block i b=>simp[bM] at j
 |loop b=>simp[bM] at j
 |scope b=>grind [bM,Option.map_eq_some_iff,KT]
 |rangeFunc g ps x y=>rcases eE j with ⟨_,_,_,_,_,_,_,e⟩ | e <;> cases e
 |_=>grind [bM]
end
end Go.Abs
end
