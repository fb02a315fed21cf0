/- DfwV, DfwW, DfwX, DfwY, DfwZ, DfwOp, DfwEnc, DfwEq, DfwOwn, DfwTq, DfwMp, DfwFl, DfwGh -/
import Derived.Test.YtdfbphphacpkdaaGreatFwB
import GoSem.ClaimChange
import Derived.DataReads
import Derived.Below
import Derived.Laws.StructEq
import GoSem.Core.Float
import GoSem.Op.Complex
import GoSem.Conv.FloatToInt
set_option linter.all false
section
namespace Go.Abs
variable[Gl]
inductive Sh where
 |int (k:IntKind)
 |bool
 |str
 |sl (e:List Sh)
 |no
 deriving Inhabited
inductive Shaped:Sh->C->Prop where
 |int {k:IntKind} {n:Int} (h:(Lit.int k n).wf=true):Shaped (.int k) (.lit (.int k n))
 |bool (b:Bool):Shaped .bool (.lit (.bool b))
 |str {s:ByteArray} (h:s.size<=maxLen):Shaped .str (.lit (.string s))
 |sl {e:List Sh} {es:List (List C)} (hl:es.length<=maxLen) (hn:∀x∈es,x.length=e.length) (h:∀(x:List C),x∈es->∀(j:Nat) s c,e[j]? = some s->x[j]? = some c->Shaped s c):Shaped (.sl e) (.cD false es)
def fw(P:Program):Nat->TypeId->Option (List Sh)
 |0,_=>none
 |f + 1, t=>
  match P.underlying t with
  |some .bool=>some [.bool]
  |some (.int k)=>some [.int k]
  |some .string=>some [.str]
  |some (.slice e)=>
   match fw P f e with
   |some s=>if s.length=P.cellsOf e/\s≠[] then some [.sl s] else none
   |none=>none
  |some (.struct h)=>
   match h.toList.foldl (λa b=>match a,fw P f b.type with
    |some l,some s=>if b.offset=l.length/\s.length=P.cellsOf b.type then some (l++s) else none
    |_,_=>none) (some []) with
   |some l=>if l.length=P.cellsOf t then some l else none
   |none=>none
  |some (.array n e)=>
   match fw P f e with
   |some s=>if s.length=P.cellsOf e/\n * s.length=P.cellsOf t then some (List.replicate n s).flatten else none
   |none=>none
  |_=>none
def FI(w:World)(a:List Sh)(xs:List C)(cs:List Value):Prop:=
 xs.length=a.length/\cs.length=a.length/\(∀(i:Nat) s x,a[i]? = some s->xs[i]? = some x->Shaped s x) /\
  ∀(i:Nat) x v,xs[i]? = some x->cs[i]? = some v->VC (λc=>c<w.heap.size) w x v/\v.oneCell'=true
theorem FI.append{w:World}{s1 s2:List Sh}{j o:List C}{c1 u:List Value}(z:FI w s1 j c1)(A:FI w s2 o u):FI w (s1++s2) (j++o) (c1++u):=by
 obtain ⟨F,G,K,O⟩:=z;obtain ⟨R,U,W,X⟩:=A;refine ⟨by simp_all,by simp_all,λi s x hs E=>?_,λi x v E Y=>?_⟩
 ·grind
 grind
theorem FI.nil{w:World}:FI w [] [] []:=⟨rfl,rfl,λi s x h=>by simp at h,λi x v h=>by simp at h⟩
theorem FI.one{w:World}{s:Sh}{x:C}{v:Value}(u:Shaped s x)(z:VC (λc=>c<w.heap.size) w x v)(A:v.oneCell'=true):FI w [s] [x] [v]:=by
 refine ⟨rfl,rfl,λi E j hs o=>?_,λi j F o G=>?_⟩
 ·grind
 grind
theorem H_{w:World}{b:Nat}{a:Addr}{n:Nat}{cs:List Value}(h:w.cells? b a n=some cs):cs.length=n/\∀(j:Nat) v,cs[j]? = some v->w.cell? (a.add j)=some v:=by
 unfold World.cells? at h;split at h
 ·obtain ⟨i,l⟩:=Ns h
  grind
 simp_all
theorem TG{α:Type}{n:Nat}{p:Nat->α->Prop}(h:∀i,i<n->∃a,p i a):∃l:List α,l.length=n/\∀(i:Nat) a,l[i]? = some a->p i a:=by
 induction n with
 |zero=>simp_all
 |succ n ih=>
  obtain ⟨l,j,m⟩:=ih (λi o=>h i (by omega));obtain ⟨a,r⟩:=h n (by omega);refine ⟨l++[a],by simp[j],λi b s=>?_⟩
  grind
theorem DT{H:Type}{enc:TypeId×Value->H}{P:Program}{w:World}{b:Nat->Bool}{j:Bool}{f:Nat}{t e:TypeId}{cs:List Value}{d:DataW H}{ps:List MemPlace}
  (v:P.underlying t=some (.slice e)) (h:DataW.trod enc P w 0 b j (f+1) t cs=some (d,ps)) :
  cs=[.slice none 0 0]∨∃a len cap,cs=[.slice (some a) len cap]/\len<=cap/\cap<=maxLen/\∀i,i<len->∃ci o p,w.cells? 0 (a.add (i * P.cellsOf e)) (P.cellsOf e)=some ci/\DataW.trod enc P w 0 b j f e ci=some (o,p):=by
 unfold DataW.trod at h;rw[v] at h;split at h <;> rename_i l <;> first
  |(simp only[au,reduceCtorEq] at l;done)
  |skip
 ·exact .inl rfl
 ·rename_i A a len cap;simp only[au,TypeDesc.slice.injEq] at l;subst l;simp only at h;split at h
  ·rename_i u;simp only[cF] at h;obtain ⟨r,s,_⟩:=h;refine .inr ⟨a,len,cap,rfl,u.2.1,u.2.2,λi x=>?_⟩;obtain ⟨⟨o,p⟩,_,m⟩:=BG s i i (List.getElem?_range x);simp only[cF] at m;obtain ⟨ci,y,z⟩:=m;exact ⟨ci,o,p,y,z⟩
  ·simp at h
 ·simp at h
theorem Cp{H:Type}{enc:TypeId×Value->H}{P:Program}{w:World}{a:Nat->Bool}{b:Bool}{f:Nat}{t:TypeId}{o:Array Field}{cs:List Value}{d:DataW H}{ps:List MemPlace}
  (v:P.underlying t=some (.struct o)) (h:DataW.trod enc P w 0 a b (f+1) t cs=some (d,ps)) :
  cs.length=P.cellsOf t/\∀l∈o.toList,∃p r,DataW.trod enc P w 0 a b f l.type ((cs.drop l.offset).take (P.cellsOf l.type))=some (p,r):=by
 unfold DataW.trod at h;rw[v] at h;split at h <;> rename_i j <;> first
  |(simp only[au,reduceCtorEq] at j;done)
  |skip
 ·simp only[au,TypeDesc.struct.injEq] at j;subst j;split at h
  ·rename_i x;simp only[cz] at h;obtain ⟨A,s,_⟩:=h;refine ⟨x,λl u=>?_⟩;obtain ⟨i,y⟩:=yBC.1 u;obtain ⟨⟨p,r⟩,_,z⟩:=BG s i l y;exact ⟨p,r,z⟩
  ·simp at h
 ·exact absurd rfl (‹∀(m:Array Field),some (TypeDesc.struct o)=some (TypeDesc.struct m)->False› o)
theorem ES{H:Type}{enc:TypeId×Value->H}{P:Program}{w:World}{a:Nat->Bool}{b:Bool}{f n:Nat}{t e:TypeId}{cs:List Value}{d:DataW H}{ps:List MemPlace}
  (s:P.underlying t=some (.array n e)) (h:DataW.trod enc P w 0 a b (f+1) t cs=some (d,ps)) :
  cs.length=P.cellsOf t/\∀i,i<n->∃l m,DataW.trod enc P w 0 a b f e ((cs.drop (i * P.cellsOf e)).take (P.cellsOf e))=some (l,m):=by
 unfold DataW.trod at h;rw[s] at h;split at h <;> rename_i j <;> first
  |(simp only[au,reduceCtorEq] at j;done)
  |skip
 ·simp only[au,TypeDesc.array.injEq] at j;obtain ⟨rfl,rfl⟩:=j;split at h
  ·rename_i u;simp only[cz] at h;obtain ⟨y,o,_⟩:=h;refine ⟨u,λi v=>?_⟩;obtain ⟨⟨l,m⟩,_,x⟩:=BG o i i (List.getElem?_range v);exact ⟨l,m,x⟩
  ·simp at h
 ·exact absurd rfl (‹∀(p:Nat)(r:TypeId),some (TypeDesc.array n e)=some (TypeDesc.array p r)->False› n e)
theorem QM{H:Type}{enc:TypeId×Value->H}{P:Program}{w:World}{N:Nat->Bool}{aa:Bool}:∀(f:Nat)(O:Nat)(t:TypeId)(cs:List Value)(d:DataW H)(ps:List MemPlace)(R:List Sh),
  DataW.trod enc P w 0 N aa O t cs=some (d,ps)->fw P f t=some R->∃xs,FI w R xs cs:=by
 intro f;induction f with
 |zero=>grind [fw]
 |succ f ih=>
  intro O t cs d ps R v hs;cases O with
  |zero=>simp[DataW.trod] at v
  |succ O=>
   simp only[fw] at hs;split at hs
   ·
    rename_i A;simp only[au] at hs;subst hs;unfold DataW.trod at v;rw[A] at v;split at v <;> simp_all
    subst_vars
    exact ⟨_,FI.one (.bool _) (.lit _) rfl⟩
   ·
    rename_i k A;simp only[au] at hs;subst hs;unfold DataW.trod at v;rw[A] at v;split at v <;> simp_all
    obtain ⟨⟨rfl,ak⟩,_⟩:=v;exact ⟨_,FI.one (.int ak) (.lit _) rfl⟩
   ·
    rename_i A;simp only[au] at hs;subst hs;unfold DataW.trod at v;rw[A] at v;split at v <;> simp_all
    exact ⟨_,FI.one (.str v.1) (.lit _) rfl⟩
   ·
    rename_i e A;split at hs
    ·rename_i s S;split at hs
     ·rename_i b;obtain ⟨b,ab⟩:=b;simp only[au] at hs;subst hs;have a8:0<s.length:=Th.2 ab;rcases DT A v with rfl | ⟨r,len,cap,rfl,bd,be,T⟩
      ·refine ⟨[.cD false []],FI.one (.sl (by simp) (λx h=>by simp at h) (λx h=>by simp at h)) ?_ rfl⟩;exact .cD 0 none 0 (by simp) (λ_=>rfl) (λ_ _=>undef) (λe h=>by simp at h) (by simp) (λi j e d h=>by simp at h) (λi j e d h=>by simp at h)
      ·rw[<-b] at T;have an:∀i,i<len->∃(p:List C×List Value),w.cells? 0 (r.add (i * s.length)) s.length=some p.2/\FI w s p.1 p.2:=by
        intro i K;obtain ⟨ci,Z,pi,E,z⟩:=T i K;obtain ⟨xs,o⟩:=ih O e ci Z pi s z S;exact ⟨(xs,ci),E,o⟩
       obtain ⟨l,bh,G⟩:=TG an;have U:0<len->r.spot=none/\r.block<w.heap.size:=by
        intro h0;obtain ⟨ci,Z,pi,E,_⟩:=T 0 h0;obtain ⟨h3,h4⟩:=H_ E;have hc:=h4 0 _ (eI (by omega));have e0:(r.add (0 * s.length)).add 0=r:=by simp[Addr.add]
        rw[e0] at hc;exact ⟨World.cell?_spot hc,block_lt_of_cell hc⟩
       let g:Nat->Nat->Value:=λi j=>(((l[i]?).map (·.2)).bind (·[j]?)).getD undef
       have F:∀(i j:Nat)(x:List C)(c:C),(l.map (·.1))[i]? = some x->x[j]? = some c->r=⟨r.block,r.off,none⟩/\r.block<w.heap.size/\w.cell? ⟨r.block,r.off+i * s.length+j,none⟩=some (g i j) /\
         VC (λc=>c<w.heap.size) w c (g i j)/\(g i j).oneCell'=true:=by
        intro i j x c y hc;simp only[lW,cz] at y;obtain ⟨p,W,rfl⟩:=y;obtain ⟨E,z,h3,h4,h5⟩:=G i p W;have K:i<len:=by grind
        obtain ⟨bi,bk⟩:=U (by omega);have bl:r=⟨r.block,r.off,none⟩:=by cases r;simp_all
        grind [H_,eU]
       have a9:(l.map (·.1)).length=len:=by grind
       refine ⟨[.cD false (l.map (·.1))],FI.one (.sl (by omega) (λx y=>?_) (λx y j sj c E z=>?_)) ?_ rfl⟩
       ·simp only[iQ] at y;obtain ⟨p,W,rfl⟩:=y;obtain ⟨i,K⟩:=yBC.1 W;exact (G i p K).2.1
       ·simp only[iQ] at y;obtain ⟨p,W,rfl⟩:=y;obtain ⟨i,K⟩:=yBC.1 W;exact (G i p K).2.2.2.1 j sj c E z
       ·have:=VC.cD (Fz:=λc=>c<w.heap.size) (w:=w) (nn:=false) (es:=l.map (·.1)) s.length (some r) cap (by simp) (λh=>by cases h) g (λx y=>?_) (by omega) (λi j x c E z=>?_) (λi j x c E z=>(F i j x c E z).2.2.2.1)
        ·grind
        ·simp only[iQ] at y;obtain ⟨p,W,rfl⟩:=y;obtain ⟨i,K⟩:=yBC.1 W;exact (G i p K).2.1
        grind
     simp_all
    simp_all
   ·
    rename_i fs A;split at hs
    ·rename_i l hl;split at hs
     ·rename_i bt;simp only[au] at hs;subst hs;obtain ⟨E,z⟩:=Cp A v;have X:∀(fl:List Field)(a:List Sh)(ax:List C),(∀u∈fl,u∈fs.toList)->a.length<=cs.length->FI w a ax (cs.take a.length) ->
        fl.foldl (λa u=>match a,fw P f u.type with
         |some l,some s=>if u.offset=l.length/\s.length=P.cellsOf u.type then some (l++s) else none
         |_,_=>none) (some a)=some l->l.length<=cs.length->∃xs,FI w l xs (cs.take l.length):=by
       intro fl;induction fl with
       |nil=>grind
       |cons u fl av=>
        intro a ax L bb a0 he a1;simp only[List.foldl_cons] at he;have a2:∀(gl:List Field),gl.foldl (λa u=>match a,fw P f u.type with
         |some l,some s=>if u.offset=l.length/\s.length=P.cellsOf u.type then some (l++s) else none
         |_,_=>none) none=none:=by
         intro gl;induction gl with
         |nil=>rfl
         |cons _ _ ih=>simp_all
        cases af:fw P f u.type with
        |none=>simp_all
        |some s=>
         rw[af] at he;simp only at he;split at he
         ·rename_i hc;obtain ⟨bc,b⟩:=hc;obtain ⟨Z,pi,hd⟩:=z u (L u (by simp));obtain ⟨xs,o⟩:=ih O u.type _ Z pi s hd af;have a5:a.length+s.length<=cs.length:=by
           have:=o.2.1
           grind
          refine av (a++s) (ax++xs) (λx y=>L x (by simp[y])) (by simp_all) ?_ he a1;have Y:cs.take (a++s).length=cs.take a.length++(cs.drop u.offset).take (P.cellsOf u.type):=by grind
          rw[Y];exact a0.append o
         simp_all
      obtain ⟨xs,o⟩:=X fs.toList [] [] (λ_ h=>h) (by simp) (by grind [FI.nil]) hl (by omega)
      grind
     simp_all
    simp_all
   ·
    rename_i n e A;split at hs
    ·rename_i s S;split at hs
     ·rename_i b;obtain ⟨b,bu⟩:=b;simp only[au] at hs;subst hs;obtain ⟨E,z⟩:=ES A v;rw[<-b] at z;have X:∀m,m<=n->∃xs,FI w (List.replicate m s).flatten xs (cs.take (m * s.length)):=by
       intro m;induction m with
       |zero=>intro _;exact ⟨[],by grind [FI.nil]⟩
       |succ m a6=>
        intro hm;obtain ⟨xs,o⟩:=a6 (by omega);obtain ⟨Z,pi,hd⟩:=z m (by omega);obtain ⟨ys,a7⟩:=ih O e _ Z pi s hd S;refine ⟨xs++ys,?_⟩;have e1:(List.replicate (m+1) s).flatten=(List.replicate m s).flatten++s:=by grind [List.replicate_succ']
        rw[e1,Nat.succ_mul,List.take_add];exact o.append a7
      obtain ⟨xs,o⟩:=X n (cU _)
      grind
     simp_all
    simp_all
   simp_all
end Go.Abs
end
section
namespace Go.Abs
variable[Gl]
open Go.RowKit
theorem Rel.start(w:World)(i:Gl.ok (λc=>c<w.heap.size) w):Rel [] (λ_=>none) (λc=>c<w.heap.size) w:={
 blk:=λb c h=>by simp at h
 inj:=λb j c h=>by simp at h
 fz:=λc h=>h
 gl:=i }
theorem V.UO{w:World}{j:List Sh}{xs:List C}{vs:Array Value}(h:FI w j xs vs.toList){σ:ar}{M:Nat->Option Nat}:V σ M (λc=>c<w.heap.size) w (.agg (xs.map .c)) (.agg vs):=by obtain ⟨u,z,_,o⟩:=h;refine .agg vs (by simp_all) (λi d v a b=>?_);simp only[lW,cz] at a;obtain ⟨x,s,rfl⟩:=a;exact .c (o i x v s (by simp_all)).1
theorem bD.below{σ:ar}{M:Nat->Option Nat}{Fz:Nat->Prop}{w w':World}(R:Rel σ M Fz w)(i:Below w.heap.size w w'):bD σ M Fz w σ M Fz w':={
 size:=i.size
 frame:=λc o _=>i.block c o
 kS:=λb c h=>.inl ⟨b,h⟩
 fz:=λc h=>⟨h,i.block c (R.fz c h)⟩
 nU:=λc h=>.inl h
 pQ:=λc j T u h=>⟨j,by rw[i.block c (BI.1 h).1];exact h,rfl⟩
 keep:=λb s h=>⟨s,h,cU _,λ_=>rfl⟩
 out:=⟨i.os,i.tape,i.output⟩ }
theorem Rel.below{σ:ar}{M:Nat->Option Nat}{Fz:Nat->Prop}{w w':World}(R:Rel σ M Fz w)(i:Below w.heap.size w w'):Rel σ M Fz w':={
 blk:=λb c h=>by obtain ⟨j,ob,o,h2,h3,s⟩:=R.blk b c h;exact ⟨j,ob,o,h2,by rw[i.block c (R.lt h).2];exact h3,s.mono (bD.below R i)⟩
 inj:=R.inj
 fz:=λc h=>FH (R.fz c h) i.size
 gl:=Gl.mono (bD.below R i).fz R.gl }
noncomputable def QW(P:Program)(a:List Nat)(g:FuncId):Option kQ:=
 match P.funcs[g]? with
 |some fn=>if aS P g then iq P fn (!a.contains g) else none
 |none=>none
theorem ZM(P:Program)(a:List Nat):TblOk P (QW P a):=by
 intro g b h
 grind [QW]
end Go.Abs
end
section
namespace Go.Abs
variable[Gl]
abbrev AL:=List (Nat×D)
def lk(t:Nat):AL->Option D
 |[]=>none
 |(s,d)::al=>match Nat.beq s t with | true=>some d | false=>lk t al
def xx(n:Nat)(al:AL):List D:=(List.range n).map λt=>(lk t al).getD .any
def Env(n:Nat)(al:AL)(e:List D):Prop:=e.length=n/\∀t d,lk t al=some d->e[t]? = some d
def eT(n:Nat)(σ:ar)(M:Nat->Option Nat)(Fz:Nat->Prop)(w:World)(al:AL)(a:Array Value):Prop:=
 a.size=n/\∀t d,lk t al=some d->∃v,a[t]? = some v/\V σ M Fz w d v
section
variable{P:Program}{orc:vE}{σ σ' σ1 aC:ar}{M M':Nat->Option Nat}{Fz Fz':Nat->Prop}{w w':World}{n:Nat}{al al1 al2:AL}
theorem eT.de{o:Array Value}(h:eT n σ M Fz w al o):dx σ M Fz w (xx n al) o/\Env n al (xx n al):=by
 refine ⟨⟨by simp[xx,h.1],λi d v a b=>?_⟩,by simp[xx],λt d u=>?_⟩
 ·simp only[xx,lW,cz] at a;obtain ⟨j,A,rfl⟩:=a;have:j=i:=by
   grind
  subst this;cases x:lk j al with
  |none=>exact .any v
  |some d=>
   obtain ⟨E,s,F⟩:=h.2 j d x
   simp_all
 ·obtain ⟨v,s,_⟩:=h.2 t d u;have z:t<n:=by have:=(BI.1 s).1;rw[h.1] at this;omega
  grind [xx]
theorem eT.Zz{i:Array Value}{e:List D}(h:dx σ M Fz w e i)(j:Env n al e):eT n σ M Fz w al i:=by
 refine ⟨by rw[h.1,j.1],λt d s=>?_⟩;have u:=j.2 t d s;have o:t<i.size:=by rw[h.1];grind
 exact ⟨i[t],rk o,h.2 t d _ u (rk o)⟩
def Sem(P:Program)(ac:aP)(n:Nat)(al:AL)(σ:ar)(Q:nG->AL->ar->Prop):Prop:=
 ∀ (c : Code), bG P c = some ac -> ∀ (M : Nat -> Option Nat) (Fz : Nat -> Prop) (w : World) (a : Act) (K : Exit -> Act -> World -> Prop), Rel σ M Fz w -> eT n σ M Fz w al a.tmps ->
  (∀x al' σ' b w' M' Fz',Q x al' σ'->Mk w.heap.size M' Fz' w' b.defers a.defers->Rel σ' M' Fz' w'->eT n σ' M' Fz' w' al' b.tmps->bD σ M Fz w σ' M' Fz' w'->σ.length<=σ'.length->K (yr x) b w')->c.wq P K a w
def lS(P:Program)(ac:aP)(k:Nat)(n:Nat)(al:AL)(σ:ar)(Q:nG->AL->ar->Prop):Prop:=
 ∀ (c : Code), bG P c = some ac -> ∀ (M : Nat -> Option Nat) (Fz : Nat -> Prop) (w : World) (a : Act) (K : Exit -> Act -> World -> Prop), Rel σ M Fz w -> eT n σ M Fz w al a.tmps ->
  (∀x al' σ' b w' M' Fz',Q x al' σ'->Mk w.heap.size M' Fz' w' b.defers a.defers->Rel σ' M' Fz' w'->eT n σ' M' Fz' w' al' b.tmps->bD σ M Fz w σ' M' Fz' w'->σ.length<=σ'.length->K (yr x) b w')->Code.rq P c K k a w
def DP(d a:D):Prop:=∀σ M Fz w v,V σ M Fz w d v->V σ M Fz w a v
theorem DP.refl(d:D):DP d d:=λ_ _ _ _ _ h=>h
def Sub(al1:AL):AL->Prop
 |[]=>True
 |(t,d)::al2=>(∃d1,lk t al1=some d1/\DP d1 d)/\Sub al1 al2
theorem Sub.get{al1 al2:AL}(h:Sub al1 al2){t:Nat}{d:D}(i:lk t al2=some d):∃d1,lk t al1=some d1/\DP d1 d:=by
 induction al2 with
 |nil=>grind [lk]
 |cons p al2 ih=>
  obtain ⟨s,o⟩:=p;simp only[lk] at i;split at i
  ·rename_i j;have:=cS j;simp only[au] at i;subst this i;exact h.1
  ·exact ih h.2 i
theorem Sub.one{al1 al2:AL}{t:Nat}{d d1:D}(h:lk t al1=some d1)(hd:DP d1 d)(r:Sub al1 al2):Sub al1 ((t,d)::al2):=⟨⟨d1,h,hd⟩,r⟩
theorem Sub.same{al1 al2:AL}{t:Nat}{d:D}(h:lk t al1=some d)(r:Sub al1 al2):Sub al1 ((t,d)::al2):=⟨⟨d,h,DP.refl d⟩,r⟩
theorem eT.sub {i:Array Value} (h:eT n σ M Fz w al1 i) (hs:Sub al1 al2):eT n σ M Fz w al2 i:=
 ⟨h.1,fun t d j=>by
  obtain ⟨d1,o,s⟩:=hs.get j
  obtain ⟨v,u,x⟩:=h.2 t d1 o
  exact ⟨v,u,s _ _ _ _ _ x⟩⟩
def D.low(m:Nat):D->Bool
 |.c _=>true
 |.any=>true
 |.ptr b _ _=>b<m
 |.sl b _ _ _ _=>b<m
 |.mp b=>b<m
 |.fn _ a b=>cP m a&&cP m b
 |.agg ds=>cP m ds
 |.aQ ds=>cP m ds
where cP (m:Nat):List D->Bool
 |[]=>true
 |d::ds=>d.low m&&cP m ds
theorem D.aX{m:Nat}:∀{ds:List D},D.low.cP m ds=true->∀(i:Nat) d,ds[i]? = some d->d.low m=true:=by
 intro ds;induction ds with
 |nil=>simp_all
 |cons x ds ih=>
  intro h i d j;simp only[D.low.cP,bH] at h
  grind
def Ob.low(m:Nat):Ob->Bool
 |.cells i=>D.low.cP m i
 |.map j _=>j.all λe=>e.2.1.low m
 |.gone _=>true
theorem V.Ff{m:Nat}{d:D}{v:Value}(h:V σ M Fz w d v)(j:d.low m=true):V (σ.take m) (cT M m) Fz w d v:=by
 induction h with
 |c h=>exact .c h
 |any v=>exact .any v
 |ptr a u h o s=>simp only[D.low,br] at j;exact .ptr a u (by simp_all) o (λA=>by grind [cT])
 |sl a n cap E u h o s=>simp only[D.low,br] at j;exact .sl a n cap E u (by simp_all) o (λA=>by simpa[cT,j] using s A)
 |mp c u h s=>simp only[D.low,br] at j;exact .mp c u (by simp_all) (λA=>by grind [cT])
 |fn x K z O s R F G=>simp only[D.low,bH] at j;exact .fn x K z O (λi d v a b=>F i d v a b (D.aX j.1 i d a)) (λi d v a b=>G i d v a b (D.aX j.2 i d a))
 |agg x z s ih=>simp only[D.low] at j;exact .agg x z (λi d v a b=>ih i d v a b (D.aX j i d a))
 |aQ x z s ih=>simp only[D.low] at j;exact .aQ x z (λi d v a b=>ih i d v a b (D.aX j i d a))
theorem Rel.Ff{m:Nat}(R:Rel σ M Fz w)(U:(σ.take m).all (Ob.low m)=true):Rel (σ.take m) (cT M m) Fz w:=by
 refine ⟨λb c h=>?_,λb W c h F=>?_,R.fz,R.gl⟩
 ·unfold cT at h;split at h
  ·rename_i Z;obtain ⟨X,z,o,h2,Y,G⟩:=R.blk b c h;have A:(σ.take m)[b]? = some z:=by simp_all
   have j:z.low m=true:=iE.1 U z (Ay A);refine ⟨X,z,o,A,Y,?_⟩;cases z with
   |cells cs=>obtain ⟨s,T,K,u,E⟩:=G;exact ⟨s,T,K,u,λi d v x y=>⟨(E i d v x y).1.Ff (D.aX j i d x),(E i d v x y).2⟩⟩
   |map es O=>obtain ⟨s,K,u,E⟩:=G;refine ⟨s,K,u,λi k d n e x y=>?_⟩;obtain ⟨p,q,r⟩:=E i k d n e x y;simp only[Ob.low,iE] at j;exact ⟨p,q,r.Ff (j (k,d,n) (Ay x))⟩
   |gone n=>exact G.elim
  simp_all
 ·unfold cT at h F;split at h
  ·split at F
   ·exact R.inj b W c h F
   simp_all
  simp_all
theorem bD.Ff{m:Nat}(E:bD σ M Fz w σ1 M' Fz' w')(hm:σ.length<=m):bD σ M Fz w (σ1.take m) (cT M' m) Fz' w':=by
 refine ⟨E.size,E.frame,λb c h=>?_,E.fz,E.nU,E.pQ,λb j h=>?_,E.out⟩
 ·unfold cT at h;split at h
  ·exact E.kS b c h
  simp_all
 ·obtain ⟨i,u,o,x⟩:=E.keep b j h;have s:b<m:=FH (gh.1 h).1 hm;exact ⟨i,by simp_all,o,λz=>by simp only[cT,if_pos s];simp_all⟩
inductive Wk (k:Nat) (al1:AL) (σ1:ar):AL->ar->Prop where
 |refl:Wk k al1 σ1 al1 σ1
 |same {al2:AL} (h:Sub al1 al2):Wk k al1 σ1 al2 σ1
 |cut {al2:AL} (m:Nat) (hm:k<=m) (hs:m<=σ1.length) (h:Sub al1 al2) (hd:al2.all (λp=>p.2.low m)=true) (hl:(σ1.take m).all (Ob.low m)=true):Wk k al1 σ1 al2 (σ1.take m)
theorem nM{t:Nat}{d:D}:∀{al:AL},lk t al=some d->(t,d)∈al:=by
 intro al;induction al with
 |nil=>grind [lk]
 |cons p al ih=>grind [lk,Nat.eq_of_beq_eq_true]
theorem Wk.use{aC:ar}(h:Wk σ.length al1 σ1 al2 aC){i:Array Value}(R:Rel σ1 M' Fz' w')(A:eT n σ1 M' Fz' w' al1 i)(E:bD σ M Fz w σ1 M' Fz' w')(s:σ.length<=σ1.length) :
  ∃j,Rel aC j Fz' w'/\eT n aC j Fz' w' al2 i/\bD σ M Fz w aC j Fz' w'/\σ.length<=aC.length/\IG M' Fz' j Fz':=by
 cases h with
 |refl=>exact ⟨M',R,A,E,s,IG.refl⟩
 |same h=>exact ⟨M',R,A.sub h,E,s,IG.refl⟩
 |cut m x hs h hd o=>
  refine ⟨cT M' m,R.Ff o,⟨A.1,λt d u=>?_⟩,E.Ff x,by simp_all,⟨λb c h=>⟨b,by simp only[cT] at h;split at h <;> simp_all⟩,λc h=>.inl h,λc h=>h⟩⟩
  obtain ⟨v,z,F⟩:=(A.sub h).2 t d u;exact ⟨v,z,F.Ff (iE.1 hd (t,d) (nM u))⟩
end
end Go.Abs
end
section
namespace Go.Abs
variable[Gl]
section
variable{P:Program}{orc:gp}{σ σ' σ1 aC:ar}{n:Nat}{al al1 al2:AL}{Q:nG->AL->ar->Prop}
theorem Sem.mono{ac:aP}{Q':nG->AL->ar->Prop}(h:Sem P ac n al σ Q)(i:∀x al' σ',Q x al' σ'->∃al2 aC,Wk σ.length al' σ' al2 aC/\Q' x al2 aC):Sem P ac n al σ Q':=by
 intro c j M Fz w a K R A U;refine h c j M Fz w a K R A λx al' σ' W w' M' Fz' o hd s u z E=>?_;obtain ⟨al2,aC,F,G⟩:=i x al' σ' o;obtain ⟨X,Y,Z,E2,l2,O⟩:=F.use s u z E;have hd:=hd.wth O
 grind
theorem Sem.pre{ac:aP}(hs:Sub al al1)(h:Sem P ac n al1 σ Q):Sem P ac n al σ Q:=by intro c i M Fz w a K R A j;exact h c i M Fz w a K R (A.sub hs) j
theorem lS.pre{ac:aP}{k:Nat}(hs:Sub al al1)(h:lS P ac k n al1 σ Q):lS P ac k n al σ Q:=by intro c i M Fz w a K R A j;exact h c i M Fz w a K R (A.sub hs) j
theorem Sem.DZ(i:P.follows .mixedOrders=true)(O:nW P orc){ac:aP}{k:Nat}{x:nG}{e e':List D}{wr wr':List Nat}(h:kF P orc k ac e σ wr=some (x,e',σ',wr'))
  (j:e=xx n al) (o:Env n al1 e') (z:Q x al1 σ'):Sem P ac n al σ Q:=by
 intro c s M Fz w a K R A E;subst j;refine (JE i O k).1 c ac σ σ' M Fz w _ e' a wr wr' x K s R A.de.1 h λu w' M' Fz' hd F G U=>?_;have hd:=(Mk.of_eq hd:Mk w.heap.size M' Fz' w' u.defers a.defers)
 grind [eT.Zz,vC]
theorem Sem.skip(i:P.follows .mixedOrders=true)(j:Q .normal al σ):Sem P .skip n al σ Q:=by intro c o M Fz w a K R A s;have:Sem P .skip n al σ Q:=Sem.DZ i (orc:=λ_ _ _ _=>none) (λt g ds σ r σ' wr h=>by simp at h) (k:=1) (wr:=[]) (wr':=[]) (e:=xx n al) rfl rfl A.de.2 j;exact this c o M Fz w a K R A s
theorem Sem.ret(i:P.follows .mixedOrders=true)(j:Q .ret al σ):Sem P .ret n al σ Q:=by intro c o M Fz w a K R A s;have:Sem P .ret n al σ Q:=Sem.DZ i (orc:=λ_ _ _ _=>none) (λt g ds σ r σ' wr h=>by simp at h) (k:=1) (wr:=[]) (wr':=[]) (e:=xx n al) rfl rfl A.de.2 j;exact this c o M Fz w a K R A s
theorem Sem.exit(i:P.follows .mixedOrders=true){id:Nat}(j:Q (.exit id) al σ):Sem P (.exit id) n al σ Q:=by intro c o M Fz w a K R A s;have:Sem P (.exit id) n al σ Q:=Sem.DZ i (orc:=λ_ _ _ _=>none) (λt g ds σ r σ' wr h=>by simp at h) (k:=1) (wr:=[]) (wr':=[]) (e:=xx n al) rfl rfl A.de.2 j;exact this c o M Fz w a K R A s
theorem Sem.seq{a b:aP}(h:Sem P a n al σ λx al1 σ1=>match x with | .normal=>∃al2 aC,Wk σ.length al1 σ1 al2 aC/\Sem P b n al2 aC Q | x=>Q x al1 σ1):Sem P (.seq a b) n al σ Q:=by
 intro c j M Fz w s K R A U;cases c with
 |seq c1 W=>
  simp only[bG] at j;split at j
  ·rename_i a1 a2 h1 h2;simp only[au,aP.seq.injEq] at j;obtain ⟨rfl,rfl⟩:=j;refine Qe (h c1 h1 M Fz w s _ R A λx al1 σ1 X w' M' Fz' Y hd Z A' E' hl=>?_);cases x with
   |normal=>obtain ⟨al2,aC,hw,hs⟩:=Y;obtain ⟨M2,R2,A2,E2,l2,W2⟩:=hw.use Z A' E' hl;exact hs W h2 M2 Fz' w' X K R2 A2 λx u z a3 w3 M3 E F G R3 A3 E3 O=>U x u z a3 w3 M3 E F (Mk.trans E3 E2.size (hd.wth W2) G) R3 A3 (E2.trans E3 l2) (lQ l2 O)
   |exit i=>grind [pV]
   |ret=>exact U .ret al1 σ1 X w' M' Fz' Y hd Z A' E' hl
  simp_all
 |region id ops aa=>
  simp only[bG] at j
  grind
 |cond o c1 W=>grind [bG]
 |block id c1=>simp[bG] at j
 |loop c1=>simp[bG] at j
 |scope b=>grind [bG,Option.map_eq_some_iff,Kz]
 |rangeFunc g ps x y=>rcases ed j with ⟨_,_,_,_,_,_,_,e⟩ | e <;> cases e
 |_=>grind [bG]
theorem Sem.cond{o:aO}{t e:aP}{b:Bool}(u:(match o with | .t k=>lk k al | .k d=>some d)=some (.c (.lit (.bool b))))
  (U:b=true->Sem P t n al σ Q) (W:b=false->Sem P e n al σ Q):Sem P (.cond o t e) n al σ Q:=by
 intro c i M Fz w j K R A z;cases c with
 |cond x c1 E=>
  simp only[bG] at i;split at i
  ·rename_i F a1 a2 X Y Z;simp only[au,aP.cond.injEq] at i;obtain ⟨rfl,rfl,rfl⟩:=i;have G:=lV A.de.1 X;have s:gD (F.ev (xx n al))=some b:=by
    cases F with
    |t k=>dsimp only at u;simp[aO.ev,A.de.2.2 k _ u,gD]
    |k d=>simp only[au] at u;subst u;rfl
   cases b with
   |true=>exact zB (oJ G s) (U rfl c1 Y M Fz w j K R A z)
   |false=>exact xK (oJ G s) (W rfl E Z M Fz w j K R A z)
  simp_all
 |region id ops O=>
  simp only[bG] at i
  grind
 |seq c1 E=>grind [bG]
 |block id c1=>simp[bG] at i
 |loop c1=>simp[bG] at i
 |scope b=>grind [bG,Option.map_eq_some_iff,Kz]
 |rangeFunc g ps x y=>rcases ed i with ⟨_,_,_,_,_,_,_,e⟩ | e <;> cases e
 |_=>grind [bG]
theorem Sem.step{a b:aP}(al2:AL)(aC:ar)(i:Sem P a n al σ λx al1 σ1=>x=.normal/\Wk σ.length al1 σ1 al2 aC)(j:Sem P b n al2 aC Q):Sem P (.seq a b) n al σ Q:=
 Sem.seq (i.mono λx al1 σ1 ⟨o,s⟩=>⟨al1,σ1,.refl,by grind⟩)
def out(id:Nat):nG->nG
 |.exit i=>if i=id then .normal else .exit i
 |x=>x
def behind(id:Nat)(Q:nG->AL->ar->Prop)(al:AL)(σ:ar):nG->Prop
 |.normal=>Q .normal al σ
 |.ret=>Q .ret al σ
 |.exit i=>(i=id->Q .normal al σ)/\(i≠id->Q (.exit i) al σ)
theorem Sem.block{id:Nat}{b:aP}(U:Sem P b n al σ λx al1 σ1=>∃al2 aC,Wk σ.length al1 σ1 al2 aC/\behind id Q al2 aC x):Sem P (.block id b) n al σ Q:=by
 have h:Sem P b n al σ λx al1 σ1=>∃al2 aC,Wk σ.length al1 σ1 al2 aC/\Q (out id x) al2 aC:=U.mono λx al1 σ1 ⟨al2,aC,E,u⟩=>⟨al1,σ1,.refl,al2,aC,E,by
  cases x with
  |normal=>exact u
  |ret=>exact u
  |exit i=>
   by_cases z:i=id
   ·simp only[out,if_pos z];exact u.1 z
   ·simp only[out,if_neg z];exact u.2 z⟩
 intro c s M Fz w F K R A W;cases c with
 |block i c1=>
  simp only[bG,cz,aP.block.injEq] at s;obtain ⟨a1,X,rfl,rfl⟩:=s;refine LP (h c1 X M Fz w F _ R A λx al1 σ1 Y w' M' Fz' Z hd R' A' E' hl=>?_);obtain ⟨al2,aC,E,hq⟩:=Z;obtain ⟨M2,R2,A2,E2,l2,W2⟩:=E.use R' A' E' hl;have:=W _ al2 aC Y w' M2 Fz' hq (hd.wth W2) R2 A2 E2 l2;cases x with
  |normal=>exact this
  |ret=>exact this
  |exit j=>
   by_cases G:j=2 * i
   ·simp only[out,if_pos G] at this;rw[G];exact DQ this
   ·simp only[out,if_neg G] at this
    grind [BS]
 |region id ops O=>
  simp only[bG] at s
  grind
 |seq c1 c2=>grind [bG]
 |cond o c1 c2=>grind [bG]
 |loop c1=>simp[bG] at s
 |scope b=>grind [bG,Option.map_eq_some_iff,Kz]
 |rangeFunc g ps x y=>rcases ed s with ⟨_,_,_,_,_,_,_,e⟩ | e <;> cases e
 |_=>grind [bG]
theorem Sem.loop{b:aP}(k:Nat)(h:lS P b k n al σ Q):Sem P (.loop b) n al σ Q:=by
 intro c i M Fz w j K R A u;cases c with
 |loop c1=>simp only[bG,cz,aP.loop.injEq] at i;obtain ⟨F,z,rfl⟩:=i;exact uq k (h c1 z M Fz w j K R A u)
 |region id ops s=>
  simp only[bG] at i
  grind
 |seq c1 E=>grind [bG]
 |cond o c1 E=>grind [bG]
 |block id c1=>simp[bG] at i
 |scope b=>grind [bG,Option.map_eq_some_iff,Kz]
 |rangeFunc g G x y=>rcases ed i with ⟨_,_,_,_,_,_,_,e⟩ | e <;> cases e
 |_=>grind [bG]
theorem lS.succ{b:aP}{k:Nat}(h:Sem P b n al σ λx al1 σ1=>match x with | .normal=>∃al2 aC,Wk σ.length al1 σ1 al2 aC/\lS P b k n al2 aC Q | x=>∃al2 aC,Wk σ.length al1 σ1 al2 aC/\Q x al2 aC):lS P b (k+1) n al σ Q:=by
 intro c hc M Fz w G K R A hK;rw[JB];refine h c hc M Fz w G _ R A λx al1 σ1 a' w' M' Fz' O hd U W X Y=>?_;cases x with
 |normal=>obtain ⟨al2,aC,j,hs⟩:=O;obtain ⟨z,E,F,o,s,u⟩:=j.use U W X Y;exact hs c hc z Fz' w' a' K E F λx Z aa a3 w3 M3 ab ad af R3 A3 E3 ak=>hK x Z aa a3 w3 M3 ab ad (Mk.trans E3 o.size (hd.wth u) af) R3 A3 (o.trans E3 s) (lQ s ak)
 |exit i=>
  obtain ⟨al2,aC,j,hq⟩:=O;obtain ⟨z,E,F,o,s,u⟩:=j.use U W X Y;have hd:=hd.wth u
  grind [pV]
 |ret=>obtain ⟨al2,aC,j,hq⟩:=O;obtain ⟨z,E,F,o,s,u⟩:=j.use U W X Y;exact hK .ret al2 aC a' w' z Fz' hq (hd.wth u) E F o s
theorem Sem.rounds{b:aP}{V:Type}(L:V->AL)(H:V->ar)(p:Nat->V->Prop)(k:Nat)(v:V)(s:p k v)(u:∀v,p 0 v->False)
  (hs:∀k v,p (k+1) v->Sem P b n (L v) (H v) λx al1 σ1=>match x with | .normal=>∃i,p k i/\Wk (H v).length al1 σ1 (L i) (H i) | x=>∃al2 aC,Wk (H v).length al1 σ1 al2 aC/\Q x al2 aC)
  (o:Sub al (L v)) (j:σ=H v):Sem P (.loop b) n al σ Q:=by
 subst j;refine Sem.loop k (lS.pre o ?_);clear o;induction k generalizing v with
 |zero=>simp_all
 |succ k ih=>
  refine lS.succ ((hs k v s).mono λx al1 σ1 z=>⟨al1,σ1,.refl,?_⟩)
  grind
def IK(P:Program)(orc:gp)(k:Nat)(os:List aG)(n:Nat)(al:AL)(σ:ar)(al':AL)(σ':ar)(is:List dV):Prop:=
 ∀e,Env n al e->∃a,lJ P orc k os e σ=some (a,σ',is)/\Env n al' a
theorem Mc:∀(os:List aG)(e e':List D)(σ σ':ar)(is:List dV),lJ P orc 0 os e σ=some (e',σ',is)->oA P orc os e σ=some (e',σ',is.flatMap (·.wr)):=by
 intro os;induction os with
 |nil=>intro e e' σ σ' is h;simp only[lJ,au,aT] at h;obtain ⟨rfl,rfl,rfl⟩:=h;rfl
 |cons o os ih=>grind [lJ,oA,dz]
theorem Sem.CK(i:P.follows .mixedOrders=true)(O:nW P orc){os:List aG}{is:List dV}(h:IK P orc 0 os n al σ al1 σ1 is)(j:Q .normal al1 σ1):Sem P (.CK os) n al σ Q:=by intro c o M Fz w a K R A s;obtain ⟨e',u,z⟩:=h _ A.de.2;have E:=Mc _ _ _ _ _ _ u;have:Sem P (.CK os) n al σ Q:=Sem.DZ i O (k:=1) (wr:=[]) (e:=xx n al) (e':=e') (x:=.normal) (σ':=σ1) (wr':=is.flatMap (·.wr)++[]) (by grind [kF]) rfl z j;exact this c o M Fz w a K R A s
theorem Sem.HA(j:P.follows .mixedOrders=true)(O:nW P orc){os:List aG}{i:List Nat}{k p:Nat}{is:List dV}(h:IK P orc k os n al σ al1 σ1 is)(F:(eK i is&&mc i p k os.length&&Nat.ble p k)=true)(o:Q .normal al1 σ1) :
  Sem P (.HA os i k p) n al σ Q:=by
 intro c s M Fz w a K R A u;obtain ⟨e',G,z⟩:=h _ A.de.2;have E:ke P orc os i p k (xx n al) σ=some (e',σ1,is.flatMap (·.wr)):=by
  unfold ke
  simp_all
 have:Sem P (.HA os i k p) n al σ Q:=Sem.DZ j O (k:=1) (wr:=[]) (e:=xx n al) (e':=e') (x:=.normal) (σ':=σ1) (by simp only[kF,E];rfl) rfl z o;exact this c s M Fz w a K R A u
theorem MA:∀(os:List aG)(n m:Nat)(e:List D)(σ:ar)(r a:List D×ar×List dV),lJ P orc n os e σ=some r->lJ P orc m os e σ=some a->r=a:=by
 intro os;induction os with
 |nil=>grind [lJ]
 |cons o os ih=>grind [lJ]
theorem Sem.drwN(j:P.follows .mixedOrders=true)(O:nW P orc){os:List aG}{i:List Nat}{k p:Nat}{is:List dV}(h:IK P orc os.length os n al σ al1 σ1 is)(Y:(eK i is&&mc i p os.length os.length&&Nat.ble p os.length)=true)(u:Q .normal al1 σ1) :
  Sem P (.HA os i k p) n al σ Q:=by
 intro c z M Fz w a K R A E;obtain ⟨e',F,G⟩:=h _ A.de.2;have U:∀m r,ke P orc os i p m (xx n al) σ=some r->r=(e',σ1,is.flatMap (·.wr)):=by
  intro m r o;unfold ke at o;split at o
  ·rename_i Z aC W s;have:=MA _ _ _ _ _ _ _ s F
   simp_all
  simp_all
 have s:ke P orc os i p os.length (xx n al) σ=some (e',σ1,is.flatMap (·.wr)):=by
  unfold ke
  simp_all
 have X:kF P orc 1 (.HA os i k p) (xx n al) σ []=some (.normal,e',σ1,is.flatMap (·.wr)++[]):=by grind [kF]
 have:Sem P (.HA os i k p) n al σ Q:=Sem.DZ j O (k:=1) (wr:=[]) (e:=xx n al) (e':=e') (x:=.normal) (σ':=σ1) X rfl G u;exact this c z M Fz w a K R A E
end
end Go.Abs
end
section
namespace Go.Abs
variable[Gl]
open Go.RowKit
def Pure(P:Program)(g:FuncId)(ds:List D)(r:D):Prop:=aS P g=true/\Ok P g ds [] r []
section
variable{P:Program}{σ σ':ar}{M M':Nat->Option Nat}{Fz Fz':Nat->Prop}{w w':World}
theorem V.data{d:D}{v:Value}(h:V σ M Fz w d v)(j:d.low 0=true)(σ':ar)(M':Nat->Option Nat):V σ' M' Fz w d v:=by
 induction h with
 |c h=>exact .c h
 |any v=>exact .any v
 |ptr a E h x o=>grind [D.low]
 |sl a n cap F E h x o=>grind [D.low]
 |mp c E h o=>grind [D.low]
 |fn s G u K o O z A=>simp only[D.low,bH] at j;exact .fn s G u K (λi d v a b=>z i d v a b (D.aX j.1 i d a)) (λi d v a b=>A i d v a b (D.aX j.2 i d a))
 |agg s u o ih=>simp only[D.low] at j;exact .agg s u (λi d v a b=>ih i d v a b (D.aX j i d a))
 |aQ s u o ih=>simp only[D.low] at j;exact .aQ s u (λi d v a b=>ih i d v a b (D.aX j i d a))
def D.ground:D->Bool
 |.c (.lit _)=>true
 |.agg ds=>ie ds
 |.aQ ds=>ie ds
 |_=>false
where ie:List D->Bool
 |[]=>true
 |d::ds=>d.ground&&ie ds
theorem D.BK:∀{ds:List D},D.ground.ie ds=true->∀(i:Nat) d,ds[i]? = some d->d.ground=true:=by
 intro ds;induction ds with
 |nil=>simp_all
 |cons x ds ih=>
  intro h i d j;simp only[D.ground.ie,bH] at h
  grind
theorem V.lit{d:D}{v:Value}(h:V σ M Fz w d v)(o:d.ground=true)(σ':ar)(M':Nat->Option Nat)(Fz':Nat->Prop)(w':World):V σ' M' Fz' w' d v:=by
 induction h with
 |c h=>
  rename_i x v;cases x with
  |lit u=>cases h;exact .c (.lit _)
  |_=>grind [D.ground]
 |any v=>grind [D.ground]
 |ptr a E h A j=>grind [D.ground]
 |sl a n cap F E h A j=>grind [D.ground]
 |mp c E h j=>grind [D.ground]
 |fn s O z R j U G K=>grind [D.ground]
 |agg s z j ih=>simp only[D.ground] at o;exact .agg s z (λi d v a b=>ih i d v a b (D.BK o i d a))
 |aQ s z j ih=>simp only[D.ground] at o;exact .aQ s z (λi d v a b=>ih i d v a b (D.BK o i d a))
theorem Pure.data{g:FuncId}{ds:List D}{r:D}(h:Pure P g ds r)(hd:ds.all (D.low 0)=true)(F:r.low 0=true):Ok P g ds σ r σ:=by
 intro M Fz w G R hs u;have K:Rel [] (λ_=>none) Fz w:=⟨λb c h=>by simp at h,λb b' c h=>by simp at h,R.fz,R.gl⟩;refine (h.2 _ Fz w G K hs λi d v a b=>(u i d v a b).data (iE.1 hd d (Ay a)) _ _).mono λe w' O=>?_;obtain ⟨v,M',Fz',rfl,A,U,j⟩:=O;have W:∀c:Nat,c<w.heap.size->w'.heap[c]? = w.heap[c]?:=λc s=>j.frame c s (λb h=>by simp at h);have E:bD σ M Fz w σ M Fz' w':={
  size:=j.size
  frame:=λc s _=>W c s
  kS:=λb c h=>.inl ⟨b,h⟩
  fz:=j.fz
  nU:=λc h=>by
   rcases j.nU c h with h | ⟨b,h⟩ | h
   ·simp_all
   ·simp at h
   omega
  pQ:=λc x T fr h=>⟨x,by grind,rfl⟩
  keep:=λb z h=>⟨z,h,cU _,λ_=>rfl⟩
  out:=j.out }
 refine ⟨v,M,Fz',rfl,⟨λb c h=>?_,R.inj,A.fz,A.gl⟩,U.data F _ _,E⟩;obtain ⟨h1,z,o,X,h3,Y⟩:=R.blk b c h;have s:=(R.lt h).2;refine ⟨λZ=>?_,z,o,X,by simp_all,Y.mono E⟩;rcases j.nU c Z with h | ⟨b,h⟩ | h
 ·grind
 ·simp at h
 ·omega
theorem Pure.lend{g:FuncId}{ds j:List D}{r:D}(h:Pure P g j r)(hd:ds.mapM (wy σ 0 100)=some j)(u:r.ground=true):Ok P g ds σ r σ:=by
 intro M Fz w x R hs z;have A:Rel [] (λ_=>none) (FN M Fz 0) w:=⟨λb c h=>by simp at h,λb G c h=>by simp at h,λc h=>by
  rcases h with h | ⟨b,_,h⟩
  ·exact R.fz c h
  ·exact (R.lt h).2,Gl.mono (λc h=>⟨.inl h,rfl⟩) R.gl⟩
 have K:j.length=ds.length:=(Ns hd).1;refine (h.2 _ _ w x A (by omega) λi d v a b=>?_).mono λe w' E=>?_
 ·grind [Ns,Kb]
 ·obtain ⟨v,M',Fz',rfl,O,F,o⟩:=E;have s:Below w.heap.size w w':=⟨o.out.1,o.out.2.1,o.out.2.2,o.size,λk hk=>o.frame k hk (λb h=>by simp at h)⟩;exact ⟨v,M,Fz,rfl,R.below s,F.lit u _ _ _ _,bD.below R s⟩
end
def nrmC:C->C
 |.lit (.slice none 0 0)=>.cD false []
 |.cD _ a=>.cD false a
 |x=>x
def xq:D->D
 |.c x=>.c (nrmC x)
 |d=>d
def Cy:D->D
 |.c x=>.c (nrmC x)
 |.agg ds=>.agg (ds.map xq)
 |d=>d
theorem Je{Fz:Nat->Prop}{w:World}{x:C}{v:Value}(h:VC Fz w x v):VC Fz w (nrmC x) v:=by
 unfold nrmC;split
 ·cases h;exact .cD (es:=[]) 0 none 0 (by simp) (λ_=>rfl) (λ_ _=>undef) (by simp) (by simp) (by simp) (by simp)
 ·cases h with
  |cD aw a cap j l c i b m o=>exact .cD aw a cap (by simp) l c i b m o
 omega
theorem Ja{σ:ar}{M:Nat->Option Nat}{Fz:Nat->Prop}{w:World}{d:D}{v:Value}(h:V σ M Fz w d v):V σ M Fz w (xq d) v:=by
 unfold xq;split
 ·cases h with | c h=>exact .c (Je h)
 omega
theorem EK{σ:ar}{M:Nat->Option Nat}{Fz:Nat->Prop}{w:World}{d:D}{v:Value}(h:V σ M Fz w d v):V σ M Fz w (Cy d) v:=by
 unfold Cy;split
 ·cases h with | c h=>exact .c (Je h)
 ·cases h with
  |agg j l m=>
   refine .agg j (by simp_all) (λi d v a b=>?_)
   grind [Ja]
 omega
theorem Ok.Cy{P:Program}{g:FuncId}{ds:List D}{σ σ':ar}{r:D}(h:Ok P g (ds.map Cy) σ r σ'):Ok P g ds σ r σ':=by
 intro M Fz w j R hs o;refine h M Fz w j R (by simp_all) λi d v a b=>?_
 grind [EK]
abbrev xH:=List (Nat×(List D->Option D))
def VB(g:Nat):xH->Option (List D->Option D)
 |[]=>none
 |(s,f)::l=>match Nat.beq s g with | true=>some f | false=>VB g l
def D.plain:D->Bool
 |.fn ..=>false
 |.agg ds=>ds.all λd=>match d with | .fn ..=>false | _=>true
 |.aQ ds=>ds.all λd=>match d with | .fn ..=>false | _=>true
 |_=>true
def CY(S:xH):vE:=λg ds σ=>
 match VB g S with
 |none=>none
 |some f=>
  if ds.all (λd=>d.low 0&&d.plain) then (f (ds.map Cy)).bind λr=>if r.low 0 then some (r,σ,[]) else none
  else
   match ds.mapM (wy σ 0 100) with
   |some a=>(f (a.map Cy)).bind λr=>if r.ground then some (r,σ,[]) else none
   |none=>none
def rN(P:Program)(S:xH):Prop:=∀p∈S,∀ds r,p.2 ds=some r->Pure P p.1 ds r
theorem spk_mem{g:Nat}{f:List D->Option D}:∀{S:xH},VB g S=some f->(g,f)∈S:=by
 intro S;induction S with
 |nil=>grind [VB]
 |cons p S ih=>grind [VB,Nat.eq_of_beq_eq_true]
theorem YG{m:Nat}{d:D}(h:d.low m=true):(xq d).low m=true:=by unfold xq;grind [D.low]
theorem XB{m:Nat}:∀{ds:List D},D.low.cP m ds=true->D.low.cP m (ds.map xq)=true:=by
 intro ds;induction ds with
 |nil=>simp_all
 |cons d ds ih=>intro h;simp only[D.low.cP,bH,sH] at h ⊢;grind [YG]
theorem low_nrm{m:Nat}{d:D}(h:d.low m=true):(Cy d).low m=true:=by
 unfold Cy
 grind [D.low,XB]
theorem mR{P:Program}{S:xH}(h:rN P S):vg P (CY S):=by
 intro g ds σ r σ' wr a;unfold CY at a;split at a
 ·grind
 ·rename_i f x;have s:=spk_mem x;split at a
  ·rename_i u;rw[cF] at a;obtain ⟨v,j,b⟩:=a;split at b
   ·rename_i l;simp only[au,aT] at b;obtain ⟨rfl,rfl,rfl⟩:=b;have i:=h _ s _ _ j;refine ⟨i.1,(i.data ?_ l).Cy,cU _,λ_ _ _=>rfl⟩;rw[iE] at u ⊢;intro d hd;rw[iQ] at hd;obtain ⟨y,z,rfl⟩:=hd;have:=u y z;rw[bH] at this
    grind [low_nrm]
   simp_all
  ·split at a
   ·rename_i m o;rw[cF] at a;obtain ⟨v,j,b⟩:=a;split at b
    ·rename_i l;simp only[au,aT] at b;obtain ⟨rfl,rfl,rfl⟩:=b;have i:=h _ s _ _ j;have p:Pure P g m v:=⟨i.1,i.2.Cy⟩;exact ⟨i.1,p.lend o l,cU _,λ_ _ _=>rfl⟩
    simp_all
   simp_all
noncomputable def spec{A R:Type}(args:A->List D)(S_:R->D)(f:A->Option R):List D->Option D:=λds=>open Classical in if h:∃a,args a=ds then (f (Classical.choose h)).map S_ else none
theorem Sx{A R:Type}{args:A->List D}{S_:R->D}{f:A->Option R}(inj:∀a b,args a=args b->a=b){a:A}{r:R}(h:f a=some r):spec args S_ f (args a)=some (S_ r):=by
 have i:∃b,args b=args a:=⟨a,rfl⟩;unfold spec
 grind
theorem spec_ok{P:Program}{g:Nat}{A R:Type}{args:A->List D}{S_:R->D}{f:A->Option R}(H:∀a r,f a=some r->Pure P g (args a) (S_ r)):∀ds r,spec args S_ f ds=some r->Pure P g ds r:=by
 intro ds r h;unfold spec at h;split at h
 ·grind [Option.map_eq_some_iff]
 simp_all
theorem zo{S:xH}{g:Nat}{F:List D->Option D}{ds a:List D}{σ:ar}{r:D}(b:VB g S=some F)(i:(ds.all λd=>d.low 0&&d.plain)=true)(hd:ds.map Cy=a)(h:F a=some r)(j:r.low 0=true) :
  CY S g ds σ=some (r,σ,[]):=by
 subst hd;simp only[CY,b,i,if_true,h,Option.bind_some,j]
theorem IF{S:xH}{g:Nat}{F:List D->Option D}{ds a b:List D}{σ:ar}{r:D}(i:VB g S=some F)(j:(ds.all λd=>d.low 0&&d.plain)=false)(l:ds.mapM (wy σ 0 100)=some a)(hd:a.map Cy=b)(h:F b=some r)(m:r.ground=true) :
  CY S g ds σ=some (r,σ,[]):=by
 subst hd;simp only[CY,i,j,bT,cn,l,h,Option.bind_some,m,if_true]
def T_:D->D
 |.aQ ds=>.aQ (ds.map Cy)
 |d=>Cy d
theorem DP.T_(d:D):DP d (T_ d):=by
 intro σ M Fz w v h;unfold Go.Abs.T_;split
 ·cases h with
  |aQ j o s=>
   refine .aQ j (by simp_all) (λi d v a b=>?_)
   grind [EK]
 grind [EK]
theorem DP.Qw{d i:D}(h:Go.Abs.T_ d=i):DP d i:=h▸DP.T_ d
theorem rN.nil{P:Program}:rN P []:=λp i=>by grind
theorem rN.cons{P:Program}{g:Nat}{F:List D->Option D}{S:xH}(h:∀ds r,F ds=some r->Pure P g ds r)(j:rN P S):rN P ((g,F)::S):=by
 intro p i;rcases gn.1 i with rfl | i
 ·exact h
 ·exact j p i
def pB(al:AL)(σ:ar):Nat×Option (Option Nat)->Option D
 |(t,none)=>lk t al
 |(t, some n)=>
  match lk t al with
  |some (.ptr b off sz)=>(mA σ b sz).bind λa=>uM n a off
  |_=>none
def kw:Nat->List D->AL
 |_,[]=>[]
 |i,d::ds=>(i,d)::kw (i+1) ds
theorem FD:∀(ds:List D)(i t:Nat)(d:D),lk t (kw i ds)=some d->i<=t/\ds[t-i]? = some d:=by
 intro ds;induction ds with
 |nil=>grind [kw,lk]
 |cons x ds ih=>
  intro i t d h;simp only[kw,lk] at h;split at h
  ·simp_all
  grind
theorem uK{P:Program}{g:FuncId}{fn:Func}{m:kQ}{fz:Bool}{ds:List D}{r:D}(hg:P.funcs[g]? = some fn)(s:aS P g=true)(u:iq P fn fz=some m)
  (y:ds.length<=m.ntmps)
  (h:Sem P m.body m.ntmps (kw 0 ds) [] λx al σ=>(x=.normal∨x=.ret)/\∃a F,m.results.mapM (pB al σ)=some a/\wy σ 0 100 (one a)=some F/\DP F r):Pure P g ds r:=by
 refine ⟨s,?_⟩;unfold iq at u;split at u
 ·rename_i c hb;split at u
  ·rename_i ac rs h1 h2;simp only[au] at u;subst u;dsimp only at h y;intro M Fz w j R hs G;refine nP hg hb ?_;have A0:eT fn.ntmps [] M Fz w (kw 0 ds) (j++Array.replicate (fn.ntmps-j.size) undef):=by
    refine ⟨by simp_all,λt d K=>?_⟩;obtain ⟨_,h3⟩:=FD ds 0 t d K;rw[Nat.sub_zero] at h3;have L:t<j.size:=by grind
    exact ⟨j[t],by grind,G t d _ h3 (rk L)⟩
   refine Nt (h c h1 M Fz w { tmps:=j++Array.replicate (fn.ntmps-j.size) undef,defers:=[] } _ R A0 λx al' σ' a' w' M' Fz' hQ hd R' E EV hl=>?_);obtain ⟨hx,a,F,hm,N,O⟩:=hQ;have S:rs.mapM (LG (xx fn.ntmps al') σ')=some a:=by
    have ab:∀(l:List (Nat×Option (Option Nat))) a,l.mapM (pB al' σ')=some a->l.mapM (LG (xx fn.ntmps al') σ')=some a:=by
     intro l;induction l with
     |nil=>simp_all
     |cons p l ih=>
      intro a h;rw[Uq] at h ⊢;cases z:pB al' σ' p with
      |none=>simp_all
      |some d=>
       rw[z] at h;have:LG (xx fn.ntmps al') σ' p=some d:=by
        obtain ⟨t,o⟩:=p;cases o with
        |none=>exact E.de.2.2 t d z
        |some k=>
         simp only[pB] at z;split at z
         ·rename_i b off sz T;simp only[LG,E.de.2.2 t _ T];exact z
         simp_all
       rw[this];cases hr:l.mapM (pB al' σ') with
       |none=>simp_all
       |some q=>simp_all
    simp_all
   have U:yr x=.normal∨yr x=.ret:=by rcases hx with rfl | rfl <;> simp[yr]
   refine ⟨U,Mk.end hd R' EV λW i A mv=>?_⟩;have X:eT fn.ntmps σ' M' Fz' W al' a'.tmps:=⟨E.1,λt d K=>by obtain ⟨v,q1,q2⟩:=E.2 t d K;exact ⟨v,q1,mv d v q2⟩⟩
   obtain ⟨v,Y,Z⟩:=jg (P:=P) i X.de.1 h2 S;obtain ⟨R2,aa⟩:=Rel.forget R i A (λb hb=>by grind);exact ⟨v,Y,v,_,_,rfl,R2,O _ _ _ _ _ (Kb i N Z _ _),aa⟩
  simp_all
 simp_all
end Go.Abs
namespace Go.Abs
variable[Gl]
theorem ZH{P:Program}{g:FuncId}{es:List (List C)}{r:D}(p:∀e∈es,e≠[])(s:Pure P g [.c (.cD true es)] r)(G:es=[]->Pure P g [.c (.lit (.slice none 0 0))] r):Pure P g [.c (.cD false es)] r:=by
 refine ⟨s.1,λM Fz w b R hs K=>?_⟩;have u:b[0]? = some (b[0]'(by simp_all)):=rk _;have h:=K 0 _ _ rfl u;generalize O:b[0]'(by simp_all)=x at h u;have only:∀d,V [] M Fz w d x->∀(i:Nat) z v,[d][i]? = some z->b[i]? = some v->V [] M Fz w z v:=by grind
 cases h with
 |c A=>
  generalize E:C.cD false es=y at A;cases A with
  |cD aw a cap L F c l j m o=>
   simp only[C.cD.injEq] at E;obtain ⟨rfl,rfl⟩:=E;cases a with
   |some a=>exact s.2 M Fz w b R hs (only _ (.c (.cD aw (some a) cap (λ_=>rfl) F c l j m o)))
   |none=>
    have N:es=[]:=by simp_all
    subst N;have:=F rfl;subst this;exact (G rfl).2 M Fz w b R hs (only _ (.c (.lit _)))
  |_=>grind
end Go.Abs
end
section
namespace Go.Abs
variable[Gl]
abbrev I(n:Int):D:=.c (.lit (.int .i64 n))
abbrev B(b:Bool):D:=.c (.lit (.bool b))
def lx(al:AL):aO->Option D
 |.t k=>lk k al
 |.k d=>some d
def Az(al:AL)(x:Operand):Option D:=
 match bX x with
 |some o=>lx al o
 |none=>none
def Vq(al:AL):List aO->Option (List D)
 |[]=>some []
 |x :: xs => match lx al x, Vq al xs with
  |some d,some ds=>some (d::ds)
  |_,_=>none
def eH(P:Program)(orc:vE)(n:Nat)(al:AL)(σ:ar)(op:kT)(d:D)(σ1:ar)(w:List Nat):Prop:=∀e,Env n al e->bj P orc op e σ=some (d,σ1,w)
def aB{α:Type}(l:List α)(i:Int):Option α:=if 0<=i/\i<l.length then l[i.toNat]? else none
section
variable{P:Program}{orc:vE}{n:Nat}{al:AL}{σ σ1:ar}{w:List Nat}{d d1 d2:D}{e:List D}
theorem eW(a:Env n al e){x:aO}(h:lx al x=some d):x.ev e=d:=by
 cases x with
 |t k=>simp only[lx] at h;simp[aO.ev,a.2 k d h]
 |k b=>simp only[lx,au] at h;subst h;rfl
theorem JI(a:Env n al e):∀{xs:List aO}{ds:List D},Vq al xs=some ds->xs.map (aO.ev e)=ds:=by
 intro xs;induction xs with
 |nil=>grind [Vq]
 |cons x xs ih=>grind [Vq,eW]
theorem zC{x:aO}(h:lx al x=some d):eH P orc n al σ (.AB x) d σ []:=λe a=>by grind [bj,eW]
theorem uv{c x y:aO}{b:Bool}(a:lx al c=some (B b))(i:b=true)(h:lx al x=some d):eH P orc n al σ (.pick c x y) d σ []:=λe j=>by grind [bj,gD,eW]
theorem p_{c x y:aO}{b:Bool}(a:lx al c=some (B b))(i:b=false)(h:lx al y=some d):eH P orc n al σ (.pick c x y) d σ []:=λe j=>by grind [bj,gD,eW]
def iu(P:Program)(o:BinOp)(t:TypeId)(x y:Operand)(a b:Value):Option Value:=fx P (do eqGuard o t x y a b;binOp o t a b)
theorem xz{α b:Type}{s:Go.Sem α}{f:α->Go.Sem b}:fx P (s >>= f)=(fx P s).bind λa=>fx P (f a):=by
 induction s with
 |pure a=>rfl
 |program k ih=>exact ih P
 |_=>rfl
theorem dN{o:BinOp}{t ty j:TypeId}{x y:Operand}{a b v:Value}(A:Az al x=some d1)(E:Az al y=some d2)(F:d1.cW = some a)(G:d2.cW = some b)
  (h:iu P o t x y a b=some v) (hd:dA v=d):eH P orc n al σ (.gen (.binOp o t x y j) ty) d σ []:=λe K=>by
 subst hd;have L:∀{x:Operand}{d:D},Az al x=some d->((bX x).map (aO.ev e))=some d:=by grind [Az,eW]
 have N:((bX x).map (aO.ev e)).bind D.cW = some a:=by grind
 have O:((bX y).map (aO.ev e)).bind D.cW = some b:=by grind
 have:oN P (.binOp o t x y j) ty e=some (dA v):=by
  unfold oN;have i:(Op.binOp o t x y j).operands.toList.all (λx=>(((bX x).map (aO.ev e)).bind D.cW).isSome)=true:=by grind [Go.Op.operands]
  rw[if_pos i];have s:fx P (execOp (λx=>((((bX x).map (aO.ev e)).bind D.cW).getD undef)) { dst:=none,op:=.binOp o t x y j,type:=ty,pos:="",after:=#[],guard:=none })=some (.value v):=by
   have p:∀l m:Value,l=a->m=b->fx P (do let r <-(do eqGuard o t x y l m;binOp o t l m);Go.Sem.pure (Next.value r))=some (.value v):=by intro l m u z;subst u z;rw[xz];unfold iu at h;rw[h];rfl
   exact p _ _ (by simp_all) (by simp_all)
  rw[s]
 grind [bj]
theorem Zw{o:UnOp}{t ty:TypeId}{x:Operand}{a v:Value}(s:Az al x=some d1)(u:d1.cW = some a)
  (h:fx P (Op.unary o a)=some v) (hd:dA v=d):eH P orc n al σ (.gen (.unOp o t x) ty) d σ []:=λe y=>by
 subst hd;have z:((bX x).map (aO.ev e))=some d1:=by grind [Az,eW]
 have l:((bX x).map (aO.ev e)).bind D.cW = some a:=by grind
 have:oN P (.unOp o t x) ty e=some (dA v):=by
  unfold oN;have b:(Op.unOp o t x).operands.toList.all (λx=>(((bX x).map (aO.ev e)).bind D.cW).isSome)=true:=by simp[Op.operands,l]
  rw[if_pos b];have m:fx P (execOp (λx=>((((bX x).map (aO.ev e)).bind D.cW).getD undef)) { dst:=none,op:=.unOp o t x,type:=ty,pos:="",after:=#[],guard:=none })=some (.value v):=by
   have i:∀j:Value,j=a->fx P (do let r <-Op.unary o j;Go.Sem.pure (Next.value r))=some (.value v):=by intro j p;subst p;rw[xz,h];rfl
   exact i _ (by simp_all)
  rw[m]
 grind [bj]
theorem Dd{t b ty:TypeId}{x:Operand}{a v:Value}(s:Az al x=some d1)(u:d1.cW = some a)
  (h:fx P (convert t b a)=some v) (hd:dA v=d):eH P orc n al σ (.gen (.convert t b x) ty) d σ []:=λe y=>by
 subst hd;have z:((bX x).map (aO.ev e))=some d1:=by grind [Az,eW]
 have m:((bX x).map (aO.ev e)).bind D.cW = some a:=by grind
 have:oN P (.convert t b x) ty e=some (dA v):=by
  unfold oN;have i:(Op.convert t b x).operands.toList.all (λx=>(((bX x).map (aO.ev e)).bind D.cW).isSome)=true:=by simp[Op.operands,m]
  rw[if_pos i];have o:fx P (execOp (λx=>((((bX x).map (aO.ev e)).bind D.cW).getD undef)) { dst:=none,op:=.convert t b x,type:=ty,pos:="",after:=#[],guard:=none })=some (.value v):=by
   have j:∀l:Value,l=a->fx P (do let r <-convert t b l;Go.Sem.pure (Next.value r))=some (.value v):=by intro l p;subst p;rw[xz,h];rfl
   exact j _ (by simp_all)
  rw[o]
 grind [bj]
theorem op_box{x:aO}{cs:List D}(h:lx al x=some d)(a:d.cells? = some cs)(b:D.ptr σ.length 0 cs.length=d1)(hs:σ++[.cells cs]=σ1):eH P orc n al σ (.box x) d1 σ1 []:=λe i=>by grind [bj,eW]
theorem MU{z:List D}(a:D.ptr σ.length 0 z.length=d1)(hs:σ++[.cells z]=σ1):eH P orc n al σ (.alloc z) d1 σ1 []:=λe b=>by grind [bj]
def B_(al:AL):List D->List (Nat×Nat×aO)->Option (List D)
 |a,[]=>some a
 |a, (o, n, x) :: rest=>
  match (lx al x).bind D.cells? with
  |some b=>if b.length≠n∨o+n > a.length then none else B_ al (put a o b) rest
  |none=>none
theorem NC(i:Env n al e):∀{ps:List (Nat×Nat×aO)}{cs a:List D},B_ al cs ps=some a->qd e cs ps=some a:=by
 intro ps;induction ps with
 |nil=>intro cs a h;exact h
 |cons p ps ih=>
  intro cs a h;obtain ⟨o,m,x⟩:=p;simp only[B_] at h;split at h
  ·rename_i r b;rw[cF] at b;obtain ⟨d,j,l⟩:=b;simp only[qd,eW i j,l,Option.bind_eq_bind,Option.bind_some]
   simp_all
  simp_all
theorem WP{z cs:List D}{ps:List (Nat×Nat×aO)}(h:B_ al z ps=some cs):eH P orc n al σ (.build z ps) (.agg cs) σ []:=λe a=>by grind [bj,NC]
theorem Hv{z cs:List D}{aw len:Nat}{ps:List (Nat×Nat×aO)}(h:B_ al (tI len z) ps=some cs)(a:D.sl σ.length 0 len aw cs.length=d1)(hs:σ++[.cells cs]=σ1):eH P orc n al σ (.jv aw len z ps) d1 σ1 []:=λe b=>by grind [bj,NC]
theorem rC{m:Option Nat}{a:aO}{b off sz:Nat}{cs:List D}(h:lx al a=some (.ptr b off sz))(i:mA σ b sz=some cs)(j:uM m cs off=some d):eH P orc n al σ (.load m a) d σ []:=λe l=>by grind [bj,eW]
theorem Eg{m:Option Nat}{a:aO}{off:Nat}{cs:List C}(h:lx al a=some (.c (.cE cs off)))(b:uM m (cs.map .c) off=some d):eH P orc n al σ (.load m a) d σ []:=λe i=>by grind [bj,eW]
theorem EA{m:Nat}{a x:aO}{b off sz:Nat}{cs xs:List D}(h:lx al a=some (.ptr b off sz))(i:mA σ b sz=some cs)(j:lx al x=some d)(l:d.cells? = some xs)(hm:xs.length=m/\off+m<=sz)(hs:σ.set b (.cells (put cs off xs))=σ1) :
  eH P orc n al σ (.store m a x) (.aQ []) σ1 [b]:=λe o=>by
 grind [bj,eW]
theorem MZ{x:aO}{b off sz:Nat}(h:lx al x=some (.ptr b off sz)):eH P orc n al σ (.mL x) (.ptr b off sz) σ []:=λe a=>by grind [bj,eW]
theorem fi{k:Nat}{neg:Bool}{x:aO}{b:Bool}(h:lx al x=some d)(a:isNil k d=some b):eH P orc n al σ (.iN k neg x) (B (if neg then !b else b)) σ []:=λe i=>by grind [bj,eW]
theorem JJ{o:Nat}{x:aO}{b off sz:Nat}(h:lx al x=some (.ptr b off sz)):eH P orc n al σ (.Ho o x) (.ptr b (off+o) sz) σ []:=λe a=>by grind [bj,eW]
theorem op_fldf{o:Nat}{x:aO}{cs:List C}{off:Nat}(h:lx al x=some (.c (.cE cs off))):eH P orc n al σ (.Ho o x) (.c (.cE cs (off+o))) σ []:=λe a=>by grind [bj,eW]
theorem oI{α:Type}{l:List α}{i:Int}{a:α}(h:aB l i=some a):0<=i/\i<l.length/\l[i.toNat]? = some a:=by grind [aB]
theorem XA{α:Type}{aw:Nat}{x i:aO}{nn:Bool}{l:List α}{f:α->List C}{k:Int}{a:α}(h:lx al x=some (.c (.cD nn (l.map f))))(j:lx al i=some (I k))(m:aB l k=some a)(o:(f a).length=aw) :
  eH P orc n al σ (.idx aw none x i) (.c (.cE (f a) 0)) σ []:=λe b=>by
 obtain ⟨s,u,p⟩:=oI m;have r:BO k (l.map f).length=some k.toNat:=by unfold BO;simp_all
 simp only[bj,eW b h,eW b j,tK,Option.bind_eq_bind,Option.bind_some,r,lW,p,Option.map_some,o,if_true]
theorem Wo{α:Type}{x:aO}{nn:Bool}{l:List α}{f:α->List C}(h:lx al x=some (.c (.cD nn (l.map f)))):eH P orc n al σ (.len x) (I l.length) σ []:=λe a=>by grind [bj,GX,eW]
theorem op_len0{x:aO}(h:lx al x=some (.c (.lit (.slice none 0 0)))):eH P orc n al σ (.len x) (I 0) σ []:=λe a=>by grind [bj,GX,eW]
theorem Er{x:aO}{i:Nat}{ds:List D}(h:lx al x=some (.aQ ds))(hd:ds[i]? = some d):eH P orc n al σ (.extract x i) d σ []:=λe a=>by grind [bj,eW]
theorem op_part{m:Option Nat}{off:Nat}{x:aO}{cs:List D}(h:lx al x=some (.agg cs))(a:uM m cs off=some d):eH P orc n al σ (.part off m x) d σ []:=λe b=>by grind [bj,eW]
theorem Iu{g:FuncId}{f:aO}{args:List aO}{ds:List D}(a:lx al f=some (.c (.fn (.func g) [] [])))(b:Vq al args=some ds)(h:orc g ds σ=some (d,σ1,w)):eH P orc n al σ (.call f args) d σ1 w:=λe i=>by grind [bj,eW,JI]
def Eo(o:aG)(c:Nat)(blk:Option Nat)(w:List Nat)(lo hi:Nat):dV:={ cat:=c,blk:=blk,wr:=w,dst:=o.dst,rds:=yU o,lo:=lo,hi:=hi }
def Gd(al:AL)(g:Option (Nat×Bool))(b:Bool):Prop:=∀n e,Env n al e->gB e g=some b
theorem iw:Gd al none true:=λ_ _ _=>rfl
theorem gW{t:Nat}{a b:Bool}(h:lk t al=some (B b))(i:b=a):Gd al (some (t,a)) true:=λn e j=>by simp[gB,j.2 t _ h,i]
theorem QJ{t:Nat}{a b:Bool}(h:lk t al=some (B b))(i:b=!a):Gd al (some (t,a)) false:=λn e j=>by simp[gB,j.2 t _ h,i]
theorem Sm{t:Nat}{a:Bool}(h:lk t al=some (.aQ [])):Gd al (some (t,a)) false:=λn e b=>by simp[gB,b.2 t _ h]
def yT(al:AL):kT->Option Nat
 |.load _ x=>match lx al x with | some (.ptr b _ _)=>some b | _=>none
 |_=>none
def FZ(al:AL):kT->Bool
 |.load _ x=>(lx al x).isSome
 |_=>true
theorem blk_ok(b:Env n al e){o:aG}(h:FZ al o.op=true)(lo a:Nat):(dz o e lo a w).blk=yT al o.op:=by
 obtain ⟨t,op,g⟩:=o;cases op with
 |load m x=>grind [FZ,Option.isSome_iff_exists,dz,Xn,yT,eW]
 |_=>rfl
theorem Ke(i:Env n al e){o:aG}{b:Bool}(m:∀n e,Env n al e->gB e o.g=some b)(h:FZ al o.op=true)(lo a:Nat):dz o e lo a w=Eo o (if b then cat o.op else 0) (yT al o.op) w lo a:=by
 have j:=blk_ok (w:=w) i h lo a;have l:(dz o e lo a w).cat=if b then cat o.op else 0:=by grind [dz]
 unfold Eo;rw[<-j,<-l];rfl
theorem Sb(a:Env n al e){t:Nat}(j:t<n)(d:D):Env n ((t,d)::al) (e.set t d):=by
 refine ⟨by simp[a.1],λs l h=>?_⟩;simp only[lk] at h;split at h
 ·rename_i i;have:=cS i;simp only[au] at h;subst this h;rw[List.getElem?_set_self (by rw[a.1];exact j)]
 ·rename_i i;have b:t≠s:=λm=>by simp_all
  rw[List.getElem?_set_ne b];exact a.2 s l h
variable{k:Nat}{os:List aG}{al':AL}{σ':ar}{is:List dV}{t:Nat}{ao:kT}{g:Option (Nat×Bool)}
theorem IK.nil{i:gp}:IK P i k [] n al σ al σ []:=λe j=>⟨e,rfl,j⟩
theorem IK.op{j:gp}(h:eH P (j (some t)) n al σ ao d σ1 w)(s:Gd al g true)(hs:(Nat.blt t n&&FZ al ao&&(k == 0 || jq σ σ1 w))=true)(r:IK P j (k-1) os n ((t,d)::al) σ1 al' σ' is) :
  IK P j k (⟨some t,ao,g⟩::os) n al σ al' σ' (Eo ⟨some t,ao,g⟩ (cat ao) (yT al ao) w σ.length σ1.length::is):=λe i=>by
 simp only[bH] at hs;obtain ⟨⟨x,z⟩,A⟩:=hs;obtain ⟨E,F,G⟩:=r _ (Sb i (tL.mp x) d);refine ⟨E,?_,G⟩;have u:=Ke (w:=w) i (o:=⟨some t,ao,g⟩) s z σ.length σ1.length;simp only[if_true,bT,cn] at u;simp only[lJ,ff,s n e i,h e i,Option.map_some,oa,A,if_true,F,u]
theorem IK.eff{j:gp}(h:eH P (j none) n al σ ao d σ1 w)(s:Gd al g true)(hs:(FZ al ao&&(k == 0 || jq σ σ1 w))=true)(r:IK P j (k-1) os n al σ1 al' σ' is) :
  IK P j k (⟨none,ao,g⟩::os) n al σ al' σ' (Eo ⟨none,ao,g⟩ (cat ao) (yT al ao) w σ.length σ1.length::is):=λe i=>by
 simp only[bH] at hs;obtain ⟨x,z⟩:=hs;obtain ⟨A,E,F⟩:=r _ i;refine ⟨A,?_,F⟩;have u:=Ke (w:=w) i (o:=⟨none,ao,g⟩) s x σ.length σ1.length;simp only[if_true,bT,cn] at u;simp only[lJ,ff,s n e i,h e i,Option.map_some,oa,z,if_true,E,u]
theorem IK.no{j:gp}(s:Gd al g false)(hs:(Nat.blt t n&&FZ al ao)=true)(r:IK P j (k-1) os n ((t,.aQ [])::al) σ al' σ' is) :
  IK P j k (⟨some t,ao,g⟩::os) n al σ al' σ' (Eo ⟨some t,ao,g⟩ 0 (yT al ao) [] σ.length σ.length::is):=λe i=>by
 simp only[bH] at hs;obtain ⟨x,z⟩:=hs;obtain ⟨A,E,F⟩:=r _ (Sb i (tL.mp x) (.aQ []));refine ⟨A,?_,F⟩;have u:=Ke (w:=[]) i (o:=⟨some t,ao,g⟩) s z σ.length σ.length;simp only[if_true,bT,cn] at u;simp only[lJ,ff,s n e i,oa,jq,List.all_nil,Bool.or_true,if_true,E,u]
end
end Go.Abs
end
section
namespace Go.Abs
variable[Gl]
abbrev ST(cs:List C):D:=.agg (cs.map .c)
theorem map_inj{α:Type}{f:α->List C}(i:∀{a b:α},f a=f b->a=b){l m:List α}(h:l.map f=m.map f):l=m:=by
 induction l generalizing m with
 |nil=>simp_all
 |cons a l ih => cases m with
  |nil=>simp at h
  |cons b m=>grind
theorem NP:∀{l m:List C},l.map D.c=m.map D.c->l=m:=by
 intro l;induction l with
 |nil=>simp_all
 |cons a l ih => intro m h;cases m with
  |nil=>simp at h
  |cons b m=>grind
theorem ST_inj{α:Type}{f:α->List C}(i:∀{a b:α},f a=f b->a=b){a b:α}(h:ST (f a)=ST (f b)):a=b:=by grind [NP]
theorem sZ{al1:AL}:Sub al1 []:=True.intro
section
variable{P:Program}{orc:vE}{n:Nat}{al:AL}{σ σ1:ar}{w:List Nat}{d d1 d2:D}{e:List D}
theorem op_aidx{α:Type}{len:Nat}{x i:aO}{cs:List D}{l:List α}{f:α->D}{k:Int}{a:α}(h:lx al x=some (.agg cs))(j:lx al i=some (I k))(m:aB l k=some a)(o:cs=l.map f)(s:l.length=len) :
  eH P orc n al σ (.Ct 1 len none x i) (f a) σ []:=λe b=>by
 obtain ⟨u,v,p⟩:=oI m;have r:BO k len=some k.toNat:=by unfold BO;simp_all
 subst o;simp[bj,eW b h,eW b j,tK,r,uM,p]
end
end Go.Abs
end
section
namespace Go.Abs
variable[Gl]
section
variable{P:Program}
theorem zbR{t:TypeId}{d:TypeDesc}(h:P.underlying t=some d):fx P (underlying t)=some d:=by show fx P (match P.underlying t with | some d=>Go.Sem.pure d | none=>_)=_;rw[h];rfl
theorem ud{d:Nat}{xs h:Array Value}{f:Field}{j:List Field}{a b:Value}{r q:Bool}(p:(f.name != "_")=true)(l:fx P (part f.type xs f.offset)=some a)(m:fx P (part f.type h f.offset)=some b)
  (o:fx P (Op.equalIn d f.type a b)=some r) (s:fx P (Op.eqFields d xs h j)=some q):fx P (Op.eqFields d xs h (f::j))=some (r&&q):=by
 unfold Op.eqFields;have i:f.name≠"_":=by simp_all
 rw[if_pos i,xz,l,aD,xz,m,aD,xz,o,aD];cases r
 ·rfl
 simp_all
theorem eq_int{d:Nat}{t:TypeId}{k i:IntKind}{a b:Int}(h:P.underlying t=some (.int i)):fx P (Op.equalIn (d+1) t (.int k a) (.int k b))=some (a == b):=by simp only[Op.equalIn];rw[xz,zbR h,aD];simp only[if_true];rfl
theorem Dm{d:Nat}{t:TypeId}{a b:Bool}(h:P.underlying t=some .bool):fx P (Op.equalIn (d+1) t (.bool a) (.bool b))=some (a == b):=by simp only[Op.equalIn];rw[xz,zbR h,aD];rfl
theorem Xh{d:Nat}{t:TypeId}{xs i:Array Value}{r:Bool}(l:P.underlying t=some (.struct (P.fieldsOf t)))(o:P.stoodInHeld t=false)(h:fx P (Op.eqFields d xs i (P.fieldsOf t).toList)=some r) :
  fx P (Op.equalIn (d+1) t (.agg xs) (.agg i))=some r:=by
 simp only[Op.equalIn];rw[xz,zbR l,aD];dsimp only;rw[xz];show (fx P (Go.Sem.pure P)).bind _=_;simp only[fx,Option.bind_some,o,bT,cn];rw[xz,<-Array.forIn_toList];generalize (P.fieldsOf t).toList=m at h;clear l;induction m generalizing r with
 |nil=>exact h
 |cons f m ih=>
  simp only[List.forIn_cons,Op.eqFields] at h ⊢;rw[xz];split at h
  ·rename_i j;rw[if_pos j];rw[xz] at h ⊢;cases p:fx P (part f.type xs f.offset) with
   |none=>simp_all
   |some a=>
    rw[p] at h;simp only[Option.bind_some] at h ⊢;rw[xz] at h ⊢;cases s:fx P (part f.type i f.offset) with
    |none=>simp_all
    |some b=>
     rw[s] at h;simp only[Option.bind_some] at h ⊢;rw[xz] at h ⊢;cases u:fx P (Op.equalIn d f.type a b) with
     |none=>simp_all
     |some q=>
      rw[u] at h;simp only[Option.bind_some] at h ⊢;cases q
      ·simp only[Bool.not_false,if_true] at h ⊢;exact h
      ·simp only[Om,bT,cn] at h ⊢;exact ih h
  ·rename_i j;rw[if_neg j];exact ih h
theorem bin_eql{t:TypeId}{x y:Operand}{xs a:Array Value}{r:Bool}(hm:P.eqGuardType P.depth t=false)(h:fx P (Op.equalIn 10000 t (.agg xs) (.agg a))=some r):iu P .eql t x y (.agg xs) (.agg a)=some (.bool r):=by
 unfold iu;rw[xz];have b:fx P (eqGuard .eql t x y (.agg xs) (.agg a))=some ():=by simp only[eqGuard,Om,bT,cn];show fx P (if (!P.eqGuardType P.depth t)=true then Go.Sem.pure () else _)=_;rw[hm];rfl
 rw[b,aD];show fx P (do Go.Sem.pure (Value.bool (<-Op.equal t (.agg xs) (.agg a))))=_;rw[xz];unfold Op.equal Op.maxDepth;rw[h];rfl
theorem bin_neq{t:TypeId}{x y:Operand}{xs a:Array Value}{r:Bool}(hm:P.eqGuardType P.depth t=false)(h:fx P (Op.equalIn 10000 t (.agg xs) (.agg a))=some r):iu P .neq t x y (.agg xs) (.agg a)=some (.bool (!r)):=by
 unfold iu;rw[xz];have b:fx P (eqGuard .neq t x y (.agg xs) (.agg a))=some ():=by simp only[eqGuard,Om,bT,cn];show fx P (if (!P.eqGuardType P.depth t)=true then Go.Sem.pure () else _)=_;rw[hm];rfl
 rw[b,aD];show fx P (do Go.Sem.pure (Value.bool (!(<-Op.equal t (.agg xs) (.agg a)))))=_;rw[xz];unfold Op.equal Op.maxDepth;rw[h];rfl
end
end Go.Abs
namespace Go.Abs
variable[Gl]
section
variable{P:Program}{orc:vE}{n:Nat}{al:AL}{σ:ar}{d:D}{e:List D}
def Ge(P:Program)(op:Op)(ty:TypeId)(al:AL):Option D:=
 if op.operands.toList.all (λx=>((Az al x).bind D.cW).isSome) then
  match fx P (execOp (λx=>(((Az al x).bind D.cW).getD undef)) { dst:=none,op:=op,type:=ty,pos:="",after:=#[],guard:=none }) with
  |some (.value v)=>some (dA v)
  |_=>none
 else none
theorem genA_ok{op:Op}{ty:TypeId}(i:∀cs b,op≠.select cs b)(h:Ge P op ty al=some d)(m:Env n al e):oN P op ty e=some d:=by
 unfold Ge at h;split at h
 ·rename_i a;rw[iE] at a;have l:∀x∈op.operands.toList,((bX x).map (aO.ev e)).bind D.cW = (Az al x).bind D.cW:=by
   grind [Option.isSome_iff_exists,Option.bind_eq_some_iff,Az,eW]
  have j:∀x:Operand,(x∈op.operands.toList)->((((bX x).map (aO.ev e)).bind D.cW).getD undef)=(((Az al x).bind D.cW).getD undef):=λx o=>by simp_all
  unfold oN;rw[if_pos (by simp_all)]
  grind [Go.execOp_congr]
 simp_all
theorem fY{c:Call}{ty:TypeId}(h:Ge P (.call c) ty al=some d):eH P orc n al σ (.gen (.call c) ty) d σ []:=λe a=>by simp[bj,genA_ok (λi b=>by simp) h a]
end
end Go.Abs
namespace Go.Abs
variable[Gl]
section
variable{P:Program}{orc:vE}{n:Nat}{al:AL}{σ:ar}{d:D}{e:List D}
theorem Wg{t:TypeId}{x y:Operand}{a b:Bool}(h:P.underlying t=some .bool):iu P .eql t x y (.bool a) (.bool b)=some (.bool (a == b)):=by unfold iu;rw[xz];show (some ()).bind _=_;rw[aD];show fx P (do Go.Sem.pure (Value.bool (<-Op.equal t (.bool a) (.bool b))))=_;rw[xz];unfold Op.equal Op.maxDepth;rw[Dm (d:=9999) h];rfl
theorem Zt{t:TypeId}{x y:Operand}{a b:Bool}(h:P.underlying t=some .bool):iu P .neq t x y (.bool a) (.bool b)=some (.bool (!(a == b))):=by unfold iu;rw[xz];show (some ()).bind _=_;rw[aD];show fx P (do Go.Sem.pure (Value.bool (!(<-Op.equal t (.bool a) (.bool b)))))=_;rw[xz];unfold Op.equal Op.maxDepth;rw[Dm (d:=9999) h];rfl
def Mv(k:IntKind)(a b:Int):Option Int:=if b=0 then none else some (k.wrap (a.tdiv b))
def YC(a b:Int):Option Int:=if b=0 then none else some (a.tmod b)
def shr?(k:IntKind)(a b:Int):Option Int:=if b<0 then none else some (a.fdiv (2 ^ min b.toNat k.bits))
theorem bin_shr{t:TypeId}{x y:Operand}{i j:IntKind}{a b v:Int}(h:shr? i a b=some v):iu P .shr t x y (.int i a) (.int j b)=some (.int i v):=by
 unfold shr? at h;split at h
 ·simp at h
 ·rename_i l;simp only[au] at h;subst h;unfold iu;rw[xz];show (some ()).bind _=_;rw[aD];simp only[binOp,Op.shift,if_neg l];rfl
def shl?(k:IntKind)(a b:Int):Option Int:=if b<0 then none else some (k.wrap (a * 2 ^ min b.toNat k.bits))
theorem bin_shl{t:TypeId}{x y:Operand}{i j:IntKind}{a b v:Int}(h:shl? i a b=some v):iu P .shl t x y (.int i a) (.int j b)=some (.int i v):=by
 unfold shl? at h;split at h
 ·simp at h
 ·rename_i l;simp only[au] at h;subst h;unfold iu;rw[xz];show (some ()).bind _=_;rw[aD];simp only[binOp,Op.shift,if_neg l];rfl
theorem bin_quo{t:TypeId}{x y:Operand}{k:IntKind}{a b v:Int}(h:Mv k a b=some v):iu P .quo t x y (.int k a) (.int k b)=some (.int k v):=by
 unfold Mv at h;split at h
 ·simp at h
 ·rename_i i;simp only[au] at h;subst h;unfold iu;rw[xz];show (some ()).bind _=_;rw[aD];simp only[binOp,ne_eq,not_true_eq_false,cn,Op.intDiv,if_neg i];rfl
theorem bin_rem{t:TypeId}{x y:Operand}{k:IntKind}{a b v:Int}(h:YC a b=some v):iu P .rem t x y (.int k a) (.int k b)=some (.int k v):=by
 unfold YC at h;split at h
 ·simp at h
 ·rename_i i;simp only[au] at h;subst h;unfold iu;rw[xz];show (some ()).bind _=_;rw[aD];simp only[binOp,ne_eq,not_true_eq_false,cn,Op.intDiv,if_neg i];rfl
theorem op_idxA{α:Type}{x i:aO}{b off sz len aw:Nat}{k:Int}{l:List α}{a:α}(h:lx al x=some (.ptr b off sz))(m:lx al i=some (I k))(j:aB l k=some a)(o:l.length=len)(hd:D.ptr b (off+k.toNat * aw) sz=d) :
  eH P orc n al σ (.idx aw (some len) x i) d σ []:=λe p=>by
 subst hd;obtain ⟨r,s,u⟩:=oI j;have v:BO k len=some k.toNat:=by unfold BO;simp_all
 grind [bj,tK,eW]
end
end Go.Abs
end
section
namespace Go.Abs
variable[Gl]
abbrev OS(aw b n:Nat):D:=.sl b 0 n aw (n * aw)
abbrev OB{α:Type}(f:α->List C)(l:List α):Ob:=.cells ((l.flatMap f).map .c)
section
variable{α:Type}{f:α->List C}{aw:Nat}
theorem dZ(b:∀a,(f a).length=aw):∀(l:List α),(l.flatMap f).length=l.length * aw:=by
 intro l;induction l with
 |nil=>simp
 |cons a l ih=>grind
theorem flat_at(b:∀a,(f a).length=aw):∀(l:List α)(i:Nat)(a:α),l[i]? = some a->((l.flatMap f).drop (i * aw)).take aw=f a:=by
 intro l;induction l with
 |nil=>simp_all
 |cons x l ih=>
  intro i a h;cases i with
  |zero=>simp_all
  |succ i=>
   simp only[List.getElem?_cons_succ] at h;simp only[yBv];have:(i+1) * aw=(f x).length+i * aw:=by grind
   rw[this,xAe,<-ih i a h,yBn (by omega),xAb]
   simp_all
theorem Np(h:∀a,(f a).length=aw)(l:List α)(lo n:Nat):((l.flatMap f).drop (lo * aw)).take (n * aw)=((l.drop lo).take n).flatMap f:=by
 induction l generalizing lo n with
 |nil=>simp
 |cons x l ih=>
  cases lo with
  |succ lo=>
   simp only[yBv,List.drop_succ_cons];have:(lo+1) * aw=(f x).length+lo * aw:=by grind
   rw[this,xAe,<-ih lo n,yBn (by omega),xAb]
   simp_all
  |zero=>
   cases n with
   |zero=>simp
   |succ n=>
    simp only[yBZ,yCi,yBv,List.take_succ_cons];have b:(n+1) * aw=(f x).length+n * aw:=by grind
    rw[b,List.take_append];have:=ih 0 n
    grind
theorem iz{σ:ar}{b:Nat}{l:List α}(i:∀a,(f a).length=aw)(h:σ[b]? = some (OB f l)):mA σ b (l.length * aw)=some ((l.flatMap f).map .c):=by grind [mA,dZ]
theorem OT(b:∀a,(f a).length=aw):∀(l:List α),chunks aw l.length (l.flatMap f)=l.map f:=by
 intro l;induction l with
 |nil=>rfl
 |cons a l ih=>
  simp only[List.length_cons,chunks,yBv,sH]
  simp_all
theorem Ur{σ:ar}{n k:Nat}:∀(l:List C),(l.map D.c).mapM (fJ σ n (k+1))=some l:=by
 intro l;induction l with
 |nil=>rfl
 |cons x l ih=>rw[sH,Uq,ih];rfl
theorem Fa{σ:ar}{b k n:Nat}{l:List α}(i:∀a,(f a).length=aw)(j:0<aw)(h:σ[b]? = some (OB f l))(m:l.length=n):fJ σ 0 (k+2) (OS aw b n)=some (.cD (Nat.blt 0 n) (l.map f)):=by
 subst m;have:fJ σ 0 (k+2) (OS aw b l.length)=(if 0<=b/\0<aw/\0+l.length * aw<=l.length * aw then
    match mA σ b (l.length * aw) with
    |some o=>(((o.drop 0).take (l.length * aw)).mapM (fJ σ 0 (k+1))).map λr=>C.cD (Nat.blt 0 l.length) (chunks aw l.length r)
    |none=>none
   else none):=rfl
 rw[this,if_pos ⟨N_ _,j,by omega⟩,iz i h]
 grind [List.take_of_length_le,dZ,Ur,OT]
theorem frz_own{σ:ar}{b n:Nat}{l:List α}(i:∀a,(f a).length=aw)(j:0<aw)(h:σ[b]? = some (OB f l))(m:l.length=n):wy σ 0 100 (OS aw b n)=some (.c (.cD (Nat.blt 0 n) (l.map f))):=by
 show (fJ σ 0 100 (OS aw b n)).map D.c=_
 grind [Fa]
theorem mapM_c{a:Type}{g:D->Option a}{d:D}{ds:List D}{r:a}{rs:List a}(h:g d=some r)(b:ds.mapM g=some rs):(d::ds).mapM g=some (r::rs):=by simp_all
theorem frz_tup{σ:ar}{ds rs:List D}(h:ds.mapM (oO σ 0 100)=some rs):wy σ 0 100 (.aQ ds)=some (.aQ rs):=by
 show (ds.mapM (oO σ 0 100)).map D.aQ=_
 simp_all
theorem frz_agg{σ:ar}{ds:List D}{rs:List C}(h:ds.mapM (fJ σ 0 100)=some rs):oO σ 0 100 (.agg ds)=some (.agg (rs.map .c)):=by
 show (ds.mapM (fJ σ 0 100)).map (λl=>D.agg (l.map .c))=_
 simp_all
def Src(σ:ar)(f:α->List C)(aw:Nat)(d:D)(m:List α):Prop:=GX σ d=some m.length/\WV σ aw m.length d=some ((m.flatMap f).map .c)
def Wt(σ:ar)(f:α->List C)(aw:Nat)(d:D)(m:List α):Prop:=GX σ d=some m.length/\∀n,n<=m.length->WV σ aw n d=some (((m.take n).flatMap f).map .c)
theorem Wl{σ:ar}{nn:Bool}{m:List α}(b:∀a,(f a).length=aw):Wt σ f aw (.c (.cD nn (m.map f))) m:=by
 refine ⟨by simp[GX],λn h=>?_⟩;show (if n<=(m.map f).length/\(m.map f).all (λe=>e.length=aw) then some (((m.map f).take n).flatten.map D.c) else none)=_;rw[if_pos ⟨by simp_all,by simp[b]⟩,<-yCd]
 grind
theorem YZ{σ:ar}:Wt σ f aw (.c (.lit (.slice none 0 0))) []:=⟨rfl,λn a=>by
 obtain rfl:n=0:=by simp_all
 rfl⟩
theorem VZ{σ:ar}{b n:Nat}{l:List α}(i:∀a,(f a).length=aw)(h:σ[b]? = some (OB f l))(j:l.length=n):Wt σ f aw (OS aw b n) l:=by subst j;refine ⟨by grind [GX,iz],λk hk=>?_⟩;show ((mA σ b (l.length * aw)).bind λm=>if aw=aw/\k<=l.length/\0+l.length * aw<=l.length * aw then some ((m.drop 0).take (k * aw)) else none)=_;have:=Np i l 0 k;simp only[yBZ,yCi] at this;rw[iz i h,aD,if_pos ⟨rfl,hk,by omega⟩,yCi,<-yCd,this]
theorem Up(b:∀a,(f a).length=aw)(l:List α)(n:Nat):(l.flatMap f).take (n * aw)=(l.take n).flatMap f:=by
 have:=Np b l 0 n
 simp_all
theorem Ue(b:∀a,(f a).length=aw):∀(l:List α)(n:Nat),(l.flatMap f).drop (n * aw)=(l.drop n).flatMap f:=by
 intro l;induction l with
 |nil=>simp_all
 |cons x l ih=>
  intro n;cases n with
  |zero=>simp
  |succ n=>
   have:(n+1) * aw=(f x).length+n * aw:=by grind
   rw[yBv,List.drop_succ_cons,<-ih n,this,xAe,yBn (by omega),xAb]
   simp_all
def cpL(l m:List α)(lo len:Nat):List α:=l.take lo++m.take len++l.drop (lo+(m.take len).length)
theorem R_{l m:List α}{lo len:Nat}(h:lo+len<=l.length):(cpL l m lo len).length=l.length:=by grind [cpL]
theorem CZ{σ:ar}{nn:Bool}{m:List α}(b:∀a,(f a).length=aw):Src σ f aw (.c (.cD nn (m.map f))) m:=by
 refine ⟨by simp[GX],?_⟩;show (if m.length<=(m.map f).length/\(m.map f).all (λe=>e.length=aw) then some (((m.map f).take m.length).flatten.map D.c) else none)=_
 grind
theorem src_nil{σ:ar}:Src σ f aw (.c (.lit (.slice none 0 0))) []:=⟨rfl,rfl⟩
theorem Rl{σ:ar}{b n:Nat}{l:List α}(i:∀a,(f a).length=aw)(h:σ[b]? = some (OB f l))(j:l.length=n):Src σ f aw (OS aw b n) l:=by subst j;refine ⟨by grind [GX,iz],?_⟩;show ((mA σ b (l.length * aw)).bind λm=>if aw=aw/\l.length<=l.length/\0+l.length * aw<=l.length * aw then some ((m.drop 0).take (l.length * aw)) else none)=_;rw[iz i h,aD,if_pos ⟨rfl,cU _,by omega⟩,yCi,yB9 (by simp[dZ i])]
end
section
variable{P:Program}{orc:vE}{n:Nat}{al:AL}{σ σ1:ar}{d d1 d2:D}{α:Type}{f:α->List C}{aw:Nat}{ac:aP}{Q:nG->AL->ar->Prop}
theorem Sem.own(t aw:Nat)(hk:lk t al=some (.c (.lit (.slice none 0 0))))(hd:D.sl σ.length 0 0 aw 0=d)(hs:σ++[.cells []]=σ1)(h:Sem P ac n ((t,d)::al) σ1 Q):Sem P ac n al σ Q:=by
 subst hd hs;intro c z M Fz w a K R A E;have j:=bD.ph R;have F:=R.ph;have i:∀{d v},V σ M Fz w d v->V (σ++[.cells []]) M Fz w d v:=λh=>h.mono j;have G:eT n (σ++[.cells []]) M Fz w ((t,.sl σ.length 0 0 aw 0)::al) a.tmps:=by
  refine ⟨A.1,λs d hs=>?_⟩;simp only[lk] at hs;split at hs
  ·rename_i O;have:=cS O;simp only[au] at hs;subst this hs;obtain ⟨v,o,u⟩:=A.2 t _ hk;refine ⟨v,o,?_⟩;rw[u.cd];exact .sl none 0 0 (by simp) (.cells []) (by simp) (by omega) (λ_=>.inl ⟨rfl,rfl,rfl,rfl,rfl,rfl⟩)
  ·obtain ⟨v,o,u⟩:=A.2 s d hs
   simp_all
 exact h c z M Fz w a K F G λx al' σ' U w' M' Fz' W hd X Y Z hl=>E x al' σ' U w' M' Fz' W hd X Y (j.trans Z (by simp)) (by grind)
theorem OG{x:aO}{b k:Nat}{l:List α}(i:∀a,(f a).length=aw)(h:lx al x=some (OS aw b k))(j:σ[b]? = some (OB f l))(m:l.length=k):eH P orc n al σ (.len x) (I k) σ []:=λe o=>by grind [bj,GX,eW,iz]
def bI{α:Type}(l m:List α):Option (List α):=if l.length+m.length<=1000000 then some (l++m) else none
theorem uX{l m r:List α}(h:bI l m=some r):l.length+m.length<=1000000/\r=l++m:=by
 unfold bI at h
 simp_all
theorem v_{i:Nat}{s x:aO}{b k:Nat}{l m r:List α}(F:∀a,(f a).length=aw)(h:lx al s=some (OS aw b k))(G:σ[b]? = some (OB f l))(hk:l.length=k)(K:lx al x=some d)(hm:Src σ f aw d m)(L:bI l m=some r)
  (v:Nat.ble i 1000=true) (hd:OS aw b r.length=d1) (hs:σ.set b (OB f r)=σ1):eH P orc n al σ (.append aw i s x) d1 σ1 [b]:=by
 obtain ⟨o,rfl⟩:=uX L;subst hd hs hk;have p:i<=1000:=CE v;have j:FF (l.length+m.length) i=true:=by have:(l.length+m.length) * i<=1000000 * 1000:=yCj o p;simp only[FF,bH,br];omega
 have y:∀e,Env n al e->bj P orc (.append aw i s x) e σ=(if m.length=0 then some (OS aw b l.length,σ,[b]) else some (.sl b 0 (l.length+m.length) aw (l.length * aw+m.length * aw),σ.set b (.cells ((l.flatMap f).map .c++(m.flatMap f).map .c)),[b])):=by
  intro e u;have:bj P orc (.append aw i s x) e σ=(GX σ d).bind λk=>(WV σ aw k d).bind λnew=>(mA σ b (l.length * aw)).bind λz=>if aw=aw/\0=0/\l.length * aw=l.length * aw/\FF (l.length+k) i then
     if k=0 then some (.sl b 0 l.length aw (l.length * aw),σ,[b])
     else some (.sl b 0 (l.length+k) aw (l.length * aw+k * aw),σ.set b (.cells (z++new)),[b])
    else if aw=aw/\0=0/\(l.length+k) * aw<=l.length * aw/\FF (l.length+k) i then
     if k=0 then some (.sl b 0 l.length aw (l.length * aw),σ,[b])
     else some (.sl b 0 (l.length+k) aw (l.length * aw),σ.set b (.cells (put z (l.length * aw) new)),[b])
    else none:=by
   simp only[bj,eW u h,eW u K];rfl
  rw[this,hm.1,aD,hm.2,aD,iz F G,aD,if_pos ⟨rfl,rfl,rfl,j⟩]
 intro e u;by_cases A:m.length=0
 ·rw[y e u,if_pos A];have:m=[]:=Xo A;subst this;have E:σ.set b (OB f (l++[]))=σ:=by
   rw[Ep];apply UB
   grind
  simp_all
 grind
theorem op_copy{x y:aO}{b lo len:Nat}{l m:List α}(i:∀a,(f a).length=aw)(h:lx al x=some (.sl b (0+lo * aw) len aw (l.length * aw)))(p:σ[b]? = some (OB f l))(j:lo+len<=l.length)(r:lx al y=some d)(hm:Wt σ f aw d m)(hs:σ.set b (OB f (cpL l m lo len))=σ1) :
  eH P orc n al σ (.copy aw x y) (I ((m.take len).length:Int)) σ1 [b]:=λe o=>by
 subst hs;have s:min m.length len=(m.take len).length:=by grind
 have u:m.take (min m.length len)=m.take len:=by simp_all
 have v:0+lo * aw+len * aw<=l.length * aw:=by
  have:=Gk aw j
  grind
 have z:put ((l.flatMap f).map D.c) (0+lo * aw) (((m.take len).flatMap f).map D.c)=((cpL l m lo len).flatMap f).map D.c:=by simp only[put,cpL,<-yCd,<-List.map_drop,xF,dZ i,List.flatMap_append,yBH,SV,Up i];rw[<-Lr,Ue i]
 simp only[bj,eW o h,eW o r,iz i p,hm.1,Option.bind_eq_bind,Option.bind_some,Option.map_some,hm.2 _ (Nat.min_le_left m.length len)]
 grind
theorem OX{x i:aO}{b m:Nat}{k:Int}{l:List α}{a:α}(p:∀a,(f a).length=aw)(h:lx al x=some (OS aw b m))(r:σ[b]? = some (OB f l))(j:l.length=m)(s:lx al i=some (I k))(o:aB l k=some a) :
  eH P orc n al σ (.idx aw none x i) (.ptr b (k.toNat * aw) (m * aw)) σ []:=λe u=>by
 subst j;obtain ⟨v,y,z⟩:=oI o;have A:BO k l.length=some k.toNat:=by unfold BO;simp_all
 grind [bj,tK,eW,iz]
theorem XR{l:List α}{k:Int}{a:α}(b:aB l k=some a):l[k.toNat]? = some a:=(oI b).2.2
theorem Gq(j:∀a,(f a).length=aw){l:List α}{i o:Nat}{a:α}{m:Option Nat}(p:l[i]? = some a)(h:uM m ((f a).map .c) o=some d):uM m ((l.flatMap f).map .c) (i * aw+o)=some d:=by
 have r:=flat_at j l i a p;have b:(i+1) * aw<=(l.flatMap f).length:=by grind
 rw[Lr,Nat.one_mul] at b;cases m with
 |none=>
  simp only[uM,lW,cz] at h ⊢
  grind
 |some m=>
  simp only[uM] at h ⊢;split at h
  ·rename_i s;simp only[xF,j] at s;rw[if_pos (by grind)]
   grind [List.map_drop,List.map_take,List.drop_take,List.drop_drop]
  simp_all
theorem Wf{m:Option Nat}{x:aO}{b p q o i:Nat}{l:List α}{a:α}(j:∀a,(f a).length=aw)(h:lx al x=some (.ptr b p (q * aw)))(r:p=i * aw+o)(s:σ[b]? = some (OB f l))(u:l.length=q)(v:l[i]? = some a)
  (y:uM m ((f a).map .c) o=some d):eH P orc n al σ (.load m x) d σ []:=by
 subst u r;exact rC h (iz j s) (Gq j v y)
theorem YH(j:∀a,(f a).length=aw){xs:List C}:∀(l:List α)(i o:Nat)(a b:α),l[i]? = some a->o+xs.length<=aw->f b=(f a).take o++xs++(f a).drop (o+xs.length) ->
  (l.flatMap f).take (i * aw+o)++xs++(l.flatMap f).drop (i * aw+o+xs.length)=(l.set i b).flatMap f:=by
 intro l;induction l with
 |nil=>simp_all
 |cons x l ih=>
  intro i o a b h m p;cases i with
  |zero=>grind
  |succ i=>
   simp only[List.getElem?_cons_succ] at h;have u:=j x;have r:(i+1) * aw+o=(f x).length+(i * aw+o):=by grind
   simp only[yBv,List.set_cons_succ];rw[<-ih i o a b h m p,r,List.take_append,yB9 (by omega)];have s:(f x).length+(i * aw+o)+xs.length=(f x).length+(i * aw+o+xs.length):=by omega
   rw[s,xAe,yBn (by omega),xAb,yB5,yB5];simp
theorem UD{m:Nat}{x y:aO}{b p q o i:Nat}{l:List α}{a j:α}{xs:List C}(v:∀a,(f a).length=aw)(h:lx al x=some (.ptr b p (q * aw)))(E:p=i * aw+o)(F:σ[b]? = some (OB f l))(G:l.length=q)(z:l[i]? = some a)
  (K:lx al y=some d) (L:d.cells? = some (xs.map .c)) (hm:xs.length=m) (N:Nat.ble (o+m) aw=true) (O:f j=(f a).take o++xs++(f a).drop (o+xs.length)) {A:List α} (r:l.set i j=A) (hs:σ.set b (OB f A)=σ1) :
  eH P orc n al σ (.store m x y) (.aQ []) σ1 [b]:=by
 subst G E r hs hm;have s:o+xs.length<=aw:=CE N;have R:=(gh.1 z).1;have u:(i+1) * aw<=l.length * aw:=Gk _ R;rw[Lr,Nat.one_mul] at u;refine EA h (iz v F) K L ⟨by simp,by omega⟩ ?_;congr 2;rw[<-YH v l i o a j z s O];simp[put]
theorem jA{len:Nat}{z cs:List D}{ps:List (Nat×Nat×aO)}{l:List α}(h:B_ al (tI len z) ps=some cs)(b:cs=(l.flatMap f).map .c)(i:l.length=len)(j:∀a,(f a).length=aw)(m:OS σ.length aw len=OS σ.length aw len)(hd:OS aw σ.length len=d1)(hs:σ++[OB f l]=σ1) :
  eH P orc n al σ (.jv aw len z ps) d1 σ1 []:=by
 grind [Hv,dZ]
theorem Vo{z:α}:∀(k:Nat),tI k ((f z).map .c)=((List.replicate k z).flatMap f).map .c:=by
 intro k;induction k with
 |zero=>rfl
 |succ k ih=>grind [tI]
def FG{α:Type}(z:α)(l c:Int):Option (List α):=if 0<=l/\l<=c/\c<=1000000 then some (List.replicate l.toNat z) else none
def mk0?{α:Type}(c:Int):Option (List α):=if 0<=c/\c<=1000000 then some [] else none
theorem op_mk0{a:Nat}{zs:List D}{x y:aO}{c:Int}{l:List α}(m:lx al x=some (I 0))(o:lx al y=some (I c))(hm:mk0? c=some l)(i:Nat.ble a 1000=true)
  (hd:OS aw σ.length l.length=d1) (hs:σ++[OB f l]=σ1):eH P orc n al σ (.mk aw a zs x y) d1 σ1 []:=λe j=>by
 subst hd hs;unfold mk0? at hm;split at hm
 ·rename_i r;simp only[au] at hm;subst hm;have h:a<=1000:=CE i;have b:FF c.toNat a=true:=by
   have p:c.toNat<=1000000:=by omega
   have:c.toNat * a<=1000000 * 1000:=yCj p h;simp only[FF,bH,br];omega
  simp only[bj,eW j m,eW j o,tK,Option.bind_eq_bind,Option.bind_some];rw[if_pos ⟨by omega,by omega,b⟩];simp[OS,OB,tI]
 simp_all
theorem op_mk{a:Nat}{zs:List D}{x y:aO}{k c:Int}{z:α}{l:List α}(o:lx al x=some (I k))(p:lx al y=some (I c))(r:zs=(f z).map .c)(hm:FG z k c=some l)(i:Nat.ble a 1000=true)
  (hd:OS aw σ.length l.length=d1) (hs:σ++[OB f l]=σ1):eH P orc n al σ (.mk aw a zs x y) d1 σ1 []:=λe j=>by
 subst hd hs r;unfold FG at hm;split at hm
 ·rename_i m;simp only[au] at hm;subst hm;have h:a<=1000:=CE i;have b:FF c.toNat a=true:=by
   have s:c.toNat<=1000000:=by omega
   have:c.toNat * a<=1000000 * 1000:=yCj s h;simp only[FF,bH,br];omega
  simp only[bj,eW j o,eW j p,tK,Option.bind_eq_bind,Option.bind_some];rw[if_pos ⟨m.1,m.2.1,b⟩,Vo];simp[OS]
 simp_all
def slice?{α:Type}(l:List α)(lo a:Int):Option (List α):=if 0<=lo/\lo<=a/\a<=l.length then some ((l.take a.toNat).drop lo.toNat) else none
theorem op_slc{x:aO}{lo p:Option aO}{nn:Bool}{l r:List α}{i j:Int}(z:∀a,(f a).length=aw)(h:lx al x=some (.c (.cD nn (l.map f))))(b:(match lo with | none=>some (I 0) | some o=>lx al o)=some (I i))
  (m:(match p with | none=>some (I l.length) | some o=>lx al o)=some (I j)) (s:slice? l i j=some r):eH P orc n al σ (.VE aw x lo p) (.c (.cD nn (r.map f))) σ []:=λe u=>by
 unfold slice? at s;split at s
 ·rename_i A;simp only[au] at s;subst s;have v:oD e (l.map f).length (l.map f).length p=some j.toNat:=by
   cases p with
   |none=>simp only[au,I,D.c.injEq,C.lit.injEq,Value.int.injEq,true_and] at m;grind [oD]
   |some o=>
    simp only at m;simp only[oD,eW u m,tK,Option.bind_some,RY]
    grind
  have y:oD e 0 j.toNat lo=some i.toNat:=by
   cases lo with
   |none=>simp only[au,I,D.c.injEq,C.lit.injEq,Value.int.injEq,true_and] at b;grind [oD]
   |some o=>
    simp only at b;simp only[oD,eW u b,tK,Option.bind_some,RY]
    grind
  simp only[bj,eW u h,v,y,Option.bind_eq_bind,Option.bind_some]
  simp_all
 simp_all
end
end Go.Abs
namespace Go.Abs
variable[Gl]
end Go.Abs
namespace Go.Abs
variable[Gl]
theorem WU{m:Nat}:∀(l:List C),D.low.cP m (l.map D.c)=true:=by
 intro l;induction l with
 |nil=>rfl
 |cons x l ih=>grind [D.low.cP,D.low]
end Go.Abs
end
section
namespace Go.Abs
variable[Gl]
def cj(P:Program)(orc:gp)(k:Nat)(os:List aG)(n:Nat)(al:AL)(σ:ar)(Q:AL->ar->List dV->Prop):Prop:=
 ∃al' σ' is,IK P orc k os n al σ al' σ' is/\Q al' σ' is
section
variable{P:Program}{orc:gp}{n k:Nat}{al al1:AL}{σ σ1:ar}{w:List Nat}{d:D}{os:List aG}{t:Nat}{ao:kT}{g:Option (Nat×Bool)}{Q:AL->ar->List dV->Prop}
theorem cj.nil(h:Q al σ []):cj P orc k [] n al σ Q:=⟨al,σ,[],IK.nil,h⟩
theorem cj.op(h:eH P (orc (some t)) n al σ ao d σ1 w)(i:Gd al g true)(hs:(Nat.blt t n&&FZ al ao&&(k == 0 || jq σ σ1 w))=true)
  (r:cj P orc (k-1) os n ((t,d)::al) σ1 λal' σ' is=>Q al' σ' (Eo ⟨some t,ao,g⟩ (cat ao) (yT al ao) w σ.length σ1.length::is)):cj P orc k (⟨some t,ao,g⟩::os) n al σ Q:=by
 obtain ⟨al',σ',is,j,o⟩:=r;exact ⟨al',σ',_,IK.op h i hs j,o⟩
theorem cj.eff(h:eH P (orc none) n al σ ao d σ1 w)(i:Gd al g true)(hs:(FZ al ao&&(k == 0 || jq σ σ1 w))=true)
  (r:cj P orc (k-1) os n al σ1 λal' σ' is=>Q al' σ' (Eo ⟨none,ao,g⟩ (cat ao) (yT al ao) w σ.length σ1.length::is)):cj P orc k (⟨none,ao,g⟩::os) n al σ Q:=by
 obtain ⟨al',σ',is,j,o⟩:=r;exact ⟨al',σ',_,IK.eff h i hs j,o⟩
theorem cj.no(i:Gd al g false)(hs:(Nat.blt t n&&FZ al ao)=true)
  (r:cj P orc (k-1) os n ((t,.aQ [])::al) σ λal' σ' is=>Q al' σ' (Eo ⟨some t,ao,g⟩ 0 (yT al ao) [] σ.length σ.length::is)):cj P orc k (⟨some t,ao,g⟩::os) n al σ Q:=by
 obtain ⟨al',σ',is,j,o⟩:=r;exact ⟨al',σ',_,IK.no i hs j,o⟩
theorem Sem.qx{Q:nG->AL->ar->Prop}(i:P.follows .mixedOrders=true)(O:nW P orc)(h:cj P orc 0 os n al σ λal' σ' _=>Q .normal al' σ'):Sem P (.CK os) n al σ Q:=by
 obtain ⟨al',σ',is,j,o⟩:=h
 grind [Sem.CK]
theorem Sem.drwQ{Q:nG->AL->ar->Prop}{i:List Nat}{p:Nat}(j:P.follows .mixedOrders=true)(O:nW P orc)
  (h:cj P orc k os n al σ λal' σ' is=>(eK i is&&mc i p k os.length&&Nat.ble p k)=true/\Q .normal al' σ'):Sem P (.HA os i k p) n al σ Q:=by
 obtain ⟨al',σ',is,o,s,u⟩:=h
 grind [Sem.HA]
theorem Sem.drwNQ{Q:nG->AL->ar->Prop}{i:List Nat}{p:Nat}(j:P.follows .mixedOrders=true)(O:nW P orc)
  (h:cj P orc os.length os n al σ λal' σ' is=>(eK i is&&mc i p os.length os.length&&Nat.ble p os.length)=true/\Q .normal al' σ'):Sem P (.HA os i k p) n al σ Q:=by
 obtain ⟨al',σ',is,o,s,u⟩:=h
 grind [Sem.drwN]
def shut(n:Nat)(al:AL)(o:aG):Option Nat:=
 match o.g,o.dst with
 |some (t, want), some s=>
  match lk t al with
  |some (.c (.lit (.bool b)))=>if (b != want)&&(Nat.blt s n&&FZ al o.op) then some s else none
  |some (.aQ [])=>if Nat.blt s n&&FZ al o.op then some s else none
  |_=>none
 |_,_=>none
end
end Go.Abs
end
section
namespace Go.Abs
variable[Gl]
def cI{α:Type}:List (Int×α)->Int->Option α
 |[],_=>none
 |(b,a)::l,k=>if b=k then some a else cI l k
def jI{α:Type}:List (Int×α)->Int->α->List (Int×α)
 |[],k,a=>[(k,a)]
 |(b,h)::l,k,a=>if b=k then (b,a)::l else (b,h)::jI l k a
def FM{α:Type}:List (Int×α)->Int->Nat
 |[],_=>0
 |(a,_)::l,k=>if a=k then 0 else FM l k+1
def Aj{α:Type}(g:α->D):Nat->List (Int×α)->List (Value×D×Nat)
 |_,[]=>[]
 |i,(k,a)::l=>(.int .i64 k,g a,i)::Aj g (i+1) l
abbrev MB{α:Type}(g:α->D)(l:List (Int×α)):Ob:=.map (Aj g 0 l) l.length
def oel{α b:Type}(o:Option α)(n:b)(s:α->b):b:=match o with | none=>n | some a=>s a
section
variable{α:Type}
theorem y_{m:IntKind}{g:α->D}{k:Int}:∀(l:List (Int×α))(i j:Nat),rW (.int m) (.int .i64 k) (Aj g i l) j=some ((cI l k).map λa=>(j+FM l k,g a)):=by
 intro l;induction l with
 |nil=>intro i j;rfl
 |cons x l ih=>
  intro i j;obtain ⟨b,a⟩:=x;simp only[Aj,rW,Instr.sameNow,if_true];by_cases h:b=k
  ·grind [cI,FM]
  ·have o:(k == b)=false:=by grind
   simp only[o,ih,cI,FM,if_neg h]
   grind
theorem UZ{g:α->D}{k:Int}{a:α}:∀(l:List (Int×α))(i:Nat)(b:α),cI l k=some b->(Aj g i l).modify (FM l k) (λp=>(p.1,g a,p.2.2))=Aj g i (jI l k a)/\(jI l k a).length=l.length:=by
 intro l;induction l with
 |nil=>grind [cI]
 |cons x l ih=>
  intro i b h;obtain ⟨j,m⟩:=x;by_cases hk:j=k
  ·grind [FM,jI,Aj]
  ·simp only[cI,if_neg hk] at h;obtain ⟨o,r⟩:=ih (i+1) b h
   grind [FM,jI,Aj]
theorem Tq{g:α->D}{k:Int}{a:α}:∀(l:List (Int×α))(i:Nat),cI l k=none->Aj g i l++[(.int .i64 k,g a,i+l.length)]=Aj g i (jI l k a)/\(jI l k a).length=l.length+1:=by
 intro l;induction l with
 |nil=>grind [jI,Aj]
 |cons x l ih=>
  intro i h;obtain ⟨b,j⟩:=x;by_cases hk:b=k
  ·grind [cI]
  ·simp only[cI,if_neg hk] at h;obtain ⟨m,o⟩:=ih (i+1) h;refine ⟨?_,by grind [jI]⟩;simp only[jI,if_neg hk,Aj,List.cons_append,List.length_cons]
   grind
end
section
variable{P:Program}{orc:vE}{n:Nat}{al:AL}{σ σ1:ar}{d d1 d2:D}{α:Type}
theorem XQ{g:α->D}(hd:D.mp σ.length=d)(hs:σ++[MB g ([]:List (Int×α))]=σ1):eH P orc n al σ .tM d σ1 []:=λe a=>by subst hd hs;rfl
theorem op_look{i:IntKind}{zero:D}{m k:aO}{b:Nat}{g:α->D}{l:List (Int×α)}{x:Int}{ok:Bool}{a:α}(hm:lx al m=some (.mp b))(j:σ[b]? = some (MB g l))(hk:lx al k=some (I x))(o:cI l x=some a)(hd:(if ok then .aQ [g a,B true] else g a)=d) :
  eH P orc n al σ (.lookup (.int i) zero m k ok) d σ []:=λe h=>by
 subst hd;simp only[bj,eW h hm,eW h hk,gU,Hj,j,Option.bind_eq_bind,Option.bind_some,y_,o,Option.map_some,Ol]
theorem YW{h:IntKind}{zero:D}{m k:aO}{b:Nat}{g:α->D}{l:List (Int×α)}{x:Int}{ok:Bool}(hm:lx al m=some (.mp b))(i:σ[b]? = some (MB g l))(hk:lx al k=some (I x))(j:cI l x=none)(hd:(if ok then .aQ [zero,B false] else zero)=d) :
  eH P orc n al σ (.lookup (.int h) zero m k ok) d σ []:=λe a=>by
 subst hd;simp only[bj,eW a hm,eW a hk,gU,Hj,i,Option.bind_eq_bind,Option.bind_some,y_,j,Option.map_none,Ol]
theorem op_upd{o:IntKind}{m k x:aO}{b:Nat}{g:α->D}{l:List (Int×α)}{i:Int}{a:α}(hm:lx al m=some (.mp b))(p:σ[b]? = some (MB g l))(hk:lx al k=some (I i))(r:lx al x=some (g a))(hs:σ.set b (MB g (jI l i a))=σ1) :
  eH P orc n al σ (.su (.int o) m k x) (.aQ []) σ1 [b]:=λe h=>by
 subst hs;simp only[bj,eW h hm,eW h hk,gU,p,Option.bind_eq_bind,Option.bind_some,y_,eW h r];cases j:cI l i with
 |some s=>
  obtain ⟨u,v⟩:=UZ (g:=g) (a:=a) l 0 s j
  grind
 |none=>
  obtain ⟨u,v⟩:=Tq (g:=g) (a:=a) l 0 j
  grind
def FA{α:Type}:List (Int×α)->Int->List (Int×α)
 |[],_=>[]
 |(b,a)::l,k=>if b=k then l else (b,a)::FA l k
theorem Hu{α:Type}{k:Int}:∀(l:List (Int×α)),cI l k=none->FA l k=l
 |[],_=>rfl
 |(b, a) :: l, h => by
  by_cases hk:b=k
  ·grind [cI]
  ·simp only[cI,if_neg hk] at h;simp only[FA,if_neg hk,Hu l h]
theorem Ml{α:Type}{g:α->D}:∀(l:List (Int×α))(i j:Nat),nk j (Aj g i l)=Aj g j l
 |[],_,_=>rfl
 |(k,a)::l,i,j=>by simp only[Aj,nk,Ml l]
theorem Ij{α:Type}{g:α->D}{k:Int}:∀(l:List (Int×α))(i j:Nat)(b:α),cI l k=some b->nk j ((Aj g i l).eraseIdx (FM l k))=Aj g j (FA l k)/\(FA l k).length=l.length-1
 |[],_,_,_,h=>by grind [cI]
 |(m, a) :: l, i, j, b, h => by
  by_cases hk:m=k
  ·grind [FM,FA,Aj,Ml]
  ·simp only[cI,if_neg hk] at h;obtain ⟨o,p⟩:=Ij l (i+1) (j+1) b h;have r:0<l.length:=by
    grind [cI]
   simp only[FM,FA,hk,Aj,cn,List.eraseIdx_cons_succ,nk,List.length_cons];exact ⟨by rw[o],by omega⟩
theorem op_del{h:IntKind}{m k:aO}{b:Nat}{g:α->D}{l:List (Int×α)}{i:Int}(hm:lx al m=some (.mp b))(j:σ[b]? = some (MB g l))(hk:lx al k=some (I i))(hs:σ.set b (MB g (FA l i))=σ1) :
  eH P orc n al σ (.del (.int h) m k) (.aQ []) σ1 [b]:=λe a=>by
 subst hs;simp only[bj,eW a hm,eW a hk,gU,j,Option.bind_eq_bind,Option.bind_some,y_];cases o:cI l i with
 |some p=>
  obtain ⟨r,s⟩:=Ij (g:=g) l 0 0 p o
  grind
 |none=>grind [Hu]
theorem SQ{f:Fn}{first cap:List aO}{a b:List D}(h:Vq al first=some a)(i:Vq al cap=some b):eH P orc n al σ (.Dz f first cap) (.fn f a b) σ []:=λe j=>by grind [bj,JI]
theorem KP{g:FuncId}{f:aO}{args:List aO}{ds a b:List D}{w:List Nat}(h:lx al f=some (.fn (.func g) a b))(i:Vq al args=some ds)(j:orc g (a++ds++b) σ=some (d,σ1,w)):eH P orc n al σ (.call f args) d σ1 w:=λe l=>by grind [bj,eW,JI]
theorem Xs{g:FuncId}{f:aO}{args:List aO}{ds:List D}{a b:List C}{w:List Nat}(h:lx al f=some (.c (.fn (.func g) a b)))(i:Vq al args=some ds)(j:orc g (a.map .c++ds++b.map .c) σ=some (d,σ1,w)):eH P orc n al σ (.call f args) d σ1 w:=λe l=>by grind [bj,eW,JI]
theorem op_idxS{aw j b off len sz:Nat}{x i:aO}{k:Int}{cs:List D}(h:lx al x=some (.sl b off len aw sz))(l:lx al i=some (I k))(m:mA σ b sz=some cs)(hk:BO k len=some j)(hd:D.ptr b (off+j * aw) sz=d) :
  eH P orc n al σ (.idx aw none x i) d σ []:=λe a=>by
 subst hd;simp only[bj,eW a h,eW a l,tK,Option.bind_eq_bind,Option.bind_some,m,hk,if_true]
theorem op_lenS{b off len aw sz:Nat}{x:aO}{cs:List D}(h:lx al x=some (.sl b off len aw sz))(a:mA σ b sz=some cs)(hd:I len=d):eH P orc n al σ (.len x) d σ []:=λe i=>by grind [bj,GX,eW]
theorem UW{x:aO}{cs:List C}{off:Nat}(h:lx al x=some (.c (.cE cs off))):eH P orc n al σ (.mL x) (.c (.cE cs off)) σ []:=λe a=>by grind [bj,eW]
theorem Tl{x:aO}{f:FuncId}{a b:List C}(h:lx al x=some (.c (.fn (.func f) a b))):eH P orc n al σ (.mL x) (.c (.fn (.func f) a b)) σ []:=λe i=>by grind [bj,eW]
theorem GU{x:aO}{f:FuncId}{a b:List D}(h:lx al x=some (.fn (.func f) a b)):eH P orc n al σ (.mL x) (.fn (.func f) a b) σ []:=λe i=>by grind [bj,eW]
end
section
variable{P:Program}{orc:vE}{n:Nat}{al:AL}{σ σ1:ar}{d d1 d2:D}{α:Type}{f:α->List C}{aw:Nat}
theorem Dy{a:Nat}{s x:aO}{m:List α}(h:lx al s=some (.c (.lit (.slice none 0 0))))(p:lx al x=some d)(hm:Src σ f aw d m)(r:Nat.ble m.length 1000000=true)
  (l:Nat.ble a 1000=true) (hd:OS aw σ.length m.length=d1) (hs:σ++[OB f m]=σ1):eH P orc n al σ (.append aw a s x) d1 σ1 []:=by
 subst hd hs;have i:a<=1000:=CE l;have j:m.length<=1000000:=CE r;have b:FF m.length a=true:=by have:m.length * a<=1000000 * 1000:=yCj j i;simp only[FF,bH,br];omega
 intro e o;have:bj P orc (.append aw a s x) e σ=(GX σ d).bind λk=>(WV σ aw k d).bind λnew=>if FF k a then some (.sl σ.length 0 k aw (k * aw),σ++[.cells new],[]) else none:=by simp only[bj,eW o h,eW o p];rfl
 rw[this,hm.1,aD,hm.2,aD,if_pos b]
end
def OF:Nat->C->C
 |n+1,.cD _ es=>.cD false (es.map λe=>e.map (OF n))
 |_+1,.lit (.slice none 0 0)=>.cD false []
 |_,x=>x
theorem Sy{Fz:Nat->Prop}{w:World}:∀(n:Nat){x:C}{v:Value},VC Fz w x v->VC Fz w (OF n x) v:=by
 intro n;induction n with
 |zero=>intro x v h;exact h
 |succ n ih=>
  intro x v h;by_cases z:x=.lit (.slice none 0 0)
  ·subst z;cases h;exact .cD (es:=[]) 0 none 0 (by simp) (λ_=>rfl) (λ_ _=>undef) (by simp) (by simp) (by simp) (by simp)
  cases h with
  | @cD nn es aw a cap A E c F u y l=>
   have h:=VC.cD (Fz:=Fz) (w:=w) (nn:=false) (es:=es.map λe=>e.map (OF n)) aw a cap (by simp) E c (λe O=>?_) (by simp_all) (λi j e d m p=>?_) (λi j e d m p=>?_)
   ·rw[xF] at h;exact h
   ·grind
   ·grind
   grind
  |lit v=>
   have:OF (n+1) (.lit v)=.lit v:=by
    unfold OF
    simp_all
   rw[this];exact .lit v
  |cE blk o c r y l=>exact .cE blk o c r y l
  |fn G K m p l L=>exact .fn G K m p l L
  |Mh blk b s r N hs hk l=>exact .Mh blk b s r N hs hk l
  |VF g=>exact .VF g
def nrmY:D->D
 |.c x=>.c (OF 5 x)
 |.agg ds=>.agg (ds.map λd=>match d with | .c x=>.c (OF 5 x) | d=>d)
 |d=>d
theorem DP.of_nrmY{d j:D}(h:nrmY d=j):DP d j:=by
 subst h;intro σ M Fz w v h;unfold nrmY;split
 ·cases h with | c h=>exact .c (Sy 5 h)
 ·cases h with
  |agg o z s=>
   refine .agg o (by simp_all) (λi d v a b=>?_);simp only[lW,cz] at a;obtain ⟨u,x,rfl⟩:=a;have:=s i u v x b;split
   ·cases this with | c h=>exact .c (Sy 5 h)
   omega
 omega
def ObFz(S F:D):Ob->Ob->Prop
 |.map es c,.map b l=>c=l/\b.length=es.length/\∀(i:Nat) k a n,b[i]? = some (k,a,n)->∃d,es[i]? = some (k,d,n)/\(a=d∨d=S/\a=F)
 |.cells j,.cells h=>h.length=j.length/\∀(i:Nat) a,h[i]? = some a->∃d,j[i]? = some d/\(a=d∨d=S/\a=F)
 |_,_=>False
theorem ObFz.sz{S F:D}{ob ob':Ob}(h:ObFz S F ob ob'):ob'.sz=ob.sz:=by
 cases ob <;> cases ob' <;> simp only[ObFz] at h
 ·exact h.1
 ·rfl
section
variable{P:Program}{σ σ0 σ1:ar}{n:Nat}{al:AL}{ac:aP}{Q:nG->AL->ar->Prop}{α:Type}{f:α->List C}{aw:Nat}
end
end Go.Abs
end
section
namespace Go.Fl
open Ieee
theorem log2_lt{n k:Nat}(a:n≠0)(h:n<2 ^ k):n.log2<k:=(Nat.log2_lt a).2 h
theorem RI{n:Nat}(a:n≠0):2 ^ n.log2<=n:=Nat.log2_self_le a
theorem Sa(n:Nat):n<2 ^ (n.log2+1):=Nat.lt_log2_self
theorem lp:double.leastPlace=-1074:=by decide
def can(s:Bool)(n:Nat):Datum:=if n=0 then .number s 0 (-1074) else .number s (n * 2 ^ (52-n.log2)) ((n.log2:Int)-52)
theorem EC(a:Toward)(s:Bool)(n:Nat):a.cut s n 0=n:=by
 unfold Toward.cut;have h:1 <<< min 0 (n.log2+2)=1:=by simp_all
 have b:n % 1=0:=Nat.mod_one n;simp only[h,Nat.div_one,b];cases a <;> simp
theorem TJ{s:Bool}{n d m:Nat}(hd:d<=n.log2+2)(h:n=m * 2 ^ d):Toward.even.cut s n d=m:=by
 unfold Toward.cut;have a:1 <<< min d (n.log2+2)=2 ^ d:=by rw[Nat.min_eq_left hd,Nat.one_shiftLeft]
 have b:0<2 ^ d:=Nat.pow_pos (by decide)
 simp_all
theorem zW{m d:Nat}(h:m≠0):(m * 2 ^ d).log2=m.log2+d:=by
 have b:=RI h;have i:=Sa m;have a:m * 2 ^ d≠0:=by grind [Nat.mul_ne_zero]
 apply Nat.le_antisymm
 ·have:m * 2 ^ d<2 ^ (m.log2+d+1):=by
   rw[show m.log2+d+1=(m.log2+1)+d by omega,yCf];exact yBO i (Nat.pow_pos (by decide))
  have:=log2_lt a this;omega
 ·have:2 ^ (m.log2+d)<=m * 2 ^ d:=by
   rw[yCf];exact Gk _ b
  exact (Nat.le_log2 a).2 this
theorem Ui{s:Bool}{n k:Nat}(a:n≠0)(h:n<2 ^ 53):double.nearest s (n * 2 ^ k) (-(k:Int))=double.nearest s n 0:=by
 have o:=log2_lt a h;have e:(n * 2 ^ k).log2=n.log2+k:=zW a;have j:n * 2 ^ k≠0:=Nat.mul_ne_zero a (by simp_all);have fb:double.fractionBits=52:=rfl;have l:max (-(k:Int)+((n * 2 ^ k).log2:Nat)-((52:Nat):Int)) (-1074)=(n.log2:Int)-52:=by omega
 have m:max ((0:Int)+(n.log2:Nat)-((52:Nat):Int)) (-1074)=(n.log2:Int)-52:=by omega
 have p:Toward.even.cut s ((n * 2 ^ k) <<< (-(k:Int)-((n.log2:Int)-52)).toNat) (((n.log2:Int)-52) - -(k:Int)).toNat=n * 2 ^ (52-n.log2):=by
  by_cases hk:k+n.log2<=52
  ·have b:(-(k:Int)-((n.log2:Int)-52)).toNat=52-n.log2-k:=by omega
   have i:(((n.log2:Int)-52) - -(k:Int)).toNat=0:=by omega
   rw[b,i,EC,Nat.shiftLeft_eq,Nat.mul_assoc,<-yCf]
   grind
  ·have b:(-(k:Int)-((n.log2:Int)-52)).toNat=0:=by omega
   have i:(((n.log2:Int)-52) - -(k:Int)).toNat=k+n.log2-52:=by omega
   rw[b,i,Nat.shiftLeft_zero];refine TJ (by omega) ?_;rw[Nat.mul_assoc,<-yCf]
   grind
 have r:Toward.even.cut s (n <<< ((0:Int)-((n.log2:Int)-52)).toNat) (((n.log2:Int)-52)-0).toNat=n * 2 ^ (52-n.log2):=by
  have b:((0:Int)-((n.log2:Int)-52)).toNat=52-n.log2:=by omega
  have i:(((n.log2:Int)-52)-0).toNat=0:=by omega
  grind [EC,Nat.shiftLeft_eq]
 unfold Format.nearest;rw[if_neg j,if_neg a]
 grind [lp]
theorem UE{s:Bool}{n:Nat}(h:n<2 ^ 53):double.read (double.nearest s n 0)=can s n:=by
 by_cases b:n=0
 ·subst b;cases s <;> rfl
 have p:=log2_lt b h;have r:=RI b;have u:=Sa n;have fb:double.fractionBits=52:=rfl;have a:max ((0:Int)+(n.log2:Nat)-((52:Nat):Int)) (-1074)=(n.log2:Int)-52:=by omega
 have i:Toward.even.cut s (n <<< ((0:Int)-((n.log2:Int)-52)).toNat) (((n.log2:Int)-52)-0).toNat=n * 2 ^ (52-n.log2):=by
  have G:((0:Int)-((n.log2:Int)-52)).toNat=52-n.log2:=by omega
  have N:(((n.log2:Int)-52)-0).toNat=0:=by omega
  grind [EC,Nat.shiftLeft_eq]
 have v:4503599627370496<=n * 2 ^ (52-n.log2):=by have:2 ^ n.log2 * 2 ^ (52-n.log2)<=n * 2 ^ (52-n.log2):=Gk _ r;rw[<-yCf,show n.log2+(52-n.log2)=52 by omega] at this;omega
 have x:n * 2 ^ (52-n.log2)<9007199254740992:=by have:n * 2 ^ (52-n.log2)<2 ^ (n.log2+1) * 2 ^ (52-n.log2):=yBO u (Nat.pow_pos (by decide));rw[<-yCf,show n.log2+1+(52-n.log2)=53 by omega] at this;omega
 have m:double.infRung=9218868437227405312:=by decide
 have y:double.signWeight=9223372036854775808:=by decide
 have o:double.binade=4503599627370496:=by decide
 unfold can;rw[if_neg b];generalize n * 2 ^ (52-n.log2)=K at i v x ⊢;generalize z:n.log2=L at i a p ⊢;have A:double.nearest s n 0=double.word s ((L+1022) * 4503599627370496+K):=by
  unfold Format.nearest;rw[if_neg b];simp only[fb,lp,z,a,i,m,o];have E:(((L:Int)-52) - -1074).toNat=L+1022:=by omega
  rw[E,Nat.min_eq_left (by omega)]
 rw[A];generalize O:(L+1022) * 4503599627370496+K=R;have F:R<9223372036854775808:=by omega
 have j:(double.word s R / double.signWeight % 2 == 1)=s:=by
  unfold Format.word;rw[y];cases s
  ·grind
  ·rw[if_pos rfl,Nat.add_div_left _ (by decide),Nat.div_eq_of_lt F];rfl
 have l:double.word s R % double.signWeight=R:=by
  unfold Format.word
  grind
 unfold Format.read;simp only[j,l,o,m,lp]
 grind
theorem ZG(s:Bool)(k:Nat):Datum.number s (0 * 2 ^ k) (-(k:Int))=Datum.number s 0 (-(k:Int)):=by simp_all
theorem mj(s:Bool){n:Nat}(h:n<2 ^ 53):∃k:Nat,can s n=.number s (n * 2 ^ k) (-(k:Int)):=by
 unfold can;split
 ·rename_i e;subst e;exact ⟨1074,(ZG s 1074).symm⟩
 ·rename_i a;have:=log2_lt a h
  grind
theorem Ov(s:Bool){n:Nat}(k:Nat)(h:n<2 ^ 53):double.nearest s (n * 2 ^ k) (-(k:Int))=double.nearest s n 0:=by
 by_cases a:n=0
 ·subst a;rw[yBZ];unfold Format.nearest
  simp_all
 grind [Ui]
def fl(n:Int):Nat:=FloatKind.f64.nearest n
theorem Yg(n:Int):fl n=double.nearest (decide (n<0)) n.natAbs 0:=rfl
theorem rp{n:Int}(h:n.natAbs<2 ^ 53):double.read (fl n)=can (decide (n<0)) n.natAbs:=UE h
def sg(s:Bool)(n:Nat):Int:=if s then -(n:Int) else n
theorem GF(s:Bool)(n i m:Nat)(h:i<=m):signed s (n * 2 ^ i) (m-i)=sg s n * (2 ^ m:Nat):=by
 have e:(n * 2 ^ i) <<< (m-i)=n * 2 ^ m:=by rw[Nat.shiftLeft_eq,Nat.mul_assoc,<-yCf];simp_all
 unfold signed sg;rw[e]
 grind
theorem Xx(s t:Bool)(a b i j:Nat):Datum.sum (.number s (a * 2 ^ i) (-(i:Int))) (.number t (b * 2 ^ j) (-(j:Int))) =
  some (.number (if sg s a+sg t b=0 then s&&t else decide (sg s a+sg t b<0)) ((sg s a+sg t b).natAbs * 2 ^ (max i j)) (-((max i j:Nat):Int))):=by
 unfold Datum.sum;have p:min (-(i:Int)) (-(j:Int))=-((max i j:Nat):Int):=by omega
 have r:(-(i:Int) - -((max i j:Nat):Int)).toNat=max i j-i:=by omega
 have u:(-(j:Int) - -((max i j:Nat):Int)).toNat=max i j-j:=by omega
 simp only[p,r,u,GF s a i (max i j) (by omega),GF t b j (max i j) (by omega),<-Int.add_mul];have o:(0:Int)<((2 ^ max i j:Nat):Int):=by have:0<2 ^ max i j:=Nat.pow_pos (by decide);omega
 have z:((sg s a+sg t b) * ((2 ^ max i j:Nat):Int)=0)↔sg s a+sg t b=0:=by grind [Int.mul_eq_zero]
 have l:((sg s a+sg t b) * ((2 ^ max i j:Nat):Int)<0)↔sg s a+sg t b<0:=by
  constructor
  ·intro h;rcases yCl (sg s a+sg t b) 0 with m | m
   ·exact m
   ·have:=yBL m (Int.le_of_lt o);omega
  ·intro h;exact Int.mul_neg_of_neg_of_pos h o
 grind
theorem PP(n:Int):sg (decide (n<0)) n.natAbs=n:=by
 unfold sg
 grind
theorem fl_add{a b:Int}(p:a.natAbs<2 ^ 52)(r:b.natAbs<2 ^ 52):double.add (fl a) (fl b)=some (fl (a+b)):=by
 have h:a.natAbs<2 ^ 53:=by omega
 have l:b.natAbs<2 ^ 53:=by omega
 obtain ⟨i,m⟩:=mj (decide (a<0)) h;obtain ⟨j,o⟩:=mj (decide (b<0)) l;unfold Format.add;rw[rp h,rp l,m,o,Xx,PP,PP];simp only[Option.map_some,Format.write];rw[Ov _ _ (by omega),Yg]
 grind
theorem fl_sub{a b:Int}(p:a.natAbs<2 ^ 52)(r:b.natAbs<2 ^ 52):double.sub (fl a) (fl b)=some (fl (a-b)):=by
 have h:a.natAbs<2 ^ 53:=by omega
 have l:b.natAbs<2 ^ 53:=by omega
 obtain ⟨i,m⟩:=mj (decide (a<0)) h;obtain ⟨j,o⟩:=mj (decide (b<0)) l;have hs:sg (!decide (b<0)) b.natAbs=-b:=by
  unfold sg
  grind
 unfold Format.sub;rw[rp h,rp l,m,o];simp only[Datum.opposite];rw[Xx,PP,hs];simp only[Option.map_some,Format.write];rw[Ov _ _ (by omega),Yg,<-Int.sub_eq_add_neg]
 grind
theorem fl_mul{a b:Int}(v:0<=a)(x:0<=b)(l:a.natAbs<2 ^ 53)(o:b.natAbs<2 ^ 53)(h:(a * b).natAbs<2 ^ 53):double.mul (fl a) (fl b)=some (fl (a * b)):=by
 obtain ⟨i,p⟩:=mj (decide (a<0)) l;obtain ⟨j,r⟩:=mj (decide (b<0)) o;have s:decide (a<0)=false:=by simp_all
 have u:decide (b<0)=false:=by simp_all
 have y:decide (a * b<0)=false:=by grind [Int.mul_nonneg]
 unfold Format.mul;rw[rp l,rp o,p,r];simp only[Datum.product,s,u,Option.map_some,Format.write];have m:a.natAbs * 2 ^ i * (b.natAbs * 2 ^ j)=(a * b).natAbs * 2 ^ (i+j):=by grind
 grind [Ov,Yg]
theorem fl_int{n:Int}(h:n.natAbs<2 ^ 53):(double.read (fl n)).toInt .zero=some n:=by
 obtain ⟨k,hk⟩:=mj (decide (n<0)) h;rw[rp h,hk];unfold Datum.toInt Datum.integral;have a:(-(k:Int)).toNat=0:=by omega
 have b:(- -(k:Int)).toNat=k:=by omega
 have c:Toward.zero.cut (decide (n<0)) (n.natAbs * 2 ^ k) k=n.natAbs:=by
  by_cases i:n.natAbs=0
  ·rw[i,yBZ];unfold Toward.cut;simp
  ·unfold Toward.cut
   grind [zW,Nat.one_shiftLeft,Nat.mul_div_cancel]
 simp only[a,b,Nat.shiftLeft_zero,c]
 grind [Ieee.signed]
end Go.Fl
end
section
namespace Go.Abs
variable[Gl]
def isC:D->Bool
 |.c _=>true
 |_=>false
section
variable{σ σ':ar}{M M':Nat->Option Nat}{Fz Fz':Nat->Prop}{w w':World}
theorem XZ(ob:Ob):mo σ (σ++[ob]):=λb o h=>⟨o,by grind,rfl⟩
theorem PW(R:Rel σ M Fz w){z:List D}{b:Nat}(hb:σ[b]? = some (.cells z))(hM:M b=none)(hz:z.all isC=true){A:Nat->Option Nat}{j:Nat->Prop}{w1:World}{v:Value}
  (N:Rel (σ++[.cells z]) A j w1) (hv:V (σ++[.cells z]) A j w1 (.ptr σ.length 0 z.length) v) (EV:bD σ M Fz w (σ++[.cells z]) A j w1) :
  ∃ O, Rel σ O j w1 /\ V σ O j w1 (.ptr b 0 z.length) v /\ (∀ x c, M x = some c -> O x = some c) /\ (∀ x, x ≠ b -> O x = M x) /\
   ∀(σ0:ar)(M0:Nat->Option Nat)(Fz0:Nat->Prop)(w0:World),bD σ0 M0 Fz0 w0 σ M Fz w->σ0.length<=σ.length->σ0.length<=b->bD σ0 M0 Fz0 w0 σ O j w1:=by
 have ak:=(gh.1 hb).1;have p:∀x,x<σ.length->A x=M x:=λx u=>by have S:σ[x]? = some σ[x]:=eI u;obtain ⟨U,r,_,F⟩:=EV.keep x _ S;rw[HE u,S] at r;simp only[au] at r;exact F (by rw[<-r])
 have s:(σ++[Ob.cells z])[σ.length]? = some (.cells z):=by simp
 obtain ⟨G,a,l,ha,rfl⟩:∃G a,A σ.length=some G/\a=(⟨G,0,none⟩:Addr)/\v=.pointer (some a):=by
  cases hv with
  |ptr a W h an hv=>rw[s] at h;simp only[au] at h;subst h;obtain ⟨c,r,m⟩:=hv (by simp[Ob.sz]);exact ⟨c,a,r,m,rfl⟩
 have Z:w.heap.size<=G:=by
  rcases EV.kS _ _ l with ⟨b0,h⟩ | h
  ·have X:=(R.lt h).1;have:=N.inj b0 σ.length G (by rw[p b0 X];exact h) l;omega
  ·exact h
 have e1:∀x c,(if x=b then A σ.length else M x)=some c->(x=b/\c=G)∨(x≠b/\M x=some c):=λx c h=>by
  split at h
  ·rw[l] at h;simp only[au] at h;exact .inl ⟨‹_›,h.symm⟩
  ·exact .inr ⟨‹_›,h⟩
 have aa:∀x c,M x=some c->x≠b:=λx c h e=>by rw[e,hM] at h;simp at h
 have E:∀x c,M x=some c->(if x=b then A σ.length else M x)=some c:=λx c h=>by rw[if_neg (aa x c h)];exact h
 have ab:∀(i:Nat) d,z[i]? = some d->∃x,d=.c x:=λi d h=>by have:=iE.1 hz d (Ay h);cases d <;> first | exact ⟨_,rfl⟩ | simp[isC] at this
 refine ⟨λx=>if x=b then A σ.length else M x,⟨λx c h=>?_,λx x' c h h'=>?_,N.fz,N.gl⟩,?_,E,λx u=>if_neg u,λσ0 M0 Fz0 w0 E0 X av=>?_⟩
 ·rcases e1 x c h with ⟨rfl,rfl⟩ | ⟨u,h⟩
  ·obtain ⟨r,W,o,m,F,h4⟩:=N.blk _ _ l;rw[s] at m;simp only[au] at m;subst m;refine ⟨r,_,o,hb,F,?_⟩;obtain ⟨ad,T,ho,X,u⟩:=h4;refine ⟨ad,T,ho,X,λi d v q1 q2=>?_⟩;obtain ⟨x,rfl⟩:=ab i d q1;obtain ⟨q3,q4⟩:=u i _ v q1 q2;refine ⟨?_,q4⟩;cases q3 with
   |c q3=>exact .c q3
  ·obtain ⟨_,ax,o0,k2,_,k4⟩:=R.blk x c h;have K:=(R.lt h).1;obtain ⟨r,W,o,m,F,h4⟩:=N.blk x c (by rw[p x K];exact h);rw[HE K] at m;refine ⟨r,W,o,m,F,?_⟩;rw[k2] at m;simp only[au] at m;subst m;refine (bY.down (XZ (.cells z)) h4 k4).cut.sub mo.refl (λy c' Y=>?_);unfold cT at Y;split at Y
   ·rename_i af;rw[p y af] at Y;exact E y c' Y
   ·simp at Y
 ·rcases e1 x c h with ⟨g1,g2⟩ | ⟨_,g2⟩ <;> rcases e1 x' c h' with ⟨g3,g4⟩ | ⟨_,g4⟩
  ·rw[g1,g3]
  ·have:=(R.lt g4).2;omega
  ·have:=(R.lt g2).2;omega
  ·exact R.inj x x' c g2 g4
 ·subst ha;exact .ptr _ (.cells z) hb (cU _) λ_=>⟨G,by rw[if_pos rfl];exact l,rfl⟩
 ·have L:=E0.trans EV X;refine ⟨L.size,L.frame,λx c h=>?_,L.fz,L.nU,L.pQ,λx W u=>?_,L.out⟩
  ·rcases e1 x c h with ⟨rfl,rfl⟩ | ⟨_,h⟩
   ·exact L.kS _ _ l
   ·exact E0.kS _ _ h
  ·obtain ⟨U,r,m,F⟩:=E0.keep x W u;have K:=(gh.1 u).1;exact ⟨U,r,m,λe=>by rw[if_neg (by omega)];exact F e⟩
end
section
variable{P:Program}{orc:gp}{ops:Array Oper}{os:List aG}{q n0:Nat}{env:Nat->List D}{sg:Nat->ar}{wrs:Nat->List Nat}
variable{M0:Nat->Option Nat}{Fz0:Nat->Prop}{w0:World}{tJ:List Deferred}
def oU(os:List aG)(q:Nat):Prop:=∀i,i<q->∃t ao,os[i]? = some ⟨some t,ao,none⟩/\((∃z,ao=.alloc z/\z.all isC=true)∨(∃x,ao=.AB x)∨∃n x,ao=.load n x)
theorem MO{P:Program}{orc:vE}{ao:kT}(h:(∃x,ao=.AB x)∨∃n x,ao=.load n x){env:List D}{σ σ1:ar}{d:D}{wr:List Nat}(a:bj P orc ao env σ=some (d,σ1,wr)) :
  σ1=σ/\wr=[]/\∀aC:ar,(∀b off sz,Xn ao env=.ptr b off sz->aC[b]? = σ[b]?)->bj P orc ao env aC=some (d,aC,[]):=by
 rcases h with ⟨x,rfl⟩ | ⟨n,x,rfl⟩
 ·simp only[bj,au,aT] at a;obtain ⟨rfl,rfl,rfl⟩:=a;exact ⟨rfl,rfl,λ_ _=>rfl⟩
 ·simp only[bj] at a;split at a
  ·rename_i b off sz i;simp only[Option.bind_eq_bind,cF,au,aT] at a;obtain ⟨j,m,v,l,rfl,rfl,rfl⟩:=a;refine ⟨rfl,rfl,λaC h=>?_⟩;have e:=h b off sz i
   grind [mA,bj]
  ·rename_i j off i;simp only[Option.bind_eq_bind,cF,au,aT] at a;obtain ⟨v,l,rfl,rfl,rfl⟩:=a;exact ⟨rfl,rfl,λaC _=>by grind [bj]⟩
  simp_all
theorem oU.step(H:oU os q)(T:Tr P orc ops os 0 n0 env sg wrs){i:Nat}(u:i<q):∃t ao d,os[i]? = some ⟨some t,ao,none⟩/\env (i+1)=oa (env i) (some t) d/\wrs i=[]/\bj P (orc (some t)) ao (env i) (sg i)=some (d,sg (i+1),[]) /\
  ((∃z,ao=.alloc z/\z.all isC=true/\d=.ptr (sg i).length 0 z.length/\sg (i+1)=sg i++[.cells z])∨(((∃x,ao=.AB x)∨∃n x,ao=.load n x)/\sg (i+1)=sg i)):=by
 obtain ⟨t,ao,A,j⟩:=H i u;have:=T.step i _ A;simp only[ff,gB,cz] at this;obtain ⟨⟨d,s1,w1⟩,o,s⟩:=this;simp only[aT] at s;obtain ⟨F,rfl,rfl⟩:=s;rcases j with ⟨z,rfl,G⟩ | j
 ·have E:=o;simp only[bj,au,aT] at E
  grind
 ·obtain ⟨K,O,_⟩:=MO j o
  grind
theorem oU.wr(H:oU os q)(T:Tr P orc ops os 0 n0 env sg wrs){i:Nat}(j:i<q):wrs i=[]:=by obtain ⟨_,_,_,_,_,h,_⟩:=H.step T j;exact h
theorem oU.blk(H:oU os q)(T:Tr P orc ops os 0 n0 env sg wrs){i t:Nat}{z:List D}(j:i<q)(o:os[i]? = some ⟨some t,.alloc z,none⟩):z.all isC=true/\env (i+1)=oa (env i) (some t) (.ptr (sg i).length 0 z.length)/\sg (i+1)=sg i++[.cells z]:=by
 obtain ⟨s,ao,d,u,x,_,_,A⟩:=H.step T j
 simp_all
structure Lt (os:List aG) (q:Nat) (env:Nat->List D) (sg:Nat->ar) (M0:Nat->Option Nat) (Fz0:Nat->Prop) (w0:World) (tJ:List Deferred) (S:Nat->Prop) (k:Nat) (M:Nat->Option Nat) (Fz:Nat->Prop) (w:World) (a:Act):Prop where
 UG:a.tmps.size=(env k).length
 tJ:a.defers=tJ
 rel:Rel (sg k) M Fz w
 tmp:∀t d v,(∀i x,i<q->os[i]? = some x->x.dst=some t->S i)->(env k)[t]? = some d->a.tmps[t]? = some v->V (sg k) M Fz w d v
 non:∀i t z,i<q->os[i]? = some ⟨some t,.alloc z,none⟩->¬S i->M (sg i).length=none
 evo:bD (sg 0) M0 Fz0 w0 (sg k) M Fz w
theorem Inv.late{S:Nat->Prop}{M:Nat->Option Nat}{Fz:Nat->Prop}{w:World}{a:Act}(I:Inv os n0 env sg wrs M0 Fz0 w0 tJ S M Fz w a)(T:Tr P orc ops os 0 n0 env sg wrs)(O:nW P orc)(H:oU os q)
  (hS:∀i,q<=i->i<n0->S i) (hq:q<=n0) (U:∀b,M0 b≠none->b<(sg 0).length):Lt os q env sg M0 Fz0 w0 tJ S n0 M Fz w a:=by
 have Y:=T.le;refine ⟨by rw[I.UG,T.AY O T.le],I.tJ,⟨λb c h=>?_,I.inj,I.fz,Gl.mono I.DU.fz I.gl0⟩,λt d v hc x E=>?_,λi t z u W hn=>?_,?_⟩
 ·obtain ⟨x,E,s⟩:=I.own b c h;have A:b<(sg n0).length:=by
   rcases s with ⟨s,_⟩ | ⟨j,X,_,_,s⟩
   ·exact FH s (T.cG O (by omega) T.le)
   ·exact FH s (T.cG O (by omega) T.le)
  have F:(sg n0)[b]? = some (sg n0)[b]:=eI A;obtain ⟨o,Z,h5⟩:=I.blk b c h n0 _ (cU _) F (λi u hw=>⟨λ_=>by
   rcases rZ i q with h | h
   ·rw[H.wr T h] at hw
    grind
   simp_all,λ_=>u⟩)
  simp_all
 ·exact I.tmp t n0 (cU _) (λi o u W hd=>⟨λ_=>by grind,λ_=>u⟩) d v x E
 ·cases G:M (sg i).length with
  |none=>rfl
  |some c=>
   obtain ⟨_,_,s⟩:=I.own _ c G;have l1:=T.cG O (m:=0) (m':=i) (by omega) (by omega);have l2:(sg (i+1)).length=(sg i).length+1:=by rw[(H.blk T u W).2.2];simp
   rcases s with ⟨s,_⟩ | ⟨j,X,aa,Z,h5⟩
   ·omega
   ·rcases Vx j i with h | h | h
    ·have:=T.cG O (m:=j+1) (m':=i) (by omega) (by omega);omega
    ·simp_all
    ·have:=T.cG O (m:=i+1) (m':=j) (by omega) (by omega);omega
 ·refine ⟨I.DU.size,I.DU.frame,λb c h=>?_,I.DU.fz,λc h=>?_,I.DU.pQ,λb ob A=>?_,I.DU.out⟩
  ·rcases I.DU.kS b c h with h | h
   ·grind
   omega
  ·rcases I.DU.nU c h with h | h
   ·simp_all
   omega
  ·obtain ⟨K,x,E⟩:=T.sz O (by omega) (cU n0) b ob A;refine ⟨K,x,by omega,λ_=>?_⟩;have ab:=(gh.1 A).1;cases G:M0 b with
   |some c=>exact I.DU.ext b c G
   |none=>
    cases R:M b with
    |none=>rfl
    |some c=>
     obtain ⟨_,_,s⟩:=I.own b c R;rcases s with ⟨_,s⟩ | ⟨j,X,_,s,_⟩
     ·simp_all
     ·have:=T.cG O (m:=0) (m':=j) (by omega) (by omega);omega
theorem oU.off(H:oU os q)(T:Tr P orc ops os 0 n0 env sg wrs){i k t:Nat}{z:List D}(s:i<q)(o:os[i]? = some ⟨some t,.alloc z,none⟩)(j:i<k)(hk:k<os.length)(x:¬CB ops i k):(sg i).length∉wrs k:=by
 obtain ⟨y,u⟩:=T.at hk;rcases T.pair i k _ y j o u with h | h
 ·simp_all
 ·obtain ⟨_,_,_,_,_,A,_⟩:=fW h;have E:(sg (i+1)).length=(sg i).length+1:=by rw[(H.blk T s o).2.2];simp
  grind [dz]
theorem oU.look(T:Tr P orc ops os 0 n0 env sg wrs){i k t b off sz:Nat}{ao:kT}(o:os[i]? = some ⟨some t,ao,none⟩)(u:(∃x,ao=.AB x)∨∃n x,ao=.load n x)(z:Xn ao (env i)=.ptr b off sz)(j:i<k)(hk:k<os.length)(A:¬CB ops i k):b∉wrs k:=by
 obtain ⟨y,s⟩:=T.at hk;rcases T.pair i k _ y j o s with h | h
 ·simp_all
 ·obtain ⟨_,_,_,E,_⟩:=fW h
  grind [Xn,safe,dz,gB,cat]
theorem IM{a:Act}{b:Option Nat}{v i:Value}{t:Nat}(h:(a.put b v).tmps[t]? = some i):(b=some t/\i=v)∨(b≠some t/\a.tmps[t]? = some i):=by
 cases b with
 |none=>exact .inr ⟨by simp,h⟩
 |some s=>
  simp only[Act.put,yAP] at h
  grind
theorem Fv{a:Act}{b:Option Nat}{v:Value}:(a.put b v).tmps.size=a.tmps.size:=by cases b <;> simp[Act.put]
theorem JT{a:Act}{b:Option Nat}{v:Value}:(a.put b v).defers=a.defers:=by cases b <;> rfl
theorem Sc(O:nW P orc)(T:Tr P orc ops os 0 n0 env sg wrs)(H:oU os q)(hq:q<=n0)(b5:∀i j,q<=i->i<j->n0<=j->j<os.length->CB ops i j)
  (hg:∀(i:Nat) x,os[i]? = some x->x.g=none) (a9:∀(i j:Nat) x y t,i<q->i<j->os[i]? = some x->os[j]? = some y->x.dst=some t->y.dst≠some t) (bb:∀(i j:Nat) x y t,i<q->i<=j->os[i]? = some x->os[j]? = some y->y.dst=some t->t∉yU x)
  (b6:∀listed:Array Bool,listed.size=ops.size->Region.ready .any ops listed=[]->∀i,i<ops.size->gu listed i) {Q:Exit->Act->World->Prop}
  (hQ:∀a' w' M' Fz',a'.defers=tJ->Rel (sg os.length) M' Fz' w'->dx (sg os.length) M' Fz' w' (env os.length) a'.tmps->bD (sg 0) M0 Fz0 w0 (sg os.length) M' Fz' w'->Q .normal a' w') :
  ∀ (R : Nat) (listed : Array Bool) (k : Nat) (M : Nat -> Option Nat) (Fz : Nat -> Prop) (w : World) (a : Act), listed.size = ops.size -> n0 <= k -> k <= os.length -> (∀ i, q <= i -> i < ops.size -> (gu listed i ↔ i < k)) -> fM ops (gu listed) ->
   Vd ops.size listed<=R->Lt os q env sg M0 Fz0 w0 tJ (gu listed) k M Fz w a->wpAny P .any ops Q R listed a w:=by
 have c3:=T.len;have fin:∀(listed:Array Bool)(k:Nat)(M:Nat->Option Nat)(Fz:Nat->Prop)(w:World)(a:Act),n0<=k->k<=os.length->(∀i,q<=i->i<ops.size->(gu listed i↔i<k))->(∀i,i<ops.size->gu listed i) ->
   Lt os q env sg M0 Fz0 w0 tJ (gu listed) k M Fz w a->Q .normal a w:=λlisted k M Fz w a hk u hS ab L=>by
  have b7:k=os.length:=by grind
  subst b7;exact hQ a w M Fz L.tJ L.rel ⟨L.UG,λt d v h1 h2=>L.tmp t d v (λi x r _ _=>ab i (by omega)) h1 h2⟩ L.evo
 intro R;induction R with
 |zero=>
  intro listed k M Fz w a bc hk u hS hC hf L;have ab:=uk (N:=ops.size) (listed:=listed) (by omega);refine ⟨?_,fin listed k M Fz w a hk u hS ab L⟩;cases hr:Region.ready .any ops listed with
  |nil=>rfl
  |cons j l=>
   have hm:j∈Region.ready .any ops listed:=by simp_all
   rw[mem_ready] at hm
   grind [gu]
 |succ R ih=>
  intro listed k M Fz w a bc hk u hS hC hf L;refine ⟨λhr=>fin listed k M Fz w a hk u hS (b6 listed bc hr) L,λj hj=>?_⟩;rw[mem_ready] at hj;obtain ⟨h1,o,ho,b8⟩:=hj;have b9:j<ops.size:=(BI.1 ho).1;have an:¬gu listed j:=by grind [gu]
  have ax:∀o' e,ops[j]? = some o'->e∈o'.after->Region.binds .any e=true->gu listed e.on:=λo' e A he cg=>by rw[ho] at A;simp only[au] at A;subst A;exact b8 e he cg
  have a2:fM ops (gu (listed.setIfInBounds j true)):=by
   intro i o' e r A he U;rw[IB (by omega)] at r ⊢;rcases r with r | rfl
   ·exact .inl (hC i o' e r A he U)
   simp_all
  have hu:=Dk (N:=ops.size) (listed:=listed) (k:=j) (by omega) b9 an;have ch:∀i,i<q->¬gu listed i->¬CB ops i j:=λi r hn U=>hn (U.ready hC ax);rcases rZ j q with aa | aa
  ·
   obtain ⟨t,ao,d,F,ad,bd,a0,a5⟩:=H.step T aa;obtain ⟨o',A,G⟩:=T.comp j _ F;rw[ho] at A;simp only[au] at A;subst A;unfold bq at G;split at G
   ·rename_i g p a6 E;simp only[au,aG.mk.injEq] at G;obtain ⟨be,rfl,rfl⟩:=G;have same:∀s,s∈yU (⟨some t,p,none⟩:aG)->(env k)[s]? = (env j)[s]?:=λs hs=>
     T.zE O (m:=j) (m':=k) (t:=s) (by omega) u (λi x r _ Z hd=>bb j i _ x s aa r F Z hd hs)
    have hE:dx (sg k) M Fz w (jO (yU ⟨some t,p,none⟩) (env k)) a.tmps:=by
     refine ⟨by grind [Lt.UG,jO],λi d v h1 h2=>?_⟩;rw[qz] at h1;simp only[cz] at h1;obtain ⟨d0,h3,h4⟩:=h1;by_cases ht:(yU ⟨some t,p,none⟩).contains i=true
     ·rw[if_pos ht] at h4;subst h4;refine L.tmp i d0 v (λm x hm Z hd=>?_) h3 h2;rcases rZ m j with bh | bh
      ·rcases T.pair m j x _ bh Z F with U | U
       ·grind
       ·obtain ⟨h5,_⟩:=fW U;exact absurd (show i∈yU ⟨some t,p,none⟩ by simp_all) (h5 i hd)
      grind
     ·rw[if_neg ht] at h4;subst h4;exact .any v
    have W:=oS (ops:=ops) (o:=o) (g:=none) (b:=true) hE a6 rfl;have a1:∀S d' v',(env k)[S]? = some d'->a.tmps[S]? = some v'->S≠t->(∀i x,i<q->os[i]? = some x->x.dst=some S->gu (listed.setIfInBounds j true) i)->V (sg k) M Fz w d' v':=λS d' v' q1 q2 e hc=>by
     refine L.tmp S d' v' (λi x r Z hd=>?_) q1 q2;rcases (IB (by omega) i).1 (hc i x r Z hd) with h | h
     ·exact h
     grind
    have c4:∀d',(env k)[t]? = some d'->d'=d:=λd' q1=>by
     have ck:=T.zE O (m:=j+1) (m':=k) (t:=t) (by omega) u (λi x r _ Z hd=>a9 j i _ x t aa (by omega) F Z rfl hd);rw[ck,ad] at q1;simp only[oa,yB7,if_true] at q1
     simp_all
    have bi:∀i,q<=i->i<ops.size->(gu (listed.setIfInBounds j true) i↔i<k):=λi r bk=>by rw[IB (by omega),hS i r bk];omega
    unfold wpOp;rw[ho];simp only[W,if_true];left;rcases a5 with ⟨z,rfl,hz,rfl,av⟩ | ⟨a7,av⟩
    ·refine Md (O o.dst) L.rel hE E rfl _ λv w1 M1 af R1 hv EV _=>?_;have cm:(sg j).length<(sg (j+1)).length:=by grind
     have bl:=T.Um O (m:=j+1) (m':=k) (b:=(sg j).length) (by omega) u cm (λi r a8 hw=>by
      rcases rZ i q with h | h
      ·rw[H.wr T h] at hw
       grind
      ·exact H.off T aa F (by omega) (by omega) (λU=>an (U.in hC ((hS i h (by omega)).2 a8))) hw)
     rw[av,NZ (cU _),yCk,xAf] at bl;obtain ⟨M2,R2,c5,bt,bu,a0⟩:=PW L.rel bl (L.non j t z aa F an) hz R1 hv EV;refine ih (listed.setIfInBounds j true) k M2 af w1 _ (by grind) hk u bi a2 (by omega) ⟨by rw[Fv,L.UG],by rw[JT,L.tJ],R2,λS d v' hc q1 q2=>?_,λi S z' r K hn=>?_,?_⟩
     ·rcases IM q2 with ⟨e,rfl⟩ | ⟨e,q2⟩
      ·grind
      ·exact (a1 S d v' q1 q2 (λh=>e (by grind)) hc).sub mo.refl bt EV.fz EV.pQ
     ·have co:i≠j:=λe=>hn ((IB (by omega) i).2 (.inr e));have c6:(sg (i+1)).length=(sg i).length+1:=by rw[(H.blk T r K).2.2];simp
      have c7:(sg (j+1)).length=(sg j).length+1:=by grind
      rw[bu _ (by
       intro e;rcases Nat.lt_or_gt_of_ne co with h | h
       ·have:=T.cG O (m:=i+1) (m':=j) (by omega) (by omega);omega
       ·have:=T.cG O (m:=j+1) (m':=i) (by omega) (by omega);omega)]
      exact L.non i S z' r K (λh=>hn ((IB (by omega) i).2 (.inl h)))
     ·exact a0 _ _ _ _ L.evo (T.cG O (by omega) u) (T.cG O (by omega) (by omega))
    ·have bv:bj P (orc (some t)) p (env j) (sg j)=some (d,sg j,[]):=by grind
     have X:∀σ,bj P (orc (some t)) p (jO (yU ⟨some t,p,none⟩) (env k)) σ=bj P (orc (some t)) p (env j) σ:=λσ=>by
      refine yG (nz E) (λx Z=>?_);have bw:∀n,x=.t n->n∈yU (⟨some t,p,none⟩:aG):=λn hn=>by
       subst hn;simp only[yU,nj,List.mem_filterMap]
       grind
      rw[zV bw];cases x with
      |k d=>rfl
      |t n=>simp only[aO.ev,same n (bw n rfl)]
     have b0:bj P (orc o.dst) p (jO (yU ⟨some t,p,none⟩) (env k)) (sg k)=some (d,sg k,[]):=by
      rw[be,X];refine (MO a7 bv).2.2 (sg k) (λb off sz Z=>?_);by_cases Y:b<(sg j).length
      ·exact T.Um O (m:=j) (m':=k) (b:=b) (by omega) u Y (λi r a8 hw=>by
        rcases rZ i q with h | h
        ·rw[H.wr T h] at hw
         grind
        ·exact oU.look T F a7 Z (by omega) (by omega) (λU=>an (U.in hC ((hS i h (by omega)).2 a8))) hw)
      ·exfalso;rcases a7 with ⟨x,rfl⟩ | ⟨n,x,rfl⟩
       ·grind [Xn]
       grind [Xn,bj,mA]
     refine Md (O o.dst) L.rel hE E b0 _ λv w1 M1 af R1 hv EV _=>?_;refine ih (listed.setIfInBounds j true) k M1 af w1 _ (by grind) hk u bi a2 (by omega) ⟨by rw[Fv,L.UG],by rw[JT,L.tJ],R1,λS d' v' hc q1 q2=>?_,λi S z' r K hn=>?_,?_⟩
     ·rcases IM q2 with ⟨e,rfl⟩ | ⟨e,q2⟩
      ·grind
      ·exact (a1 S d' v' q1 q2 (λh=>e (by grind)) hc).mono EV
     ·have Y:(sg i).length<(sg k).length:=by
       have h1:(sg (i+1)).length=(sg i).length+1:=by rw[(H.blk T r K).2.2];simp
       have:=T.cG O (m:=i+1) (m':=k) (by omega) u;omega
      obtain ⟨cp,k1,_,k3⟩:=EV.keep _ _ (eI Y);rw[eI Y] at k1;simp only[au] at k1;rw[k3 (by grind)];exact L.non i S z' r K (λh=>hn ((IB (by omega) i).2 (.inl h)))
     ·exact L.evo.trans EV (T.cG O (by omega) u)
   simp_all
  ·have c8:k<=j:=by
    simp_all
   have cv:j=k:=by
    rcases rZ k j with h | h
    ·have U:=b5 k j (by omega) h (by omega) (by omega);have:=(hS k (by omega) (by omega)).1 (U.ready hC ax);omega
    ·omega
   subst cv;obtain ⟨ao,F⟩:=T.at (i:=j) (by omega);obtain ⟨o',A,G⟩:=T.comp j ao F;rw[ho] at A;simp only[au] at A;subst A;have ak:=T.step j ao F;have b1:=hg j ao F;have hE:dx (sg j) M Fz w (jO (yU ao) (env j)) a.tmps:=by
    refine ⟨by grind [Lt.UG,jO],λi d v h1 h2=>?_⟩;rw[qz] at h1;simp only[cz] at h1;obtain ⟨d0,h3,h4⟩:=h1;by_cases ht:(yU ao).contains i=true
    ·rw[if_pos ht] at h4;subst h4;refine L.tmp i d0 v (λm x hm Z hd=>?_) h3 h2;rcases T.pair m j x ao (by omega) Z F with U | U
     ·grind
     ·obtain ⟨h5,_⟩:=fW U;exact absurd (show i∈yU ao by simp_all) (h5 i hd)
    ·rw[if_neg ht] at h4;subst h4;exact .any v
   unfold bq at G;split at G
   ·rename_i g p a6 E;simp only[au] at G;subst G;simp only at b1;subst b1;have W:=oS (ops:=ops) (o:=o) (g:=none) (b:=true) hE a6 rfl;have X:bj P (orc o.dst) p (jO (yU ⟨o.dst,p,none⟩) (env j)) (sg j)=bj P (orc o.dst) p (env j) (sg j):=by
     refine yG (nz E) (λx Z=>zV (λn hn=>?_));subst hn;simp only[yU,nj,List.mem_filterMap]
     grind
    simp only[ff,gB,cz] at ak;obtain ⟨⟨d,σ1,bS⟩,c0,h⟩:=ak;simp only[aT] at h;obtain ⟨ad,av,bd⟩:=h;subst av bd;unfold wpOp;rw[ho];simp only[W,if_true];left;refine Md (O o.dst) L.rel hE E (by rw[X];exact c0) _ λv w1 M1 af R1 hv EV _=>?_;refine ih (listed.setIfInBounds j true) (j+1) M1 af w1 _ (by grind) (by omega) (by omega) (λi r bk=>?_) a2 (by omega) ⟨by rw[Fv,L.UG,T.AY O (m:=j) (by omega),T.AY O (m:=j+1) (by omega)],by rw[JT,L.tJ],R1,λS d' v' hc q1 q2=>?_,λi c2 z' r K hn=>?_,?_⟩
    ·grind [IB]
    ·rw[<-ad] at q1;rcases IM q2 with ⟨e,rfl⟩ | ⟨e,q2⟩
     ·rw[e] at q1;simp only[oa,yB7,if_true] at q1
      simp_all
     ·have q3:(env j)[S]? = some d':=by
       rw[<-q1];cases hd:o.dst with
       |none=>rfl
       |some s=>grind [oa,List.getElem?_set_ne]
      refine (L.tmp S d' v' (λi x r Z hd=>?_) q3 q2).mono EV
      grind [IB]
    ·have b2:¬gu listed i:=λh=>hn ((IB (by omega) i).2 (.inl h));have b3:=H.off T r K (by omega) (by omega) (ch i r b2);have Y:(sg i).length<(sg j).length:=by
      have h1:(sg (i+1)).length=(sg i).length+1:=by rw[(H.blk T r K).2.2];simp
      have:=T.cG O (m:=i+1) (m':=j) (by omega) (by omega);omega
     have b4:(sg j)[(sg i).length]? = some (sg j)[(sg i).length]:=eI Y;obtain ⟨cp,k1,_,k3⟩:=EV.keep _ _ b4;rw[(T.frame O (i:=j) (by omega)).2 _ Y b3,b4] at k1;simp only[au] at k1;rw[k3 (by simp_all)];exact L.non i c2 z' r K b2
    ·exact L.evo.trans EV (T.cG O (by omega) (by omega))
   simp_all
theorem TZ{M:Nat->Option Nat}{Fz:Nat->Prop}{w:World}{a:Act}(O:nW P orc)(T:Tr P orc ops os 0 n0 env sg wrs)(H:oU os q)(hq:q<=n0)(K:∀i j,q<=i->i<j->n0<=j->j<os.length->CB ops i j)
  (hg:∀(i:Nat) x,os[i]? = some x->x.g=none) (v:∀(i j:Nat) x y t,i<q->i<j->os[i]? = some x->os[j]? = some y->x.dst=some t->y.dst≠some t) (z:∀(i j:Nat) x y t,i<q->i<=j->os[i]? = some x->os[j]? = some y->y.dst=some t->t∉yU x)
  (W:∀listed:Array Bool,listed.size=ops.size->Region.ready .any ops listed=[]->∀i,i<ops.size->gu listed i) (R:Rel (sg 0) M Fz w) (E:dx (sg 0) M Fz w (env 0) a.tmps) {Q:Exit->Act->World->Prop}
  (hQ:∀u w' M' Fz',u.defers=a.defers->Rel (sg os.length) M' Fz' w'->dx (sg os.length) M' Fz' w' (env os.length) u.tmps->bD (sg 0) M Fz w (sg os.length) M' Fz' w'->Q .normal u w') :
  wpAny P .any ops Q ops.size (Array.replicate ops.size false) a w:=by
 have an:=T.len;have X:=T.le;have A:∀b,M b≠none->b<(sg 0).length:=λb h=>by
  cases hM:M b with
  |none=>simp_all
  |some c=>exact (R.lt hM).1
 have Y:∀(l:Nat)(listed:Array Bool)(M':Nat->Option Nat)(Fz':Nat->Prop)(w':World)(u:Act),listed.size=ops.size->Vd ops.size listed<=l->fM ops (gu listed)->(∀i,gu listed i->i<n0) ->
   Inv os n0 env sg wrs M Fz w a.defers (gu listed) M' Fz' w' u->wpAny P .any ops Q l listed u w':=by
  intro l;induction l with
  |zero=>intro listed M' Fz' w' u L hu U S I;have F:=uk (N:=ops.size) (listed:=listed) (by omega);exact Sc O T H hq K hg v z W hQ 0 listed n0 M' Fz' w' u L (cU _) X (λi _ r=>⟨λh=>S i h,λ_=>F i r⟩) U (by omega) (I.late T O H (λi _ h=>F i (by omega)) hq A)
  |succ l ih=>
   intro listed M' Fz' w' u L hu U S I;by_cases m:∀i,q<=i->i<n0->gu listed i
   ·exact Sc O T H hq K hg v z W hQ (l+1) listed n0 M' Fz' w' u L (cU _) X (λi r _=>⟨λh=>S i h,λh=>m i r h⟩) U hu (I.late T O H m hq A)
   ·refine ⟨λhr=>?_,λj hj=>?_⟩
    ·grind
    ·rw[mem_ready] at hj;obtain ⟨h1,o,ho,aa⟩:=hj;have ab:j<ops.size:=(BI.1 ho).1;have Z:¬gu listed j:=by
      grind [gu]
     have G:∀o' e,ops[j]? = some o'->e∈o'.after->Region.binds .any e=true->gu listed e.on:=λo' e s he ad=>by rw[ho] at s;simp only[au] at s;subst s;exact aa e he ad
     have af:j<n0:=by
      rcases rZ j n0 with h | h
      ·exact h
      ·exact absurd (λi r av=>(K i j r (by omega) h (by omega)).ready U G) m
     refine I.step (S':=gu (listed.setIfInBounds j true)) T O U af Z G (λi=>IB (by omega) i) _ λa1 w1 M1 ak I1=>?_;refine ih (listed.setIfInBounds j true) M1 ak w1 a1 (by grind) ?_ ?_ ?_ I1
     ·have:=Dk (N:=ops.size) (listed:=listed) (k:=j) (by omega) ab Z;omega
     ·intro i o' e r s he hb;rw[IB (by omega)] at r ⊢;rcases r with r | rfl
      ·exact .inl (U i o' e r s he hb)
      simp_all
     grind [IB]
 have p:∀i,¬gu (Array.replicate ops.size false) i:=λi h=>by grind [gu,iS]
 refine Y ops.size _ M Fz w a (by simp) ?_ (λj o e hj=>absurd hj (p j)) (λi r=>absurd r (p i)) (Inv.start R rfl E (λi _=>⟨λh=>absurd h (p i),λh=>by omega⟩) T O)
 grind [Vd]
def wg(g:Nat->Nat)(o:Oper):Oper:={ o with after:=o.after.map λe=>{ e with on:=g e.on } }
structure Perm (ops ops2:Array Oper) (f g:Nat->Nat):Prop where
 size:ops2.size=ops.size
 get:∀i,i<ops.size->ops2[i]? = (ops[f i]?).map (wg g)
 Tb:∀i,i<ops.size->f i<ops.size
 Kh:∀i,i<ops.size->g i<ops.size
 fg:∀i,i<ops.size->f (g i)=i
 gf:∀i,i<ops.size->g (f i)=i
 guard:∀(i:Nat) o,ops[i]? = some o->o.guard=none
 on:∀(i:Nat) o e,ops[i]? = some o->e∈o.after->Region.binds .any e=true->e.on<ops.size
theorem reOn_wp{g:Nat->Nat}{o:Oper}{a:Act}{w:World}{K:Act->World->Prop}{Q:Exit->Act->World->Prop}(h:(wg g o).wp P a w K Q∨((wg g o).asks P a w/\LetsOut Q)):o.wp P a w K Q∨(o.asks P a w/\LetsOut Q):=h
theorem zK(l:Array Bool)(i:Nat)(b a:Bool)(h:i<l.size):l.getD i b=l.getD i a:=by simp_all
theorem Fu{ops b:Array Oper}{f g:Nat->Nat}(X:Perm ops b f g):∀(listed a:Array Bool),listed.size=ops.size->a.size=ops.size->(∀i,i<ops.size->a.getD i true=listed.getD (f i) true)->∀j,j∈Region.ready .any ops listed->g j∈Region.ready .any b a:=by intro listed a hs p s j h;rw[mem_ready] at h ⊢;obtain ⟨y,o,r,z⟩:=h;have h:j<ops.size:=(BI.1 r).1;refine ⟨by rw[s _ (X.Kh j h),X.fg j h];exact y,wg g o,by rw[X.get _ (X.Kh j h),X.fg j h,r];rfl,λe u v=>?_⟩;simp only[wg,Array.mem_map] at u;obtain ⟨x,m,rfl⟩:=u;have l:=X.on j o x r m v;rw[zK _ _ false true (by rw[p];exact X.Kh _ l),s _ (X.Kh _ l),X.fg _ l,zK _ _ true false (by omega)];exact z x m v
theorem perm_wp{ops m:Array Oper}{f g:Nat->Nat}(X:Perm ops m f g){Q:Exit->Act->World->Prop}:∀(p:Nat)(listed b:Array Bool)(a:Act)(w:World),listed.size=ops.size->b.size=ops.size->(∀i,i<ops.size->b.getD i true=listed.getD (f i) true) ->
  wpAny P .any m Q p b a w->wpAny P .any ops Q p listed a w:=by
 have x:∀(listed b:Array Bool),listed.size=ops.size->b.size=ops.size->(∀i,i<ops.size->b.getD i true=listed.getD (f i) true)->Region.ready .any ops listed=[]->Region.ready .any m b=[]:=by
  intro listed b hs r u h;cases F:Region.ready .any m b with
  |nil=>rfl
  |cons i l=>
   exfalso;have R:i∈Region.ready .any m b:=by simp_all
   rw[mem_ready] at R;obtain ⟨y,o,s,G⟩:=R;have E:i<ops.size:=by grind
   rw[X.get i E] at s;simp only[cz] at s;obtain ⟨S,z,rfl⟩:=s;have:f i∈Region.ready .any ops listed:=by rw[mem_ready];refine ⟨by simp_all,S,z,λe U T=>?_⟩;have A:=X.on _ S e z U T;have:=G { e with on:=g e.on } (by simp only[wg,Array.mem_map];grind) T;simp only at this;rw[zK _ _ false true (by grind),u _ (X.Kh _ A),X.fg _ A,zK _ _ true false (by omega)] at this;omega
   simp_all
 intro p;induction p with
 |zero=>
  intro listed b a w hs r u h;refine ⟨?_,h.2⟩;cases F:Region.ready .any ops listed with
  |nil=>rfl
  |cons j l=>
   have:=Fu X listed b hs r u j (by simp_all);rw[h.1] at this
   simp_all
 |succ p ih=>
  intro listed b a w hs r u h;refine ⟨λF=>h.1 (x listed b hs r u F),λj L=>?_⟩;have N:=Fu X listed b hs r u j L;have:=h.2 (g j) N;rw[mem_ready] at L;obtain ⟨_,o,s,_⟩:=L;have v:j<ops.size:=(BI.1 s).1;have O:m[g j]? = some (wg g o):=by rw[X.get _ (X.Kh j v),X.fg j v,s];rfl
  have W:o.guard=none:=X.guard j o s;refine wpOp_mono (K:=wpAny P .any m Q p (b.setIfInBounds (g j) true)) (λa w Y=>ih _ _ a w (by simp[hs]) (by grind) (λi E=>?_) Y) ?_
  ·have Z:(b.setIfInBounds (g j) true).getD i true=if g j=i then true else b.getD i true:=by
    simp only[yAT,yAP]
    grind
   have e2:(listed.setIfInBounds j true).getD (f i) true=if j=f i then true else listed.getD (f i) true:=by
    simp only[yAT,yAP]
    grind
   rw[Z,e2,u i E];by_cases y:g j=i
   ·rw[if_pos y,if_pos (by rw[<-y,X.fg j v])]
   ·rw[if_neg y,if_neg (λh2=>y (by rw[h2,X.gf i E]))]
  ·unfold wpOp at this ⊢;rw[O] at this;rw[s];have w1:Region.wanted (wg g o) (yielded m a.tmps)=true:=by grind [Go.Region.wanted,wg]
   have w2:Region.wanted o (yielded ops a.tmps)=true:=by grind [Go.Region.wanted]
   simp only[w1,if_true] at this;simp only[w2,if_true]
   grind [reOn_wp]
theorem No{ops a:Array Oper}{f g:Nat->Nat}(X:Perm ops a f g){i j:Nat}(h:CB ops i j):CB a (g i) (g j):=by
 have l:∀{j o},ops[j]? = some o->a[g j]? = some (wg g o):=λ{j o} b=>by have r:=(BI.1 b).1;rw[X.get _ (X.Kh j r),X.fg j r,b];rfl
 induction h with
 |one b m p s=>exact .one (l b) (by simp only[wg,Array.mem_map];exact ⟨_,m,rfl⟩) (e:={ on:=g _,ground:=_ }) p (by simp_all)
 |more b m p hk _ ih=>exact .more (l b) (by simp only[wg,Array.mem_map];exact ⟨_,m,rfl⟩) (e:={ on:=g _,ground:=_ }) p (by simp_all) ih
def isLt(o:aG):Bool:=match o with
 | ⟨some _,.alloc z,none⟩=>z.all isC
 | ⟨some _,.AB _,none⟩=>true
 | ⟨some _,.load _ _,none⟩=>true
 |_=>false
def isCl(o:aG):Bool:=match o.op with | .call ..=>true | _=>false
def OP:Nat->Nat->List aG->List Nat->List Nat
 |i, m, o :: os, b :: bs => match isLt o && Nat.beq (Nat.lor b m) m with
  |true=>i::OP (i+1) (Nat.lor m (2 ^ i)) os bs
  |false=>OP (i+1) m os bs
 |_,_,_,_=>[]
def permP(hs:List Nat)(n:Nat):List Nat:=hs++(List.range n).filter λi=>hs.all λj=>!Nat.beq j i
def oF(a:List Nat)(os:List aG):List aG:=a.map λi=>os.getD i default
def KX(a:List Nat)(i:Nat):Nat:=a.getD i 0
def RA(a:List Nat)(i:Nat):Nat:=a.findIdx λj=>Nat.beq j i
def Zb(a:List Nat)(n:Nat):Bool:=Nat.beq a.length n&&(List.range n).all λi=>(Nat.blt (KX a i) n&&Nat.beq (RA a (KX a i)) i)&&(Nat.blt (RA a i) n&&Nat.beq (KX a (RA a i)) i)
def JS(a b:List Nat)(q n0:Nat)(os:List aG):Bool:=
 ((List.range os.length).all λj=>Nat.blt j n0 || (List.range j).all λi=>Nat.blt i q || (a.getD (KX b j) 0).testBit (KX b i)) &&
 (((os.take q).all isLt&&os.all (λo=>o.g.isNone)) &&
 (((List.range os.length).all λj=>(List.range j).all λi=>!Nat.blt i q || (match (os.getD i default).dst,(os.getD j default).dst with | some s,some t=>!Nat.beq s t | _,_=>true)) &&
 (((List.range os.length).all λj=>(List.range (j+1)).all λi=>!Nat.blt i q || (match (os.getD j default).dst with | some t=>!(yU (os.getD i default)).contains t | _=>true)) &&
 (Zb b os.length&&(Nat.ble q n0&&Nat.ble n0 os.length)))))
def PF(a b:List Nat)(is:List dV):Bool:=
 (List.range is.length).all λj=>(List.range j).all λi=>(a.getD (KX b j) 0).testBit (KX b i) || apart (is.getD i default) (is.getD j default)
def SE(os:List aG)(a:List Nat):Option (List Nat×Nat×Nat):=
 let hs:=OP 0 0 os a
 let i:=(os.takeWhile λo=>!isCl o).length
 match hs.any λh=>Nat.blt i h with
 |false=>none
 |true=>
  let b:=permP hs os.length
  let n0:=hs.length+(((oF b os).drop hs.length).takeWhile λo=>!isCl o).length
  match Nat.beq b.length os.length&&JS a b hs.length n0 (oF b os) with
  |true=>some (b,hs.length,n0)
  |false=>none
theorem VX{os:List aG}{a b:List Nat}{q n0:Nat}(h:SE os a=some (b,q,n0)):b.length=os.length/\JS a b q n0 (oF b os)=true:=by
 unfold SE at h;dsimp only at h;split at h
 ·simp at h
 ·split at h
  ·simp only[au,aT] at h;obtain ⟨rfl,rfl,rfl⟩:=h
   simp_all
  simp_all
theorem WQ (ab:P.follows .mixedOrders=true) (O:nW P orc) {id q n0:Nat} {r:List Nat} {ops:Array Oper} {os:List aG} {σ σ':ar} {M:Nat→Option Nat} {Fz:Nat→Prop} {w:World} {e e':List D} {a:Act} {is:List dV} {Q:Exit→Act→World→Prop}
  (hc:ops.toList.mapM (bq P ops)=some os) (G:zp ops.toList=true) (R:Rel σ M Fz w) (E:dx σ M Fz w e a.tmps) (h:lJ P orc n0 (oF r os) e σ=some (e',σ',is)) (be:r.length=os.length)
  (ad:JS (PV ops.toList) r q n0 (oF r os)=true) (a5:PF (PV ops.toList) r is=true)
  (hQ:∀K w' M' Fz',K.defers=a.defers→Rel σ' M' Fz' w'→dx σ' M' Fz' w' e' K.tmps→bD σ M Fz w σ' M' Fz' w'→Q .normal K w'):(Code.region id ops true).wq P Q a w:=by
 obtain ⟨h1,h2⟩:=Ns hc
 have af:os.length=ops.size:=by omega
 have ak:(oF r os).length=os.length:=by grind [oF]
 simp only [JS,bH] at ad
 obtain ⟨c2,⟨c3,c4⟩,c5,c6,c7,c8,c9⟩:=ad
 have c8:=CE c8
 have c9:=CE c9
 simp only [Zb,bH,iE,yBM] at c7
 have pm:=c7.2
 rw [ak,af] at pm
 have Tb:∀i,i<ops.size→KX r i<ops.size:=fun i u=>tL.mp (pm i u).1.1
 have Kh:∀i,i<ops.size→RA r i<ops.size:=fun i u=>tL.mp (pm i u).2.1
 have fg:∀i,i<ops.size→KX r (RA r i)=i:=fun i u=>cS (pm i u).2.2
 have gf:∀i,i<ops.size→RA r (KX r i)=i:=fun i u=>cS (pm i u).1.2
 have L:∀i,i<ops.size→(oF r os)[i]? = os[KX r i]?:=fun i u=>by
  grind [KX,oF]
 generalize bb:oF r os=v at h ak L c2 c3 c4 c5 c6 c9
 obtain ⟨env,sg,wrs,k1,k2,k3,k4,k5,k6,k7⟩:=QY (n:=n0) v n0 e e' σ σ' is h
 subst k1 k2 k3 k4
 have c1:=a5
 unfold PF at c1
 have an:∀(i:Nat) x,v[i]? = some x→x.g=none:=fun i x N=>by
  have:=iE.1 c4 x (Ay N)
  simpa using this
 have U:∀(i:Nat) o,ops[i]? = some o→o.guard=none:=fun i o S=>by
  have av:=(BI.1 S).1
  have N:v[RA r i]? = some os[i]:=by grind
  obtain ⟨o',W,z⟩:=h2 i _ (eI (by omega))
  rw [On,S] at W
  simp only [au] at W
  subst W
  have Y:=an _ _ N
  unfold bq at z
  split at z
  ·rename_i g ao hg _
   simp only [au] at z
   rw [←z] at Y
   simp only at Y
   subst Y
   cases hq:o.guard with
   | none=>rfl
   | some p =>
    obtain ⟨j,bc⟩:=p
    rw [hq] at hg
    simp only [An] at hg
    split at hg <;> simp at hg
  grind
 let s:Array Oper:=Array.ofFn fun i:Fin ops.size=>wg (RA r) (ops[KX r i]'(Tb i i.isLt))
 have a6:s.size=ops.size:=by simp [s]
 have ax:∀i,i<ops.size→s[i]? = (ops[KX r i]?).map (wg (RA r)):=fun i u=>by
  rw [rk (by omega),rk (Tb i u)]
  simp [s]
 have X:Perm ops s (KX r) (RA r):=⟨a6,ax,Tb,Kh,fg,gf,U,fun i o e S he hb=>by
  have:=uH G i o e S he hb
  grind⟩
 have T:Tr P orc s v 0 n0 env sg wrs:={
  len:=by omega
  comp:=fun j ao Z=>by
   have bh:=(gh.1 Z).1
   rw [L j (by omega)] at Z
   obtain ⟨o,S,z⟩:=h2 _ ao Z
   rw [On] at S
   refine ⟨wg (RA r) o,by grind,?_⟩
   unfold bq at z ⊢
   have e1:An ops o.guard=some none:=by rw [U _ o S]; rfl
   have e2:An s (wg (RA r) o).guard=some none:=by
    show An s o.guard=some none
    rw [U _ o S]; rfl
   rw [e1] at z
   rw [e2]
   exact z
  step:=fun i ao u=>(k6 i ao u).1
  wrk:=fun i u=>k7 i (by omega) u
  le:=by omega
  pair:=fun i j x y aa N hy=>by
   have Z:=(gh.1 hy).1
   have F:=iE.1 c1 j (by grind)
   have A:=iE.1 F i (by grind)
   simp only [gq] at A
   rcases A with A | A
   ·left
    have:=No X (Dh A)
    grind
   grind
  lead:=fun i u=>by omega
  ple:=by omega }
 have H:oU v q:=fun i u=>by
  have av:i<v.length:=by omega
  have:=iE.1 c3 (v[i]) (by
   rw [yBC]
   exact ⟨i,by grind⟩)
  rw [eI av]
  generalize v[i]=x at this
  unfold isLt at this
  split at this
  ·grind
  ·grind
  ·grind
  grind
 refine xy ab (us hc) ?_
 replace hQ:=fun K w' M' Fz' h1 h2 F A=>(⟨hQ K w' M' Fz' h1 h2 F A,by simp⟩:me Q .normal K w')
 have R1:Rel (sg 0) M Fz { w with drawn:=w.drawn+1 }:=R.heap rfl ⟨rfl,rfl,rfl⟩
 have EH:bD (sg 0) M Fz w (sg 0) M Fz { w with drawn:=w.drawn+1 }:=bD.heap R rfl ⟨rfl,rfl,rfl⟩
 have bd:=TZ (Q:=me Q) O T H (by omega) (fun i j bi aa bk Z=>by
   have F:=iE.1 c2 j (by grind)
   simp only [gq] at F
   rcases F with F | F
   ·grind [Nat.blt_eq]
   ·have A:=iE.1 F i (by grind)
    simp only [gq] at A
    rcases A with A | A
    ·grind [Nat.blt_eq]
    ·have:=No X (Dh A)
     grind) an
  (fun i j x y t u aa N hy hd a7=>by
   have Z:=(gh.1 hy).1
   have F:=iE.1 c5 j (by grind)
   have A:=iE.1 F i (by grind)
   simp only [yAR,N,hy,Option.getD_some,hd,a7,tL.mpr u,yCm] at A
   grind)
  (fun i j x y t u aa N hy hd hm=>by
   have Z:=(gh.1 hy).1
   have F:=iE.1 c6 j (by grind)
   have A:=iE.1 F i (by grind)
   have a8:(yU x).contains t=true:=by grind
   simp only [yAR,N,hy,Option.getD_some,hd,tL.mpr u,a8] at A
   grind)
  (fun m bl hr i u=>by
   let b:Array Bool:=Array.ofFn fun i:Fin ops.size=>m.getD (RA r i) true
   have a0:b.size=ops.size:=by simp [b]
   have bt:∀i,i<ops.size→b.getD i true=m.getD (RA r i) true:=fun i u=>by
    rw [yAT,rk (by omega)]
    simp [b]
   have a1:∀i,i<ops.size→m.getD i true=b.getD (KX r i) true:=fun i u=>by grind
   have a9:Region.ready .any ops b=[]:=by
    cases hq:Region.ready .any ops b with
    | nil=>rfl
    | cons j l =>
     have:=Fu X b m a0 (by omega) a1 j (by grind)
     grind
   have a2:=yP a0 (uH G) a9
   have:=a2 (KX r i) (Tb i (by omega))
   unfold gu at this ⊢
   grind)
  R1 (E.mono EH) (fun K w' M' Fz' hd R' E' EV=>hQ K w' M' Fz' hd R' E' (EH.trans EV (cU _)))
 exact perm_wp X ops.size (Array.replicate ops.size false) (Array.replicate ops.size false) a _ (by simp) (by simp) (fun i u=>by
  rw [yAT,yAT,yCa,yCa,if_pos (by omega),if_pos (Tb i u)]) (by grind)
theorem Sem.drwG{nn q n0:Nat}{z:List Nat}{al:AL}{σ:ar}{Q:nG->AL->ar->Prop}{os:List aG}{k:Nat}{s:List Nat}{p:Nat}(u:P.follows .mixedOrders=true)(O:nW P orc)(X:SE os s=some (z,q,n0))
  (h:cj P orc n0 (oF z os) nn al σ λal' σ' is=>PF s z is=true/\Q .normal al' σ'):Sem P (.HA os s k p) nn al σ Q:=by
 obtain ⟨al1,σ1,is,h,Y,Z⟩:=h;obtain ⟨E,F⟩:=VX X;intro c j M Fz w a K R A hK;obtain ⟨e',U,h2⟩:=h _ A.de.2;cases c with
 |region id ops W=>
  simp only[bG] at j;split at j
  ·rename_i aa G;split at j
   ·rename_i hd;subst hd;split at j
    ·rename_i hb;simp only[au,aP.HA.injEq] at j;obtain ⟨rfl,rfl,_,_⟩:=j;refine WQ u O G hb R A.de.1 U E F Y λa' w' M' Fz' hd R' E' EV=>?_;exact hK .normal al1 σ1 a' w' M' Fz' Z (Mk.of_eq hd) R' (eT.Zz E' h2) EV (EQ O _ _ _ _ _ _ _ U).1
    simp_all
   simp_all
  simp_all
 |seq a b=>grind [bG]
 |cond o a b=>grind [bG]
 |block i b=>simp[bG] at j
 |loop b=>simp[bG] at j
 |scope b=>grind [bG,Option.map_eq_some_iff,Kz]
 |rangeFunc g ps x y=>rcases ed j with ⟨_,_,_,_,_,_,_,e⟩ | e <;> cases e
 |_=>grind [bG]
end
end Go.Abs
end
