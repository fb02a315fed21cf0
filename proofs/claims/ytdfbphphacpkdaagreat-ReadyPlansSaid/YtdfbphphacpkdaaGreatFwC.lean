/- DfwV, DfwW, DfwX, DfwY, DfwZ, DfwOp, DfwEnc, DfwEq, DfwOwn, DfwTq, DfwMp, DfwFl, DfwGh -/
import Derived.Test.YtdfbphphacpkdaaGreatFwB
import GoSem.ClaimChange
import Derived.DataReads
import Derived.Below
import Derived.Laws.StructEq
import GoSem.Core.Float
import GoSem.Op.Complex
import GoSem.Conv.FloatToInt
set_option linter.all false
section
namespace Go.Abs
variable[Gl]
inductive Sh where
 |int (k:IntKind)
 |bool
 |str
 |sl (e:List Sh)
 |no
 deriving Inhabited
inductive Shaped:Sh->C->Prop where
 |int {k:IntKind} {n:Int} (h:(Lit.int k n).wf=true):Shaped (.int k) (.lit (.int k n))
 |bool (b:Bool):Shaped .bool (.lit (.bool b))
 |str {s:ByteArray} (h:s.size<=maxLen):Shaped .str (.lit (.string s))
 |sl {e:List Sh} {es:List (List C)} (hl:es.length<=maxLen) (hn:∀x∈es,x.length=e.length) (h:∀(x:List C),x∈es->∀(j:Nat) s c,e[j]? = some s->x[j]? = some c->Shaped s c):Shaped (.sl e) (.ca false es)
def dF(P:Program):Nat->TypeId->Option (List Sh)
 |0,_=>none
 |f + 1, t=>
  match P.underlying t with
  |some .bool=>some [.bool]
  |some (.int k)=>some [.int k]
  |some .string=>some [.str]
  |some (.slice e)=>
   match dF P f e with
   |some s=>if s.length=P.cellsOf e/\s≠[] then some [.sl s] else none
   |none=>none
  |some (.struct h)=>
   match h.toList.foldl (λa b=>match a,dF P f b.type with
    |some l,some s=>if b.offset=l.length/\s.length=P.cellsOf b.type then some (l++s) else none
    |_,_=>none) (some []) with
   |some l=>if l.length=P.cellsOf t then some l else none
   |none=>none
  |some (.array n e)=>
   match dF P f e with
   |some s=>if s.length=P.cellsOf e/\n * s.length=P.cellsOf t then some (List.replicate n s).flatten else none
   |none=>none
  |_=>none
def zX(w:World)(a:List Sh)(xs:List C)(cs:List Value):Prop:=
 xs.length=a.length/\cs.length=a.length/\(∀(i:Nat) s x,a[i]? = some s->xs[i]? = some x->Shaped s x) /\
  ∀(i:Nat) x v,xs[i]? = some x->cs[i]? = some v->VC (λc=>c<w.heap.size) w x v/\v.oneCell'=true
theorem zX.append{w:World}{s1 s2:List Sh}{j o:List C}{c1 u:List Value}(z:zX w s1 j c1)(A:zX w s2 o u):zX w (s1++s2) (j++o) (c1++u):=by
 obtain ⟨F,G,K,O⟩:=z;obtain ⟨R,U,W,X⟩:=A;refine ⟨by simp_all,by simp_all,λi s x hs E=>?_,λi x v E Y=>?_⟩
 ·grind
 grind
theorem zX.nil{w:World}:zX w [] [] []:=⟨rfl,rfl,λi s x h=>by simp at h,λi x v h=>by simp at h⟩
theorem zX.one{w:World}{s:Sh}{x:C}{v:Value}(u:Shaped s x)(z:VC (λc=>c<w.heap.size) w x v)(A:v.oneCell'=true):zX w [s] [x] [v]:=by
 refine ⟨rfl,rfl,λi E j hs o=>?_,λi j F o G=>?_⟩
 ·grind
 grind
theorem Em{w:World}{b:Nat}{a:Addr}{n:Nat}{cs:List Value}(h:w.cells? b a n=some cs):cs.length=n/\∀(j:Nat) v,cs[j]? = some v->w.cell? (a.add j)=some v:=by
 unfold World.cells? at h;split at h
 ·obtain ⟨i,l⟩:=Jf h
  grind
 simp_all
theorem QX{α:Type}{n:Nat}{p:Nat->α->Prop}(h:∀i,i<n->∃a,p i a):∃l:List α,l.length=n/\∀(i:Nat) a,l[i]? = some a->p i a:=by
 induction n with
 |zero=>simp_all
 |succ n ih=>
  obtain ⟨l,j,m⟩:=ih (λi o=>h i (by omega));obtain ⟨a,r⟩:=h n (by omega);refine ⟨l++[a],by simp[j],λi b s=>?_⟩
  grind
theorem Bc{H:Type}{enc:TypeId×Value->H}{P:Program}{w:World}{b:Nat->Bool}{j:Bool}{f:Nat}{t e:TypeId}{cs:List Value}{d:DataW H}{ps:List MemPlace}
  (v:P.underlying t=some (.slice e)) (h:DataW.trod enc P w 0 b j (f+1) t cs=some (d,ps)) :
  cs=[.slice none 0 0]∨∃a len cap,cs=[.slice (some a) len cap]/\len<=cap/\cap<=maxLen/\∀i,i<len->∃ci o p,w.cells? 0 (a.add (i * P.cellsOf e)) (P.cellsOf e)=some ci/\DataW.trod enc P w 0 b j f e ci=some (o,p):=by
 unfold DataW.trod at h;rw[v] at h;split at h <;> rename_i l <;> first
  |(simp only[aj,reduceCtorEq] at l;done)
  |skip
 ·exact .inl rfl
 ·rename_i A a len cap;simp only[aj,TypeDesc.slice.injEq] at l;subst l;simp only at h;split at h
  ·rename_i u;simp only[b_] at h;obtain ⟨r,s,_⟩:=h;refine .inr ⟨a,len,cap,rfl,u.2.1,u.2.2,λi x=>?_⟩;obtain ⟨⟨o,p⟩,_,m⟩:=yl s i i (List.getElem?_range x);simp only[b_] at m;obtain ⟨ci,y,z⟩:=m;exact ⟨ci,o,p,y,z⟩
  ·simp at h
 ·simp at h
theorem zh{H:Type}{enc:TypeId×Value->H}{P:Program}{w:World}{a:Nat->Bool}{b:Bool}{f:Nat}{t:TypeId}{o:Array Field}{cs:List Value}{d:DataW H}{ps:List MemPlace}
  (v:P.underlying t=some (.struct o)) (h:DataW.trod enc P w 0 a b (f+1) t cs=some (d,ps)) :
  cs.length=P.cellsOf t/\∀l∈o.toList,∃p r,DataW.trod enc P w 0 a b f l.type ((cs.drop l.offset).take (P.cellsOf l.type))=some (p,r):=by
 unfold DataW.trod at h;rw[v] at h;split at h <;> rename_i j <;> first
  |(simp only[aj,reduceCtorEq] at j;done)
  |skip
 ·simp only[aj,TypeDesc.struct.injEq] at j;subst j;split at h
  ·rename_i x;simp only[bU] at h;obtain ⟨A,s,_⟩:=h;refine ⟨x,λl u=>?_⟩;obtain ⟨i,y⟩:=yBD.1 u;obtain ⟨⟨p,r⟩,_,z⟩:=yl s i l y;exact ⟨p,r,z⟩
  ·simp at h
 ·exact absurd rfl (‹∀(m:Array Field),some (TypeDesc.struct o)=some (TypeDesc.struct m)->False› o)
theorem Bn{H:Type}{enc:TypeId×Value->H}{P:Program}{w:World}{a:Nat->Bool}{b:Bool}{f n:Nat}{t e:TypeId}{cs:List Value}{d:DataW H}{ps:List MemPlace}
  (s:P.underlying t=some (.array n e)) (h:DataW.trod enc P w 0 a b (f+1) t cs=some (d,ps)) :
  cs.length=P.cellsOf t/\∀i,i<n->∃l m,DataW.trod enc P w 0 a b f e ((cs.drop (i * P.cellsOf e)).take (P.cellsOf e))=some (l,m):=by
 unfold DataW.trod at h;rw[s] at h;split at h <;> rename_i j <;> first
  |(simp only[aj,reduceCtorEq] at j;done)
  |skip
 ·simp only[aj,TypeDesc.array.injEq] at j;obtain ⟨rfl,rfl⟩:=j;split at h
  ·rename_i u;simp only[bU] at h;obtain ⟨y,o,_⟩:=h;refine ⟨u,λi v=>?_⟩;obtain ⟨⟨l,m⟩,_,x⟩:=yl o i i (List.getElem?_range v);exact ⟨l,m,x⟩
  ·simp at h
 ·exact absurd rfl (‹∀(p:Nat)(r:TypeId),some (TypeDesc.array n e)=some (TypeDesc.array p r)->False› n e)
theorem Bu{H:Type}{enc:TypeId×Value->H}{P:Program}{w:World}{N:Nat->Bool}{aa:Bool}:∀(f:Nat)(O:Nat)(t:TypeId)(cs:List Value)(d:DataW H)(ps:List MemPlace)(R:List Sh),
  DataW.trod enc P w 0 N aa O t cs=some (d,ps)->dF P f t=some R->∃xs,zX w R xs cs:=by
 intro f;induction f with
 |zero=>grind [dF]
 |succ f ih=>
  intro O t cs d ps R v hs;cases O with
  |zero=>simp[DataW.trod] at v
  |succ O=>
   simp only[dF] at hs;split at hs
   ·
    rename_i A;simp only[aj] at hs;subst hs;unfold DataW.trod at v;rw[A] at v;split at v <;> simp_all
    subst_vars
    exact ⟨_,zX.one (.bool _) (.lit _) rfl⟩
   ·
    rename_i k A;simp only[aj] at hs;subst hs;unfold DataW.trod at v;rw[A] at v;split at v <;> simp_all
    obtain ⟨⟨rfl,ak⟩,_⟩:=v;exact ⟨_,zX.one (.int ak) (.lit _) rfl⟩
   ·
    rename_i A;simp only[aj] at hs;subst hs;unfold DataW.trod at v;rw[A] at v;split at v <;> simp_all
    exact ⟨_,zX.one (.str v.1) (.lit _) rfl⟩
   ·
    rename_i e A;split at hs
    ·rename_i s S;split at hs
     ·rename_i b;obtain ⟨b,ab⟩:=b;simp only[aj] at hs;subst hs;have a9:0<s.length:=List.length_pos_iff.2 ab;rcases Bc A v with rfl | ⟨r,len,cap,rfl,be,bh,T⟩
      ·refine ⟨[.ca false []],zX.one (.sl (by simp) (λx h=>by simp at h) (λx h=>by simp at h)) ?_ rfl⟩;exact .ca 0 none 0 (by simp) (λ_=>rfl) (λ_ _=>undef) (λe h=>by simp at h) (by simp) (λi j e d h=>by simp at h) (λi j e d h=>by simp at h)
      ·rw[<-b] at T;have an:∀i,i<len->∃(p:List C×List Value),w.cells? 0 (r.add (i * s.length)) s.length=some p.2/\zX w s p.1 p.2:=by
        intro i K;obtain ⟨ci,Z,pi,E,z⟩:=T i K;obtain ⟨xs,o⟩:=ih O e ci Z pi s z S;exact ⟨(xs,ci),E,o⟩
       obtain ⟨l,bi,G⟩:=QX an;have U:0<len->r.spot=none/\r.block<w.heap.size:=by
        intro h0;obtain ⟨ci,Z,pi,E,_⟩:=T 0 h0;obtain ⟨h3,h4⟩:=Em E;have hc:=h4 0 _ (cT (by omega));have e0:(r.add (0 * s.length)).add 0=r:=by simp[Addr.add]
        rw[e0] at hc;exact ⟨World.cell?_spot hc,block_lt_of_cell hc⟩
       let g:Nat->Nat->Value:=λi j=>(((l[i]?).map (·.2)).bind (·[j]?)).getD undef
       have F:∀(i j:Nat)(x:List C)(c:C),(l.map (·.1))[i]? = some x->x[j]? = some c->r=⟨r.block,r.off,none⟩/\r.block<w.heap.size/\w.cell? ⟨r.block,r.off+i * s.length+j,none⟩=some (g i j) /\
         VC (λc=>c<w.heap.size) w c (g i j)/\(g i j).oneCell'=true:=by
        intro i j x c y hc;simp only[gP,bU] at y;obtain ⟨p,W,rfl⟩:=y;obtain ⟨E,z,h3,h4,h5⟩:=G i p W;have K:i<len:=by grind
        obtain ⟨bk,bl⟩:=U (by omega);have bt:r=⟨r.block,r.off,none⟩:=by cases r;simp_all
        grind [Em,dM]
       have bb:(l.map (·.1)).length=len:=by grind
       refine ⟨[.ca false (l.map (·.1))],zX.one (.sl (by omega) (λx y=>?_) (λx y j sj c E z=>?_)) ?_ rfl⟩
       ·simp only[dY] at y;obtain ⟨p,W,rfl⟩:=y;obtain ⟨i,K⟩:=yBD.1 W;exact (G i p K).2.1
       ·simp only[dY] at y;obtain ⟨p,W,rfl⟩:=y;obtain ⟨i,K⟩:=yBD.1 W;exact (G i p K).2.2.2.1 j sj c E z
       ·have:=VC.ca (Fz:=λc=>c<w.heap.size) (w:=w) (nn:=false) (es:=l.map (·.1)) s.length (some r) cap (by simp) (λh=>by cases h) g (λx y=>?_) (by omega) (λi j x c E z=>?_) (λi j x c E z=>(F i j x c E z).2.2.2.1)
        ·grind
        ·simp only[dY] at y;obtain ⟨p,W,rfl⟩:=y;obtain ⟨i,K⟩:=yBD.1 W;exact (G i p K).2.1
        grind
     simp_all
    simp_all
   ·
    rename_i fs A;split at hs
    ·rename_i l hl;split at hs
     ·rename_i bu;simp only[aj] at hs;subst hs;obtain ⟨E,z⟩:=zh A v;have X:∀(fl:List Field)(a:List Sh)(ax:List C),(∀u∈fl,u∈fs.toList)->a.length<=cs.length->zX w a ax (cs.take a.length) ->
        fl.foldl (λa u=>match a,dF P f u.type with
         |some l,some s=>if u.offset=l.length/\s.length=P.cellsOf u.type then some (l++s) else none
         |_,_=>none) (some a)=some l->l.length<=cs.length->∃xs,zX w l xs (cs.take l.length):=by
       intro fl;induction fl with
       |nil=>grind
       |cons u fl a0=>
        intro a ax L bc a1 he a2;simp only[List.foldl_cons] at he;have a5:∀(gl:List Field),gl.foldl (λa u=>match a,dF P f u.type with
         |some l,some s=>if u.offset=l.length/\s.length=P.cellsOf u.type then some (l++s) else none
         |_,_=>none) none=none:=by
         intro gl;induction gl with
         |nil=>rfl
         |cons _ _ ih=>simp_all
        cases af:dF P f u.type with
        |none=>simp_all
        |some s=>
         rw[af] at he;simp only at he;split at he
         ·rename_i hc;obtain ⟨bd,b⟩:=hc;obtain ⟨Z,pi,hd⟩:=z u (L u (by simp));obtain ⟨xs,o⟩:=ih O u.type _ Z pi s hd af;have a6:a.length+s.length<=cs.length:=by
           have:=o.2.1
           grind
          refine a0 (a++s) (ax++xs) (λx y=>L x (by simp[y])) (by simp_all) ?_ he a2;have Y:cs.take (a++s).length=cs.take a.length++(cs.drop u.offset).take (P.cellsOf u.type):=by grind
          rw[Y];exact a1.append o
         simp_all
      obtain ⟨xs,o⟩:=X fs.toList [] [] (λ_ h=>h) (by simp) (by grind [zX.nil]) hl (by omega)
      grind
     simp_all
    simp_all
   ·
    rename_i n e A;split at hs
    ·rename_i s S;split at hs
     ·rename_i b;obtain ⟨b,bv⟩:=b;simp only[aj] at hs;subst hs;obtain ⟨E,z⟩:=Bn A v;rw[<-b] at z;have X:∀m,m<=n->∃xs,zX w (List.replicate m s).flatten xs (cs.take (m * s.length)):=by
       intro m;induction m with
       |zero=>intro _;exact ⟨[],by grind [zX.nil]⟩
       |succ m a7=>
        intro hm;obtain ⟨xs,o⟩:=a7 (by omega);obtain ⟨Z,pi,hd⟩:=z m (by omega);obtain ⟨ys,a8⟩:=ih O e _ Z pi s hd S;refine ⟨xs++ys,?_⟩;have e1:(List.replicate (m+1) s).flatten=(List.replicate m s).flatten++s:=by grind [List.replicate_succ']
        rw[e1,Nat.succ_mul,List.take_add];exact o.append a8
      obtain ⟨xs,o⟩:=X n (cn _)
      grind
     simp_all
    simp_all
   simp_all
end Go.Abs
end
section
namespace Go.Abs
variable[Gl]
open Go.RowKit
theorem Rel.start(w:World)(i:Gl.ok (λc=>c<w.heap.size) w):Rel [] (λ_=>none) (λc=>c<w.heap.size) w:={
 blk:=λb c h=>by simp at h
 inj:=λb j c h=>by simp at h
 fz:=λc h=>h
 gl:=i }
theorem V.PZ{w:World}{j:List Sh}{xs:List C}{vs:Array Value}(h:zX w j xs vs.toList){σ:ae}{M:Nat->Option Nat}:V σ M (λc=>c<w.heap.size) w (.agg (xs.map .c)) (.agg vs):=by obtain ⟨u,z,_,o⟩:=h;refine .agg vs (by simp_all) (λi d v a b=>?_);simp only[gP,bU] at a;obtain ⟨x,s,rfl⟩:=a;exact .c (o i x v s (by simp_all)).1
theorem V.Po{w:World}{s:Sh}{xs:List C}{v:Value}(h:zX w [s] xs [v]){σ:ae}{M:Nat->Option Nat}:∃x,xs=[x]/\Shaped s x/\V σ M (λc=>c<w.heap.size) w (.c x) v:=by
 obtain ⟨o,_,i,j⟩:=h
 match xs,o,i,j with
 |[x],_,i,j=>exact ⟨x,rfl,i 0 s x rfl rfl,.c (j 0 x v rfl rfl).1⟩
theorem ba.below{σ:ae}{M:Nat->Option Nat}{Fz:Nat->Prop}{w w':World}(R:Rel σ M Fz w)(i:Below w.heap.size w w'):ba σ M Fz w σ M Fz w':={
 size:=i.size
 frame:=λc o _=>i.block c o
 ja:=λb c h=>.inl ⟨b,h⟩
 fz:=λc h=>⟨h,i.block c (R.fz c h)⟩
 lD:=λc h=>.inl h
 nF:=λc j T u h=>⟨j,by rw[i.block c (xR.1 h).1];exact h,rfl⟩
 keep:=λb s h=>⟨s,h,cn _,λ_=>rfl⟩
 out:=⟨i.os,i.tape,i.output⟩ }
theorem Rel.below{σ:ae}{M:Nat->Option Nat}{Fz:Nat->Prop}{w w':World}(R:Rel σ M Fz w)(i:Below w.heap.size w w'):Rel σ M Fz w':={
 blk:=λb c h=>by obtain ⟨j,ob,o,h2,h3,s⟩:=R.blk b c h;exact ⟨j,ob,o,h2,by rw[i.block c (R.lt h).2];exact h3,s.mono (ba.below R i)⟩
 inj:=R.inj
 fz:=λc h=>By (R.fz c h) i.size
 gl:=Gl.mono (ba.below R i).fz R.gl }
noncomputable def Oc(P:Program)(a:List Nat)(g:FuncId):Option jE:=
 match P.funcs[g]? with
 |some fn=>if aN P g then fX P fn (!a.contains g) else none
 |none=>none
theorem RX(P:Program)(a:List Nat):TblOk P (Oc P a):=by
 intro g b h
 grind [Oc]
end Go.Abs
end
section
namespace Go.Abs
variable[Gl]
abbrev AL:=List (Nat×D)
def lk(t:Nat):AL->Option D
 |[]=>none
 |(s,d)::al=>match Nat.beq s t with | true=>some d | false=>lk t al
def uA(n:Nat)(al:AL):List D:=(List.range n).map λt=>(lk t al).getD .any
def Env(n:Nat)(al:AL)(e:List D):Prop:=e.length=n/\∀t d,lk t al=some d->e[t]? = some d
def dP(n:Nat)(σ:ae)(M:Nat->Option Nat)(Fz:Nat->Prop)(w:World)(al:AL)(a:Array Value):Prop:=
 a.size=n/\∀t d,lk t al=some d->∃v,a[t]? = some v/\V σ M Fz w d v
section
variable{P:Program}{orc:ta}{σ σ' σ1 au:ae}{M M':Nat->Option Nat}{Fz Fz':Nat->Prop}{w w':World}{n:Nat}{al al1 al2:AL}
theorem dP.cK{o:Array Value}(h:dP n σ M Fz w al o):cR σ M Fz w (uA n al) o/\Env n al (uA n al):=by
 refine ⟨⟨by simp[uA,h.1],λi d v a b=>?_⟩,by simp[uA],λt d u=>?_⟩
 ·simp only[uA,gP,bU] at a;obtain ⟨j,A,rfl⟩:=a;have:j=i:=by
   grind
  subst this;cases x:lk j al with
  |none=>exact .any v
  |some d=>
   obtain ⟨E,s,F⟩:=h.2 j d x
   simp_all
 ·obtain ⟨v,s,_⟩:=h.2 t d u;have z:t<n:=by have:=(xR.1 s).1;rw[h.1] at this;omega
  grind [uA]
theorem dP.Vj{i:Array Value}{e:List D}(h:cR σ M Fz w e i)(j:Env n al e):dP n σ M Fz w al i:=by
 refine ⟨by rw[h.1,j.1],λt d s=>?_⟩;have u:=j.2 t d s;have o:t<i.size:=by rw[h.1];grind
 exact ⟨i[t],oF o,h.2 t d _ u (oF o)⟩
def Sem(P:Program)(ac:aH)(n:Nat)(al:AL)(σ:ae)(Q:kT->AL->ae->Prop):Prop:=
 ∀ (c : Code), bg P c = some ac -> ∀ (M : Nat -> Option Nat) (Fz : Nat -> Prop) (w : World) (a : Act) (K : Exit -> Act -> World -> Prop), Rel σ M Fz w -> dP n σ M Fz w al a.tmps ->
  (∀x al' σ' b w' M' Fz',Q x al' σ'->Mk w.heap.size M' Fz' w' b.defers a.defers->Rel σ' M' Fz' w'->dP n σ' M' Fz' w' al' b.tmps->ba σ M Fz w σ' M' Fz' w'->σ.length<=σ'.length->K (vD x) b w')->c.wq P K a w
def jN(P:Program)(ac:aH)(k:Nat)(n:Nat)(al:AL)(σ:ae)(Q:kT->AL->ae->Prop):Prop:=
 ∀ (c : Code), bg P c = some ac -> ∀ (M : Nat -> Option Nat) (Fz : Nat -> Prop) (w : World) (a : Act) (K : Exit -> Act -> World -> Prop), Rel σ M Fz w -> dP n σ M Fz w al a.tmps ->
  (∀x al' σ' b w' M' Fz',Q x al' σ'->Mk w.heap.size M' Fz' w' b.defers a.defers->Rel σ' M' Fz' w'->dP n σ' M' Fz' w' al' b.tmps->ba σ M Fz w σ' M' Fz' w'->σ.length<=σ'.length->K (vD x) b w')->Code.rq P c K k a w
def BC(d a:D):Prop:=∀σ M Fz w v,V σ M Fz w d v->V σ M Fz w a v
theorem BC.refl(d:D):BC d d:=λ_ _ _ _ _ h=>h
def Sub(al1:AL):AL->Prop
 |[]=>True
 |(t,d)::al2=>(∃d1,lk t al1=some d1/\BC d1 d)/\Sub al1 al2
theorem Sub.get{al1 al2:AL}(h:Sub al1 al2){t:Nat}{d:D}(i:lk t al2=some d):∃d1,lk t al1=some d1/\BC d1 d:=by
 induction al2 with
 |nil=>grind [lk]
 |cons p al2 ih=>
  obtain ⟨s,o⟩:=p;simp only[lk] at i;split at i
  ·rename_i j;have:=cr j;simp only[aj] at i;subst this i;exact h.1
  ·exact ih h.2 i
theorem Sub.one{al1 al2:AL}{t:Nat}{d d1:D}(h:lk t al1=some d1)(hd:BC d1 d)(r:Sub al1 al2):Sub al1 ((t,d)::al2):=⟨⟨d1,h,hd⟩,r⟩
theorem Sub.same{al1 al2:AL}{t:Nat}{d:D}(h:lk t al1=some d)(r:Sub al1 al2):Sub al1 ((t,d)::al2):=⟨⟨d,h,BC.refl d⟩,r⟩
theorem dP.sub {i:Array Value} (h:dP n σ M Fz w al1 i) (hs:Sub al1 al2):dP n σ M Fz w al2 i:=
 ⟨h.1,fun t d j=>by
  obtain ⟨d1,o,s⟩:=hs.get j
  obtain ⟨v,u,x⟩:=h.2 t d1 o
  exact ⟨v,u,s _ _ _ _ _ x⟩⟩
def D.low(m:Nat):D->Bool
 |.c _=>true
 |.any=>true
 |.ptr b _ _=>b<m
 |.sl b _ _ _ _=>b<m
 |.mp b=>b<m
 |.fn _ a b=>cq m a&&cq m b
 |.agg ds=>cq m ds
 |.aI ds=>cq m ds
where cq (m:Nat):List D->Bool
 |[]=>true
 |d::ds=>d.low m&&cq m ds
theorem D.aO{m:Nat}:∀{ds:List D},D.low.cq m ds=true->∀(i:Nat) d,ds[i]? = some d->d.low m=true:=by
 intro ds;induction ds with
 |nil=>simp_all
 |cons x ds ih=>
  intro h i d j;simp only[D.low.cq,bp] at h
  grind
def Ob.low(m:Nat):Ob->Bool
 |.cells i=>D.low.cq m i
 |.map j _=>j.all λe=>e.2.1.low m
 |.gone _=>true
theorem V.Aw{m:Nat}{d:D}{v:Value}(h:V σ M Fz w d v)(j:d.low m=true):V (σ.take m) (cz M m) Fz w d v:=by
 induction h with
 |c h=>exact .c h
 |any v=>exact .any v
 |ptr a u h o s=>simp only[D.low,aQ] at j;exact .ptr a u (by simp_all) o (λA=>by grind [cz])
 |sl a n cap E u h o s=>simp only[D.low,aQ] at j;exact .sl a n cap E u (by simp_all) o (λA=>by simpa[cz,j] using s A)
 |mp c u h s=>simp only[D.low,aQ] at j;exact .mp c u (by simp_all) (λA=>by grind [cz])
 |fn x K z O s R F G=>simp only[D.low,bp] at j;exact .fn x K z O (λi d v a b=>F i d v a b (D.aO j.1 i d a)) (λi d v a b=>G i d v a b (D.aO j.2 i d a))
 |agg x z s ih=>simp only[D.low] at j;exact .agg x z (λi d v a b=>ih i d v a b (D.aO j i d a))
 |aI x z s ih=>simp only[D.low] at j;exact .aI x z (λi d v a b=>ih i d v a b (D.aO j i d a))
theorem Rel.Aw{m:Nat}(R:Rel σ M Fz w)(U:(σ.take m).all (Ob.low m)=true):Rel (σ.take m) (cz M m) Fz w:=by
 refine ⟨λb c h=>?_,λb W c h F=>?_,R.fz,R.gl⟩
 ·unfold cz at h;split at h
  ·rename_i Z;obtain ⟨X,z,o,h2,Y,G⟩:=R.blk b c h;have A:(σ.take m)[b]? = some z:=by simp_all
   have j:z.low m=true:=fE.1 U z (vB A);refine ⟨X,z,o,A,Y,?_⟩;cases z with
   |cells cs=>obtain ⟨s,T,K,u,E⟩:=G;exact ⟨s,T,K,u,λi d v x y=>⟨(E i d v x y).1.Aw (D.aO j i d x),(E i d v x y).2⟩⟩
   |map es O=>obtain ⟨s,K,u,E⟩:=G;refine ⟨s,K,u,λi k d n e x y=>?_⟩;obtain ⟨p,q,r⟩:=E i k d n e x y;simp only[Ob.low,fE] at j;exact ⟨p,q,r.Aw (j (k,d,n) (vB x))⟩
   |gone n=>exact G.elim
  simp_all
 ·unfold cz at h F;split at h
  ·split at F
   ·exact R.inj b W c h F
   simp_all
  simp_all
theorem ba.Aw{m:Nat}(E:ba σ M Fz w σ1 M' Fz' w')(hm:σ.length<=m):ba σ M Fz w (σ1.take m) (cz M' m) Fz' w':=by
 refine ⟨E.size,E.frame,λb c h=>?_,E.fz,E.lD,E.nF,λb j h=>?_,E.out⟩
 ·unfold cz at h;split at h
  ·exact E.ja b c h
  simp_all
 ·obtain ⟨i,u,o,x⟩:=E.keep b j h;have s:b<m:=By (d_.1 h).1 hm;exact ⟨i,by simp_all,o,λz=>by simp only[cz,if_pos s];simp_all⟩
inductive Wk (k:Nat) (al1:AL) (σ1:ae):AL->ae->Prop where
 |refl:Wk k al1 σ1 al1 σ1
 |same {al2:AL} (h:Sub al1 al2):Wk k al1 σ1 al2 σ1
 |cut {al2:AL} (m:Nat) (hm:k<=m) (hs:m<=σ1.length) (h:Sub al1 al2) (hd:al2.all (λp=>p.2.low m)=true) (hl:(σ1.take m).all (Ob.low m)=true):Wk k al1 σ1 al2 (σ1.take m)
theorem kH{t:Nat}{d:D}:∀{al:AL},lk t al=some d->(t,d)∈al:=by
 intro al;induction al with
 |nil=>grind [lk]
 |cons p al ih=>grind [lk,Nat.eq_of_beq_eq_true]
theorem Wk.use{au:ae}(h:Wk σ.length al1 σ1 al2 au){i:Array Value}(R:Rel σ1 M' Fz' w')(A:dP n σ1 M' Fz' w' al1 i)(E:ba σ M Fz w σ1 M' Fz' w')(s:σ.length<=σ1.length) :
  ∃j,Rel au j Fz' w'/\dP n au j Fz' w' al2 i/\ba σ M Fz w au j Fz' w'/\σ.length<=au.length/\Dl M' Fz' j Fz':=by
 cases h with
 |refl=>exact ⟨M',R,A,E,s,Dl.refl⟩
 |same h=>exact ⟨M',R,A.sub h,E,s,Dl.refl⟩
 |cut m x hs h hd o=>
  refine ⟨cz M' m,R.Aw o,⟨A.1,λt d u=>?_⟩,E.Aw x,by simp_all,⟨λb c h=>⟨b,by simp only[cz] at h;split at h <;> simp_all⟩,λc h=>.inl h,λc h=>h⟩⟩
  obtain ⟨v,z,F⟩:=(A.sub h).2 t d u;exact ⟨v,z,F.Aw (fE.1 hd (t,d) (kH u))⟩
end
end Go.Abs
end
section
namespace Go.Abs
variable[Gl]
section
variable{P:Program}{orc:fA}{σ σ' σ1 au:ae}{n:Nat}{al al1 al2:AL}{Q:kT->AL->ae->Prop}
theorem Sem.mono{ac:aH}{Q':kT->AL->ae->Prop}(h:Sem P ac n al σ Q)(i:∀x al' σ',Q x al' σ'->∃al2 au,Wk σ.length al' σ' al2 au/\Q' x al2 au):Sem P ac n al σ Q':=by
 intro c j M Fz w a K R A U;refine h c j M Fz w a K R A λx al' σ' W w' M' Fz' o hd s u z E=>?_;obtain ⟨al2,au,F,G⟩:=i x al' σ' o;obtain ⟨X,Y,Z,E2,l2,O⟩:=F.use s u z E;have hd:=hd.Zc O
 grind
theorem Sem.pre{ac:aH}(hs:Sub al al1)(h:Sem P ac n al1 σ Q):Sem P ac n al σ Q:=by intro c i M Fz w a K R A j;exact h c i M Fz w a K R (A.sub hs) j
theorem jN.pre{ac:aH}{k:Nat}(hs:Sub al al1)(h:jN P ac k n al1 σ Q):jN P ac k n al σ Q:=by intro c i M Fz w a K R A j;exact h c i M Fz w a K R (A.sub hs) j
theorem Sem.AH(i:P.follows .mixedOrders=true)(O:lP P orc){ac:aH}{k:Nat}{x:kT}{e e':List D}{wr wr':List Nat}(h:je P orc k ac e σ wr=some (x,e',σ',wr'))
  (j:e=uA n al) (o:Env n al1 e') (z:Q x al1 σ'):Sem P ac n al σ Q:=by
 intro c s M Fz w a K R A E;subst j;refine (FB i O k).1 c ac σ σ' M Fz w _ e' a wr wr' x K s R A.cK.1 h λu w' M' Fz' hd F G U=>?_;have hd:=(Mk.of_eq hd:Mk w.heap.size M' Fz' w' u.defers a.defers)
 grind [dP.Vj,tE]
theorem Sem.skip(i:P.follows .mixedOrders=true)(j:Q .normal al σ):Sem P .skip n al σ Q:=by intro c o M Fz w a K R A s;have:Sem P .skip n al σ Q:=Sem.AH i (orc:=λ_ _ _ _=>none) (λt g ds σ r σ' wr h=>by simp at h) (k:=1) (wr:=[]) (wr':=[]) (e:=uA n al) rfl rfl A.cK.2 j;exact this c o M Fz w a K R A s
theorem Sem.ret(i:P.follows .mixedOrders=true)(j:Q .ret al σ):Sem P .ret n al σ Q:=by intro c o M Fz w a K R A s;have:Sem P .ret n al σ Q:=Sem.AH i (orc:=λ_ _ _ _=>none) (λt g ds σ r σ' wr h=>by simp at h) (k:=1) (wr:=[]) (wr':=[]) (e:=uA n al) rfl rfl A.cK.2 j;exact this c o M Fz w a K R A s
theorem Sem.exit(i:P.follows .mixedOrders=true){id:Nat}(j:Q (.exit id) al σ):Sem P (.exit id) n al σ Q:=by intro c o M Fz w a K R A s;have:Sem P (.exit id) n al σ Q:=Sem.AH i (orc:=λ_ _ _ _=>none) (λt g ds σ r σ' wr h=>by simp at h) (k:=1) (wr:=[]) (wr':=[]) (e:=uA n al) rfl rfl A.cK.2 j;exact this c o M Fz w a K R A s
theorem Sem.seq{a b:aH}(h:Sem P a n al σ λx al1 σ1=>match x with | .normal=>∃al2 au,Wk σ.length al1 σ1 al2 au/\Sem P b n al2 au Q | x=>Q x al1 σ1):Sem P (.seq a b) n al σ Q:=by
 intro c j M Fz w s K R A U;cases c with
 |seq c1 W=>
  simp only[bg] at j;split at j
  ·rename_i a1 a2 h1 h2;simp only[aj,aH.seq.injEq] at j;obtain ⟨rfl,rfl⟩:=j;refine Mx (h c1 h1 M Fz w s _ R A λx al1 σ1 X w' M' Fz' Y hd Z A' E' hl=>?_);cases x with
   |normal=>obtain ⟨al2,au,hw,hs⟩:=Y;obtain ⟨M2,R2,A2,E2,l2,W2⟩:=hw.use Z A' E' hl;exact hs W h2 M2 Fz' w' X K R2 A2 λx u z a3 w3 M3 E F G R3 A3 E3 O=>U x u z a3 w3 M3 E F (Mk.trans E3 E2.size (hd.Zc W2) G) R3 A3 (E2.trans E3 l2) (jz l2 O)
   |exit i=>grind [nS]
   |ret=>exact U .ret al1 σ1 X w' M' Fz' Y hd Z A' E' hl
  simp_all
 |region id ops aa=>
  simp only[bg] at j
  grind
 |cond o c1 W=>grind [bg]
 |block id c1=>simp[bg] at j
 |loop c1=>simp[bg] at j
 |scope b=>grind [bg,Option.map_eq_some_iff,Hn]
 |rangeFunc g ps x y=>rcases dC j with ⟨_,_,_,_,_,_,_,e⟩ | e <;> cases e
 |_=>grind [bg]
theorem Sem.cond{o:aG}{t e:aH}{b:Bool}(u:(match o with | .t k=>lk k al | .k d=>some d)=some (.c (.lit (.bool b))))
  (U:b=true->Sem P t n al σ Q) (W:b=false->Sem P e n al σ Q):Sem P (.cond o t e) n al σ Q:=by
 intro c i M Fz w j K R A z;cases c with
 |cond x c1 E=>
  simp only[bg] at i;split at i
  ·rename_i F a1 a2 X Y Z;simp only[aj,aH.cond.injEq] at i;obtain ⟨rfl,rfl,rfl⟩:=i;have G:=ki A.cK.1 X;have s:fO (F.ev (uA n al))=some b:=by
    cases F with
    |t k=>dsimp only at u;simp[aG.ev,A.cK.2.2 k _ u,fO]
    |k d=>simp only[aj] at u;subst u;rfl
   cases b with
   |true=>exact wo (mo G s) (U rfl c1 Y M Fz w j K R A z)
   |false=>exact ux (mo G s) (W rfl E Z M Fz w j K R A z)
  simp_all
 |region id ops O=>
  simp only[bg] at i
  grind
 |seq c1 E=>grind [bg]
 |block id c1=>simp[bg] at i
 |loop c1=>simp[bg] at i
 |scope b=>grind [bg,Option.map_eq_some_iff,Hn]
 |rangeFunc g ps x y=>rcases dC i with ⟨_,_,_,_,_,_,_,e⟩ | e <;> cases e
 |_=>grind [bg]
theorem Sem.step{a b:aH}(al2:AL)(au:ae)(i:Sem P a n al σ λx al1 σ1=>x=.normal/\Wk σ.length al1 σ1 al2 au)(j:Sem P b n al2 au Q):Sem P (.seq a b) n al σ Q:=
 Sem.seq (i.mono λx al1 σ1 ⟨o,s⟩=>⟨al1,σ1,.refl,by grind⟩)
def out(id:Nat):kT->kT
 |.exit i=>if i=id then .normal else .exit i
 |x=>x
def behind(id:Nat)(Q:kT->AL->ae->Prop)(al:AL)(σ:ae):kT->Prop
 |.normal=>Q .normal al σ
 |.ret=>Q .ret al σ
 |.exit i=>(i=id->Q .normal al σ)/\(i≠id->Q (.exit i) al σ)
theorem Sem.block{id:Nat}{b:aH}(U:Sem P b n al σ λx al1 σ1=>∃al2 au,Wk σ.length al1 σ1 al2 au/\behind id Q al2 au x):Sem P (.block id b) n al σ Q:=by
 have h:Sem P b n al σ λx al1 σ1=>∃al2 au,Wk σ.length al1 σ1 al2 au/\Q (out id x) al2 au:=U.mono λx al1 σ1 ⟨al2,au,E,u⟩=>⟨al1,σ1,.refl,al2,au,E,by
  cases x with
  |normal=>exact u
  |ret=>exact u
  |exit i=>
   by_cases z:i=id
   ·simp only[out,if_pos z];exact u.1 z
   ·simp only[out,if_neg z];exact u.2 z⟩
 intro c s M Fz w F K R A W;cases c with
 |block i c1=>
  simp only[bg,bU,aH.block.injEq] at s;obtain ⟨a1,X,rfl,rfl⟩:=s;refine Js (h c1 X M Fz w F _ R A λx al1 σ1 Y w' M' Fz' Z hd R' A' E' hl=>?_);obtain ⟨al2,au,E,hq⟩:=Z;obtain ⟨M2,R2,A2,E2,l2,W2⟩:=E.use R' A' E' hl;have:=W _ al2 au Y w' M2 Fz' hq (hd.Zc W2) R2 A2 E2 l2;cases x with
  |normal=>exact this
  |ret=>exact this
  |exit j=>
   by_cases G:j=2 * i
   ·simp only[out,if_pos G] at this;rw[G];exact AI this
   ·simp only[out,if_neg G] at this
    grind [yZ]
 |region id ops O=>
  simp only[bg] at s
  grind
 |seq c1 c2=>grind [bg]
 |cond o c1 c2=>grind [bg]
 |loop c1=>simp[bg] at s
 |scope b=>grind [bg,Option.map_eq_some_iff,Hn]
 |rangeFunc g ps x y=>rcases dC s with ⟨_,_,_,_,_,_,_,e⟩ | e <;> cases e
 |_=>grind [bg]
theorem Sem.loop{b:aH}(k:Nat)(h:jN P b k n al σ Q):Sem P (.loop b) n al σ Q:=by
 intro c i M Fz w j K R A u;cases c with
 |loop c1=>simp only[bg,bU,aH.loop.injEq] at i;obtain ⟨F,z,rfl⟩:=i;exact rN k (h c1 z M Fz w j K R A u)
 |region id ops s=>
  simp only[bg] at i
  grind
 |seq c1 E=>grind [bg]
 |cond o c1 E=>grind [bg]
 |block id c1=>simp[bg] at i
 |scope b=>grind [bg,Option.map_eq_some_iff,Hn]
 |rangeFunc g G x y=>rcases dC i with ⟨_,_,_,_,_,_,_,e⟩ | e <;> cases e
 |_=>grind [bg]
theorem jN.succ{b:aH}{k:Nat}(h:Sem P b n al σ λx al1 σ1=>match x with | .normal=>∃al2 au,Wk σ.length al1 σ1 al2 au/\jN P b k n al2 au Q | x=>∃al2 au,Wk σ.length al1 σ1 al2 au/\Q x al2 au):jN P b (k+1) n al σ Q:=by
 intro c hc M Fz w G K R A hK;rw[Fv];refine h c hc M Fz w G _ R A λx al1 σ1 a' w' M' Fz' O hd U W X Y=>?_;cases x with
 |normal=>obtain ⟨al2,au,j,hs⟩:=O;obtain ⟨z,E,F,o,s,u⟩:=j.use U W X Y;exact hs c hc z Fz' w' a' K E F λx Z aa a3 w3 M3 ab ad af R3 A3 E3 ak=>hK x Z aa a3 w3 M3 ab ad (Mk.trans E3 o.size (hd.Zc u) af) R3 A3 (o.trans E3 s) (jz s ak)
 |exit i=>
  obtain ⟨al2,au,j,hq⟩:=O;obtain ⟨z,E,F,o,s,u⟩:=j.use U W X Y;have hd:=hd.Zc u
  grind [nS]
 |ret=>obtain ⟨al2,au,j,hq⟩:=O;obtain ⟨z,E,F,o,s,u⟩:=j.use U W X Y;exact hK .ret al2 au a' w' z Fz' hq (hd.Zc u) E F o s
theorem Sem.rounds{b:aH}{V:Type}(L:V->AL)(H:V->ae)(p:Nat->V->Prop)(k:Nat)(v:V)(s:p k v)(u:∀v,p 0 v->False)
  (hs:∀k v,p (k+1) v->Sem P b n (L v) (H v) λx al1 σ1=>match x with | .normal=>∃i,p k i/\Wk (H v).length al1 σ1 (L i) (H i) | x=>∃al2 au,Wk (H v).length al1 σ1 al2 au/\Q x al2 au)
  (o:Sub al (L v)) (j:σ=H v):Sem P (.loop b) n al σ Q:=by
 subst j;refine Sem.loop k (jN.pre o ?_);clear o;induction k generalizing v with
 |zero=>simp_all
 |succ k ih=>
  refine jN.succ ((hs k v s).mono λx al1 σ1 z=>⟨al1,σ1,.refl,?_⟩)
  grind
def Gz(P:Program)(orc:fA)(k:Nat)(os:List aD)(n:Nat)(al:AL)(σ:ae)(al':AL)(σ':ae)(is:List dz):Prop:=
 ∀e,Env n al e->∃a,jR P orc k os e σ=some (a,σ',is)/\Env n al' a
theorem Iw:∀(os:List aD)(e e':List D)(σ σ':ae)(is:List dz),jR P orc 0 os e σ=some (e',σ',is)->lY P orc os e σ=some (e',σ',is.flatMap (·.wr)):=by
 intro os;induction os with
 |nil=>intro e e' σ σ' is h;simp only[jR,aj,aM] at h;obtain ⟨rfl,rfl,rfl⟩:=h;rfl
 |cons o os ih=>grind [jR,lY,cQ]
theorem Sem.zI(i:P.follows .mixedOrders=true)(O:lP P orc){os:List aD}{is:List dz}(h:Gz P orc 0 os n al σ al1 σ1 is)(j:Q .normal al1 σ1):Sem P (.zI os) n al σ Q:=by intro c o M Fz w a K R A s;obtain ⟨e',u,z⟩:=h _ A.cK.2;have E:=Iw _ _ _ _ _ _ u;have:Sem P (.zI os) n al σ Q:=Sem.AH i O (k:=1) (wr:=[]) (e:=uA n al) (e':=e') (x:=.normal) (σ':=σ1) (wr':=is.flatMap (·.wr)++[]) (by grind [je]) rfl z j;exact this c o M Fz w a K R A s
theorem Sem.D_(j:P.follows .mixedOrders=true)(O:lP P orc){os:List aD}{i:List Nat}{k p:Nat}{is:List dz}(h:Gz P orc k os n al σ al1 σ1 is)(F:(dQ i is&&mS i p k os.length&&Nat.ble p k)=true)(o:Q .normal al1 σ1) :
  Sem P (.D_ os i k p) n al σ Q:=by
 intro c s M Fz w a K R A u;obtain ⟨e',G,z⟩:=h _ A.cK.2;have E:iV P orc os i p k (uA n al) σ=some (e',σ1,is.flatMap (·.wr)):=by
  unfold iV
  simp_all
 have:Sem P (.D_ os i k p) n al σ Q:=Sem.AH j O (k:=1) (wr:=[]) (e:=uA n al) (e':=e') (x:=.normal) (σ':=σ1) (by simp only[je,E];rfl) rfl z o;exact this c s M Fz w a K R A u
theorem Ju:∀(os:List aD)(n m:Nat)(e:List D)(σ:ae)(r a:List D×ae×List dz),jR P orc n os e σ=some r->jR P orc m os e σ=some a->r=a:=by
 intro os;induction os with
 |nil=>grind [jR]
 |cons o os ih=>grind [jR]
theorem Sem.drwN(j:P.follows .mixedOrders=true)(O:lP P orc){os:List aD}{i:List Nat}{k p:Nat}{is:List dz}(h:Gz P orc os.length os n al σ al1 σ1 is)(Y:(dQ i is&&mS i p os.length os.length&&Nat.ble p os.length)=true)(u:Q .normal al1 σ1) :
  Sem P (.D_ os i k p) n al σ Q:=by
 intro c z M Fz w a K R A E;obtain ⟨e',F,G⟩:=h _ A.cK.2;have U:∀m r,iV P orc os i p m (uA n al) σ=some r->r=(e',σ1,is.flatMap (·.wr)):=by
  intro m r o;unfold iV at o;split at o
  ·rename_i Z au W s;have:=Ju _ _ _ _ _ _ _ s F
   simp_all
  simp_all
 have s:iV P orc os i p os.length (uA n al) σ=some (e',σ1,is.flatMap (·.wr)):=by
  unfold iV
  simp_all
 have X:je P orc 1 (.D_ os i k p) (uA n al) σ []=some (.normal,e',σ1,is.flatMap (·.wr)++[]):=by grind [je]
 have:Sem P (.D_ os i k p) n al σ Q:=Sem.AH j O (k:=1) (wr:=[]) (e:=uA n al) (e':=e') (x:=.normal) (σ':=σ1) X rfl G u;exact this c z M Fz w a K R A E
end
end Go.Abs
end
section
namespace Go.Abs
variable[Gl]
open Go.RowKit
def Pure(P:Program)(g:FuncId)(ds:List D)(r:D):Prop:=aN P g=true/\Ok P g ds [] r []
section
variable{P:Program}{σ σ':ae}{M M':Nat->Option Nat}{Fz Fz':Nat->Prop}{w w':World}
theorem V.data{d:D}{v:Value}(h:V σ M Fz w d v)(j:d.low 0=true)(σ':ae)(M':Nat->Option Nat):V σ' M' Fz w d v:=by
 induction h with
 |c h=>exact .c h
 |any v=>exact .any v
 |ptr a E h x o=>grind [D.low]
 |sl a n cap F E h x o=>grind [D.low]
 |mp c E h o=>grind [D.low]
 |fn s G u K o O z A=>simp only[D.low,bp] at j;exact .fn s G u K (λi d v a b=>z i d v a b (D.aO j.1 i d a)) (λi d v a b=>A i d v a b (D.aO j.2 i d a))
 |agg s u o ih=>simp only[D.low] at j;exact .agg s u (λi d v a b=>ih i d v a b (D.aO j i d a))
 |aI s u o ih=>simp only[D.low] at j;exact .aI s u (λi d v a b=>ih i d v a b (D.aO j i d a))
def D.ground:D->Bool
 |.c (.lit _)=>true
 |.agg ds=>fL ds
 |.aI ds=>fL ds
 |_=>false
where fL:List D->Bool
 |[]=>true
 |d::ds=>d.ground&&fL ds
theorem D.yQ:∀{ds:List D},D.ground.fL ds=true->∀(i:Nat) d,ds[i]? = some d->d.ground=true:=by
 intro ds;induction ds with
 |nil=>simp_all
 |cons x ds ih=>
  intro h i d j;simp only[D.ground.fL,bp] at h
  grind
theorem V.lit{d:D}{v:Value}(h:V σ M Fz w d v)(o:d.ground=true)(σ':ae)(M':Nat->Option Nat)(Fz':Nat->Prop)(w':World):V σ' M' Fz' w' d v:=by
 induction h with
 |c h=>
  rename_i x v;cases x with
  |lit u=>cases h;exact .c (.lit _)
  |_=>grind [D.ground]
 |any v=>grind [D.ground]
 |ptr a E h A j=>grind [D.ground]
 |sl a n cap F E h A j=>grind [D.ground]
 |mp c E h j=>grind [D.ground]
 |fn s O z R j U G K=>grind [D.ground]
 |agg s z j ih=>simp only[D.ground] at o;exact .agg s z (λi d v a b=>ih i d v a b (D.yQ o i d a))
 |aI s z j ih=>simp only[D.ground] at o;exact .aI s z (λi d v a b=>ih i d v a b (D.yQ o i d a))
theorem Pure.data{g:FuncId}{ds:List D}{r:D}(h:Pure P g ds r)(hd:ds.all (D.low 0)=true)(F:r.low 0=true):Ok P g ds σ r σ:=by
 intro M Fz w G R hs u;have K:Rel [] (λ_=>none) Fz w:=⟨λb c h=>by simp at h,λb b' c h=>by simp at h,R.fz,R.gl⟩;refine (h.2 _ Fz w G K hs λi d v a b=>(u i d v a b).data (fE.1 hd d (vB a)) _ _).mono λe w' O=>?_;obtain ⟨v,M',Fz',rfl,A,U,j⟩:=O;have W:∀c:Nat,c<w.heap.size->w'.heap[c]? = w.heap[c]?:=λc s=>j.frame c s (λb h=>by simp at h);have E:ba σ M Fz w σ M Fz' w':={
  size:=j.size
  frame:=λc s _=>W c s
  ja:=λb c h=>.inl ⟨b,h⟩
  fz:=j.fz
  lD:=λc h=>by
   rcases j.lD c h with h | ⟨b,h⟩ | h
   ·simp_all
   ·simp at h
   omega
  nF:=λc x T fr h=>⟨x,by grind,rfl⟩
  keep:=λb z h=>⟨z,h,cn _,λ_=>rfl⟩
  out:=j.out }
 refine ⟨v,M,Fz',rfl,⟨λb c h=>?_,R.inj,A.fz,A.gl⟩,U.data F _ _,E⟩;obtain ⟨h1,z,o,X,h3,Y⟩:=R.blk b c h;have s:=(R.lt h).2;refine ⟨λZ=>?_,z,o,X,by simp_all,Y.mono E⟩;rcases j.lD c Z with h | ⟨b,h⟩ | h
 ·grind
 ·simp at h
 ·omega
theorem Pure.lend{g:FuncId}{ds j:List D}{r:D}(h:Pure P g j r)(hd:ds.mapM (ue σ 0 100)=some j)(u:r.ground=true):Ok P g ds σ r σ:=by
 intro M Fz w x R hs z;have A:Rel [] (λ_=>none) (Dg M Fz 0) w:=⟨λb c h=>by simp at h,λb G c h=>by simp at h,λc h=>by
  rcases h with h | ⟨b,_,h⟩
  ·exact R.fz c h
  ·exact (R.lt h).2,Gl.mono (λc h=>⟨.inl h,rfl⟩) R.gl⟩
 have K:j.length=ds.length:=(Jf hd).1;refine (h.2 _ _ w x A (by omega) λi d v a b=>?_).mono λe w' E=>?_
 ·grind [Jf,ES]
 ·obtain ⟨v,M',Fz',rfl,O,F,o⟩:=E;have s:Below w.heap.size w w':=⟨o.out.1,o.out.2.1,o.out.2.2,o.size,λk hk=>o.frame k hk (λb h=>by simp at h)⟩;exact ⟨v,M,Fz,rfl,R.below s,F.lit u _ _ _ _,ba.below R s⟩
end
def ZA:C->C
 |.lit (.slice none 0 0)=>.ca false []
 |.ca _ a=>.ca false a
 |x=>x
def un:D->D
 |.c x=>.c (ZA x)
 |d=>d
def zm:D->D
 |.c x=>.c (ZA x)
 |.agg ds=>.agg (ds.map un)
 |d=>d
theorem FE{Fz:Nat->Prop}{w:World}{x:C}{v:Value}(h:VC Fz w x v):VC Fz w (ZA x) v:=by
 unfold ZA;split
 ·cases h;exact .ca (es:=[]) 0 none 0 (by simp) (λ_=>rfl) (λ_ _=>undef) (by simp) (by simp) (by simp) (by simp)
 ·cases h with
  |ca ar a cap j l c i b m o=>exact .ca ar a cap (by simp) l c i b m o
 omega
theorem FM{σ:ae}{M:Nat->Option Nat}{Fz:Nat->Prop}{w:World}{d:D}{v:Value}(h:V σ M Fz w d v):V σ M Fz w (un d) v:=by
 unfold un;split
 ·cases h with | c h=>exact .c (FE h)
 omega
theorem Aj{σ:ae}{M:Nat->Option Nat}{Fz:Nat->Prop}{w:World}{d:D}{v:Value}(h:V σ M Fz w d v):V σ M Fz w (zm d) v:=by
 unfold zm;split
 ·cases h with | c h=>exact .c (FE h)
 ·cases h with
  |agg j l m=>
   refine .agg j (by simp_all) (λi d v a b=>?_)
   grind [FM]
 omega
theorem Ok.zm{P:Program}{g:FuncId}{ds:List D}{σ σ':ae}{r:D}(h:Ok P g (ds.map zm) σ r σ'):Ok P g ds σ r σ':=by
 intro M Fz w j R hs o;refine h M Fz w j R (by simp_all) λi d v a b=>?_
 grind [Aj]
abbrev uP:=List (Nat×(List D->Option D))
def Rg(g:Nat):uP->Option (List D->Option D)
 |[]=>none
 |(s,f)::l=>match Nat.beq s g with | true=>some f | false=>Rg g l
def D.plain:D->Bool
 |.fn ..=>false
 |.agg ds=>ds.all λd=>match d with | .fn ..=>false | _=>true
 |.aI ds=>ds.all λd=>match d with | .fn ..=>false | _=>true
 |_=>true
def zM(S:uP):ta:=λg ds σ=>
 match Rg g S with
 |none=>none
 |some f=>
  if ds.all (λd=>d.low 0&&d.plain) then (f (ds.map zm)).bind λr=>if r.low 0 then some (r,σ,[]) else none
  else
   match ds.mapM (ue σ 0 100) with
   |some a=>(f (a.map zm)).bind λr=>if r.ground then some (r,σ,[]) else none
   |none=>none
def py(P:Program)(S:uP):Prop:=∀p∈S,∀ds r,p.2 ds=some r->Pure P p.1 ds r
theorem Xw{g:Nat}{f:List D->Option D}:∀{S:uP},Rg g S=some f->(g,f)∈S:=by
 intro S;induction S with
 |nil=>grind [Rg]
 |cons p S ih=>grind [Rg,Nat.eq_of_beq_eq_true]
theorem Vh{m:Nat}{d:D}(h:d.low m=true):(un d).low m=true:=by unfold un;grind [D.low]
theorem SY{m:Nat}:∀{ds:List D},D.low.cq m ds=true->D.low.cq m (ds.map un)=true:=by
 intro ds;induction ds with
 |nil=>simp_all
 |cons d ds ih=>intro h;simp only[D.low.cq,bp,iH] at h ⊢;grind [Vh]
theorem Zv{m:Nat}{d:D}(h:d.low m=true):(zm d).low m=true:=by
 unfold zm
 grind [D.low,SY]
theorem kS{P:Program}{S:uP}(h:py P S):si P (zM S):=by
 intro g ds σ r σ' wr a;unfold zM at a;split at a
 ·grind
 ·rename_i f x;have s:=Xw x;split at a
  ·rename_i u;rw[b_] at a;obtain ⟨v,j,b⟩:=a;split at b
   ·rename_i l;simp only[aj,aM] at b;obtain ⟨rfl,rfl,rfl⟩:=b;have i:=h _ s _ _ j;refine ⟨i.1,(i.data ?_ l).zm,cn _,λ_ _ _=>rfl⟩;rw[fE] at u ⊢;intro d hd;rw[dY] at hd;obtain ⟨y,z,rfl⟩:=hd;have:=u y z;rw[bp] at this
    grind [Zv]
   simp_all
  ·split at a
   ·rename_i m o;rw[b_] at a;obtain ⟨v,j,b⟩:=a;split at b
    ·rename_i l;simp only[aj,aM] at b;obtain ⟨rfl,rfl,rfl⟩:=b;have i:=h _ s _ _ j;have p:Pure P g m v:=⟨i.1,i.2.zm⟩;exact ⟨i.1,p.lend o l,cn _,λ_ _ _=>rfl⟩
    simp_all
   simp_all
noncomputable def spec{A R:Type}(args:A->List D)(Pj:R->D)(f:A->Option R):List D->Option D:=λds=>open Classical in if h:∃a,args a=ds then (f (Classical.choose h)).map Pj else none
theorem Oa{A R:Type}{args:A->List D}{Pj:R->D}{f:A->Option R}(inj:∀a b,args a=args b->a=b){a:A}{r:R}(h:f a=some r):spec args Pj f (args a)=some (Pj r):=by
 have i:∃b,args b=args a:=⟨a,rfl⟩;unfold spec
 grind
theorem Xb{P:Program}{g:Nat}{A R:Type}{args:A->List D}{Pj:R->D}{f:A->Option R}(H:∀a r,f a=some r->Pure P g (args a) (Pj r)):∀ds r,spec args Pj f ds=some r->Pure P g ds r:=by
 intro ds r h;unfold spec at h;split at h
 ·grind [Option.map_eq_some_iff]
 simp_all
theorem wa{S:uP}{g:Nat}{F:List D->Option D}{ds a:List D}{σ:ae}{r:D}(b:Rg g S=some F)(i:(ds.all λd=>d.low 0&&d.plain)=true)(hd:ds.map zm=a)(h:F a=some r)(j:r.low 0=true) :
  zM S g ds σ=some (r,σ,[]):=by
 subst hd;simp only[zM,b,i,if_true,h,Option.bind_some,j]
theorem EY{S:uP}{g:Nat}{F:List D->Option D}{ds a b:List D}{σ:ae}{r:D}(i:Rg g S=some F)(j:(ds.all λd=>d.low 0&&d.plain)=false)(l:ds.mapM (ue σ 0 100)=some a)(hd:a.map zm=b)(h:F b=some r)(m:r.ground=true) :
  zM S g ds σ=some (r,σ,[]):=by
 subst hd;simp only[zM,i,j,bA,bT,l,h,Option.bind_some,m,if_true]
def P_:D->D
 |.aI ds=>.aI (ds.map zm)
 |d=>zm d
theorem BC.P_(d:D):BC d (P_ d):=by
 intro σ M Fz w v h;unfold Go.Abs.P_;split
 ·cases h with
  |aI j o s=>
   refine .aI j (by simp_all) (λi d v a b=>?_)
   grind [Aj]
 grind [Aj]
theorem BC.KK{d i:D}(h:Go.Abs.P_ d=i):BC d i:=h▸BC.P_ d
theorem py.nil{P:Program}:py P []:=λp i=>by grind
theorem py.cons{P:Program}{g:Nat}{F:List D->Option D}{S:uP}(h:∀ds r,F ds=some r->Pure P g ds r)(j:py P S):py P ((g,F)::S):=by
 intro p i;rcases eU.1 i with rfl | i
 ·exact h
 ·exact j p i
def mY(al:AL)(σ:ae):Nat×Option (Option Nat)->Option D
 |(t,none)=>lk t al
 |(t, some n)=>
  match lk t al with
  |some (.ptr b off sz)=>(lu σ b sz).bind λa=>rD n a off
  |_=>none
def iZ:Nat->List D->AL
 |_,[]=>[]
 |i,d::ds=>(i,d)::iZ (i+1) ds
theorem Cd:∀(ds:List D)(i t:Nat)(d:D),lk t (iZ i ds)=some d->i<=t/\ds[t-i]? = some d:=by
 intro ds;induction ds with
 |nil=>grind [iZ,lk]
 |cons x ds ih=>
  intro i t d h;simp only[iZ,lk] at h;split at h
  ·simp_all
  grind
theorem qT{P:Program}{g:FuncId}{fn:Func}{m:jE}{fz:Bool}{ds:List D}{r:D}(hg:P.funcs[g]? = some fn)(s:aN P g=true)(u:fX P fn fz=some m)
  (y:ds.length<=m.ntmps)
  (h:Sem P m.body m.ntmps (iZ 0 ds) [] λx al σ=>(x=.normal∨x=.ret)/\∃a F,m.results.mapM (mY al σ)=some a/\ue σ 0 100 (one a)=some F/\BC F r):Pure P g ds r:=by
 refine ⟨s,?_⟩;unfold fX at u;split at u
 ·rename_i c hb;split at u
  ·rename_i ac rs h1 h2;simp only[aj] at u;subst u;dsimp only at h y;intro M Fz w j R hs G;refine k_ hg hb ?_;have A0:dP fn.ntmps [] M Fz w (iZ 0 ds) (j++Array.replicate (fn.ntmps-j.size) undef):=by
    refine ⟨by simp_all,λt d K=>?_⟩;obtain ⟨_,h3⟩:=Cd ds 0 t d K;rw[xAe] at h3;have L:t<j.size:=by grind
    exact ⟨j[t],by grind,G t d _ h3 (oF L)⟩
   refine JR (h c h1 M Fz w { tmps:=j++Array.replicate (fn.ntmps-j.size) undef,defers:=[] } _ R A0 λx al' σ' a' w' M' Fz' hQ hd R' E EV hl=>?_);obtain ⟨hx,a,F,hm,N,O⟩:=hQ;have S:rs.mapM (IW (uA fn.ntmps al') σ')=some a:=by
    have ab:∀(l:List (Nat×Option (Option Nat))) a,l.mapM (mY al' σ')=some a->l.mapM (IW (uA fn.ntmps al') σ')=some a:=by
     intro l;induction l with
     |nil=>simp_all
     |cons p l ih=>
      intro a h;rw[Pq] at h ⊢;cases z:mY al' σ' p with
      |none=>simp_all
      |some d=>
       rw[z] at h;have:IW (uA fn.ntmps al') σ' p=some d:=by
        obtain ⟨t,o⟩:=p;cases o with
        |none=>exact E.cK.2.2 t d z
        |some k=>
         simp only[mY] at z;split at z
         ·rename_i b off sz T;simp only[IW,E.cK.2.2 t _ T];exact z
         simp_all
       rw[this];cases hr:l.mapM (mY al' σ') with
       |none=>simp_all
       |some q=>simp_all
    simp_all
   have U:vD x=.normal∨vD x=.ret:=by rcases hx with rfl | rfl <;> simp[vD]
   refine ⟨U,Mk.end hd R' EV λW i A mv=>?_⟩;have X:dP fn.ntmps σ' M' Fz' W al' a'.tmps:=⟨E.1,λt d K=>by obtain ⟨v,q1,q2⟩:=E.2 t d K;exact ⟨v,q1,mv d v q2⟩⟩
   obtain ⟨v,Y,Z⟩:=ig (P:=P) i X.cK.1 h2 S;obtain ⟨R2,aa⟩:=Rel.forget R i A (λb hb=>by grind);exact ⟨v,Y,v,_,_,rfl,R2,O _ _ _ _ _ (ES i N Z _ _),aa⟩
  simp_all
 simp_all
end Go.Abs
namespace Go.Abs
variable[Gl]
theorem Up{P:Program}{g:FuncId}{es:List (List C)}{r:D}(p:∀e∈es,e≠[])(s:Pure P g [.c (.ca true es)] r)(G:es=[]->Pure P g [.c (.lit (.slice none 0 0))] r):Pure P g [.c (.ca false es)] r:=by
 refine ⟨s.1,λM Fz w b R hs K=>?_⟩;have u:b[0]? = some (b[0]'(by simp_all)):=oF _;have h:=K 0 _ _ rfl u;generalize O:b[0]'(by simp_all)=x at h u;have only:∀d,V [] M Fz w d x->∀(i:Nat) z v,[d][i]? = some z->b[i]? = some v->V [] M Fz w z v:=by grind
 cases h with
 |c A=>
  generalize E:C.ca false es=y at A;cases A with
  |ca ar a cap L F c l j m o=>
   simp only[C.ca.injEq] at E;obtain ⟨rfl,rfl⟩:=E;cases a with
   |some a=>exact s.2 M Fz w b R hs (only _ (.c (.ca ar (some a) cap (λ_=>rfl) F c l j m o)))
   |none=>
    have N:es=[]:=by simp_all
    subst N;have:=F rfl;subst this;exact (G rfl).2 M Fz w b R hs (only _ (.c (.lit _)))
  |_=>grind
end Go.Abs
end
section
namespace Go.Abs
variable[Gl]
abbrev I(n:Int):D:=.c (.lit (.int .i64 n))
abbrev B(b:Bool):D:=.c (.lit (.bool b))
def lx(al:AL):aG->Option D
 |.t k=>lk k al
 |.k d=>some d
def xL(al:AL)(x:Operand):Option D:=
 match bB x with
 |some o=>lx al o
 |none=>none
def Rp(al:AL):List aG->Option (List D)
 |[]=>some []
 |x :: xs => match lx al x, Rp al xs with
  |some d,some ds=>some (d::ds)
  |_,_=>none
def dL(P:Program)(orc:ta)(n:Nat)(al:AL)(σ:ae)(op:jB)(d:D)(σ1:ae)(w:List Nat):Prop:=∀e,Env n al e->aR P orc op e σ=some (d,σ1,w)
def aB{α:Type}(l:List α)(i:Int):Option α:=if 0<=i/\i<l.length then l[i.toNat]? else none
section
variable{P:Program}{orc:ta}{n:Nat}{al:AL}{σ σ1:ae}{w:List Nat}{d d1 d2:D}{e:List D}
theorem dS(a:Env n al e){x:aG}(h:lx al x=some d):x.ev e=d:=by
 cases x with
 |t k=>simp only[lx] at h;simp[aG.ev,a.2 k d h]
 |k b=>simp only[lx,aj] at h;subst h;rfl
theorem Fu(a:Env n al e):∀{xs:List aG}{ds:List D},Rp al xs=some ds->xs.map (aG.ev e)=ds:=by
 intro xs;induction xs with
 |nil=>grind [Rp]
 |cons x xs ih=>grind [Rp,dS]
theorem xD{x:aG}(h:lx al x=some d):dL P orc n al σ (.xQ x) d σ []:=λe a=>by grind [aR,dS]
theorem rj{c x y:aG}{b:Bool}(a:lx al c=some (B b))(i:b=true)(h:lx al x=some d):dL P orc n al σ (.pick c x y) d σ []:=λe j=>by grind [aR,fO,dS]
theorem od{c x y:aG}{b:Bool}(a:lx al c=some (B b))(i:b=false)(h:lx al y=some d):dL P orc n al σ (.pick c x y) d σ []:=λe j=>by grind [aR,fO,dS]
def gh(P:Program)(o:BinOp)(t:TypeId)(x y:Operand)(a b:Value):Option Value:=eB P (do eqGuard o t x y a b;binOp o t a b)
theorem uE{α b:Type}{s:Go.Sem α}{f:α->Go.Sem b}:eB P (s >>= f)=(eB P s).bind λa=>eB P (f a):=by
 induction s with
 |pure a=>rfl
 |program k ih=>exact ih P
 |_=>rfl
theorem dv{o:BinOp}{t ty j:TypeId}{x y:Operand}{a b v:Value}(A:xL al x=some d1)(E:xL al y=some d2)(F:d1.cy = some a)(G:d2.cy = some b)
  (h:gh P o t x y a b=some v) (hd:cX v=d):dL P orc n al σ (.gen (.binOp o t x y j) ty) d σ []:=λe K=>by
 subst hd;have L:∀{x:Operand}{d:D},xL al x=some d->((bB x).map (aG.ev e))=some d:=by grind [xL,dS]
 have N:((bB x).map (aG.ev e)).bind D.cy = some a:=by grind
 have O:((bB y).map (aG.ev e)).bind D.cy = some b:=by grind
 have:mJ P (.binOp o t x y j) ty e=some (cX v):=by
  unfold mJ;have i:(Op.binOp o t x y j).operands.toList.all (λx=>(((bB x).map (aG.ev e)).bind D.cy).isSome)=true:=by grind [Go.Op.operands]
  rw[if_pos i];have s:eB P (execOp (λx=>((((bB x).map (aG.ev e)).bind D.cy).getD undef)) { dst:=none,op:=.binOp o t x y j,type:=ty,pos:="",after:=#[],guard:=none })=some (.value v):=by
   have p:∀l m:Value,l=a->m=b->eB P (do let r <-(do eqGuard o t x y l m;binOp o t l m);Go.Sem.pure (Next.value r))=some (.value v):=by intro l m u z;subst u z;rw[uE];unfold gh at h;rw[h];rfl
   exact p _ _ (by simp_all) (by simp_all)
  rw[s]
 grind [aR]
theorem RZ{o:UnOp}{t ty:TypeId}{x:Operand}{a v:Value}(s:xL al x=some d1)(u:d1.cy = some a)
  (h:eB P (Op.unary o a)=some v) (hd:cX v=d):dL P orc n al σ (.gen (.unOp o t x) ty) d σ []:=λe y=>by
 subst hd;have z:((bB x).map (aG.ev e))=some d1:=by grind [xL,dS]
 have l:((bB x).map (aG.ev e)).bind D.cy = some a:=by grind
 have:mJ P (.unOp o t x) ty e=some (cX v):=by
  unfold mJ;have b:(Op.unOp o t x).operands.toList.all (λx=>(((bB x).map (aG.ev e)).bind D.cy).isSome)=true:=by simp[Op.operands,l]
  rw[if_pos b];have m:eB P (execOp (λx=>((((bB x).map (aG.ev e)).bind D.cy).getD undef)) { dst:=none,op:=.unOp o t x,type:=ty,pos:="",after:=#[],guard:=none })=some (.value v):=by
   have i:∀j:Value,j=a->eB P (do let r <-Op.unary o j;Go.Sem.pure (Next.value r))=some (.value v):=by intro j p;subst p;rw[uE,h];rfl
   exact i _ (by simp_all)
  rw[m]
 grind [aR]
theorem zO{t b ty:TypeId}{x:Operand}{a v:Value}(s:xL al x=some d1)(u:d1.cy = some a)
  (h:eB P (convert t b a)=some v) (hd:cX v=d):dL P orc n al σ (.gen (.convert t b x) ty) d σ []:=λe y=>by
 subst hd;have z:((bB x).map (aG.ev e))=some d1:=by grind [xL,dS]
 have m:((bB x).map (aG.ev e)).bind D.cy = some a:=by grind
 have:mJ P (.convert t b x) ty e=some (cX v):=by
  unfold mJ;have i:(Op.convert t b x).operands.toList.all (λx=>(((bB x).map (aG.ev e)).bind D.cy).isSome)=true:=by simp[Op.operands,m]
  rw[if_pos i];have o:eB P (execOp (λx=>((((bB x).map (aG.ev e)).bind D.cy).getD undef)) { dst:=none,op:=.convert t b x,type:=ty,pos:="",after:=#[],guard:=none })=some (.value v):=by
   have j:∀l:Value,l=a->eB P (do let r <-convert t b l;Go.Sem.pure (Next.value r))=some (.value v):=by intro l p;subst p;rw[uE,h];rfl
   exact j _ (by simp_all)
  rw[o]
 grind [aR]
theorem op_box{x:aG}{cs:List D}(h:lx al x=some d)(a:d.cells? = some cs)(b:D.ptr σ.length 0 cs.length=d1)(hs:σ++[.cells cs]=σ1):dL P orc n al σ (.box x) d1 σ1 []:=λe i=>by grind [aR,dS]
theorem IZ{z:List D}(a:D.ptr σ.length 0 z.length=d1)(hs:σ++[.cells z]=σ1):dL P orc n al σ (.alloc z) d1 σ1 []:=λe b=>by grind [aR]
def yP(al:AL):List D->List (Nat×Nat×aG)->Option (List D)
 |a,[]=>some a
 |a, (o, n, x) :: rest=>
  match (lx al x).bind D.cells? with
  |some b=>if b.length≠n∨o+n > a.length then none else yP al (put a o b) rest
  |none=>none
theorem Jq(i:Env n al e):∀{ps:List (Nat×Nat×aG)}{cs a:List D},yP al cs ps=some a->nK e cs ps=some a:=by
 intro ps;induction ps with
 |nil=>intro cs a h;exact h
 |cons p ps ih=>
  intro cs a h;obtain ⟨o,m,x⟩:=p;simp only[yP] at h;split at h
  ·rename_i r b;rw[b_] at b;obtain ⟨d,j,l⟩:=b;simp only[nK,dS i j,l,Option.bind_eq_bind,Option.bind_some]
   simp_all
  simp_all
theorem Ss{z cs:List D}{ps:List (Nat×Nat×aG)}(h:yP al z ps=some cs):dL P orc n al σ (.build z ps) (.agg cs) σ []:=λe a=>by grind [aR,Jq]
theorem DZ{z cs:List D}{ar len:Nat}{ps:List (Nat×Nat×aG)}(h:yP al (qJ len z) ps=some cs)(a:D.sl σ.length 0 len ar cs.length=d1)(hs:σ++[.cells cs]=σ1):dL P orc n al σ (.ic ar len z ps) d1 σ1 []:=λe b=>by grind [aR,Jq]
theorem pf{m:Option Nat}{a:aG}{b off sz:Nat}{cs:List D}(h:lx al a=some (.ptr b off sz))(i:lu σ b sz=some cs)(j:rD m cs off=some d):dL P orc n al σ (.load m a) d σ []:=λe l=>by grind [aR,dS]
theorem Aq{m:Option Nat}{a:aG}{off:Nat}{cs:List C}(h:lx al a=some (.c (.bZ cs off)))(b:rD m (cs.map .c) off=some d):dL P orc n al σ (.load m a) d σ []:=λe i=>by grind [aR,dS]
theorem AU{m:Nat}{a x:aG}{b off sz:Nat}{cs xs:List D}(h:lx al a=some (.ptr b off sz))(i:lu σ b sz=some cs)(j:lx al x=some d)(l:d.cells? = some xs)(hm:xs.length=m/\off+m<=sz)(hs:σ.set b (.cells (put cs off xs))=σ1) :
  dL P orc n al σ (.store m a x) (.aI []) σ1 [b]:=λe o=>by
 grind [aR,dS]
theorem IF{x:aG}{b off sz:Nat}(h:lx al x=some (.ptr b off sz)):dL P orc n al σ (.kQ x) (.ptr b off sz) σ []:=λe a=>by grind [aR,dS]
theorem eo{k:Nat}{neg:Bool}{x:aG}{b:Bool}(h:lx al x=some d)(a:isNil k d=some b):dL P orc n al σ (.gY k neg x) (B (if neg then !b else b)) σ []:=λe i=>by grind [aR,dS]
theorem Gi{o:Nat}{x:aG}{b off sz:Nat}(h:lx al x=some (.ptr b off sz)):dL P orc n al σ (.Dw o x) (.ptr b (off+o) sz) σ []:=λe a=>by grind [aR,dS]
theorem YB{o:Nat}{x:aG}{cs:List C}{off:Nat}(h:lx al x=some (.c (.bZ cs off))):dL P orc n al σ (.Dw o x) (.c (.bZ cs (off+o))) σ []:=λe a=>by grind [aR,dS]
theorem mH{α:Type}{l:List α}{i:Int}{a:α}(h:aB l i=some a):0<=i/\i<l.length/\l[i.toNat]? = some a:=by grind [aB]
theorem TP{α:Type}{ar:Nat}{x i:aG}{nn:Bool}{l:List α}{f:α->List C}{k:Int}{a:α}(h:lx al x=some (.c (.ca nn (l.map f))))(j:lx al i=some (I k))(m:aB l k=some a)(o:(f a).length=ar) :
  dL P orc n al σ (.idx ar none x i) (.c (.bZ (f a) 0)) σ []:=λe b=>by
 obtain ⟨s,u,p⟩:=mH m;have r:yX k (l.map f).length=some k.toNat:=by unfold yX;simp_all
 simp only[aR,dS b h,dS b j,qI,Option.bind_eq_bind,Option.bind_some,r,gP,p,Option.map_some,o,if_true]
theorem Tk{α:Type}{x:aG}{nn:Bool}{l:List α}{f:α->List C}(h:lx al x=some (.c (.ca nn (l.map f)))):dL P orc n al σ (.len x) (I l.length) σ []:=λe a=>by grind [aR,Dt,dS]
theorem WC{x:aG}(h:lx al x=some (.c (.lit (.slice none 0 0)))):dL P orc n al σ (.len x) (I 0) σ []:=λe a=>by grind [aR,Dt,dS]
theorem BN{x:aG}{i:Nat}{ds:List D}(h:lx al x=some (.aI ds))(hd:ds[i]? = some d):dL P orc n al σ (.extract x i) d σ []:=λe a=>by grind [aR,dS]
theorem Zj{m:Option Nat}{off:Nat}{x:aG}{cs:List D}(h:lx al x=some (.agg cs))(a:rD m cs off=some d):dL P orc n al σ (.part off m x) d σ []:=λe b=>by grind [aR,dS]
theorem EP{g:FuncId}{f:aG}{args:List aG}{ds:List D}(a:lx al f=some (.c (.fn (.func g) [] [])))(b:Rp al args=some ds)(h:orc g ds σ=some (d,σ1,w)):dL P orc n al σ (.call f args) d σ1 w:=λe i=>by grind [aR,dS,Fu]
def CB(o:aD)(c:Nat)(blk:Option Nat)(w:List Nat)(lo hi:Nat):dz:={ cat:=c,blk:=blk,wr:=w,dst:=o.dst,ZR:=uQ o,lo:=lo,hi:=hi }
def Gd(al:AL)(g:Option (Nat×Bool))(b:Bool):Prop:=∀n e,Env n al e->fN e g=some b
theorem fG:Gd al none true:=λ_ _ _=>rfl
theorem fR{t:Nat}{a b:Bool}(h:lk t al=some (B b))(i:b=a):Gd al (some (t,a)) true:=λn e j=>by simp[fN,j.2 t _ h,i]
theorem Lx{t:Nat}{a b:Bool}(h:lk t al=some (B b))(i:b=!a):Gd al (some (t,a)) false:=λn e j=>by simp[fN,j.2 t _ h,i]
theorem OF{t:Nat}{a:Bool}(h:lk t al=some (.aI [])):Gd al (some (t,a)) false:=λn e b=>by simp[fN,b.2 t _ h]
def vz(al:AL):jB->Option Nat
 |.load _ x=>match lx al x with | some (.ptr b _ _)=>some b | _=>none
 |_=>none
def CU(al:AL):jB->Bool
 |.load _ x=>(lx al x).isSome
 |_=>true
theorem blk_ok(b:Env n al e){o:aD}(h:CU al o.op=true)(lo a:Nat):(cQ o e lo a w).blk=vz al o.op:=by
 obtain ⟨t,op,g⟩:=o;cases op with
 |load m x=>grind [CU,Option.isSome_iff_exists,cQ,Pu,vz,dS]
 |_=>rfl
theorem Fo(i:Env n al e){o:aD}{b:Bool}(m:∀n e,Env n al e->fN e o.g=some b)(h:CU al o.op=true)(lo a:Nat):cQ o e lo a w=CB o (if b then cat o.op else 0) (vz al o.op) w lo a:=by
 have j:=blk_ok (w:=w) i h lo a;have l:(cQ o e lo a w).cat=if b then cat o.op else 0:=by grind [cQ]
 unfold CB;rw[<-j,<-l];rfl
theorem Ns(a:Env n al e){t:Nat}(j:t<n)(d:D):Env n ((t,d)::al) (e.set t d):=by
 refine ⟨by simp[a.1],λs l h=>?_⟩;simp only[lk] at h;split at h
 ·rename_i i;have:=cr i;simp only[aj] at h;subst this h;rw[List.getElem?_set_self (by rw[a.1];exact j)]
 ·rename_i i;have b:t≠s:=λm=>by simp_all
  rw[yBX b];exact a.2 s l h
variable{k:Nat}{os:List aD}{al':AL}{σ':ae}{is:List dz}{t:Nat}{ao:jB}{g:Option (Nat×Bool)}
theorem Gz.nil{i:fA}:Gz P i k [] n al σ al σ []:=λe j=>⟨e,rfl,j⟩
theorem Gz.op{j:fA}(h:dL P (j (some t)) n al σ ao d σ1 w)(s:Gd al g true)(hs:(Nat.blt t n&&CU al ao&&(k == 0 || jm σ σ1 w))=true)(r:Gz P j (k-1) os n ((t,d)::al) σ1 al' σ' is) :
  Gz P j k (⟨some t,ao,g⟩::os) n al σ al' σ' (CB ⟨some t,ao,g⟩ (cat ao) (vz al ao) w σ.length σ1.length::is):=λe i=>by
 simp only[bp] at hs;obtain ⟨⟨x,z⟩,A⟩:=hs;obtain ⟨E,F,G⟩:=r _ (Ns i (qK.mp x) d);refine ⟨E,?_,G⟩;have u:=Fo (w:=w) i (o:=⟨some t,ao,g⟩) s z σ.length σ1.length;simp only[if_true,bA,bT] at u;simp only[jR,dU,s n e i,h e i,Option.map_some,lT,A,if_true,F,u]
theorem Gz.eff{j:fA}(h:dL P (j none) n al σ ao d σ1 w)(s:Gd al g true)(hs:(CU al ao&&(k == 0 || jm σ σ1 w))=true)(r:Gz P j (k-1) os n al σ1 al' σ' is) :
  Gz P j k (⟨none,ao,g⟩::os) n al σ al' σ' (CB ⟨none,ao,g⟩ (cat ao) (vz al ao) w σ.length σ1.length::is):=λe i=>by
 simp only[bp] at hs;obtain ⟨x,z⟩:=hs;obtain ⟨A,E,F⟩:=r _ i;refine ⟨A,?_,F⟩;have u:=Fo (w:=w) i (o:=⟨none,ao,g⟩) s x σ.length σ1.length;simp only[if_true,bA,bT] at u;simp only[jR,dU,s n e i,h e i,Option.map_some,lT,z,if_true,E,u]
theorem Gz.no{j:fA}(s:Gd al g false)(hs:(Nat.blt t n&&CU al ao)=true)(r:Gz P j (k-1) os n ((t,.aI [])::al) σ al' σ' is) :
  Gz P j k (⟨some t,ao,g⟩::os) n al σ al' σ' (CB ⟨some t,ao,g⟩ 0 (vz al ao) [] σ.length σ.length::is):=λe i=>by
 simp only[bp] at hs;obtain ⟨x,z⟩:=hs;obtain ⟨A,E,F⟩:=r _ (Ns i (qK.mp x) (.aI []));refine ⟨A,?_,F⟩;have u:=Fo (w:=[]) i (o:=⟨some t,ao,g⟩) s z σ.length σ.length;simp only[if_true,bA,bT] at u;simp only[jR,dU,s n e i,lT,jm,List.all_nil,Bool.or_true,if_true,E,u]
end
end Go.Abs
end
section
namespace Go.Abs
variable[Gl]
abbrev ST(cs:List C):D:=.agg (cs.map .c)
theorem map_inj{α:Type}{f:α->List C}(i:∀{a b:α},f a=f b->a=b){l m:List α}(h:l.map f=m.map f):l=m:=by
 induction l generalizing m with
 |nil=>simp_all
 |cons a l ih => cases m with
  |nil=>simp at h
  |cons b m=>grind
theorem JF:∀{l m:List C},l.map D.c=m.map D.c->l=m:=by
 intro l;induction l with
 |nil=>simp_all
 |cons a l ih => intro m h;cases m with
  |nil=>simp at h
  |cons b m=>grind
theorem ST_inj{α:Type}{f:α->List C}(i:∀{a b:α},f a=f b->a=b){a b:α}(h:ST (f a)=ST (f b)):a=b:=by grind [JF]
theorem sZ{al1:AL}:Sub al1 []:=True.intro
section
variable{P:Program}{orc:ta}{n:Nat}{al:AL}{σ σ1:ae}{w:List Nat}{d d1 d2:D}{e:List D}
theorem Yt{α:Type}{len:Nat}{x i:aG}{cs:List D}{l:List α}{f:α->D}{k:Int}{a:α}(h:lx al x=some (.agg cs))(j:lx al i=some (I k))(m:aB l k=some a)(o:cs=l.map f)(s:l.length=len) :
  dL P orc n al σ (.zg 1 len none x i) (f a) σ []:=λe b=>by
 obtain ⟨u,v,p⟩:=mH m;have r:yX k len=some k.toNat:=by unfold yX;simp_all
 subst o;simp[aR,dS b h,dS b j,qI,r,rD,p]
end
end Go.Abs
end
section
namespace Go.Abs
variable[Gl]
section
variable{P:Program}
theorem zbD{t:TypeId}{d:TypeDesc}(h:P.underlying t=some d):eB P (underlying t)=some d:=by show eB P (match P.underlying t with | some d=>Go.Sem.pure d | none=>_)=_;rw[h];rfl
theorem sQ{d:Nat}{xs h:Array Value}{f:Field}{j:List Field}{a b:Value}{r q:Bool}(p:(f.name != "_")=true)(l:eB P (part f.type xs f.offset)=some a)(m:eB P (part f.type h f.offset)=some b)
  (o:eB P (Op.equalIn d f.type a b)=some r) (s:eB P (Op.eqFields d xs h j)=some q):eB P (Op.eqFields d xs h (f::j))=some (r&&q):=by
 unfold Op.eqFields;have i:f.name≠"_":=by simp_all
 rw[if_pos i,uE,l,aE,uE,m,aE,uE,o,aE];cases r
 ·rfl
 simp_all
theorem eq_int{d:Nat}{t:TypeId}{k i:IntKind}{a b:Int}(h:P.underlying t=some (.int i)):eB P (Op.equalIn (d+1) t (.int k a) (.int k b))=some (a == b):=by simp only[Op.equalIn];rw[uE,zbD h,aE];simp only[if_true];rfl
theorem z_{d:Nat}{t:TypeId}{a b:Bool}(h:P.underlying t=some .bool):eB P (Op.equalIn (d+1) t (.bool a) (.bool b))=some (a == b):=by simp only[Op.equalIn];rw[uE,zbD h,aE];rfl
theorem Ve{d:Nat}{t:TypeId}{xs i:Array Value}{r:Bool}(l:P.underlying t=some (.struct (P.fieldsOf t)))(o:P.stoodInHeld t=false)(h:eB P (Op.eqFields d xs i (P.fieldsOf t).toList)=some r) :
  eB P (Op.equalIn (d+1) t (.agg xs) (.agg i))=some r:=by
 simp only[Op.equalIn];rw[uE,zbD l,aE];dsimp only;rw[uE];show (eB P (Go.Sem.pure P)).bind _=_;simp only[eB,Option.bind_some,o,bA,bT];rw[uE,<-Array.forIn_toList];generalize (P.fieldsOf t).toList=m at h;clear l;induction m generalizing r with
 |nil=>exact h
 |cons f m ih=>
  simp only[List.forIn_cons,Op.eqFields] at h ⊢;rw[uE];split at h
  ·rename_i j;rw[if_pos j];rw[uE] at h ⊢;cases p:eB P (part f.type xs f.offset) with
   |none=>simp_all
   |some a=>
    rw[p] at h;simp only[Option.bind_some] at h ⊢;rw[uE] at h ⊢;cases s:eB P (part f.type i f.offset) with
    |none=>simp_all
    |some b=>
     rw[s] at h;simp only[Option.bind_some] at h ⊢;rw[uE] at h ⊢;cases u:eB P (Op.equalIn d f.type a b) with
     |none=>simp_all
     |some q=>
      rw[u] at h;simp only[Option.bind_some] at h ⊢;cases q
      ·simp only[Bool.not_false,if_true] at h ⊢;exact h
      ·simp only[Fj,bA,bT] at h ⊢;exact ih h
  ·rename_i j;rw[if_neg j];exact ih h
theorem Xm{t:TypeId}{x y:Operand}{xs a:Array Value}{r:Bool}(hm:P.eqGuardType P.depth t=false)(h:eB P (Op.equalIn 10000 t (.agg xs) (.agg a))=some r):gh P .eql t x y (.agg xs) (.agg a)=some (.bool r):=by
 unfold gh;rw[uE];have b:eB P (eqGuard .eql t x y (.agg xs) (.agg a))=some ():=by simp only[eqGuard,Fj,bA,bT];show eB P (if (!P.eqGuardType P.depth t)=true then Go.Sem.pure () else _)=_;rw[hm];rfl
 rw[b,aE];show eB P (do Go.Sem.pure (Value.bool (<-Op.equal t (.agg xs) (.agg a))))=_;rw[uE];unfold Op.equal Op.maxDepth;rw[h];rfl
theorem WF{t:TypeId}{x y:Operand}{xs a:Array Value}{r:Bool}(hm:P.eqGuardType P.depth t=false)(h:eB P (Op.equalIn 10000 t (.agg xs) (.agg a))=some r):gh P .neq t x y (.agg xs) (.agg a)=some (.bool (!r)):=by
 unfold gh;rw[uE];have b:eB P (eqGuard .neq t x y (.agg xs) (.agg a))=some ():=by simp only[eqGuard,Fj,bA,bT];show eB P (if (!P.eqGuardType P.depth t)=true then Go.Sem.pure () else _)=_;rw[hm];rfl
 rw[b,aE];show eB P (do Go.Sem.pure (Value.bool (!(<-Op.equal t (.agg xs) (.agg a)))))=_;rw[uE];unfold Op.equal Op.maxDepth;rw[h];rfl
end
end Go.Abs
namespace Go.Abs
variable[Gl]
section
variable{P:Program}{orc:ta}{n:Nat}{al:AL}{σ:ae}{d:D}{e:List D}
def CA(P:Program)(op:Op)(ty:TypeId)(al:AL):Option D:=
 if op.operands.toList.all (λx=>((xL al x).bind D.cy).isSome) then
  match eB P (execOp (λx=>(((xL al x).bind D.cy).getD undef)) { dst:=none,op:=op,type:=ty,pos:="",after:=#[],guard:=none }) with
  |some (.value v)=>some (cX v)
  |_=>none
 else none
theorem Yl{op:Op}{ty:TypeId}(i:∀cs b,op≠.select cs b)(h:CA P op ty al=some d)(m:Env n al e):mJ P op ty e=some d:=by
 unfold CA at h;split at h
 ·rename_i a;rw[fE] at a;have l:∀x∈op.operands.toList,((bB x).map (aG.ev e)).bind D.cy = (xL al x).bind D.cy:=by
   grind [Option.isSome_iff_exists,Option.bind_eq_some_iff,xL,dS]
  have j:∀x:Operand,(x∈op.operands.toList)->((((bB x).map (aG.ev e)).bind D.cy).getD undef)=(((xL al x).bind D.cy).getD undef):=λx o=>by simp_all
  unfold mJ;rw[if_pos (by simp_all)]
  grind [Go.execOp_congr]
 simp_all
theorem fq{c:Call}{ty:TypeId}(h:CA P (.call c) ty al=some d):dL P orc n al σ (.gen (.call c) ty) d σ []:=λe a=>by simp[aR,Yl (λi b=>by simp) h a]
end
end Go.Abs
namespace Go.Abs
variable[Gl]
section
variable{P:Program}{orc:ta}{n:Nat}{al:AL}{σ:ae}{d:D}{e:List D}
theorem UT{t:TypeId}{x y:Operand}{a b:Bool}(h:P.underlying t=some .bool):gh P .eql t x y (.bool a) (.bool b)=some (.bool (a == b)):=by unfold gh;rw[uE];show (some ()).bind _=_;rw[aE];show eB P (do Go.Sem.pure (Value.bool (<-Op.equal t (.bool a) (.bool b))))=_;rw[uE];unfold Op.equal Op.maxDepth;rw[z_ (d:=9999) h];rfl
theorem TN{t:TypeId}{x y:Operand}{a b:Bool}(h:P.underlying t=some .bool):gh P .neq t x y (.bool a) (.bool b)=some (.bool (!(a == b))):=by unfold gh;rw[uE];show (some ()).bind _=_;rw[aE];show eB P (do Go.Sem.pure (Value.bool (!(<-Op.equal t (.bool a) (.bool b)))))=_;rw[uE];unfold Op.equal Op.maxDepth;rw[z_ (d:=9999) h];rfl
def Mn(k:IntKind)(a b:Int):Option Int:=if b=0 then none else some (k.wrap (a.tdiv b))
def rem?(a b:Int):Option Int:=if b=0 then none else some (a.tmod b)
def shr?(k:IntKind)(a b:Int):Option Int:=if b<0 then none else some (a.fdiv (2 ^ min b.toNat k.bits))
theorem XY{t:TypeId}{x y:Operand}{i j:IntKind}{a b v:Int}(h:shr? i a b=some v):gh P .shr t x y (.int i a) (.int j b)=some (.int i v):=by
 unfold shr? at h;split at h
 ·simp at h
 ·rename_i l;simp only[aj] at h;subst h;unfold gh;rw[uE];show (some ()).bind _=_;rw[aE];simp only[binOp,Op.shift,if_neg l];rfl
def shl?(k:IntKind)(a b:Int):Option Int:=if b<0 then none else some (k.wrap (a * 2 ^ min b.toNat k.bits))
theorem Wr{t:TypeId}{x y:Operand}{i j:IntKind}{a b v:Int}(h:shl? i a b=some v):gh P .shl t x y (.int i a) (.int j b)=some (.int i v):=by
 unfold shl? at h;split at h
 ·simp at h
 ·rename_i l;simp only[aj] at h;subst h;unfold gh;rw[uE];show (some ()).bind _=_;rw[aE];simp only[binOp,Op.shift,if_neg l];rfl
theorem YQ{t:TypeId}{x y:Operand}{k:IntKind}{a b v:Int}(h:Mn k a b=some v):gh P .quo t x y (.int k a) (.int k b)=some (.int k v):=by
 unfold Mn at h;split at h
 ·simp at h
 ·rename_i i;simp only[aj] at h;subst h;unfold gh;rw[uE];show (some ()).bind _=_;rw[aE];simp only[binOp,ne_eq,not_true_eq_false,bT,Op.intDiv,if_neg i];rfl
theorem XH{t:TypeId}{x y:Operand}{k:IntKind}{a b v:Int}(h:rem? a b=some v):gh P .rem t x y (.int k a) (.int k b)=some (.int k v):=by
 unfold rem? at h;split at h
 ·simp at h
 ·rename_i i;simp only[aj] at h;subst h;unfold gh;rw[uE];show (some ()).bind _=_;rw[aE];simp only[binOp,ne_eq,not_true_eq_false,bT,Op.intDiv,if_neg i];rfl
theorem WG{α:Type}{x i:aG}{b off sz len ar:Nat}{k:Int}{l:List α}{a:α}(h:lx al x=some (.ptr b off sz))(m:lx al i=some (I k))(j:aB l k=some a)(o:l.length=len)(hd:D.ptr b (off+k.toNat * ar) sz=d) :
  dL P orc n al σ (.idx ar (some len) x i) d σ []:=λe p=>by
 subst hd;obtain ⟨r,s,u⟩:=mH j;have v:yX k len=some k.toNat:=by unfold yX;simp_all
 grind [aR,qI,dS]
end
end Go.Abs
end
section
namespace Go.Abs
variable[Gl]
abbrev OS(ar b n:Nat):D:=.sl b 0 n ar (n * ar)
abbrev OB{α:Type}(f:α->List C)(l:List α):Ob:=.cells ((l.flatMap f).map .c)
section
variable{α:Type}{f:α->List C}{ar:Nat}
theorem Rb(b:∀a,(f a).length=ar):∀(l:List α),(l.flatMap f).length=l.length * ar:=by
 intro l;induction l with
 |nil=>simp
 |cons a l ih=>grind
theorem Xs(b:∀a,(f a).length=ar):∀(l:List α)(i:Nat)(a:α),l[i]? = some a->((l.flatMap f).drop (i * ar)).take ar=f a:=by
 intro l;induction l with
 |nil=>simp_all
 |cons x l ih=>
  intro i a h;cases i with
  |zero=>simp_all
  |succ i=>
   simp only[List.getElem?_cons_succ] at h;simp only[VZ];have:(i+1) * ar=(f x).length+i * ar:=by grind
   rw[this,xAi,<-ih i a h,yB1 (by omega),xAf]
   simp_all
theorem Ik(h:∀a,(f a).length=ar)(l:List α)(lo n:Nat):((l.flatMap f).drop (lo * ar)).take (n * ar)=((l.drop lo).take n).flatMap f:=by
 induction l generalizing lo n with
 |nil=>simp
 |cons x l ih=>
  cases lo with
  |succ lo=>
   simp only[VZ,List.drop_succ_cons];have:(lo+1) * ar=(f x).length+lo * ar:=by grind
   rw[this,xAi,<-ih lo n,yB1 (by omega),xAf]
   simp_all
  |zero=>
   cases n with
   |zero=>simp
   |succ n=>
    simp only[yCc,yCl,VZ,List.take_succ_cons];have b:(n+1) * ar=(f x).length+n * ar:=by grind
    rw[b,List.take_append];have:=ih 0 n
    grind
theorem gG{σ:ae}{b:Nat}{l:List α}(i:∀a,(f a).length=ar)(h:σ[b]? = some (OB f l)):lu σ b (l.length * ar)=some ((l.flatMap f).map .c):=by grind [lu,Rb]
theorem Ly(b:∀a,(f a).length=ar):∀(l:List α),chunks ar l.length (l.flatMap f)=l.map f:=by
 intro l;induction l with
 |nil=>rfl
 |cons a l ih=>
  simp only[List.length_cons,chunks,VZ,iH]
  simp_all
theorem Qp{σ:ae}{n k:Nat}:∀(l:List C),(l.map D.c).mapM (eY σ n (k+1))=some l:=by
 intro l;induction l with
 |nil=>rfl
 |cons x l ih=>rw[iH,Pq,ih];rfl
theorem AP{σ:ae}{b k n:Nat}{l:List α}(i:∀a,(f a).length=ar)(j:0<ar)(h:σ[b]? = some (OB f l))(m:l.length=n):eY σ 0 (k+2) (OS ar b n)=some (.ca (Nat.blt 0 n) (l.map f)):=by
 subst m;have:eY σ 0 (k+2) (OS ar b l.length)=(if 0<=b/\0<ar/\0+l.length * ar<=l.length * ar then
    match lu σ b (l.length * ar) with
    |some o=>(((o.drop 0).take (l.length * ar)).mapM (eY σ 0 (k+1))).map λr=>C.ca (Nat.blt 0 l.length) (chunks ar l.length r)
    |none=>none
   else none):=rfl
 rw[this,if_pos ⟨KZ _,j,by omega⟩,gG i h]
 grind [List.take_of_length_le,Rb,Qp,Ly]
theorem WQ{σ:ae}{b n:Nat}{l:List α}(i:∀a,(f a).length=ar)(j:0<ar)(h:σ[b]? = some (OB f l))(m:l.length=n):ue σ 0 100 (OS ar b n)=some (.c (.ca (Nat.blt 0 n) (l.map f))):=by
 show (eY σ 0 100 (OS ar b n)).map D.c=_
 grind [AP]
theorem mapM_c{a:Type}{g:D->Option a}{d:D}{ds:List D}{r:a}{rs:List a}(h:g d=some r)(b:ds.mapM g=some rs):(d::ds).mapM g=some (r::rs):=by simp_all
theorem Xn{σ:ae}{ds rs:List D}(h:ds.mapM (mI σ 0 100)=some rs):ue σ 0 100 (.aI ds)=some (.aI rs):=by
 show (ds.mapM (mI σ 0 100)).map D.aI=_
 simp_all
theorem Ya{σ:ae}{ds:List D}{rs:List C}(h:ds.mapM (eY σ 0 100)=some rs):mI σ 0 100 (.agg ds)=some (.agg (rs.map .c)):=by
 show (ds.mapM (eY σ 0 100)).map (λl=>D.agg (l.map .c))=_
 simp_all
def Src(σ:ae)(f:α->List C)(ar:Nat)(d:D)(m:List α):Prop:=Dt σ d=some m.length/\RU σ ar m.length d=some ((m.flatMap f).map .c)
def Vx(σ:ae)(f:α->List C)(ar:Nat)(d:D)(m:List α):Prop:=Dt σ d=some m.length/\∀n,n<=m.length->RU σ ar n d=some (((m.take n).flatMap f).map .c)
theorem Vk{σ:ae}{nn:Bool}{m:List α}(b:∀a,(f a).length=ar):Vx σ f ar (.c (.ca nn (m.map f))) m:=by
 refine ⟨by simp[Dt],λn h=>?_⟩;show (if n<=(m.map f).length/\(m.map f).all (λe=>e.length=ar) then some (((m.map f).take n).flatten.map D.c) else none)=_;rw[if_pos ⟨by simp_all,by simp[b]⟩,<-yBU]
 grind
theorem RP{σ:ae}:Vx σ f ar (.c (.lit (.slice none 0 0))) []:=⟨rfl,λn a=>by
 obtain rfl:n=0:=by simp_all
 rfl⟩
theorem Vr{σ:ae}{b n:Nat}{l:List α}(i:∀a,(f a).length=ar)(h:σ[b]? = some (OB f l))(j:l.length=n):Vx σ f ar (OS ar b n) l:=by subst j;refine ⟨by grind [Dt,gG],λk hk=>?_⟩;show ((lu σ b (l.length * ar)).bind λm=>if ar=ar/\k<=l.length/\0+l.length * ar<=l.length * ar then some ((m.drop 0).take (k * ar)) else none)=_;have:=Ik i l 0 k;simp only[yCc,yCl] at this;rw[gG i h,aE,if_pos ⟨rfl,hk,by omega⟩,yCl,<-yBU,this]
theorem OR(b:∀a,(f a).length=ar)(l:List α)(n:Nat):(l.flatMap f).take (n * ar)=(l.take n).flatMap f:=by
 have:=Ik b l 0 n
 simp_all
theorem Pd(b:∀a,(f a).length=ar):∀(l:List α)(n:Nat),(l.flatMap f).drop (n * ar)=(l.drop n).flatMap f:=by
 intro l;induction l with
 |nil=>simp_all
 |cons x l ih=>
  intro n;cases n with
  |zero=>simp
  |succ n=>
   have:(n+1) * ar=(f x).length+n * ar:=by grind
   rw[VZ,List.drop_succ_cons,<-ih n,this,xAi,yB1 (by omega),xAf]
   simp_all
def Yz(l m:List α)(lo len:Nat):List α:=l.take lo++m.take len++l.drop (lo+(m.take len).length)
theorem Oy{l m:List α}{lo len:Nat}(h:lo+len<=l.length):(Yz l m lo len).length=l.length:=by grind [Yz]
theorem zK{σ:ae}{nn:Bool}{m:List α}(b:∀a,(f a).length=ar):Src σ f ar (.c (.ca nn (m.map f))) m:=by
 refine ⟨by simp[Dt],?_⟩;show (if m.length<=(m.map f).length/\(m.map f).all (λe=>e.length=ar) then some (((m.map f).take m.length).flatten.map D.c) else none)=_
 grind
theorem Xv{σ:ae}:Src σ f ar (.c (.lit (.slice none 0 0))) []:=⟨rfl,rfl⟩
theorem NI{σ:ae}{b n:Nat}{l:List α}(i:∀a,(f a).length=ar)(h:σ[b]? = some (OB f l))(j:l.length=n):Src σ f ar (OS ar b n) l:=by subst j;refine ⟨by grind [Dt,gG],?_⟩;show ((lu σ b (l.length * ar)).bind λm=>if ar=ar/\l.length<=l.length/\0+l.length * ar<=l.length * ar then some ((m.drop 0).take (l.length * ar)) else none)=_;rw[gG i h,aE,if_pos ⟨rfl,cn _,by omega⟩,yCl,Yd (by simp[Rb i])]
end
section
variable{P:Program}{orc:ta}{n:Nat}{al:AL}{σ σ1:ae}{d d1 d2:D}{α:Type}{f:α->List C}{ar:Nat}{ac:aH}{Q:kT->AL->ae->Prop}
theorem Sem.own(t ar:Nat)(hk:lk t al=some (.c (.lit (.slice none 0 0))))(hd:D.sl σ.length 0 0 ar 0=d)(hs:σ++[.cells []]=σ1)(h:Sem P ac n ((t,d)::al) σ1 Q):Sem P ac n al σ Q:=by
 subst hd hs;intro c z M Fz w a K R A E;have j:=ba.ph R;have F:=R.ph;have i:∀{d v},V σ M Fz w d v->V (σ++[.cells []]) M Fz w d v:=λh=>h.mono j;have G:dP n (σ++[.cells []]) M Fz w ((t,.sl σ.length 0 0 ar 0)::al) a.tmps:=by
  refine ⟨A.1,λs d hs=>?_⟩;simp only[lk] at hs;split at hs
  ·rename_i O;have:=cr O;simp only[aj] at hs;subst this hs;obtain ⟨v,o,u⟩:=A.2 t _ hk;refine ⟨v,o,?_⟩;rw[u.bI];exact .sl none 0 0 (by simp) (.cells []) (by simp) (by omega) (λ_=>.inl ⟨rfl,rfl,rfl,rfl,rfl,rfl⟩)
  ·obtain ⟨v,o,u⟩:=A.2 s d hs
   simp_all
 exact h c z M Fz w a K F G λx al' σ' U w' M' Fz' W hd X Y Z hl=>E x al' σ' U w' M' Fz' W hd X Y (j.trans Z (by simp)) (by grind)
theorem MK{x:aG}{b k:Nat}{l:List α}(i:∀a,(f a).length=ar)(h:lx al x=some (OS ar b k))(j:σ[b]? = some (OB f l))(m:l.length=k):dL P orc n al σ (.len x) (I k) σ []:=λe o=>by grind [aR,Dt,dS,gG]
def cf{α:Type}(l m:List α):Option (List α):=if l.length+m.length<=1000000 then some (l++m) else none
theorem sU{l m r:List α}(h:cf l m=some r):l.length+m.length<=1000000/\r=l++m:=by
 unfold cf at h
 simp_all
theorem tp{i:Nat}{s x:aG}{b k:Nat}{l m r:List α}(F:∀a,(f a).length=ar)(h:lx al s=some (OS ar b k))(G:σ[b]? = some (OB f l))(hk:l.length=k)(K:lx al x=some d)(hm:Src σ f ar d m)(L:cf l m=some r)
  (v:Nat.ble i 1000=true) (hd:OS ar b r.length=d1) (hs:σ.set b (OB f r)=σ1):dL P orc n al σ (.append ar i s x) d1 σ1 [b]:=by
 obtain ⟨o,rfl⟩:=sU L;subst hd hs hk;have p:i<=1000:=zE v;have j:Ck (l.length+m.length) i=true:=by have:(l.length+m.length) * i<=1000000 * 1000:=yCm o p;simp only[Ck,bp,aQ];omega
 have y:∀e,Env n al e->aR P orc (.append ar i s x) e σ=(if m.length=0 then some (OS ar b l.length,σ,[b]) else some (.sl b 0 (l.length+m.length) ar (l.length * ar+m.length * ar),σ.set b (.cells ((l.flatMap f).map .c++(m.flatMap f).map .c)),[b])):=by
  intro e u;have:aR P orc (.append ar i s x) e σ=(Dt σ d).bind λk=>(RU σ ar k d).bind λnew=>(lu σ b (l.length * ar)).bind λz=>if ar=ar/\0=0/\l.length * ar=l.length * ar/\Ck (l.length+k) i then
     if k=0 then some (.sl b 0 l.length ar (l.length * ar),σ,[b])
     else some (.sl b 0 (l.length+k) ar (l.length * ar+k * ar),σ.set b (.cells (z++new)),[b])
    else if ar=ar/\0=0/\(l.length+k) * ar<=l.length * ar/\Ck (l.length+k) i then
     if k=0 then some (.sl b 0 l.length ar (l.length * ar),σ,[b])
     else some (.sl b 0 (l.length+k) ar (l.length * ar),σ.set b (.cells (put z (l.length * ar) new)),[b])
    else none:=by
   simp only[aR,dS u h,dS u K];rfl
  rw[this,hm.1,aE,hm.2,aE,gG F G,aE,if_pos ⟨rfl,rfl,rfl,j⟩]
 intro e u;by_cases A:m.length=0
 ·rw[y e u,if_pos A];have:m=[]:=PM A;subst this;have E:σ.set b (OB f (l++[]))=σ:=by
   rw[Kp];apply Qg
   grind
  simp_all
 grind
theorem WW{x y:aG}{b lo len:Nat}{l m:List α}(i:∀a,(f a).length=ar)(h:lx al x=some (.sl b (0+lo * ar) len ar (l.length * ar)))(p:σ[b]? = some (OB f l))(j:lo+len<=l.length)(r:lx al y=some d)(hm:Vx σ f ar d m)(hs:σ.set b (OB f (Yz l m lo len))=σ1) :
  dL P orc n al σ (.copy ar x y) (I ((m.take len).length:Int)) σ1 [b]:=λe o=>by
 subst hs;have s:min m.length len=(m.take len).length:=by grind
 have u:m.take (min m.length len)=m.take len:=by simp_all
 have v:0+lo * ar+len * ar<=l.length * ar:=by
  have:=Ce ar j
  grind
 have z:put ((l.flatMap f).map D.c) (0+lo * ar) (((m.take len).flatMap f).map D.c)=((Yz l m lo len).flatMap f).map D.c:=by simp only[put,Yz,<-yBU,<-List.map_drop,ql,Rb i,List.flatMap_append,Ic,GA,OR i];rw[<-Jm,Pd i]
 simp only[aR,dS o h,dS o r,gG i p,hm.1,Option.bind_eq_bind,Option.bind_some,Option.map_some,hm.2 _ (Nat.min_le_left m.length len)]
 grind
theorem LN{x i:aG}{b m:Nat}{k:Int}{l:List α}{a:α}(p:∀a,(f a).length=ar)(h:lx al x=some (OS ar b m))(r:σ[b]? = some (OB f l))(j:l.length=m)(s:lx al i=some (I k))(o:aB l k=some a) :
  dL P orc n al σ (.idx ar none x i) (.ptr b (k.toNat * ar) (m * ar)) σ []:=λe u=>by
 subst j;obtain ⟨v,y,z⟩:=mH o;have A:yX k l.length=some k.toNat:=by unfold yX;simp_all
 grind [aR,qI,dS,gG]
theorem Uz{l:List α}{k:Int}{a:α}(b:aB l k=some a):l[k.toNat]? = some a:=(mH b).2.2
theorem CR(j:∀a,(f a).length=ar){l:List α}{i o:Nat}{a:α}{m:Option Nat}(p:l[i]? = some a)(h:rD m ((f a).map .c) o=some d):rD m ((l.flatMap f).map .c) (i * ar+o)=some d:=by
 have r:=Xs j l i a p;have b:(i+1) * ar<=(l.flatMap f).length:=by grind
 rw[Jm,Nat.one_mul] at b;cases m with
 |none=>
  simp only[rD,gP,bU] at h ⊢
  grind
 |some m=>
  simp only[rD] at h ⊢;split at h
  ·rename_i s;simp only[ql,j] at s;rw[if_pos (by grind)]
   grind [List.map_drop,List.map_take,List.drop_take,List.drop_drop]
  simp_all
theorem TK{m:Option Nat}{x:aG}{b p q o i:Nat}{l:List α}{a:α}(j:∀a,(f a).length=ar)(h:lx al x=some (.ptr b p (q * ar)))(r:p=i * ar+o)(s:σ[b]? = some (OB f l))(u:l.length=q)(v:l[i]? = some a)
  (y:rD m ((f a).map .c) o=some d):dL P orc n al σ (.load m x) d σ []:=by
 subst u r;exact pf h (gG j s) (CR j v y)
theorem Sn(j:∀a,(f a).length=ar){xs:List C}:∀(l:List α)(i o:Nat)(a b:α),l[i]? = some a->o+xs.length<=ar->f b=(f a).take o++xs++(f a).drop (o+xs.length) ->
  (l.flatMap f).take (i * ar+o)++xs++(l.flatMap f).drop (i * ar+o+xs.length)=(l.set i b).flatMap f:=by
 intro l;induction l with
 |nil=>simp_all
 |cons x l ih=>
  intro i o a b h m p;cases i with
  |zero=>grind
  |succ i=>
   simp only[List.getElem?_cons_succ] at h;have u:=j x;have r:(i+1) * ar+o=(f x).length+(i * ar+o):=by grind
   simp only[VZ,List.set_cons_succ];rw[<-ih i o a b h m p,r,List.take_append,Yd (by omega)];have s:(f x).length+(i * ar+o)+xs.length=(f x).length+(i * ar+o+xs.length):=by omega
   rw[s,xAi,yB1 (by omega),xAf,yBJ,yBJ];simp
theorem QC{m:Nat}{x y:aG}{b p q o i:Nat}{l:List α}{a j:α}{xs:List C}(v:∀a,(f a).length=ar)(h:lx al x=some (.ptr b p (q * ar)))(E:p=i * ar+o)(F:σ[b]? = some (OB f l))(G:l.length=q)(z:l[i]? = some a)
  (K:lx al y=some d) (L:d.cells? = some (xs.map .c)) (hm:xs.length=m) (N:Nat.ble (o+m) ar=true) (O:f j=(f a).take o++xs++(f a).drop (o+xs.length)) {A:List α} (r:l.set i j=A) (hs:σ.set b (OB f A)=σ1) :
  dL P orc n al σ (.store m x y) (.aI []) σ1 [b]:=by
 subst G E r hs hm;have s:o+xs.length<=ar:=zE N;have R:=(d_.1 z).1;have u:(i+1) * ar<=l.length * ar:=Ce _ R;rw[Jm,Nat.one_mul] at u;refine AU h (gG v F) K L ⟨by simp,by omega⟩ ?_;congr 2;rw[<-Sn v l i o a j z s O];simp[put]
theorem iw{len:Nat}{z cs:List D}{ps:List (Nat×Nat×aG)}{l:List α}(h:yP al (qJ len z) ps=some cs)(b:cs=(l.flatMap f).map .c)(i:l.length=len)(j:∀a,(f a).length=ar)(m:OS σ.length ar len=OS σ.length ar len)(hd:OS ar σ.length len=d1)(hs:σ++[OB f l]=σ1) :
  dL P orc n al σ (.ic ar len z ps) d1 σ1 []:=by
 grind [DZ,Rb]
theorem Qd{z:α}:∀(k:Nat),qJ k ((f z).map .c)=((List.replicate k z).flatMap f).map .c:=by
 intro k;induction k with
 |zero=>rfl
 |succ k ih=>grind [qJ]
def FU{α:Type}(z:α)(l c:Int):Option (List α):=if 0<=l/\l<=c/\c<=1000000 then some (List.replicate l.toNat z) else none
def mk0?{α:Type}(c:Int):Option (List α):=if 0<=c/\c<=1000000 then some [] else none
theorem op_mk0{a:Nat}{zs:List D}{x y:aG}{c:Int}{l:List α}(m:lx al x=some (I 0))(o:lx al y=some (I c))(hm:mk0? c=some l)(i:Nat.ble a 1000=true)
  (hd:OS ar σ.length l.length=d1) (hs:σ++[OB f l]=σ1):dL P orc n al σ (.mk ar a zs x y) d1 σ1 []:=λe j=>by
 subst hd hs;unfold mk0? at hm;split at hm
 ·rename_i r;simp only[aj] at hm;subst hm;have h:a<=1000:=zE i;have b:Ck c.toNat a=true:=by
   have p:c.toNat<=1000000:=by omega
   have:c.toNat * a<=1000000 * 1000:=yCm p h;simp only[Ck,bp,aQ];omega
  simp only[aR,dS j m,dS j o,qI,Option.bind_eq_bind,Option.bind_some];rw[if_pos ⟨by omega,by omega,b⟩];simp[OS,OB,qJ]
 simp_all
theorem op_mk{a:Nat}{zs:List D}{x y:aG}{k c:Int}{z:α}{l:List α}(o:lx al x=some (I k))(p:lx al y=some (I c))(r:zs=(f z).map .c)(hm:FU z k c=some l)(i:Nat.ble a 1000=true)
  (hd:OS ar σ.length l.length=d1) (hs:σ++[OB f l]=σ1):dL P orc n al σ (.mk ar a zs x y) d1 σ1 []:=λe j=>by
 subst hd hs r;unfold FU at hm;split at hm
 ·rename_i m;simp only[aj] at hm;subst hm;have h:a<=1000:=zE i;have b:Ck c.toNat a=true:=by
   have s:c.toNat<=1000000:=by omega
   have:c.toNat * a<=1000000 * 1000:=yCm s h;simp only[Ck,bp,aQ];omega
  simp only[aR,dS j o,dS j p,qI,Option.bind_eq_bind,Option.bind_some];rw[if_pos ⟨m.1,m.2.1,b⟩,Qd];simp[OS]
 simp_all
def slice?{α:Type}(l:List α)(lo a:Int):Option (List α):=if 0<=lo/\lo<=a/\a<=l.length then some ((l.take a.toNat).drop lo.toNat) else none
theorem op_slc{x:aG}{lo p:Option aG}{nn:Bool}{l r:List α}{i j:Int}(z:∀a,(f a).length=ar)(h:lx al x=some (.c (.ca nn (l.map f))))(b:(match lo with | none=>some (I 0) | some o=>lx al o)=some (I i))
  (m:(match p with | none=>some (I l.length) | some o=>lx al o)=some (I j)) (s:slice? l i j=some r):dL P orc n al σ (.Rq ar x lo p) (.c (.ca nn (r.map f))) σ []:=λe u=>by
 unfold slice? at s;split at s
 ·rename_i A;simp only[aj] at s;subst s;have v:lX e (l.map f).length (l.map f).length p=some j.toNat:=by
   cases p with
   |none=>simp only[aj,I,D.c.injEq,C.lit.injEq,Value.int.injEq,true_and] at m;grind [lX]
   |some o=>
    simp only at m;simp only[lX,dS u m,qI,Option.bind_some,Nj]
    grind
  have y:lX e 0 j.toNat lo=some i.toNat:=by
   cases lo with
   |none=>simp only[aj,I,D.c.injEq,C.lit.injEq,Value.int.injEq,true_and] at b;grind [lX]
   |some o=>
    simp only at b;simp only[lX,dS u b,qI,Option.bind_some,Nj]
    grind
  simp only[aR,dS u h,v,y,Option.bind_eq_bind,Option.bind_some]
  simp_all
 simp_all
end
end Go.Abs
namespace Go.Abs
variable[Gl]
end Go.Abs
namespace Go.Abs
variable[Gl]
theorem Tf{m:Nat}:∀(l:List C),D.low.cq m (l.map D.c)=true:=by
 intro l;induction l with
 |nil=>rfl
 |cons x l ih=>grind [D.low.cq,D.low]
end Go.Abs
end
section
namespace Go.Abs
variable[Gl]
def bK(P:Program)(orc:fA)(k:Nat)(os:List aD)(n:Nat)(al:AL)(σ:ae)(Q:AL->ae->List dz->Prop):Prop:=
 ∃al' σ' is,Gz P orc k os n al σ al' σ' is/\Q al' σ' is
section
variable{P:Program}{orc:fA}{n k:Nat}{al al1:AL}{σ σ1:ae}{w:List Nat}{d:D}{os:List aD}{t:Nat}{ao:jB}{g:Option (Nat×Bool)}{Q:AL->ae->List dz->Prop}
theorem bK.nil(h:Q al σ []):bK P orc k [] n al σ Q:=⟨al,σ,[],Gz.nil,h⟩
theorem bK.op(h:dL P (orc (some t)) n al σ ao d σ1 w)(i:Gd al g true)(hs:(Nat.blt t n&&CU al ao&&(k == 0 || jm σ σ1 w))=true)
  (r:bK P orc (k-1) os n ((t,d)::al) σ1 λal' σ' is=>Q al' σ' (CB ⟨some t,ao,g⟩ (cat ao) (vz al ao) w σ.length σ1.length::is)):bK P orc k (⟨some t,ao,g⟩::os) n al σ Q:=by
 obtain ⟨al',σ',is,j,o⟩:=r;exact ⟨al',σ',_,Gz.op h i hs j,o⟩
theorem bK.eff(h:dL P (orc none) n al σ ao d σ1 w)(i:Gd al g true)(hs:(CU al ao&&(k == 0 || jm σ σ1 w))=true)
  (r:bK P orc (k-1) os n al σ1 λal' σ' is=>Q al' σ' (CB ⟨none,ao,g⟩ (cat ao) (vz al ao) w σ.length σ1.length::is)):bK P orc k (⟨none,ao,g⟩::os) n al σ Q:=by
 obtain ⟨al',σ',is,j,o⟩:=r;exact ⟨al',σ',_,Gz.eff h i hs j,o⟩
theorem bK.no(i:Gd al g false)(hs:(Nat.blt t n&&CU al ao)=true)
  (r:bK P orc (k-1) os n ((t,.aI [])::al) σ λal' σ' is=>Q al' σ' (CB ⟨some t,ao,g⟩ 0 (vz al ao) [] σ.length σ.length::is)):bK P orc k (⟨some t,ao,g⟩::os) n al σ Q:=by
 obtain ⟨al',σ',is,j,o⟩:=r;exact ⟨al',σ',_,Gz.no i hs j,o⟩
theorem Sem.oB{Q:kT->AL->ae->Prop}(i:P.follows .mixedOrders=true)(O:lP P orc)(h:bK P orc 0 os n al σ λal' σ' _=>Q .normal al' σ'):Sem P (.zI os) n al σ Q:=by
 obtain ⟨al',σ',is,j,o⟩:=h
 grind [Sem.zI]
theorem Sem.drwQ{Q:kT->AL->ae->Prop}{i:List Nat}{p:Nat}(j:P.follows .mixedOrders=true)(O:lP P orc)
  (h:bK P orc k os n al σ λal' σ' is=>(dQ i is&&mS i p k os.length&&Nat.ble p k)=true/\Q .normal al' σ'):Sem P (.D_ os i k p) n al σ Q:=by
 obtain ⟨al',σ',is,o,s,u⟩:=h
 grind [Sem.D_]
theorem Sem.drwNQ{Q:kT->AL->ae->Prop}{i:List Nat}{p:Nat}(j:P.follows .mixedOrders=true)(O:lP P orc)
  (h:bK P orc os.length os n al σ λal' σ' is=>(dQ i is&&mS i p os.length os.length&&Nat.ble p os.length)=true/\Q .normal al' σ'):Sem P (.D_ os i k p) n al σ Q:=by
 obtain ⟨al',σ',is,o,s,u⟩:=h
 grind [Sem.drwN]
def shut(n:Nat)(al:AL)(o:aD):Option Nat:=
 match o.g,o.dst with
 |some (t, want), some s=>
  match lk t al with
  |some (.c (.lit (.bool b)))=>if (b != want)&&(Nat.blt s n&&CU al o.op) then some s else none
  |some (.aI [])=>if Nat.blt s n&&CU al o.op then some s else none
  |_=>none
 |_,_=>none
end
end Go.Abs
end
section
namespace Go.Abs
variable[Gl]
def cY{α:Type}:List (Int×α)->Int->Option α
 |[],_=>none
 |(b,a)::l,k=>if b=k then some a else cY l k
def lV{α:Type}:List (Int×α)->Int->α->List (Int×α)
 |[],k,a=>[(k,a)]
 |(b,h)::l,k,a=>if b=k then (b,a)::l else (b,h)::lV l k a
def CG{α:Type}:List (Int×α)->Int->Nat
 |[],_=>0
 |(a,_)::l,k=>if a=k then 0 else CG l k+1
def wz{α:Type}(g:α->D):Nat->List (Int×α)->List (Value×D×Nat)
 |_,[]=>[]
 |i,(k,a)::l=>(.int .i64 k,g a,i)::wz g (i+1) l
abbrev MB{α:Type}(g:α->D)(l:List (Int×α)):Ob:=.map (wz g 0 l) l.length
def oel{α b:Type}(o:Option α)(n:b)(s:α->b):b:=match o with | none=>n | some a=>s a
section
variable{α:Type}
theorem wx{m:IntKind}{g:α->D}{k:Int}:∀(l:List (Int×α))(i j:Nat),pJ (.int m) (.int .i64 k) (wz g i l) j=some ((cY l k).map λa=>(j+CG l k,g a)):=by
 intro l;induction l with
 |nil=>intro i j;rfl
 |cons x l ih=>
  intro i j;obtain ⟨b,a⟩:=x;simp only[wz,pJ,Instr.sameNow,if_true];by_cases h:b=k
  ·grind [cY,CG]
  ·have o:(k == b)=false:=by grind
   simp only[o,ih,cY,CG,if_neg h]
   grind
theorem QU{g:α->D}{k:Int}{a:α}:∀(l:List (Int×α))(i:Nat)(b:α),cY l k=some b->(wz g i l).modify (CG l k) (λp=>(p.1,g a,p.2.2))=wz g i (lV l k a)/\(lV l k a).length=l.length:=by
 intro l;induction l with
 |nil=>grind [cY]
 |cons x l ih=>
  intro i b h;obtain ⟨j,m⟩:=x;by_cases hk:j=k
  ·grind [CG,lV,wz]
  ·simp only[cY,if_neg hk] at h;obtain ⟨o,r⟩:=ih (i+1) b h
   grind [CG,lV,wz]
theorem PP{g:α->D}{k:Int}{a:α}:∀(l:List (Int×α))(i:Nat),cY l k=none->wz g i l++[(.int .i64 k,g a,i+l.length)]=wz g i (lV l k a)/\(lV l k a).length=l.length+1:=by
 intro l;induction l with
 |nil=>grind [lV,wz]
 |cons x l ih=>
  intro i h;obtain ⟨b,j⟩:=x;by_cases hk:b=k
  ·grind [cY]
  ·simp only[cY,if_neg hk] at h;obtain ⟨m,o⟩:=ih (i+1) h;refine ⟨?_,by grind [lV]⟩;simp only[lV,if_neg hk,wz,List.cons_append,List.length_cons]
   grind
end
section
variable{P:Program}{orc:ta}{n:Nat}{al:AL}{σ σ1:ae}{d d1 d2:D}{α:Type}
theorem Uk{g:α->D}(hd:D.mp σ.length=d)(hs:σ++[MB g ([]:List (Int×α))]=σ1):dL P orc n al σ .rT d σ1 []:=λe a=>by subst hd hs;rfl
theorem Zp{i:IntKind}{zero:D}{m k:aG}{b:Nat}{g:α->D}{l:List (Int×α)}{x:Int}{ok:Bool}{a:α}(hm:lx al m=some (.mp b))(j:σ[b]? = some (MB g l))(hk:lx al k=some (I x))(o:cY l x=some a)(hd:(if ok then .aI [g a,B true] else g a)=d) :
  dL P orc n al σ (.lookup (.int i) zero m k ok) d σ []:=λe h=>by
 subst hd;simp only[aR,dS h hm,dS h hk,fF,Ev,j,Option.bind_eq_bind,Option.bind_some,wx,o,Option.map_some,Hb]
theorem Vi{h:IntKind}{zero:D}{m k:aG}{b:Nat}{g:α->D}{l:List (Int×α)}{x:Int}{ok:Bool}(hm:lx al m=some (.mp b))(i:σ[b]? = some (MB g l))(hk:lx al k=some (I x))(j:cY l x=none)(hd:(if ok then .aI [zero,B false] else zero)=d) :
  dL P orc n al σ (.lookup (.int h) zero m k ok) d σ []:=λe a=>by
 subst hd;simp only[aR,dS a hm,dS a hk,fF,Ev,i,Option.bind_eq_bind,Option.bind_some,wx,j,Option.map_none,Hb]
theorem op_upd{o:IntKind}{m k x:aG}{b:Nat}{g:α->D}{l:List (Int×α)}{i:Int}{a:α}(hm:lx al m=some (.mp b))(p:σ[b]? = some (MB g l))(hk:lx al k=some (I i))(r:lx al x=some (g a))(hs:σ.set b (MB g (lV l i a))=σ1) :
  dL P orc n al σ (.qp (.int o) m k x) (.aI []) σ1 [b]:=λe h=>by
 subst hs;simp only[aR,dS h hm,dS h hk,fF,p,Option.bind_eq_bind,Option.bind_some,wx,dS h r];cases j:cY l i with
 |some s=>
  obtain ⟨u,v⟩:=QU (g:=g) (a:=a) l 0 s j
  grind
 |none=>
  obtain ⟨u,v⟩:=PP (g:=g) (a:=a) l 0 j
  grind
def BK{α:Type}:List (Int×α)->Int->List (Int×α)
 |[],_=>[]
 |(b,a)::l,k=>if b=k then l else (b,a)::BK l k
theorem DG{α:Type}{k:Int}:∀(l:List (Int×α)),cY l k=none->BK l k=l
 |[],_=>rfl
 |(b, a) :: l, h => by
  by_cases hk:b=k
  ·grind [cY]
  ·simp only[cY,if_neg hk] at h;simp only[BK,if_neg hk,DG l h]
theorem JN{α:Type}{g:α->D}:∀(l:List (Int×α))(i j:Nat),lC j (wz g i l)=wz g j l
 |[],_,_=>rfl
 |(k,a)::l,i,j=>by simp only[wz,lC,JN l]
theorem DA{α:Type}{g:α->D}{k:Int}:∀(l:List (Int×α))(i j:Nat)(b:α),cY l k=some b->lC j ((wz g i l).eraseIdx (CG l k))=wz g j (BK l k)/\(BK l k).length=l.length-1
 |[],_,_,_,h=>by grind [cY]
 |(m, a) :: l, i, j, b, h => by
  by_cases hk:m=k
  ·grind [CG,BK,wz,JN]
  ·simp only[cY,if_neg hk] at h;obtain ⟨o,p⟩:=DA l (i+1) (j+1) b h;have r:0<l.length:=by
    grind [cY]
   simp only[CG,BK,hk,wz,bT,List.eraseIdx_cons_succ,lC,List.length_cons];exact ⟨by rw[o],by omega⟩
theorem op_del{h:IntKind}{m k:aG}{b:Nat}{g:α->D}{l:List (Int×α)}{i:Int}(hm:lx al m=some (.mp b))(j:σ[b]? = some (MB g l))(hk:lx al k=some (I i))(hs:σ.set b (MB g (BK l i))=σ1) :
  dL P orc n al σ (.del (.int h) m k) (.aI []) σ1 [b]:=λe a=>by
 subst hs;simp only[aR,dS a hm,dS a hk,fF,j,Option.bind_eq_bind,Option.bind_some,wx];cases o:cY l i with
 |some p=>
  obtain ⟨r,s⟩:=DA (g:=g) l 0 0 p o
  grind
 |none=>grind [DG]
theorem Oe{f:Fn}{first cap:List aG}{a b:List D}(h:Rp al first=some a)(i:Rp al cap=some b):dL P orc n al σ (.Cg f first cap) (.fn f a b) σ []:=λe j=>by grind [aR,Fu]
theorem IR{g:FuncId}{f:aG}{args:List aG}{ds a b:List D}{w:List Nat}(h:lx al f=some (.fn (.func g) a b))(i:Rp al args=some ds)(j:orc g (a++ds++b) σ=some (d,σ1,w)):dL P orc n al σ (.call f args) d σ1 w:=λe l=>by grind [aR,dS,Fu]
theorem Ux{g:FuncId}{f:aG}{args:List aG}{ds:List D}{a b:List C}{w:List Nat}(h:lx al f=some (.c (.fn (.func g) a b)))(i:Rp al args=some ds)(j:orc g (a.map .c++ds++b.map .c) σ=some (d,σ1,w)):dL P orc n al σ (.call f args) d σ1 w:=λe l=>by grind [aR,dS,Fu]
theorem WE{ar j b off len sz:Nat}{x i:aG}{k:Int}{cs:List D}(h:lx al x=some (.sl b off len ar sz))(l:lx al i=some (I k))(m:lu σ b sz=some cs)(hk:yX k len=some j)(hd:D.ptr b (off+j * ar) sz=d) :
  dL P orc n al σ (.idx ar none x i) d σ []:=λe a=>by
 subst hd;simp only[aR,dS a h,dS a l,qI,Option.bind_eq_bind,Option.bind_some,m,hk,if_true]
theorem XI{b off len ar sz:Nat}{x:aG}{cs:List D}(h:lx al x=some (.sl b off len ar sz))(a:lu σ b sz=some cs)(hd:I len=d):dL P orc n al σ (.len x) d σ []:=λe i=>by grind [aR,Dt,dS]
theorem O_{x:aG}{cs:List C}{off:Nat}(h:lx al x=some (.c (.bZ cs off))):dL P orc n al σ (.kQ x) (.c (.bZ cs off)) σ []:=λe a=>by grind [aR,dS]
theorem OT{x:aG}{f:FuncId}{a b:List C}(h:lx al x=some (.c (.fn (.func f) a b))):dL P orc n al σ (.kQ x) (.c (.fn (.func f) a b)) σ []:=λe i=>by grind [aR,dS]
theorem DL{x:aG}{f:FuncId}{a b:List D}(h:lx al x=some (.fn (.func f) a b)):dL P orc n al σ (.kQ x) (.fn (.func f) a b) σ []:=λe i=>by grind [aR,dS]
end
section
variable{P:Program}{orc:ta}{n:Nat}{al:AL}{σ σ1:ae}{d d1 d2:D}{α:Type}{f:α->List C}{ar:Nat}
theorem Al{a:Nat}{s x:aG}{m:List α}(h:lx al s=some (.c (.lit (.slice none 0 0))))(p:lx al x=some d)(hm:Src σ f ar d m)(r:Nat.ble m.length 1000000=true)
  (l:Nat.ble a 1000=true) (hd:OS ar σ.length m.length=d1) (hs:σ++[OB f m]=σ1):dL P orc n al σ (.append ar a s x) d1 σ1 []:=by
 subst hd hs;have i:a<=1000:=zE l;have j:m.length<=1000000:=zE r;have b:Ck m.length a=true:=by have:m.length * a<=1000000 * 1000:=yCm j i;simp only[Ck,bp,aQ];omega
 intro e o;have:aR P orc (.append ar a s x) e σ=(Dt σ d).bind λk=>(RU σ ar k d).bind λnew=>if Ck k a then some (.sl σ.length 0 k ar (k * ar),σ++[.cells new],[]) else none:=by simp only[aR,dS o h,dS o p];rfl
 rw[this,hm.1,aE,hm.2,aE,if_pos b]
end
def LW:Nat->C->C
 |n+1,.ca _ es=>.ca false (es.map λe=>e.map (LW n))
 |_+1,.lit (.slice none 0 0)=>.ca false []
 |_,x=>x
theorem Nc{Fz:Nat->Prop}{w:World}:∀(n:Nat){x:C}{v:Value},VC Fz w x v->VC Fz w (LW n x) v:=by
 intro n;induction n with
 |zero=>intro x v h;exact h
 |succ n ih=>
  intro x v h;by_cases z:x=.lit (.slice none 0 0)
  ·subst z;cases h;exact .ca (es:=[]) 0 none 0 (by simp) (λ_=>rfl) (λ_ _=>undef) (by simp) (by simp) (by simp) (by simp)
  cases h with
  | @ca nn es ar a cap A E c F u y l=>
   have h:=VC.ca (Fz:=Fz) (w:=w) (nn:=false) (es:=es.map λe=>e.map (LW n)) ar a cap (by simp) E c (λe O=>?_) (by simp_all) (λi j e d m p=>?_) (λi j e d m p=>?_)
   ·rw[ql] at h;exact h
   ·grind
   ·grind
   grind
  |lit v=>
   have:LW (n+1) (.lit v)=.lit v:=by
    unfold LW
    simp_all
   rw[this];exact .lit v
  |bZ blk o c r y l=>exact .bZ blk o c r y l
  |fn G K m p l L=>exact .fn G K m p l L
  |Ib blk b s r N hs hk l=>exact .Ib blk b s r N hs hk l
  |Rr g=>exact .Rr g
def nrmY:D->D
 |.c x=>.c (LW 5 x)
 |.agg ds=>.agg (ds.map λd=>match d with | .c x=>.c (LW 5 x) | d=>d)
 |d=>d
theorem BC.YK{d j:D}(h:nrmY d=j):BC d j:=by
 subst h;intro σ M Fz w v h;unfold nrmY;split
 ·cases h with | c h=>exact .c (Nc 5 h)
 ·cases h with
  |agg o z s=>
   refine .agg o (by simp_all) (λi d v a b=>?_);simp only[gP,bU] at a;obtain ⟨u,x,rfl⟩:=a;have:=s i u v x b;split
   ·cases this with | c h=>exact .c (Nc 5 h)
   omega
 omega
def ObFz(S F:D):Ob->Ob->Prop
 |.map es c,.map b l=>c=l/\b.length=es.length/\∀(i:Nat) k a n,b[i]? = some (k,a,n)->∃d,es[i]? = some (k,d,n)/\(a=d∨d=S/\a=F)
 |.cells j,.cells h=>h.length=j.length/\∀(i:Nat) a,h[i]? = some a->∃d,j[i]? = some d/\(a=d∨d=S/\a=F)
 |_,_=>False
theorem ObFz.sz{S F:D}{ob ob':Ob}(h:ObFz S F ob ob'):ob'.sz=ob.sz:=by
 cases ob <;> cases ob' <;> simp only[ObFz] at h
 ·exact h.1
 ·rfl
section
variable{P:Program}{σ σ0 σ1:ae}{n:Nat}{al:AL}{ac:aH}{Q:kT->AL->ae->Prop}{α:Type}{f:α->List C}{ar:Nat}
end
end Go.Abs
end
section
namespace Go.Fl
open Ieee
theorem log2_lt{n k:Nat}(a:n≠0)(h:n<2 ^ k):n.log2<k:=(Nat.log2_lt a).2 h
theorem N_{n:Nat}(a:n≠0):2 ^ n.log2<=n:=Nat.log2_self_le a
theorem NE(n:Nat):n<2 ^ (n.log2+1):=Nat.lt_log2_self
theorem lp:double.leastPlace=-1074:=by decide
def can(s:Bool)(n:Nat):Datum:=if n=0 then .number s 0 (-1074) else .number s (n * 2 ^ (52-n.log2)) ((n.log2:Int)-52)
theorem Bq(a:Toward)(s:Bool)(n:Nat):a.cut s n 0=n:=by
 unfold Toward.cut;have h:1 <<< min 0 (n.log2+2)=1:=by simp_all
 have b:n % 1=0:=Nat.mod_one n;simp only[h,Nat.div_one,b];cases a <;> simp
theorem Qw{s:Bool}{n d m:Nat}(hd:d<=n.log2+2)(h:n=m * 2 ^ d):Toward.even.cut s n d=m:=by
 unfold Toward.cut;have a:1 <<< min d (n.log2+2)=2 ^ d:=by rw[Nat.min_eq_left hd,Nat.one_shiftLeft]
 have b:0<2 ^ d:=Nat.pow_pos (by decide)
 simp_all
theorem wQ{m d:Nat}(h:m≠0):(m * 2 ^ d).log2=m.log2+d:=by
 have b:=N_ h;have i:=NE m;have a:m * 2 ^ d≠0:=by grind [Nat.mul_ne_zero]
 apply Nat.le_antisymm
 ·have:m * 2 ^ d<2 ^ (m.log2+d+1):=by
   rw[show m.log2+d+1=(m.log2+1)+d by omega,yCi];exact yBN i (Nat.pow_pos (by decide))
  have:=log2_lt a this;omega
 ·have:2 ^ (m.log2+d)<=m * 2 ^ d:=by
   rw[yCi];exact Ce _ b
  exact (Nat.le_log2 a).2 this
theorem PJ{s:Bool}{n k:Nat}(a:n≠0)(h:n<2 ^ 53):double.nearest s (n * 2 ^ k) (-(k:Int))=double.nearest s n 0:=by
 have o:=log2_lt a h;have e:(n * 2 ^ k).log2=n.log2+k:=wQ a;have j:n * 2 ^ k≠0:=Nat.mul_ne_zero a (by simp_all);have fb:double.fractionBits=52:=rfl;have l:max (-(k:Int)+((n * 2 ^ k).log2:Nat)-((52:Nat):Int)) (-1074)=(n.log2:Int)-52:=by omega
 have m:max ((0:Int)+(n.log2:Nat)-((52:Nat):Int)) (-1074)=(n.log2:Int)-52:=by omega
 have p:Toward.even.cut s ((n * 2 ^ k) <<< (-(k:Int)-((n.log2:Int)-52)).toNat) (((n.log2:Int)-52) - -(k:Int)).toNat=n * 2 ^ (52-n.log2):=by
  by_cases hk:k+n.log2<=52
  ·have b:(-(k:Int)-((n.log2:Int)-52)).toNat=52-n.log2-k:=by omega
   have i:(((n.log2:Int)-52) - -(k:Int)).toNat=0:=by omega
   rw[b,i,Bq,Nat.shiftLeft_eq,Nat.mul_assoc,<-yCi]
   grind
  ·have b:(-(k:Int)-((n.log2:Int)-52)).toNat=0:=by omega
   have i:(((n.log2:Int)-52) - -(k:Int)).toNat=k+n.log2-52:=by omega
   rw[b,i,Nat.shiftLeft_zero];refine Qw (by omega) ?_;rw[Nat.mul_assoc,<-yCi]
   grind
 have r:Toward.even.cut s (n <<< ((0:Int)-((n.log2:Int)-52)).toNat) (((n.log2:Int)-52)-0).toNat=n * 2 ^ (52-n.log2):=by
  have b:((0:Int)-((n.log2:Int)-52)).toNat=52-n.log2:=by omega
  have i:(((n.log2:Int)-52)-0).toNat=0:=by omega
  grind [Bq,Nat.shiftLeft_eq]
 unfold Format.nearest;rw[if_neg j,if_neg a]
 grind [lp]
theorem Qj{s:Bool}{n:Nat}(h:n<2 ^ 53):double.read (double.nearest s n 0)=can s n:=by
 by_cases b:n=0
 ·subst b;cases s <;> rfl
 have p:=log2_lt b h;have r:=N_ b;have u:=NE n;have fb:double.fractionBits=52:=rfl;have a:max ((0:Int)+(n.log2:Nat)-((52:Nat):Int)) (-1074)=(n.log2:Int)-52:=by omega
 have i:Toward.even.cut s (n <<< ((0:Int)-((n.log2:Int)-52)).toNat) (((n.log2:Int)-52)-0).toNat=n * 2 ^ (52-n.log2):=by
  have G:((0:Int)-((n.log2:Int)-52)).toNat=52-n.log2:=by omega
  have N:(((n.log2:Int)-52)-0).toNat=0:=by omega
  grind [Bq,Nat.shiftLeft_eq]
 have v:4503599627370496<=n * 2 ^ (52-n.log2):=by have:2 ^ n.log2 * 2 ^ (52-n.log2)<=n * 2 ^ (52-n.log2):=Ce _ r;rw[<-yCi,show n.log2+(52-n.log2)=52 by omega] at this;omega
 have x:n * 2 ^ (52-n.log2)<9007199254740992:=by have:n * 2 ^ (52-n.log2)<2 ^ (n.log2+1) * 2 ^ (52-n.log2):=yBN u (Nat.pow_pos (by decide));rw[<-yCi,show n.log2+1+(52-n.log2)=53 by omega] at this;omega
 have m:double.infRung=9218868437227405312:=by decide
 have y:double.signWeight=9223372036854775808:=by decide
 have o:double.binade=4503599627370496:=by decide
 unfold can;rw[if_neg b];generalize n * 2 ^ (52-n.log2)=K at i v x ⊢;generalize z:n.log2=L at i a p ⊢;have A:double.nearest s n 0=double.word s ((L+1022) * 4503599627370496+K):=by
  unfold Format.nearest;rw[if_neg b];simp only[fb,lp,z,a,i,m,o];have E:(((L:Int)-52) - -1074).toNat=L+1022:=by omega
  rw[E,Nat.min_eq_left (by omega)]
 rw[A];generalize O:(L+1022) * 4503599627370496+K=R;have F:R<9223372036854775808:=by omega
 have j:(double.word s R / double.signWeight % 2 == 1)=s:=by
  unfold Format.word;rw[y];cases s
  ·grind
  ·rw[if_pos rfl,Nat.add_div_left _ (by decide),Nat.div_eq_of_lt F];rfl
 have l:double.word s R % double.signWeight=R:=by
  unfold Format.word
  grind
 unfold Format.read;simp only[j,l,o,m,lp]
 grind
theorem Tg(s:Bool)(k:Nat):Datum.number s (0 * 2 ^ k) (-(k:Int))=Datum.number s 0 (-(k:Int)):=by simp_all
theorem lc(s:Bool){n:Nat}(h:n<2 ^ 53):∃k:Nat,can s n=.number s (n * 2 ^ k) (-(k:Int)):=by
 unfold can;split
 ·rename_i e;subst e;exact ⟨1074,(Tg s 1074).symm⟩
 ·rename_i a;have:=log2_lt a h
  grind
theorem MC(s:Bool){n:Nat}(k:Nat)(h:n<2 ^ 53):double.nearest s (n * 2 ^ k) (-(k:Int))=double.nearest s n 0:=by
 by_cases a:n=0
 ·subst a;rw[yCc];unfold Format.nearest
  simp_all
 grind [PJ]
def fl(n:Int):Nat:=FloatKind.f64.nearest n
theorem Tq(n:Int):fl n=double.nearest (decide (n<0)) n.natAbs 0:=rfl
theorem pa{n:Int}(h:n.natAbs<2 ^ 53):double.read (fl n)=can (decide (n<0)) n.natAbs:=Qj h
def sg(s:Bool)(n:Nat):Int:=if s then -(n:Int) else n
theorem Du(s:Bool)(n i m:Nat)(h:i<=m):signed s (n * 2 ^ i) (m-i)=sg s n * (2 ^ m:Nat):=by
 have e:(n * 2 ^ i) <<< (m-i)=n * 2 ^ m:=by rw[Nat.shiftLeft_eq,Nat.mul_assoc,<-yCi];simp_all
 unfold signed sg;rw[e]
 grind
theorem Sw(s t:Bool)(a b i j:Nat):Datum.sum (.number s (a * 2 ^ i) (-(i:Int))) (.number t (b * 2 ^ j) (-(j:Int))) =
  some (.number (if sg s a+sg t b=0 then s&&t else decide (sg s a+sg t b<0)) ((sg s a+sg t b).natAbs * 2 ^ (max i j)) (-((max i j:Nat):Int))):=by
 unfold Datum.sum;have p:min (-(i:Int)) (-(j:Int))=-((max i j:Nat):Int):=by omega
 have r:(-(i:Int) - -((max i j:Nat):Int)).toNat=max i j-i:=by omega
 have u:(-(j:Int) - -((max i j:Nat):Int)).toNat=max i j-j:=by omega
 simp only[p,r,u,Du s a i (max i j) (by omega),Du t b j (max i j) (by omega),<-Int.add_mul];have o:(0:Int)<((2 ^ max i j:Nat):Int):=by have:0<2 ^ max i j:=Nat.pow_pos (by decide);omega
 have z:((sg s a+sg t b) * ((2 ^ max i j:Nat):Int)=0)↔sg s a+sg t b=0:=by grind [Int.mul_eq_zero]
 have l:((sg s a+sg t b) * ((2 ^ max i j:Nat):Int)<0)↔sg s a+sg t b<0:=by
  constructor
  ·intro h;rcases ZH (sg s a+sg t b) 0 with m | m
   ·exact m
   ·have:=yBL m (Int.le_of_lt o);omega
  ·intro h;exact Int.mul_neg_of_neg_of_pos h o
 grind
theorem Mf(n:Int):sg (decide (n<0)) n.natAbs=n:=by
 unfold sg
 grind
theorem fl_add{a b:Int}(p:a.natAbs<2 ^ 52)(r:b.natAbs<2 ^ 52):double.add (fl a) (fl b)=some (fl (a+b)):=by
 have h:a.natAbs<2 ^ 53:=by omega
 have l:b.natAbs<2 ^ 53:=by omega
 obtain ⟨i,m⟩:=lc (decide (a<0)) h;obtain ⟨j,o⟩:=lc (decide (b<0)) l;unfold Format.add;rw[pa h,pa l,m,o,Sw,Mf,Mf];simp only[Option.map_some,Format.write];rw[MC _ _ (by omega),Tq]
 grind
theorem fl_sub{a b:Int}(p:a.natAbs<2 ^ 52)(r:b.natAbs<2 ^ 52):double.sub (fl a) (fl b)=some (fl (a-b)):=by
 have h:a.natAbs<2 ^ 53:=by omega
 have l:b.natAbs<2 ^ 53:=by omega
 obtain ⟨i,m⟩:=lc (decide (a<0)) h;obtain ⟨j,o⟩:=lc (decide (b<0)) l;have hs:sg (!decide (b<0)) b.natAbs=-b:=by
  unfold sg
  grind
 unfold Format.sub;rw[pa h,pa l,m,o];simp only[Datum.opposite];rw[Sw,Mf,hs];simp only[Option.map_some,Format.write];rw[MC _ _ (by omega),Tq,<-Int.sub_eq_add_neg]
 grind
theorem fl_mul{a b:Int}(v:0<=a)(x:0<=b)(l:a.natAbs<2 ^ 53)(o:b.natAbs<2 ^ 53)(h:(a * b).natAbs<2 ^ 53):double.mul (fl a) (fl b)=some (fl (a * b)):=by
 obtain ⟨i,p⟩:=lc (decide (a<0)) l;obtain ⟨j,r⟩:=lc (decide (b<0)) o;have s:decide (a<0)=false:=by simp_all
 have u:decide (b<0)=false:=by simp_all
 have y:decide (a * b<0)=false:=by grind [Int.mul_nonneg]
 unfold Format.mul;rw[pa l,pa o,p,r];simp only[Datum.product,s,u,Option.map_some,Format.write];have m:a.natAbs * 2 ^ i * (b.natAbs * 2 ^ j)=(a * b).natAbs * 2 ^ (i+j):=by grind
 grind [MC,Tq]
theorem fl_int{n:Int}(h:n.natAbs<2 ^ 53):(double.read (fl n)).toInt .zero=some n:=by
 obtain ⟨k,hk⟩:=lc (decide (n<0)) h;rw[pa h,hk];unfold Datum.toInt Datum.integral;have a:(-(k:Int)).toNat=0:=by omega
 have b:(- -(k:Int)).toNat=k:=by omega
 have c:Toward.zero.cut (decide (n<0)) (n.natAbs * 2 ^ k) k=n.natAbs:=by
  by_cases i:n.natAbs=0
  ·rw[i,yCc];unfold Toward.cut;simp
  ·unfold Toward.cut
   grind [wQ,Nat.one_shiftLeft,Nat.mul_div_cancel]
 simp only[a,b,Nat.shiftLeft_zero,c]
 grind [Ieee.signed]
end Go.Fl
end
section
namespace Go.Abs
variable[Gl]
def isC:D->Bool
 |.c _=>true
 |_=>false
section
variable{σ σ':ae}{M M':Nat->Option Nat}{Fz Fz':Nat->Prop}{w w':World}
theorem SN(ob:Ob):kz σ (σ++[ob]):=λb o h=>⟨o,by grind,rfl⟩
theorem Kz(R:Rel σ M Fz w){z:List D}{b:Nat}(hb:σ[b]? = some (.cells z))(hM:M b=none)(hz:z.all isC=true){A:Nat->Option Nat}{j:Nat->Prop}{w1:World}{v:Value}
  (N:Rel (σ++[.cells z]) A j w1) (hv:V (σ++[.cells z]) A j w1 (.ptr σ.length 0 z.length) v) (EV:ba σ M Fz w (σ++[.cells z]) A j w1) :
  ∃ O, Rel σ O j w1 /\ V σ O j w1 (.ptr b 0 z.length) v /\ (∀ x c, M x = some c -> O x = some c) /\ (∀ x, x ≠ b -> O x = M x) /\
   ∀(σ0:ae)(M0:Nat->Option Nat)(Fz0:Nat->Prop)(w0:World),ba σ0 M0 Fz0 w0 σ M Fz w->σ0.length<=σ.length->σ0.length<=b->ba σ0 M0 Fz0 w0 σ O j w1:=by
 have ak:=(d_.1 hb).1;have p:∀x,x<σ.length->A x=M x:=λx u=>by have S:σ[x]? = some σ[x]:=cT u;obtain ⟨U,r,_,F⟩:=EV.keep x _ S;rw[DK u,S] at r;simp only[aj] at r;exact F (by rw[<-r])
 have s:(σ++[Ob.cells z])[σ.length]? = some (.cells z):=by simp
 obtain ⟨G,a,l,ha,rfl⟩:∃G a,A σ.length=some G/\a=(⟨G,0,none⟩:Addr)/\v=.pointer (some a):=by
  cases hv with
  |ptr a W h an hv=>rw[s] at h;simp only[aj] at h;subst h;obtain ⟨c,r,m⟩:=hv (by simp[Ob.sz]);exact ⟨c,a,r,m,rfl⟩
 have Z:w.heap.size<=G:=by
  rcases EV.ja _ _ l with ⟨b0,h⟩ | h
  ·have X:=(R.lt h).1;have:=N.inj b0 σ.length G (by rw[p b0 X];exact h) l;omega
  ·exact h
 have e1:∀x c,(if x=b then A σ.length else M x)=some c->(x=b/\c=G)∨(x≠b/\M x=some c):=λx c h=>by
  split at h
  ·rw[l] at h;simp only[aj] at h;exact .inl ⟨‹_›,h.symm⟩
  ·exact .inr ⟨‹_›,h⟩
 have aa:∀x c,M x=some c->x≠b:=λx c h e=>by rw[e,hM] at h;simp at h
 have E:∀x c,M x=some c->(if x=b then A σ.length else M x)=some c:=λx c h=>by rw[if_neg (aa x c h)];exact h
 have ab:∀(i:Nat) d,z[i]? = some d->∃x,d=.c x:=λi d h=>by have:=fE.1 hz d (vB h);cases d <;> first | exact ⟨_,rfl⟩ | simp[isC] at this
 refine ⟨λx=>if x=b then A σ.length else M x,⟨λx c h=>?_,λx x' c h h'=>?_,N.fz,N.gl⟩,?_,E,λx u=>if_neg u,λσ0 M0 Fz0 w0 E0 X ax=>?_⟩
 ·rcases e1 x c h with ⟨rfl,rfl⟩ | ⟨u,h⟩
  ·obtain ⟨r,W,o,m,F,h4⟩:=N.blk _ _ l;rw[s] at m;simp only[aj] at m;subst m;refine ⟨r,_,o,hb,F,?_⟩;obtain ⟨ad,T,ho,X,u⟩:=h4;refine ⟨ad,T,ho,X,λi d v q1 q2=>?_⟩;obtain ⟨x,rfl⟩:=ab i d q1;obtain ⟨q3,q4⟩:=u i _ v q1 q2;refine ⟨?_,q4⟩;cases q3 with
   |c q3=>exact .c q3
  ·obtain ⟨_,a0,o0,k2,_,k4⟩:=R.blk x c h;have K:=(R.lt h).1;obtain ⟨r,W,o,m,F,h4⟩:=N.blk x c (by rw[p x K];exact h);rw[DK K] at m;refine ⟨r,W,o,m,F,?_⟩;rw[k2] at m;simp only[aj] at m;subst m;refine (bE.down (SN (.cells z)) h4 k4).cut.sub kz.refl (λy c' Y=>?_);unfold cz at Y;split at Y
   ·rename_i af;rw[p y af] at Y;exact E y c' Y
   ·simp at Y
 ·rcases e1 x c h with ⟨g1,g2⟩ | ⟨_,g2⟩ <;> rcases e1 x' c h' with ⟨g3,g4⟩ | ⟨_,g4⟩
  ·rw[g1,g3]
  ·have:=(R.lt g4).2;omega
  ·have:=(R.lt g2).2;omega
  ·exact R.inj x x' c g2 g4
 ·subst ha;exact .ptr _ (.cells z) hb (cn _) λ_=>⟨G,by rw[if_pos rfl];exact l,rfl⟩
 ·have L:=E0.trans EV X;refine ⟨L.size,L.frame,λx c h=>?_,L.fz,L.lD,L.nF,λx W u=>?_,L.out⟩
  ·rcases e1 x c h with ⟨rfl,rfl⟩ | ⟨_,h⟩
   ·exact L.ja _ _ l
   ·exact E0.ja _ _ h
  ·obtain ⟨U,r,m,F⟩:=E0.keep x W u;have K:=(d_.1 u).1;exact ⟨U,r,m,λe=>by rw[if_neg (by omega)];exact F e⟩
end
section
variable{P:Program}{orc:fA}{ops:Array Oper}{os:List aD}{q n0:Nat}{env:Nat->List D}{sg:Nat->ae}{wrs:Nat->List Nat}
variable{M0:Nat->Option Nat}{Fz0:Nat->Prop}{w0:World}{qL:List Deferred}
def mB(os:List aD)(q:Nat):Prop:=∀i,i<q->∃t ao,os[i]? = some ⟨some t,ao,none⟩/\((∃z,ao=.alloc z/\z.all isC=true)∨(∃x,ao=.xQ x)∨∃n x,ao=.load n x)
theorem HJ{P:Program}{orc:ta}{ao:jB}(h:(∃x,ao=.xQ x)∨∃n x,ao=.load n x){env:List D}{σ σ1:ae}{d:D}{wr:List Nat}(a:aR P orc ao env σ=some (d,σ1,wr)) :
  σ1=σ/\wr=[]/\∀au:ae,(∀b off sz,Pu ao env=.ptr b off sz->au[b]? = σ[b]?)->aR P orc ao env au=some (d,au,[]):=by
 rcases h with ⟨x,rfl⟩ | ⟨n,x,rfl⟩
 ·simp only[aR,aj,aM] at a;obtain ⟨rfl,rfl,rfl⟩:=a;exact ⟨rfl,rfl,λ_ _=>rfl⟩
 ·simp only[aR] at a;split at a
  ·rename_i b off sz i;simp only[Option.bind_eq_bind,b_,aj,aM] at a;obtain ⟨j,m,v,l,rfl,rfl,rfl⟩:=a;refine ⟨rfl,rfl,λau h=>?_⟩;have e:=h b off sz i
   grind [lu,aR]
  ·rename_i j off i;simp only[Option.bind_eq_bind,b_,aj,aM] at a;obtain ⟨v,l,rfl,rfl,rfl⟩:=a;exact ⟨rfl,rfl,λau _=>by grind [aR]⟩
  simp_all
theorem mB.step(H:mB os q)(T:Tr P orc ops os 0 n0 env sg wrs){i:Nat}(u:i<q):∃t ao d,os[i]? = some ⟨some t,ao,none⟩/\env (i+1)=lT (env i) (some t) d/\wrs i=[]/\aR P (orc (some t)) ao (env i) (sg i)=some (d,sg (i+1),[]) /\
  ((∃z,ao=.alloc z/\z.all isC=true/\d=.ptr (sg i).length 0 z.length/\sg (i+1)=sg i++[.cells z])∨(((∃x,ao=.xQ x)∨∃n x,ao=.load n x)/\sg (i+1)=sg i)):=by
 obtain ⟨t,ao,A,j⟩:=H i u;have:=T.step i _ A;simp only[dU,fN,bU] at this;obtain ⟨⟨d,s1,w1⟩,o,s⟩:=this;simp only[aM] at s;obtain ⟨F,rfl,rfl⟩:=s;rcases j with ⟨z,rfl,G⟩ | j
 ·have E:=o;simp only[aR,aj,aM] at E
  grind
 ·obtain ⟨K,O,_⟩:=HJ j o
  grind
theorem mB.wr(H:mB os q)(T:Tr P orc ops os 0 n0 env sg wrs){i:Nat}(j:i<q):wrs i=[]:=by obtain ⟨_,_,_,_,_,h,_⟩:=H.step T j;exact h
theorem mB.blk(H:mB os q)(T:Tr P orc ops os 0 n0 env sg wrs){i t:Nat}{z:List D}(j:i<q)(o:os[i]? = some ⟨some t,.alloc z,none⟩):z.all isC=true/\env (i+1)=lT (env i) (some t) (.ptr (sg i).length 0 z.length)/\sg (i+1)=sg i++[.cells z]:=by
 obtain ⟨s,ao,d,u,x,_,_,A⟩:=H.step T j
 simp_all
structure Lt (os:List aD) (q:Nat) (env:Nat->List D) (sg:Nat->ae) (M0:Nat->Option Nat) (Fz0:Nat->Prop) (w0:World) (qL:List Deferred) (S:Nat->Prop) (k:Nat) (M:Nat->Option Nat) (Fz:Nat->Prop) (w:World) (a:Act):Prop where
 Pp:a.tmps.size=(env k).length
 qL:a.defers=qL
 rel:Rel (sg k) M Fz w
 tmp:∀t d v,(∀i x,i<q->os[i]? = some x->x.dst=some t->S i)->(env k)[t]? = some d->a.tmps[t]? = some v->V (sg k) M Fz w d v
 non:∀i t z,i<q->os[i]? = some ⟨some t,.alloc z,none⟩->¬S i->M (sg i).length=none
 XM:ba (sg 0) M0 Fz0 w0 (sg k) M Fz w
theorem Inv.late{S:Nat->Prop}{M:Nat->Option Nat}{Fz:Nat->Prop}{w:World}{a:Act}(I:Inv os n0 env sg wrs M0 Fz0 w0 qL S M Fz w a)(T:Tr P orc ops os 0 n0 env sg wrs)(O:lP P orc)(H:mB os q)
  (hS:∀i,q<=i->i<n0->S i) (hq:q<=n0) (U:∀b,M0 b≠none->b<(sg 0).length):Lt os q env sg M0 Fz0 w0 qL S n0 M Fz w a:=by
 have Y:=T.le;refine ⟨by rw[I.Pp,T.xV O T.le],I.qL,⟨λb c h=>?_,I.inj,I.fz,Gl.mono I.AB.fz I.gl0⟩,λt d v hc x E=>?_,λi t z u W hn=>?_,?_⟩
 ·obtain ⟨x,E,s⟩:=I.own b c h;have A:b<(sg n0).length:=by
   rcases s with ⟨s,_⟩ | ⟨j,X,_,_,s⟩
   ·exact By s (T.cd O (by omega) T.le)
   ·exact By s (T.cd O (by omega) T.le)
  have F:(sg n0)[b]? = some (sg n0)[b]:=cT A;obtain ⟨o,Z,h5⟩:=I.blk b c h n0 _ (cn _) F (λi u hw=>⟨λ_=>by
   rcases qG i q with h | h
   ·rw[H.wr T h] at hw
    grind
   simp_all,λ_=>u⟩)
  simp_all
 ·exact I.tmp t n0 (cn _) (λi o u W hd=>⟨λ_=>by grind,λ_=>u⟩) d v x E
 ·cases G:M (sg i).length with
  |none=>rfl
  |some c=>
   obtain ⟨_,_,s⟩:=I.own _ c G;have l1:=T.cd O (m:=0) (m':=i) (by omega) (by omega);have l2:(sg (i+1)).length=(sg i).length+1:=by rw[(H.blk T u W).2.2];simp
   rcases s with ⟨s,_⟩ | ⟨j,X,aa,Z,h5⟩
   ·omega
   ·rcases Qc j i with h | h | h
    ·have:=T.cd O (m:=j+1) (m':=i) (by omega) (by omega);omega
    ·simp_all
    ·have:=T.cd O (m:=i+1) (m':=j) (by omega) (by omega);omega
 ·refine ⟨I.AB.size,I.AB.frame,λb c h=>?_,I.AB.fz,λc h=>?_,I.AB.nF,λb ob A=>?_,I.AB.out⟩
  ·rcases I.AB.ja b c h with h | h
   ·grind
   omega
  ·rcases I.AB.lD c h with h | h
   ·simp_all
   omega
  ·obtain ⟨K,x,E⟩:=T.sz O (by omega) (cn n0) b ob A;refine ⟨K,x,by omega,λ_=>?_⟩;have ab:=(d_.1 A).1;cases G:M0 b with
   |some c=>exact I.AB.ext b c G
   |none=>
    cases R:M b with
    |none=>rfl
    |some c=>
     obtain ⟨_,_,s⟩:=I.own b c R;rcases s with ⟨_,s⟩ | ⟨j,X,_,s,_⟩
     ·simp_all
     ·have:=T.cd O (m:=0) (m':=j) (by omega) (by omega);omega
theorem mB.off(H:mB os q)(T:Tr P orc ops os 0 n0 env sg wrs){i k t:Nat}{z:List D}(s:i<q)(o:os[i]? = some ⟨some t,.alloc z,none⟩)(j:i<k)(hk:k<os.length)(x:¬zB ops i k):(sg i).length∉wrs k:=by
 obtain ⟨y,u⟩:=T.at hk;rcases T.pair i k _ y j o u with h | h
 ·simp_all
 ·obtain ⟨_,_,_,_,_,A,_⟩:=fi h;have E:(sg (i+1)).length=(sg i).length+1:=by rw[(H.blk T s o).2.2];simp
  grind [cQ]
theorem mB.look(T:Tr P orc ops os 0 n0 env sg wrs){i k t b off sz:Nat}{ao:jB}(o:os[i]? = some ⟨some t,ao,none⟩)(u:(∃x,ao=.xQ x)∨∃n x,ao=.load n x)(z:Pu ao (env i)=.ptr b off sz)(j:i<k)(hk:k<os.length)(A:¬zB ops i k):b∉wrs k:=by
 obtain ⟨y,s⟩:=T.at hk;rcases T.pair i k _ y j o s with h | h
 ·simp_all
 ·obtain ⟨_,_,_,E,_⟩:=fi h
  grind [Pu,safe,cQ,fN,cat]
theorem EL{a:Act}{b:Option Nat}{v i:Value}{t:Nat}(h:(a.put b v).tmps[t]? = some i):(b=some t/\i=v)∨(b≠some t/\a.tmps[t]? = some i):=by
 cases b with
 |none=>exact .inr ⟨by simp,h⟩
 |some s=>
  simp only[Act.put,Rk] at h
  grind
theorem Bs{a:Act}{b:Option Nat}{v:Value}:(a.put b v).tmps.size=a.tmps.size:=by cases b <;> simp[Act.put]
theorem EM{a:Act}{b:Option Nat}{v:Value}:(a.put b v).defers=a.defers:=by cases b <;> rfl
theorem Nf(O:lP P orc)(T:Tr P orc ops os 0 n0 env sg wrs)(H:mB os q)(hq:q<=n0)(b6:∀i j,q<=i->i<j->n0<=j->j<os.length->zB ops i j)
  (hg:∀(i:Nat) x,os[i]? = some x->x.g=none) (bb:∀(i j:Nat) x y t,i<q->i<j->os[i]? = some x->os[j]? = some y->x.dst=some t->y.dst≠some t) (bc:∀(i j:Nat) x y t,i<q->i<=j->os[i]? = some x->os[j]? = some y->y.dst=some t->t∉uQ x)
  (b7:∀listed:Array Bool,listed.size=ops.size->Region.ready .any ops listed=[]->∀i,i<ops.size->fD listed i) {Q:Exit->Act->World->Prop}
  (hQ:∀a' w' M' Fz',a'.defers=qL->Rel (sg os.length) M' Fz' w'->cR (sg os.length) M' Fz' w' (env os.length) a'.tmps->ba (sg 0) M0 Fz0 w0 (sg os.length) M' Fz' w'->Q .normal a' w') :
  ∀ (R : Nat) (listed : Array Bool) (k : Nat) (M : Nat -> Option Nat) (Fz : Nat -> Prop) (w : World) (a : Act), listed.size = ops.size -> n0 <= k -> k <= os.length -> (∀ i, q <= i -> i < ops.size -> (fD listed i ↔ i < k)) -> eQ ops (fD listed) ->
   PY ops.size listed<=R->Lt os q env sg M0 Fz0 w0 qL (fD listed) k M Fz w a->wpAny P .any ops Q R listed a w:=by
 have c4:=T.len;have fin:∀(listed:Array Bool)(k:Nat)(M:Nat->Option Nat)(Fz:Nat->Prop)(w:World)(a:Act),n0<=k->k<=os.length->(∀i,q<=i->i<ops.size->(fD listed i↔i<k))->(∀i,i<ops.size->fD listed i) ->
   Lt os q env sg M0 Fz0 w0 qL (fD listed) k M Fz w a->Q .normal a w:=λlisted k M Fz w a hk u hS ab L=>by
  have b8:k=os.length:=by grind
  subst b8;exact hQ a w M Fz L.qL L.rel ⟨L.Pp,λt d v h1 h2=>L.tmp t d v (λi x r _ _=>ab i (by omega)) h1 h2⟩ L.XM
 intro R;induction R with
 |zero=>
  intro listed k M Fz w a bd hk u hS hC hf L;have ab:=qV (N:=ops.size) (listed:=listed) (by omega);refine ⟨?_,fin listed k M Fz w a hk u hS ab L⟩;cases hr:Region.ready .any ops listed with
  |nil=>rfl
  |cons j l=>
   have hm:j∈Region.ready .any ops listed:=by simp_all
   rw[mem_ready] at hm
   grind [fD]
 |succ R ih=>
  intro listed k M Fz w a bd hk u hS hC hf L;refine ⟨λhr=>fin listed k M Fz w a hk u hS (b7 listed bd hr) L,λj hj=>?_⟩;rw[mem_ready] at hj;obtain ⟨h1,o,ho,b9⟩:=hj;have cg:j<ops.size:=(xR.1 ho).1;have an:¬fD listed j:=by grind [fD]
  have a0:∀o' e,ops[j]? = some o'->e∈o'.after->Region.binds .any e=true->fD listed e.on:=λo' e A he ch=>by rw[ho] at A;simp only[aj] at A;subst A;exact b9 e he ch
  have a5:eQ ops (fD (listed.setIfInBounds j true)):=by
   intro i o' e r A he U;rw[FY (by omega)] at r ⊢;rcases r with r | rfl
   ·exact .inl (hC i o' e r A he U)
   simp_all
  have hu:=Ae (N:=ops.size) (listed:=listed) (k:=j) (by omega) cg an;have ck:∀i,i<q->¬fD listed i->¬zB ops i j:=λi r hn U=>hn (U.ready hC a0);rcases qG j q with aa | aa
  ·
   obtain ⟨t,ao,d,F,ad,be,a1,a6⟩:=H.step T aa;obtain ⟨o',A,G⟩:=T.comp j _ F;rw[ho] at A;simp only[aj] at A;subst A;unfold aT at G;split at G
   ·rename_i g p a7 E;simp only[aj,aD.mk.injEq] at G;obtain ⟨bh,rfl,rfl⟩:=G;have same:∀s,s∈uQ (⟨some t,p,none⟩:aD)->(env k)[s]? = (env j)[s]?:=λs hs=>
     T.wO O (m:=j) (m':=k) (t:=s) (by omega) u (λi x r _ Z hd=>bc j i _ x s aa r F Z hd hs)
    have hE:cR (sg k) M Fz w (iK (uQ ⟨some t,p,none⟩) (env k)) a.tmps:=by
     refine ⟨by grind [Lt.Pp,iK],λi d v h1 h2=>?_⟩;rw[nI] at h1;simp only[bU] at h1;obtain ⟨d0,h3,h4⟩:=h1;by_cases ht:(uQ ⟨some t,p,none⟩).contains i=true
     ·rw[if_pos ht] at h4;subst h4;refine L.tmp i d0 v (λm x hm Z hd=>?_) h3 h2;rcases qG m j with bi | bi
      ·rcases T.pair m j x _ bi Z F with U | U
       ·grind
       ·obtain ⟨h5,_⟩:=fi U;exact absurd (show i∈uQ ⟨some t,p,none⟩ by simp_all) (h5 i hd)
      grind
     ·rw[if_neg ht] at h4;subst h4;exact .any v
    have W:=mc (ops:=ops) (o:=o) (g:=none) (b:=true) hE a7 rfl;have a2:∀S d' v',(env k)[S]? = some d'->a.tmps[S]? = some v'->S≠t->(∀i x,i<q->os[i]? = some x->x.dst=some S->fD (listed.setIfInBounds j true) i)->V (sg k) M Fz w d' v':=λS d' v' q1 q2 e hc=>by
     refine L.tmp S d' v' (λi x r Z hd=>?_) q1 q2;rcases (FY (by omega) i).1 (hc i x r Z hd) with h | h
     ·exact h
     grind
    have c5:∀d',(env k)[t]? = some d'->d'=d:=λd' q1=>by
     have cm:=T.wO O (m:=j+1) (m':=k) (t:=t) (by omega) u (λi x r _ Z hd=>bb j i _ x t aa (by omega) F Z rfl hd);rw[cm,ad] at q1;simp only[lT,yB2,if_true] at q1
     simp_all
    have bk:∀i,q<=i->i<ops.size->(fD (listed.setIfInBounds j true) i↔i<k):=λi r bl=>by rw[FY (by omega),hS i r bl];omega
    unfold wpOp;rw[ho];simp only[W,if_true];left;rcases a6 with ⟨z,rfl,hz,rfl,ax⟩ | ⟨a8,ax⟩
    ·refine Hz (O o.dst) L.rel hE E rfl _ λv w1 M1 af R1 hv EV _=>?_;have co:(sg j).length<(sg (j+1)).length:=by grind
     have bt:=T.QQ O (m:=j+1) (m':=k) (b:=(sg j).length) (by omega) u co (λi r a9 hw=>by
      rcases qG i q with h | h
      ·rw[H.wr T h] at hw
       grind
      ·exact H.off T aa F (by omega) (by omega) (λU=>an (U.in hC ((hS i h (by omega)).2 a9))) hw)
     rw[ax,KE (cn _),Nat.sub_self,xAj] at bt;obtain ⟨M2,R2,c6,bu,bv,a1⟩:=Kz L.rel bt (L.non j t z aa F an) hz R1 hv EV;refine ih (listed.setIfInBounds j true) k M2 af w1 _ (by grind) hk u bk a5 (by omega) ⟨by rw[Bs,L.Pp],by rw[EM,L.qL],R2,λS d v' hc q1 q2=>?_,λi S z' r K hn=>?_,?_⟩
     ·rcases EL q2 with ⟨e,rfl⟩ | ⟨e,q2⟩
      ·grind
      ·exact (a2 S d v' q1 q2 (λh=>e (by grind)) hc).sub kz.refl bu EV.fz EV.nF
     ·have cp:i≠j:=λe=>hn ((FY (by omega) i).2 (.inr e));have c7:(sg (i+1)).length=(sg i).length+1:=by rw[(H.blk T r K).2.2];simp
      have c8:(sg (j+1)).length=(sg j).length+1:=by grind
      rw[bv _ (by
       intro e;rcases Nat.lt_or_gt_of_ne cp with h | h
       ·have:=T.cd O (m:=i+1) (m':=j) (by omega) (by omega);omega
       ·have:=T.cd O (m:=j+1) (m':=i) (by omega) (by omega);omega)]
      exact L.non i S z' r K (λh=>hn ((FY (by omega) i).2 (.inl h)))
     ·exact a1 _ _ _ _ L.XM (T.cd O (by omega) u) (T.cd O (by omega) (by omega))
    ·have bw:aR P (orc (some t)) p (env j) (sg j)=some (d,sg j,[]):=by grind
     have X:∀σ,aR P (orc (some t)) p (iK (uQ ⟨some t,p,none⟩) (env k)) σ=aR P (orc (some t)) p (env j) σ:=λσ=>by
      refine uS (kA E) (λx Z=>?_);have b0:∀n,x=.t n->n∈uQ (⟨some t,p,none⟩:aD):=λn hn=>by
       subst hn;simp only[uQ,mw,List.mem_filterMap]
       grind
      rw[wY b0];cases x with
      |k d=>rfl
      |t n=>simp only[aG.ev,same n (b0 n rfl)]
     have b1:aR P (orc o.dst) p (iK (uQ ⟨some t,p,none⟩) (env k)) (sg k)=some (d,sg k,[]):=by
      rw[bh,X];refine (HJ a8 bw).2.2 (sg k) (λb off sz Z=>?_);by_cases Y:b<(sg j).length
      ·exact T.QQ O (m:=j) (m':=k) (b:=b) (by omega) u Y (λi r a9 hw=>by
        rcases qG i q with h | h
        ·rw[H.wr T h] at hw
         grind
        ·exact mB.look T F a8 Z (by omega) (by omega) (λU=>an (U.in hC ((hS i h (by omega)).2 a9))) hw)
      ·exfalso;rcases a8 with ⟨x,rfl⟩ | ⟨n,x,rfl⟩
       ·grind [Pu]
       grind [Pu,aR,lu]
     refine Hz (O o.dst) L.rel hE E b1 _ λv w1 M1 af R1 hv EV _=>?_;refine ih (listed.setIfInBounds j true) k M1 af w1 _ (by grind) hk u bk a5 (by omega) ⟨by rw[Bs,L.Pp],by rw[EM,L.qL],R1,λS d' v' hc q1 q2=>?_,λi S z' r K hn=>?_,?_⟩
     ·rcases EL q2 with ⟨e,rfl⟩ | ⟨e,q2⟩
      ·grind
      ·exact (a2 S d' v' q1 q2 (λh=>e (by grind)) hc).mono EV
     ·have Y:(sg i).length<(sg k).length:=by
       have h1:(sg (i+1)).length=(sg i).length+1:=by rw[(H.blk T r K).2.2];simp
       have:=T.cd O (m:=i+1) (m':=k) (by omega) u;omega
      obtain ⟨cv,k1,_,k3⟩:=EV.keep _ _ (cT Y);rw[cT Y] at k1;simp only[aj] at k1;rw[k3 (by grind)];exact L.non i S z' r K (λh=>hn ((FY (by omega) i).2 (.inl h)))
     ·exact L.XM.trans EV (T.cd O (by omega) u)
   simp_all
  ·have c9:k<=j:=by
    simp_all
   have c0:j=k:=by
    rcases qG k j with h | h
    ·have U:=b6 k j (by omega) h (by omega) (by omega);have:=(hS k (by omega) (by omega)).1 (U.ready hC a0);omega
    ·omega
   subst c0;obtain ⟨ao,F⟩:=T.at (i:=j) (by omega);obtain ⟨o',A,G⟩:=T.comp j ao F;rw[ho] at A;simp only[aj] at A;subst A;have ak:=T.step j ao F;have b2:=hg j ao F;have hE:cR (sg j) M Fz w (iK (uQ ao) (env j)) a.tmps:=by
    refine ⟨by grind [Lt.Pp,iK],λi d v h1 h2=>?_⟩;rw[nI] at h1;simp only[bU] at h1;obtain ⟨d0,h3,h4⟩:=h1;by_cases ht:(uQ ao).contains i=true
    ·rw[if_pos ht] at h4;subst h4;refine L.tmp i d0 v (λm x hm Z hd=>?_) h3 h2;rcases T.pair m j x ao (by omega) Z F with U | U
     ·grind
     ·obtain ⟨h5,_⟩:=fi U;exact absurd (show i∈uQ ao by simp_all) (h5 i hd)
    ·rw[if_neg ht] at h4;subst h4;exact .any v
   unfold aT at G;split at G
   ·rename_i g p a7 E;simp only[aj] at G;subst G;simp only at b2;subst b2;have W:=mc (ops:=ops) (o:=o) (g:=none) (b:=true) hE a7 rfl;have X:aR P (orc o.dst) p (iK (uQ ⟨o.dst,p,none⟩) (env j)) (sg j)=aR P (orc o.dst) p (env j) (sg j):=by
     refine uS (kA E) (λx Z=>wY (λn hn=>?_));subst hn;simp only[uQ,mw,List.mem_filterMap]
     grind
    simp only[dU,fN,bU] at ak;obtain ⟨⟨d,σ1,bJ⟩,c2,h⟩:=ak;simp only[aM] at h;obtain ⟨ad,ax,be⟩:=h;subst ax be;unfold wpOp;rw[ho];simp only[W,if_true];left;refine Hz (O o.dst) L.rel hE E (by rw[X];exact c2) _ λv w1 M1 af R1 hv EV _=>?_;refine ih (listed.setIfInBounds j true) (j+1) M1 af w1 _ (by grind) (by omega) (by omega) (λi r bl=>?_) a5 (by omega) ⟨by rw[Bs,L.Pp,T.xV O (m:=j) (by omega),T.xV O (m:=j+1) (by omega)],by rw[EM,L.qL],R1,λS d' v' hc q1 q2=>?_,λi c3 z' r K hn=>?_,?_⟩
    ·grind [FY]
    ·rw[<-ad] at q1;rcases EL q2 with ⟨e,rfl⟩ | ⟨e,q2⟩
     ·rw[e] at q1;simp only[lT,yB2,if_true] at q1
      simp_all
     ·have q3:(env j)[S]? = some d':=by
       rw[<-q1];cases hd:o.dst with
       |none=>rfl
       |some s=>grind [lT,List.getElem?_set_ne]
      refine (L.tmp S d' v' (λi x r Z hd=>?_) q3 q2).mono EV
      grind [FY]
    ·have b3:¬fD listed i:=λh=>hn ((FY (by omega) i).2 (.inl h));have b4:=H.off T r K (by omega) (by omega) (ck i r b3);have Y:(sg i).length<(sg j).length:=by
      have h1:(sg (i+1)).length=(sg i).length+1:=by rw[(H.blk T r K).2.2];simp
      have:=T.cd O (m:=i+1) (m':=j) (by omega) (by omega);omega
     have b5:(sg j)[(sg i).length]? = some (sg j)[(sg i).length]:=cT Y;obtain ⟨cv,k1,_,k3⟩:=EV.keep _ _ b5;rw[(T.frame O (i:=j) (by omega)).2 _ Y b4,b5] at k1;simp only[aj] at k1;rw[k3 (by simp_all)];exact L.non i c3 z' r K b3
    ·exact L.XM.trans EV (T.cd O (by omega) (by omega))
   simp_all
theorem QJ{M:Nat->Option Nat}{Fz:Nat->Prop}{w:World}{a:Act}(O:lP P orc)(T:Tr P orc ops os 0 n0 env sg wrs)(H:mB os q)(hq:q<=n0)(K:∀i j,q<=i->i<j->n0<=j->j<os.length->zB ops i j)
  (hg:∀(i:Nat) x,os[i]? = some x->x.g=none) (v:∀(i j:Nat) x y t,i<q->i<j->os[i]? = some x->os[j]? = some y->x.dst=some t->y.dst≠some t) (z:∀(i j:Nat) x y t,i<q->i<=j->os[i]? = some x->os[j]? = some y->y.dst=some t->t∉uQ x)
  (W:∀listed:Array Bool,listed.size=ops.size->Region.ready .any ops listed=[]->∀i,i<ops.size->fD listed i) (R:Rel (sg 0) M Fz w) (E:cR (sg 0) M Fz w (env 0) a.tmps) {Q:Exit->Act->World->Prop}
  (hQ:∀u w' M' Fz',u.defers=a.defers->Rel (sg os.length) M' Fz' w'->cR (sg os.length) M' Fz' w' (env os.length) u.tmps->ba (sg 0) M Fz w (sg os.length) M' Fz' w'->Q .normal u w') :
  wpAny P .any ops Q ops.size (Array.replicate ops.size false) a w:=by
 have an:=T.len;have X:=T.le;have A:∀b,M b≠none->b<(sg 0).length:=λb h=>by
  cases hM:M b with
  |none=>simp_all
  |some c=>exact (R.lt hM).1
 have Y:∀(l:Nat)(listed:Array Bool)(M':Nat->Option Nat)(Fz':Nat->Prop)(w':World)(u:Act),listed.size=ops.size->PY ops.size listed<=l->eQ ops (fD listed)->(∀i,fD listed i->i<n0) ->
   Inv os n0 env sg wrs M Fz w a.defers (fD listed) M' Fz' w' u->wpAny P .any ops Q l listed u w':=by
  intro l;induction l with
  |zero=>intro listed M' Fz' w' u L hu U S I;have F:=qV (N:=ops.size) (listed:=listed) (by omega);exact Nf O T H hq K hg v z W hQ 0 listed n0 M' Fz' w' u L (cn _) X (λi _ r=>⟨λh=>S i h,λ_=>F i r⟩) U (by omega) (I.late T O H (λi _ h=>F i (by omega)) hq A)
  |succ l ih=>
   intro listed M' Fz' w' u L hu U S I;by_cases m:∀i,q<=i->i<n0->fD listed i
   ·exact Nf O T H hq K hg v z W hQ (l+1) listed n0 M' Fz' w' u L (cn _) X (λi r _=>⟨λh=>S i h,λh=>m i r h⟩) U hu (I.late T O H m hq A)
   ·refine ⟨λhr=>?_,λj hj=>?_⟩
    ·grind
    ·rw[mem_ready] at hj;obtain ⟨h1,o,ho,aa⟩:=hj;have ab:j<ops.size:=(xR.1 ho).1;have Z:¬fD listed j:=by
      grind [fD]
     have G:∀o' e,ops[j]? = some o'->e∈o'.after->Region.binds .any e=true->fD listed e.on:=λo' e s he ad=>by rw[ho] at s;simp only[aj] at s;subst s;exact aa e he ad
     have af:j<n0:=by
      rcases qG j n0 with h | h
      ·exact h
      ·exact absurd (λi r ax=>(K i j r (by omega) h (by omega)).ready U G) m
     refine I.step (S':=fD (listed.setIfInBounds j true)) T O U af Z G (λi=>FY (by omega) i) _ λa1 w1 M1 ak I1=>?_;refine ih (listed.setIfInBounds j true) M1 ak w1 a1 (by grind) ?_ ?_ ?_ I1
     ·have:=Ae (N:=ops.size) (listed:=listed) (k:=j) (by omega) ab Z;omega
     ·intro i o' e r s he hb;rw[FY (by omega)] at r ⊢;rcases r with r | rfl
      ·exact .inl (U i o' e r s he hb)
      simp_all
     grind [FY]
 have p:∀i,¬fD (Array.replicate ops.size false) i:=λi h=>by grind [fD,gW]
 refine Y ops.size _ M Fz w a (by simp) ?_ (λj o e hj=>absurd hj (p j)) (λi r=>absurd r (p i)) (Inv.start R rfl E (λi _=>⟨λh=>absurd h (p i),λh=>by omega⟩) T O)
 grind [PY]
def tJ(g:Nat->Nat)(o:Oper):Oper:={ o with after:=o.after.map λe=>{ e with on:=g e.on } }
structure Perm (ops ops2:Array Oper) (f g:Nat->Nat):Prop where
 size:ops2.size=ops.size
 get:∀i,i<ops.size->ops2[i]? = (ops[f i]?).map (tJ g)
 PT:∀i,i<ops.size->f i<ops.size
 E_:∀i,i<ops.size->g i<ops.size
 fg:∀i,i<ops.size->f (g i)=i
 gf:∀i,i<ops.size->g (f i)=i
 guard:∀(i:Nat) o,ops[i]? = some o->o.guard=none
 on:∀(i:Nat) o e,ops[i]? = some o->e∈o.after->Region.binds .any e=true->e.on<ops.size
theorem Yh{g:Nat->Nat}{o:Oper}{a:Act}{w:World}{K:Act->World->Prop}{Q:Exit->Act->World->Prop}(h:(tJ g o).wp P a w K Q∨((tJ g o).asks P a w/\LetsOut Q)):o.wp P a w K Q∨(o.asks P a w/\LetsOut Q):=h
theorem wJ(l:Array Bool)(i:Nat)(b a:Bool)(h:i<l.size):l.getD i b=l.getD i a:=by simp_all
theorem Am{ops b:Array Oper}{f g:Nat->Nat}(X:Perm ops b f g):∀(listed a:Array Bool),listed.size=ops.size->a.size=ops.size->(∀i,i<ops.size->a.getD i true=listed.getD (f i) true)->∀j,j∈Region.ready .any ops listed->g j∈Region.ready .any b a:=by intro listed a hs p s j h;rw[mem_ready] at h ⊢;obtain ⟨y,o,r,z⟩:=h;have h:j<ops.size:=(xR.1 r).1;refine ⟨by rw[s _ (X.E_ j h),X.fg j h];exact y,tJ g o,by rw[X.get _ (X.E_ j h),X.fg j h,r];rfl,λe u v=>?_⟩;simp only[tJ,Array.mem_map] at u;obtain ⟨x,m,rfl⟩:=u;have l:=X.on j o x r m v;rw[wJ _ _ false true (by rw[p];exact X.E_ _ l),s _ (X.E_ _ l),X.fg _ l,wJ _ _ true false (by omega)];exact z x m v
theorem ZB{ops m:Array Oper}{f g:Nat->Nat}(X:Perm ops m f g){Q:Exit->Act->World->Prop}:∀(p:Nat)(listed b:Array Bool)(a:Act)(w:World),listed.size=ops.size->b.size=ops.size->(∀i,i<ops.size->b.getD i true=listed.getD (f i) true) ->
  wpAny P .any m Q p b a w->wpAny P .any ops Q p listed a w:=by
 have x:∀(listed b:Array Bool),listed.size=ops.size->b.size=ops.size->(∀i,i<ops.size->b.getD i true=listed.getD (f i) true)->Region.ready .any ops listed=[]->Region.ready .any m b=[]:=by
  intro listed b hs r u h;cases F:Region.ready .any m b with
  |nil=>rfl
  |cons i l=>
   exfalso;have R:i∈Region.ready .any m b:=by simp_all
   rw[mem_ready] at R;obtain ⟨y,o,s,G⟩:=R;have E:i<ops.size:=by grind
   rw[X.get i E] at s;simp only[bU] at s;obtain ⟨S,z,rfl⟩:=s;have:f i∈Region.ready .any ops listed:=by rw[mem_ready];refine ⟨by simp_all,S,z,λe U T=>?_⟩;have A:=X.on _ S e z U T;have:=G { e with on:=g e.on } (by simp only[tJ,Array.mem_map];grind) T;simp only at this;rw[wJ _ _ false true (by grind),u _ (X.E_ _ A),X.fg _ A,wJ _ _ true false (by omega)] at this;omega
   simp_all
 intro p;induction p with
 |zero=>
  intro listed b a w hs r u h;refine ⟨?_,h.2⟩;cases F:Region.ready .any ops listed with
  |nil=>rfl
  |cons j l=>
   have:=Am X listed b hs r u j (by simp_all);rw[h.1] at this
   simp_all
 |succ p ih=>
  intro listed b a w hs r u h;refine ⟨λF=>h.1 (x listed b hs r u F),λj L=>?_⟩;have N:=Am X listed b hs r u j L;have:=h.2 (g j) N;rw[mem_ready] at L;obtain ⟨_,o,s,_⟩:=L;have v:j<ops.size:=(xR.1 s).1;have O:m[g j]? = some (tJ g o):=by rw[X.get _ (X.E_ j v),X.fg j v,s];rfl
  have W:o.guard=none:=X.guard j o s;refine wpOp_mono (K:=wpAny P .any m Q p (b.setIfInBounds (g j) true)) (λa w Y=>ih _ _ a w (by simp[hs]) (by grind) (λi E=>?_) Y) ?_
  ·have Z:(b.setIfInBounds (g j) true).getD i true=if g j=i then true else b.getD i true:=by
    simp only[YO,Rk]
    grind
   have e2:(listed.setIfInBounds j true).getD (f i) true=if j=f i then true else listed.getD (f i) true:=by
    simp only[YO,Rk]
    grind
   rw[Z,e2,u i E];by_cases y:g j=i
   ·rw[if_pos y,if_pos (by rw[<-y,X.fg j v])]
   ·rw[if_neg y,if_neg (λh2=>y (by rw[h2,X.gf i E]))]
  ·unfold wpOp at this ⊢;rw[O] at this;rw[s];have w1:Region.wanted (tJ g o) (yielded m a.tmps)=true:=by grind [Go.Region.wanted,tJ]
   have w2:Region.wanted o (yielded ops a.tmps)=true:=by grind [Go.Region.wanted]
   simp only[w1,if_true] at this;simp only[w2,if_true]
   grind [Yh]
theorem JS{ops a:Array Oper}{f g:Nat->Nat}(X:Perm ops a f g){i j:Nat}(h:zB ops i j):zB a (g i) (g j):=by
 have l:∀{j o},ops[j]? = some o->a[g j]? = some (tJ g o):=λ{j o} b=>by have r:=(xR.1 b).1;rw[X.get _ (X.E_ j r),X.fg j r,b];rfl
 induction h with
 |one b m p s=>exact .one (l b) (by simp only[tJ,Array.mem_map];exact ⟨_,m,rfl⟩) (e:={ on:=g _,ground:=_ }) p (by simp_all)
 |more b m p hk _ ih=>exact .more (l b) (by simp only[tJ,Array.mem_map];exact ⟨_,m,rfl⟩) (e:={ on:=g _,ground:=_ }) p (by simp_all) ih
def isLt(o:aD):Bool:=match o with
 | ⟨some _,.alloc z,none⟩=>z.all isC
 | ⟨some _,.xQ _,none⟩=>true
 | ⟨some _,.load _ _,none⟩=>true
 |_=>false
def isCl(o:aD):Bool:=match o.op with | .call ..=>true | _=>false
def Mm:Nat->Nat->List aD->List Nat->List Nat
 |i, m, o :: os, b :: bs => match isLt o && Nat.beq (Nat.lor b m) m with
  |true=>i::Mm (i+1) (Nat.lor m (2 ^ i)) os bs
  |false=>Mm (i+1) m os bs
 |_,_,_,_=>[]
def permP(hs:List Nat)(n:Nat):List Nat:=hs++(List.range n).filter λi=>hs.all λj=>!Nat.beq j i
def mf(a:List Nat)(os:List aD):List aD:=a.map λi=>os.getD i default
def HR(a:List Nat)(i:Nat):Nat:=a.getD i 0
def Ni(a:List Nat)(i:Nat):Nat:=a.findIdx λj=>Nat.beq j i
def Ub(a:List Nat)(n:Nat):Bool:=Nat.beq a.length n&&(List.range n).all λi=>(Nat.blt (HR a i) n&&Nat.beq (Ni a (HR a i)) i)&&(Nat.blt (Ni a i) n&&Nat.beq (HR a (Ni a i)) i)
def Gs(a b:List Nat)(q n0:Nat)(os:List aD):Bool:=
 ((List.range os.length).all λj=>Nat.blt j n0 || (List.range j).all λi=>Nat.blt i q || (a.getD (HR b j) 0).testBit (HR b i)) &&
 (((os.take q).all isLt&&os.all (λo=>o.g.isNone)) &&
 (((List.range os.length).all λj=>(List.range j).all λi=>!Nat.blt i q || (match (os.getD i default).dst,(os.getD j default).dst with | some s,some t=>!Nat.beq s t | _,_=>true)) &&
 (((List.range os.length).all λj=>(List.range (j+1)).all λi=>!Nat.blt i q || (match (os.getD j default).dst with | some t=>!(uQ (os.getD i default)).contains t | _=>true)) &&
 (Ub b os.length&&(Nat.ble q n0&&Nat.ble n0 os.length)))))
def Lm(a b:List Nat)(is:List dz):Bool:=
 (List.range is.length).all λj=>(List.range j).all λi=>(a.getD (HR b j) 0).testBit (HR b i) || apart (is.getD i default) (is.getD j default)
def Nz(os:List aD)(a:List Nat):Option (List Nat×Nat×Nat):=
 let hs:=Mm 0 0 os a
 let i:=(os.takeWhile λo=>!isCl o).length
 match hs.any λh=>Nat.blt i h with
 |false=>none
 |true=>
  let b:=permP hs os.length
  let n0:=hs.length+(((mf b os).drop hs.length).takeWhile λo=>!isCl o).length
  match Nat.beq b.length os.length&&Gs a b hs.length n0 (mf b os) with
  |true=>some (b,hs.length,n0)
  |false=>none
theorem RN{os:List aD}{a b:List Nat}{q n0:Nat}(h:Nz os a=some (b,q,n0)):b.length=os.length/\Gs a b q n0 (mf b os)=true:=by
 unfold Nz at h;dsimp only at h;split at h
 ·simp at h
 ·split at h
  ·simp only[aj,aM] at h;obtain ⟨rfl,rfl,rfl⟩:=h
   simp_all
  simp_all
theorem Sr (ab:P.follows .mixedOrders=true) (O:lP P orc) {id q n0:Nat} {r:List Nat} {ops:Array Oper} {os:List aD} {σ σ':ae} {M:Nat→Option Nat} {Fz:Nat→Prop} {w:World} {e e':List D} {a:Act} {is:List dz} {Q:Exit→Act→World→Prop}
  (hc:ops.toList.mapM (aT P ops)=some os) (G:wm ops.toList=true) (R:Rel σ M Fz w) (E:cR σ M Fz w e a.tmps) (h:jR P orc n0 (mf r os) e σ=some (e',σ',is)) (bh:r.length=os.length)
  (ad:Gs (MU ops.toList) r q n0 (mf r os)=true) (a6:Lm (MU ops.toList) r is=true)
  (hQ:∀K w' M' Fz',K.defers=a.defers→Rel σ' M' Fz' w'→cR σ' M' Fz' w' e' K.tmps→ba σ M Fz w σ' M' Fz' w'→Q .normal K w'):(Code.region id ops true).wq P Q a w:=by
 obtain ⟨h1,h2⟩:=Jf hc
 have af:os.length=ops.size:=by omega
 have ak:(mf r os).length=os.length:=by grind [mf]
 simp only [Gs,bp] at ad
 obtain ⟨c2,⟨c3,c4⟩,c5,c6,c7,c8,c9⟩:=ad
 have c8:=zE c8
 have c9:=zE c9
 simp only [Ub,bp,fE,XZ] at c7
 have pm:=c7.2
 rw [ak,af] at pm
 have PT:∀i,i<ops.size→HR r i<ops.size:=fun i u=>qK.mp (pm i u).1.1
 have E_:∀i,i<ops.size→Ni r i<ops.size:=fun i u=>qK.mp (pm i u).2.1
 have fg:∀i,i<ops.size→HR r (Ni r i)=i:=fun i u=>cr (pm i u).2.2
 have gf:∀i,i<ops.size→Ni r (HR r i)=i:=fun i u=>cr (pm i u).1.2
 have L:∀i,i<ops.size→(mf r os)[i]? = os[HR r i]?:=fun i u=>by
  grind [HR,mf]
 generalize bc:mf r os=v at h ak L c2 c3 c4 c5 c6 c9
 obtain ⟨env,sg,wrs,k1,k2,k3,k4,k5,k6,k7⟩:=Nq (n:=n0) v n0 e e' σ σ' is h
 subst k1 k2 k3 k4
 have c1:=a6
 unfold Lm at c1
 have an:∀(i:Nat) x,v[i]? = some x→x.g=none:=fun i x N=>by
  have:=fE.1 c4 x (vB N)
  simpa using this
 have U:∀(i:Nat) o,ops[i]? = some o→o.guard=none:=fun i o S=>by
  have ax:=(xR.1 S).1
  have N:v[Ni r i]? = some os[i]:=by grind
  obtain ⟨o',W,z⟩:=h2 i _ (cT (by omega))
  rw [Kr,S] at W
  simp only [aj] at W
  subst W
  have Y:=an _ _ N
  unfold aT at z
  split at z
  ·rename_i g ao hg _
   simp only [aj] at z
   rw [←z] at Y
   simp only at Y
   subst Y
   cases hq:o.guard with
   | none=>rfl
   | some p =>
    obtain ⟨j,bd⟩:=p
    rw [hq] at hg
    simp only [vZ] at hg
    split at hg <;> simp at hg
  grind
 let s:Array Oper:=Array.ofFn fun i:Fin ops.size=>tJ (Ni r) (ops[HR r i]'(PT i i.isLt))
 have a7:s.size=ops.size:=by simp [s]
 have a0:∀i,i<ops.size→s[i]? = (ops[HR r i]?).map (tJ (Ni r)):=fun i u=>by
  rw [oF (by omega),oF (PT i u)]
  simp [s]
 have X:Perm ops s (HR r) (Ni r):=⟨a7,a0,PT,E_,fg,gf,U,fun i o e S he hb=>by
  have:=sP G i o e S he hb
  grind⟩
 have T:Tr P orc s v 0 n0 env sg wrs:={
  len:=by omega
  comp:=fun j ao Z=>by
   have bi:=(d_.1 Z).1
   rw [L j (by omega)] at Z
   obtain ⟨o,S,z⟩:=h2 _ ao Z
   rw [Kr] at S
   refine ⟨tJ (Ni r) o,by grind,?_⟩
   unfold aT at z ⊢
   have e1:vZ ops o.guard=some none:=by rw [U _ o S]; rfl
   have e2:vZ s (tJ (Ni r) o).guard=some none:=by
    show vZ s o.guard=some none
    rw [U _ o S]; rfl
   rw [e1] at z
   rw [e2]
   exact z
  step:=fun i ao u=>(k6 i ao u).1
  wrk:=fun i u=>k7 i (by omega) u
  le:=by omega
  pair:=fun i j x y aa N hy=>by
   have Z:=(d_.1 hy).1
   have F:=fE.1 c1 j (by grind)
   have A:=fE.1 F i (by grind)
   simp only [dZ] at A
   rcases A with A | A
   ·left
    have:=JS X (Ac A)
    grind
   grind
  lead:=fun i u=>by omega
  ple:=by omega }
 have H:mB v q:=fun i u=>by
  have ax:i<v.length:=by omega
  have:=fE.1 c3 (v[i]) (by
   rw [yBD]
   exact ⟨i,by grind⟩)
  rw [cT ax]
  generalize v[i]=x at this
  unfold isLt at this
  split at this
  ·grind
  ·grind
  ·grind
  grind
 refine uL ab (sV hc) ?_
 replace hQ:=fun K w' M' Fz' h1 h2 F A=>(⟨hQ K w' M' Fz' h1 h2 F A,by simp⟩:lw Q .normal K w')
 have R1:Rel (sg 0) M Fz { w with drawn:=w.drawn+1 }:=R.heap rfl ⟨rfl,rfl,rfl⟩
 have EH:ba (sg 0) M Fz w (sg 0) M Fz { w with drawn:=w.drawn+1 }:=ba.heap R rfl ⟨rfl,rfl,rfl⟩
 have be:=QJ (Q:=lw Q) O T H (by omega) (fun i j bk aa bl Z=>by
   have F:=fE.1 c2 j (by grind)
   simp only [dZ] at F
   rcases F with F | F
   ·grind [Nat.blt_eq]
   ·have A:=fE.1 F i (by grind)
    simp only [dZ] at A
    rcases A with A | A
    ·grind [Nat.blt_eq]
    ·have:=JS X (Ac A)
     grind) an
  (fun i j x y t u aa N hy hd a8=>by
   have Z:=(d_.1 hy).1
   have F:=fE.1 c5 j (by grind)
   have A:=fE.1 F i (by grind)
   simp only [yBW,N,hy,Option.getD_some,hd,a8,qK.mpr u,yCf] at A
   grind)
  (fun i j x y t u aa N hy hd hm=>by
   have Z:=(d_.1 hy).1
   have F:=fE.1 c6 j (by grind)
   have A:=fE.1 F i (by grind)
   have a9:(uQ x).contains t=true:=by grind
   simp only [yBW,N,hy,Option.getD_some,hd,qK.mpr u,a9] at A
   grind)
  (fun m bt hr i u=>by
   let b:Array Bool:=Array.ofFn fun i:Fin ops.size=>m.getD (Ni r i) true
   have a1:b.size=ops.size:=by simp [b]
   have bu:∀i,i<ops.size→b.getD i true=m.getD (Ni r i) true:=fun i u=>by
    rw [YO,oF (by omega)]
    simp [b]
   have a2:∀i,i<ops.size→m.getD i true=b.getD (HR r i) true:=fun i u=>by grind
   have bb:Region.ready .any ops b=[]:=by
    cases hq:Region.ready .any ops b with
    | nil=>rfl
    | cons j l =>
     have:=Am X b m a1 (by omega) a2 j (by grind)
     grind
   have a5:=ve a1 (sP G) bb
   have:=a5 (HR r i) (PT i (by omega))
   unfold fD at this ⊢
   grind)
  R1 (E.mono EH) (fun K w' M' Fz' hd R' E' EV=>hQ K w' M' Fz' hd R' E' (EH.trans EV (cn _)))
 exact ZB X ops.size (Array.replicate ops.size false) (Array.replicate ops.size false) a _ (by simp) (by simp) (fun i u=>by
  rw [YO,YO,yCd,yCd,if_pos (by omega),if_pos (PT i u)]) (by grind)
theorem Sem.drwG{nn q n0:Nat}{z:List Nat}{al:AL}{σ:ae}{Q:kT->AL->ae->Prop}{os:List aD}{k:Nat}{s:List Nat}{p:Nat}(u:P.follows .mixedOrders=true)(O:lP P orc)(X:Nz os s=some (z,q,n0))
  (h:bK P orc n0 (mf z os) nn al σ λal' σ' is=>Lm s z is=true/\Q .normal al' σ'):Sem P (.D_ os s k p) nn al σ Q:=by
 obtain ⟨al1,σ1,is,h,Y,Z⟩:=h;obtain ⟨E,F⟩:=RN X;intro c j M Fz w a K R A hK;obtain ⟨e',U,h2⟩:=h _ A.cK.2;cases c with
 |region id ops W=>
  simp only[bg] at j;split at j
  ·rename_i aa G;split at j
   ·rename_i hd;subst hd;split at j
    ·rename_i hb;simp only[aj,aH.D_.injEq] at j;obtain ⟨rfl,rfl,_,_⟩:=j;refine Sr u O G hb R A.cK.1 U E F Y λa' w' M' Fz' hd R' E' EV=>?_;exact hK .normal al1 σ1 a' w' M' Fz' Z (Mk.of_eq hd) R' (dP.Vj E' h2) EV (Br O _ _ _ _ _ _ _ U).1
    simp_all
   simp_all
  simp_all
 |seq a b=>grind [bg]
 |cond o a b=>grind [bg]
 |block i b=>simp[bg] at j
 |loop b=>simp[bg] at j
 |scope b=>grind [bg,Option.map_eq_some_iff,Hn]
 |rangeFunc g ps x y=>rcases dC j with ⟨_,_,_,_,_,_,_,e⟩ | e <;> cases e
 |_=>grind [bg]
end
end Go.Abs
end
