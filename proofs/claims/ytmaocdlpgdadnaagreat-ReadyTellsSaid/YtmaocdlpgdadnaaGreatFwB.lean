/- DfwJ, DfwK, DfwL, DfwM, DfwWq, DfwMk, DfwN, DfwO, DfwQ, DfwR, DfwS, DfwT, DfwU -/
import Derived.Test.YtmaocdlpgdadnaaGreatFwA
import Derived.LoopN
import Derived.LoopNIn
import Derived.Orders
import Derived.OrdersIn
import Derived.RangeFuncCalls
import Derived.RangeFuncLeaves
set_option linter.all false
section
namespace Go.Abs
variable[Gl]
def Ok(P:Program)(g:FuncId)(ds:List D)(σ:aa)(r:D)(σ':aa):Prop:=
 ∀ (M : Nat -> Option Nat) (Fz : Nat -> Prop) (w : World) (b : Array Value), Rel σ M Fz w -> b.size = ds.length -> (∀ (i : Nat) d v, ds[i]? = some d -> b[i]? = some v -> V σ M Fz w d v) ->
  Calls P g b w λe w'=>∃v M' Fz',e=.returned v/\Rel σ' M' Fz' w'/\V σ' M' Fz' w' r v/\aW σ M Fz w σ' M' Fz' w'
def aH(P:Program)(g:FuncId):Bool:=
 match P.funcs[g]? with
 |some fn=>fn.body.isSome&&fn.name != "runtime.NumGoroutine"
 |none=>false
def pj(P:Program)(orc:qB):Prop:=
 ∀g ds σ r σ' wr,orc g ds σ=some (r,σ',wr)->aH P g=true/\Ok P g ds σ r σ'/\σ.length<=σ'.length/\∀b,b<σ.length->b∉wr->σ'[b]? = σ[b]?
abbrev ey:=Option Nat->qB
def jX(P:Program)(orc:ey):Prop:=∀t,pj P (orc t)
section
variable{P:Program}{σ σ':aa}{M M':Nat->Option Nat}{Fz:Nat->Prop}{w w':World}{env:List D}{a:Act}{orc:qB}
theorem Ai{d:D}{es:List (Value×D×Nat)}(h:AK σ d=some es):(d=.c (.lit (.map none))/\es=[])∨(∃b e,d=.mp b/\σ[b]? = some (.map es e))∨∃f,d=.c (.Ei f)/\es=f.map λp=>(p.1,.c p.2,0):=by
 unfold AK at h;split at h
 ·simp_all
 ·simp_all
 ·grind
 simp_all
def KD(ao:iA)(env:List D):D:=
 match ao with
 |.load _ x=>x.ev env
 |_=>.any
inductive Out (P:Program) (s:Sem Next) (σ:aa) (M:Nat->Option Nat) (Fz:Nat->Prop) (w:World) (at_:D):iA->aa->D->List Nat->Prop where
 |y {ao:iA} {d:D} (hc:cat ao=0) (h:Yields P s σ M Fz w d):Out P s σ M Fz w at_ ao σ d []
 |l {ao:iA} {d:D} {σ':aa} (hc:cat ao=1) (hσ:σ'=σ) (h:(∀b off sz c cs,at_=.ptr b off sz->M b=some c->σ[b]? = some (.cells cs)->∃arr T,w.heap[c]? = some (.cells arr T (0,0))/\cs.length<=arr.size/\∀(i:Nat) d v,cs[i]? = some d->arr[i]? = some v->V σ M Fz w d v/\v.oneCell'=true)->Yields P s σ M Fz w d):Out P s σ M Fz w at_ ao σ' d []
 |a {ao:iA} {d:D} {ob:Ob} (hc:cat ao=2) (h:(∀c,Fz c->c<w.heap.size)->aj P s σ M Fz w ob d):Out P s σ M Fz w at_ ao (σ++[ob]) d []
 |g {ao:iA} {d:D} {σ':aa} {wr:List Nat} (hc:cat ao=3) (h:Rel σ M Fz w->cz P s σ M Fz w σ' d):Out P s σ M Fz w at_ ao σ' d wr
theorem yZ(bd:Gl.ok Fz w)(E:cf σ M Fz w env a.tmps){o:Oper}{ao:iA}{d:D}{wr:List Nat}(g:iO P o.op o.type=some ao)(b6:vw ao=false)
  (h:aI P orc ao env σ=some (d,σ',wr)):Out P (execOp a.eval o) σ M Fz w (KD ao env) ao σ' d wr:=by
 cases j:o.op with
 |move x=>rw[j] at g;simp only[iO,bq] at g;obtain ⟨G,p,rfl⟩:=g;simp only[aI,ab,aC] at h;obtain ⟨rfl,rfl,rfl⟩:=h;exact .y rfl (Od E (.inl j) p)
 |assign x=>rw[j] at g;simp only[iO,bq] at g;obtain ⟨G,p,rfl⟩:=g;simp only[aI,ab,aC] at h;obtain ⟨rfl,rfl,rfl⟩:=h;exact .y rfl (Od E (.inr j) p)
 |pick c x y=>rw[j] at g;simp only[iO,Option.bind_eq_bind,bC,ab] at g;obtain ⟨oc,be,G,p,oy,hy,rfl⟩:=g;simp only[aI,bq,aC] at h;obtain ⟨t,W,rfl,rfl,rfl⟩:=h;exact .y rfl (UB E j be p hy W)
 |alloc t=>rw[j] at g;simp only[iO,bq] at g;obtain ⟨z,T,rfl⟩:=g;simp only[aI,ab,aC] at h;obtain ⟨rfl,rfl,rfl⟩:=h;exact .a rfl (λO=>MY O j T)
 |box t x=>rw[j] at g;simp only[iO,bq] at g;obtain ⟨G,p,rfl⟩:=g;simp only[aI,bq,aC] at h;obtain ⟨cs,K,rfl,rfl,rfl⟩:=h;exact .a rfl (λO=>WU O E j p K)
 |build t a2=>
  rw[j] at g;simp only[iO,Option.bind_eq_bind,bC] at g;obtain ⟨z,T,u,q,g⟩:=g;cases u <;> simp only[bC,ab,reduceCtorEq] at g
  ·rename_i len e;obtain ⟨n,v,qs,Y,rfl⟩:=g;simp only[aI,bq,aC] at h;obtain ⟨cs,K,rfl,rfl,rfl⟩:=h;exact .y rfl (FH E j T (.inr ⟨len,e,n,q,v,rfl⟩) Y K)
  ·rename_i fs;obtain ⟨ps,bh,qs,Y,rfl⟩:=g;simp only[aI,bq,aC] at h;obtain ⟨cs,K,rfl,rfl,rfl⟩:=h;exact .y rfl (FH E j T (.inl ⟨fs,ps,q,bh,rfl⟩) Y K)
 |buildSlice t len a2=>
  rw[j] at g;simp only[iO,Option.bind_eq_bind,bC] at g;obtain ⟨u,q,g⟩:=g;cases u <;> simp only[bC,reduceCtorEq] at g
  obtain ⟨n,v,z,T,g⟩:=g;split at g
  ·grind
  ·rename_i A;simp only[bC,ab] at g;obtain ⟨qs,Y,rfl⟩:=g;simp only[aI,bq,aC] at h;obtain ⟨cs,K,rfl,rfl,rfl⟩:=h;exact .a rfl (λO=>LN O E j q v T A Y K)
 |load t x=>
  rw[j] at g;simp only[iO,Option.bind_eq_bind,bC,ab] at g;obtain ⟨n,v,G,p,rfl⟩:=g;simp only[aI] at h;have Z:wr=[]:=by
   split at h
   ·simp only[Option.bind_eq_bind,bC,ab,aC] at h;grind
   ·simp only[Option.bind_eq_bind,bC,ab,aC] at h;grind
   simp_all
  subst Z;refine .l rfl ?_ (λhR=>(Sm E j p v hR h).2);revert h;split
  ·simp only[Option.bind_eq_bind,bC,ab,aC];simp_all
  ·simp only[Option.bind_eq_bind,bC,ab,aC];simp_all
  ·simp
 |store t x y=>
  rw[j] at g;simp only[iO,Option.bind_eq_bind,bC,ab] at g;obtain ⟨n,v,G,p,oy,hy,rfl⟩:=g;simp only[aI] at h;split at h
  ·rename_i b off sz L;simp only[Option.bind_eq_bind,bC] at h;obtain ⟨cs,K,xs,bi,h⟩:=h;split at h
   ·rename_i F;simp only[ab,aC] at h;obtain ⟨rfl,rfl,rfl⟩:=h;exact .g rfl (λR=>Ql R E j p hy v L K bi F)
   simp_all
  simp_all
 |nilCheck x=>
  rw[j] at g;simp only[iO,bq] at g;obtain ⟨G,p,rfl⟩:=g;simp only[aI] at h;have Z:wr=[]:=by grind
  subst Z;obtain ⟨rfl,hg⟩:=Qw (P:=P) E j p h;exact .y rfl hg
 |binOp op t x y t2=>
  rw[j] at g;simp only[iO] at g;cases q:P.underlying t with
  |none=>rw[q] at g;simp only[Option.bind_none,ab] at g;subst g;simp only[aI,bq,aC] at h;obtain ⟨U,hd,rfl,rfl,rfl⟩:=h;exact .y rfl (ig E (by simp_all) (by simp_all))
  |some u=>
   rw[q] at g;simp only[Option.bind_some] at g;cases hk:uh u with
   |none=>rw[hk] at g;simp only[ab] at g;subst g;simp only[aI,bq,aC] at h;obtain ⟨U,hd,rfl,rfl,rfl⟩:=h;exact .y rfl (ig E (by simp_all) (by simp_all))
   |some k=>
    rw[hk] at g;have ad:∀neg,qC k neg x y=some ao->∃k' af G,ao=.fS k' af G:=by
     intro neg bk;unfold qC at bk
     grind [Option.map_eq_some_iff]
    cases op <;> simp only[reduceCtorEq] at g
    ·obtain ⟨k',af,G,rfl⟩:=ad false g;simp only[aI,bq,aC] at h;obtain ⟨b,hb,rfl,rfl,rfl⟩:=h;exact .y rfl (Fo (neg:=false) E (by simpa using j) q hk g hb)
    ·obtain ⟨k',af,G,rfl⟩:=ad true g;simp only[aI,bq,aC] at h;obtain ⟨b,hb,rfl,rfl,rfl⟩:=h;exact .y rfl (Fo (neg:=true) E (by simpa using j) q hk g hb)
 |unOp op t x=>rw[j] at g;simp only[iO,ab] at g;subst g;simp only[aI,bq,aC] at h;obtain ⟨U,hd,rfl,rfl,rfl⟩:=h;exact .y rfl (ig E (by simp_all) (by simp_all))
 |convert s t x=>rw[j] at g;simp only[iO,ab] at g;subst g;simp only[aI,bq,aC] at h;obtain ⟨U,hd,rfl,rfl,rfl⟩:=h;exact .y rfl (ig E (by simp_all) (by simp_all))
 |makeFunc f first cap=>rw[j] at g;simp only[iO,Option.bind_eq_bind,bC,ab] at g;obtain ⟨o1,h1,o2,h2,rfl⟩:=g;simp only[aI,ab,aC] at h;obtain ⟨rfl,rfl,rfl⟩:=h;exact .y rfl (SZ E j h1 h2)
 |makeMap t r=>
  rw[j] at g;cases r with
  |some _=>grind [iO]
  |none=>simp only[iO,ab] at g;subst g;simp only[aI,ab,aC] at h;obtain ⟨rfl,rfl,rfl⟩:=h;exact .a rfl (λO=>Qf j)
 |makeSlice t x y=>
  rw[j] at g;simp only[iO,Option.bind_eq_bind,bC] at g;obtain ⟨u,q,g⟩:=g;cases u <;> simp only[bC,reduceCtorEq] at g
  obtain ⟨n,v,z,T,i,X,g⟩:=g;split at g
  ·grind
  ·rename_i A;simp only[bC,ab] at g;obtain ⟨G,p,oy,hy,rfl⟩:=g;simp only[aI,Option.bind_eq_bind,bC] at h;obtain ⟨l,hl,c,bl,h⟩:=h;split at h
   ·rename_i F;simp only[ab,aC] at h;obtain ⟨rfl,rfl,rfl⟩:=h;exact .a rfl (λO=>IL O E j q v T X A p hy hl bl F)
   simp_all
 |slice t x lo X mx=>
  rw[j] at g;cases mx with
  |some mx=>
   cases lo with
   |none=>grind [iO]
   |some lo => cases X with
    |none=>grind [iO]
    |some X=>
     simp only[iO,Option.bind_eq_bind,bC] at g;obtain ⟨u,q,g⟩:=g;cases u <;> simp only[bC,ab,reduceCtorEq] at g
     obtain ⟨n,v,G,p,bt,a3,bu,a4,b7,bv,rfl⟩:=g;simp only[aI] at h;split at h
     ·rename_i b off len es sz L;simp only[Option.bind_eq_bind,bC] at h;obtain ⟨cs,hr,m,h0,h',h1,l,h2,h⟩:=h;split at h
      ·rename_i F;obtain ⟨rfl,rfl⟩:=F;simp only[ab,aC] at h;obtain ⟨rfl,rfl,rfl⟩:=h;exact .y rfl (RQ (P:=P) E j p a3 a4 bv q v L hr (bC.2 h0) (bC.2 h1) (bC.2 h2))
      simp_all
     simp_all
  |none=>
   simp only[iO,Option.bind_eq_bind,bC] at g;obtain ⟨u,q,g⟩:=g;cases u <;> simp only[bC,ab,reduceCtorEq] at g
   ·subst g;simp only[aI,bq,aC] at h;obtain ⟨U,hd,rfl,rfl,rfl⟩:=h;exact .y rfl (ig E (by simp_all) (by simp_all))
   rotate_left
   ·rename_i m e;split at g
    ·simp only[bC] at g;obtain ⟨k,hk,G,p,g⟩:=g;split at g
     ·rename_i h1;subst h1;simp only[ab] at g;subst g;simp only[aI] at h;split at h
      ·rename_i cs off L;split at h
       ·rename_i ak;simp only[ab,aC] at h;obtain ⟨rfl,rfl,rfl⟩:=h;exact .y rfl (Ti (P:=P) E j p q hk L ak)
       ·simp at h
      ·simp at h
     ·simp at g
    ·simp at g
   ·obtain ⟨n,v,G,p,bt,a3,bu,a4,rfl⟩:=g;simp only[aI] at h;have Z:wr=[]:=by
     split at h
     ·simp only[Option.bind_eq_bind,bC,ab,aC] at h;grind
     ·grind [Option.bind_eq_some_iff]
     ·grind [Option.bind_eq_some_iff]
     simp_all
    subst Z;obtain ⟨rfl,hg⟩:=Wi (P:=P) E j p a3 a4 q v h;exact .y rfl hg
 |fieldAddr s x f=>
  rw[j] at g;simp only[iO,Option.bind_eq_bind,bC] at g;obtain ⟨u,q,g⟩:=g;cases u <;> simp only[bC,reduceCtorEq] at g
  obtain ⟨fd,a5,n,v,g⟩:=g;split at g
  ·grind
  ·rename_i A;simp only[bC,ab] at g;obtain ⟨G,p,rfl⟩:=g;simp only[aI] at h;have Z:wr=[]:=by
    grind
   subst Z;obtain ⟨rfl,hg⟩:=Wn (P:=P) E j p q a5 v A h;exact .y rfl hg
 |field t x f=>
  rw[j] at g;simp only[iO,Option.bind_eq_bind,bC] at g;obtain ⟨u,q,g⟩:=g;cases u <;> simp only[bC,ab,reduceCtorEq] at g
  obtain ⟨fd,a5,n,v,G,p,rfl⟩:=g;simp only[aI] at h;split at h
  ·rename_i cs L;simp only[bq,aC] at h;obtain ⟨U,hd,rfl,rfl,rfl⟩:=h;exact .y rfl (Ut E j p q a5 v L hd)
  simp_all
 |indexAddr t x i=>
  rw[j] at g;simp only[iO,Option.bind_eq_bind,bC] at g;obtain ⟨u,q,g⟩:=g;cases u <;> simp only[bC,reduceCtorEq] at g
  ·rename_i e;obtain ⟨n,v,g⟩:=g;split at g
   ·grind
   ·rename_i A;simp only[bC,ab] at g;obtain ⟨G,p,oi,X,rfl⟩:=g;simp only[aI] at h;have Z:wr=[]:=by
     grind [Option.bind_eq_some_iff]
    subst Z;obtain ⟨rfl,hg⟩:=Wq (P:=P) E j p X q v A h;exact .y rfl hg
  ·rename_i len e;obtain ⟨n,v,g⟩:=g;split at g
   ·grind
   ·rename_i A;simp only[bC,ab] at g;obtain ⟨G,p,oi,X,rfl⟩:=g;simp only[aI] at h;have Z:wr=[]:=by
     simp only[Option.bind_eq_bind,bC] at h;obtain ⟨_,_,_,_,h⟩:=h;split at h
     ·simp_all
     ·simp_all
     ·grind
     simp_all
    subst Z;obtain ⟨rfl,hg⟩:=Fs (P:=P) bd E j p X q v h;exact .y rfl hg
 |index t x i=>
  rw[j] at g;simp only[iO,Option.bind_eq_bind,bC] at g;obtain ⟨u,q,g⟩:=g;cases u <;> simp only[bC,ab,reduceCtorEq] at g
  ·subst g;simp only[aI,bq,aC] at h;obtain ⟨U,hd,rfl,rfl,rfl⟩:=h;exact .y rfl (ig E (by simp_all) (by simp_all))
  ·rename_i len e;obtain ⟨sz,bw,n,v,G,p,oi,X,rfl⟩:=g;simp only[aI,Option.bind_eq_bind,bC] at h;obtain ⟨z,T,k,hk,h⟩:=h;split at h
   ·rename_i cs L;simp only[bq,aC] at h;obtain ⟨U,hd,rfl,rfl,rfl⟩:=h;exact .y rfl (TO E j p X q bw v L T hk hd)
   simp_all
 |lookup t m k ok=>
  rw[j] at g;simp only[iO,Option.bind_eq_bind,bC] at g;obtain ⟨u,q,g⟩:=g;cases u <;> simp only[bC,reduceCtorEq] at g
  rename_i kt e;obtain ⟨kd,ax,g⟩:=g;split at g
  ·rename_i hs;simp only[bC,ab] at g;obtain ⟨zero,T,om,hm,a8,hk,rfl⟩:=g;simp only[aI,Option.bind_eq_bind,bC,ab,aC] at h;obtain ⟨kv,a0,es,a9,r,hr,rfl,rfl,rfl⟩:=h;exact .g rfl (λR=>Ls R E j q ax hs T hm hk a0 (Ai a9) hr rfl)
  ·simp at g
 |mapUpdate t m k x | insert t m k x=>
  rw[j] at g;simp only[iO,Option.bind_eq_bind,bC] at g;obtain ⟨u,q,g⟩:=g;cases u <;> simp only[bC,reduceCtorEq] at g
  rename_i kt e;obtain ⟨kd,ax,g⟩:=g;split at g
  ·rename_i hs;simp only[bC,ab] at g;obtain ⟨om,hm,a8,hk,G,p,rfl⟩:=g;simp only[aI,Option.bind_eq_bind,bC] at h;obtain ⟨kv,a0,h⟩:=h;split at h
   ·rename_i b L;split at h
    ·rename_i es a6 hb;simp only[bC] at h;obtain ⟨r,hr,h⟩:=h;have:=λR=>XB (P:=P) (σ:=σ) (M:=M) (Fz:=Fz) (w:=w) R E (by first | exact .inl j | exact .inr j) q ax hs hm hk p a0 L hb hr;split at h
     ·simp only[ab,aC] at h;obtain ⟨rfl,rfl,rfl⟩:=h;exact .g rfl this
     ·simp only[ab,aC] at h;obtain ⟨rfl,rfl,rfl⟩:=h;exact .g rfl this
    simp_all
   simp_all
  simp_all
 |extract x i=>
  rw[j] at g;simp only[iO,Option.bind_eq_bind,bC,ab] at g;obtain ⟨G,p,rfl⟩:=g;simp only[aI] at h;split at h
  ·rename_i ds L;simp only[bq,aC] at h;obtain ⟨U,hd,rfl,rfl,rfl⟩:=h;exact .y rfl (GP E j p L hd)
  simp_all
 |call c=>
  obtain ⟨a1,args,b8⟩:=c;rw[j] at g;cases a1 with
  |value f=>grind [iO,Option.bind_eq_some_iff,vw]
  |invoke r m=>grind [iO]
  |builtin b=>
   cases b with
   |len=>
    simp only[iO,Option.bind_eq_bind,bC] at g;obtain ⟨t,W,x,N,g⟩:=g;split at g
    ·grind
    ·rename_i hs;simp only[ne_eq,KM] at hs;simp only[bC] at g;obtain ⟨u,q,g⟩:=g;cases u <;> simp only[bq,ab,reduceCtorEq] at g
     ·subst g;simp only[aI,bq,aC] at h;obtain ⟨U,hd,rfl,rfl,rfl⟩:=h;exact .y rfl (ig E (by simp_all) (by simp_all))
     ·obtain ⟨G,p,rfl⟩:=g;simp only[aI,bq,aC] at h;obtain ⟨n,v,rfl,rfl,rfl⟩:=h;exact .y rfl (VB E j W N hs p q v)
     ·rename_i n e;subst g;simp only[aI,ay.ev,ab,aC] at h;obtain ⟨rfl,rfl,rfl⟩:=h;exact .y rfl (Kw j W N hs q)
     ·obtain ⟨G,p,rfl⟩:=g;simp only[aI,bq,aC] at h;obtain ⟨es,a9,rfl,rfl,rfl⟩:=h;refine .g rfl (λR=>Lv R E j W N hs p q ?_)
      grind [Ai]
   |append=>
    simp only[iO,Option.bind_eq_bind,bC] at g;obtain ⟨t,W,t1,b0,s,a7,x,N,u,q,b1,b2,g⟩:=g;cases u <;> cases b1 <;> simp only[bC,reduceCtorEq] at g
    obtain ⟨n,v,i,X,z,T,g⟩:=g;split at g
    ·grind
    ·rename_i A;simp only[bC,ab] at g;obtain ⟨os,hs,G,p,rfl⟩:=g;simp only[aI] at h;exact .g rfl (λR=>LD R E j W b0 a7 N q b2 v X T A hs p h)
   |copy=>
    simp only[iO,Option.bind_eq_bind,bC] at g;obtain ⟨t,W,s,a7,x,N,u,q,g⟩:=g;cases u <;> simp only[bC,reduceCtorEq] at g
    obtain ⟨n,v,g⟩:=g;split at g
    ·grind
    ·rename_i A;simp only[bC,ab] at g;obtain ⟨os,hs,G,p,rfl⟩:=g;simp only[aI] at h;split at h
     ·rename_i b off len es sz L;simp only[Option.bind_eq_bind,bC,bq] at h;obtain ⟨cs,hr,k,⟨m,hm,hk⟩,new,bc,h⟩:=h;split at h
      ·rename_i F;obtain ⟨rfl,ak⟩:=F;simp only[ab,aC] at h;obtain ⟨rfl,rfl,rfl⟩:=h;exact .g rfl (λR=>xf R E j W a7 N q v A hs p L hr hm hk.symm bc ak)
      simp_all
     simp_all
   |clear=>
    simp only[iO,Option.bind_eq_bind,bC] at g;obtain ⟨t,W,x,N,u,q,g⟩:=g;cases u <;> simp only[bC,reduceCtorEq] at g
    obtain ⟨n,v,z,T,g⟩:=g;split at g
    ·grind
    ·rename_i A;simp only[bC,ab] at g;obtain ⟨G,p,rfl⟩:=g;simp only[aI] at h;split at h
     ·rename_i b off len es sz L;simp only[Option.bind_eq_bind,bC] at h;obtain ⟨cs,hr,h⟩:=h;split at h
      ·rename_i F;obtain ⟨rfl,ak,b3⟩:=F;simp only[ab,aC] at h;obtain ⟨rfl,rfl,rfl⟩:=h;exact .g rfl (λR=>Xy R E j W N q T (λe=>A (.inl e)) b3 p L hr ak)
      simp_all
     simp_all
   |delete=>
    simp only[iO,Option.bind_eq_bind,bC] at g;obtain ⟨t,W,m,b4,k,b5,u,q,g⟩:=g;cases u <;> simp only[bC,reduceCtorEq] at g
    rename_i kt e;obtain ⟨kd,ax,g⟩:=g;split at g
    ·rename_i hs;simp only[bC,ab] at g;obtain ⟨om,hm,a8,hk,rfl⟩:=g;simp only[aI,Option.bind_eq_bind,bC] at h;obtain ⟨kv,a0,h⟩:=h;split at h
     ·rename_i b L;split at h
      ·rename_i es a6 hb;simp only[bC] at h;obtain ⟨r,hr,h⟩:=h;have:=λR=>VL (P:=P) (σ:=σ) (M:=M) (Fz:=Fz) (w:=w) R E j W b4 b5 q ax hs hm hk a0 L hb hr;split at h
       ·simp only[ab,aC] at h;obtain ⟨rfl,rfl,rfl⟩:=h;exact .g rfl this
       ·simp only[ab,aC] at h;obtain ⟨rfl,rfl,rfl⟩:=h;exact .g rfl this
      simp_all
     simp_all
    simp_all
   |min=>simp only[iO,ab] at g;subst g;simp only[aI,bq,aC] at h;obtain ⟨U,hd,rfl,rfl,rfl⟩:=h;exact .y rfl (ig E (by simp_all) (by simp_all))
   |max=>simp only[iO,ab] at g;subst g;simp only[aI,bq,aC] at h;obtain ⟨U,hd,rfl,rfl,rfl⟩:=h;exact .y rfl (ig E (by simp_all) (by simp_all))
   |complex=>simp only[iO,ab] at g;subst g;simp only[aI,bq,aC] at h;obtain ⟨U,hd,rfl,rfl,rfl⟩:=h;exact .y rfl (ig E (by simp_all) (by simp_all))
   |real=>simp only[iO,ab] at g;subst g;simp only[aI,bq,aC] at h;obtain ⟨U,hd,rfl,rfl,rfl⟩:=h;exact .y rfl (ig E (by simp_all) (by simp_all))
   |imag=>simp only[iO,ab] at g;subst g;simp only[aI,bq,aC] at h;obtain ⟨U,hd,rfl,rfl,rfl⟩:=h;exact .y rfl (ig E (by simp_all) (by simp_all))
   |_=>grind [iO]
 |_=>grind [iO]
theorem QW(R:Rel σ M Fz w)(E:cf σ M Fz w env a.tmps){o:Oper}{ao:iA}{d:D}{wr:List Nat}(j:iO P o.op o.type=some ao)(f:vw ao=false)
  (h:aI P orc ao env σ=some (d,σ',wr)):cz P (execOp a.eval o) σ M Fz w σ' d:=by
 cases yZ (M:=M) (Fz:=Fz) (w:=w) R.gl E j f h with
 |y _ e=>exact e.gives R
 |l _ i e=>rw[i];exact (e λb off sz c n _ k m=>R.row k m).gives R
 |a _ e=>exact (e R.fz).gives R
 |g _ e=>grind
theorem qg{op:Op}{ty:TypeId}{ao:iA}(h:comp P op ty=some ao) :
  (∃f args b of os,op=.call { callee:=.value f,args:=args,argTypes:=b }/\ba f=some of/\Bv args=some os/\ao=.call of os)∨(iO P op ty=some ao/\vw ao=false/\Qq ao=false):=by
 unfold comp at h
 grind
end
end Go.Abs
end
section
namespace Go.Abs
variable[Gl]
structure av where
 dst:Option Nat
 op:iA
 g:Option (Nat×Bool)
 deriving Inhabited
def kc(env:List D):Option Nat->D->List D
 |some t,d=>env.set t d
 |none,_=>env
def eU(env:List D):Option (Nat×Bool)->Option Bool
 |none=>some true
 |some (t, want)=>
  match env[t]? with
  |some (.c (.lit (.bool b)))=>some (b == want)
  |some (.aB [])=>some false
  |_=>none
def du(P:Program)(orc:ey)(o:av)(env:List D)(σ:aa):Option (List D×aa×List Nat):=
 match eU env o.g with
 |some true=>(aI P (orc o.dst) o.op env σ).map λr=>(kc env o.dst r.1,r.2.1,r.2.2)
 |some false=>some (kc env o.dst (.aB []),σ,[])
 |none=>none
def kz(P:Program)(orc:ey):List av->List D->aa->Option (List D×aa×List Nat)
 |[],env,σ=>some (env,σ,[])
 |o :: os, env, σ=>
  match du P orc o env σ with
  |some (b, e, w1)=>
   match kz P orc os b e with
   |some (d,am,w2)=>some (d,am,w1++w2)
   |none=>none
  |none=>none
def tU(ops:Array Oper):Option (Nat×Bool)->Option (Option (Nat×Bool))
 |none=>some none
 |some (j, want)=>
  match (ops[j]?).bind (·.dst) with
  |some t=>some (some (t,want))
  |none=>none
def aO(P:Program)(ops:Array Oper)(o:Oper):Option av:=
 match tU ops o.guard,comp P o.op o.type with
 |some g,some b=>some ⟨o.dst,b,g⟩
 |_,_=>none
section
variable{P:Program}{σ σ':aa}{M M':Nat->Option Nat}{Fz Fz':Nat->Prop}{w w':World}{env env':List D}{a:Act}{orc:qB}
theorem cf.mono(E:cf σ M Fz w env a.tmps)(j:aW σ M Fz w σ' M' Fz' w'):cf σ' M' Fz' w' env a.tmps:=
 ⟨E.1,λi d v o s=>(E.2 i d v o s).mono j⟩
theorem cf.put(E:cf σ M Fz w env a.tmps){d:D}{v:Value}(j:Option Nat)(z:V σ M Fz w d v):cf σ M Fz w (kc env j d) (a.put j v).tmps:=by
 cases j with
 |none=>exact E
 |some t=>
  refine ⟨by simp[Act.put,kc,E.1],λi u x o s=>?_⟩;simp only[kc,UJ] at o;simp only[Act.put,QH] at s;by_cases e:t=i
  ·simp_all
  ·rw[if_neg e] at o s;exact E.2 i u x o s
theorem V.undef:V σ M Fz w (.aB []) undef:=.aB #[] rfl (λi d v h=>by simp at h)
theorem kC(E:cf σ M Fz w env a.tmps){ops:Array Oper}{o:Oper}{g:Option (Nat×Bool)}{b:Bool}(f:tU ops o.guard=some g)(h:eU env g=some b) :
  Region.wanted o (yielded ops a.tmps)=b:=by
 unfold Region.wanted;cases k:o.guard with
 |none=>grind [tU,eU]
 |some p=>
  obtain ⟨j,l⟩:=p;rw[k] at f;simp only[tU] at f;split at f
  ·rename_i t n;simp only[ab] at f;subst f;simp only[eU] at h;simp only[yielded,n,Option.bind_some];split at h
   ·rename_i q i;have d:=(dT.1 i).1;have e:a.tmps[t]? = some (a.tmps[t]'(by rw[E.1];exact d)):=nE _;have:=(E.2 t _ _ i e).bx
    simp_all
   ·rename_i i;have d:=(dT.1 i).1;have e:a.tmps[t]? = some (a.tmps[t]'(by rw[E.1];exact d)):=nE _;have m:=E.2 t _ _ i e;generalize r:a.tmps[t]'(by grind)=x at m e;rw[e];simp only[ab] at h;subst h;cases m with
    |aB s=>simp_all
   simp_all
  simp_all
theorem SM(E:cf σ M Fz w env a.tmps){o:Oper}{f:Operand}{args:Array Operand}{s:Array TypeId}{of:ay}{os:List ay}{g:FuncId}{ds:List D}
  (N:o.op=.call { callee:=.value f,args:=args,argTypes:=s }) (O:ba f=some of) (t:Bv args=some os)
  (u:(∃first cap,of.ev env=.c (.fn (.func g) first cap)/\ds=first.map .c++os.map (ay.ev env)++cap.map .c)∨(∃first cap,of.ev env=.fn (.func g) first cap/\ds=first++os.map (ay.ev env)++cap))
  (h:aH P g=true):∃b:Array Value,(execOp a.eval o).run P w=.ok (.enter g b) w/\b.size=ds.length/\∀(i:Nat) d v,ds[i]? = some d->b[i]? = some v->V σ M Fz w d v:=by
 obtain ⟨T,U⟩:=Cy E t;have n:=jc E O;have p:∀(first cap:List D)(b j:Array Value),a.eval f=.func (.func g) b j->ds=first++os.map (ay.ev env)++cap->b.size=first.length->j.size=cap.length ->
   (∀(i:Nat) d v,first[i]? = some d->b[i]? = some v->V σ M Fz w d v)->(∀(i:Nat) d v,cap[i]? = some d->j[i]? = some v->V σ M Fz w d v) ->
   ∃b:Array Value,(execOp a.eval o).run P w=.ok (.enter g b) w/\b.size=ds.length/\∀(i:Nat) d v,ds[i]? = some d->b[i]? = some v->V σ M Fz w d v:=by
  intro first cap b j e hd y z k l
  refine ⟨b++args.map a.eval++j,?_,by simp_all,λi d v m r=>?_⟩
  ·unfold aH at h;split at h
   ·rename_i fn A;simp only[aU,zC,ne_eq] at h;obtain ⟨W,F⟩:=h;have G:fn.body.isNone=false:=by simp_all
    simp only[execOp,N,resolve,e,Deferred.ofValue,Sem.run_bind,Sem.run_pure,Result.andThen_ok,invoke,callFunc,run_program,A,oQ,F,G,bm,aV]
   simp_all
  grind
 rcases u with ⟨first,cap,K,hd⟩ | ⟨first,cap,K,hd⟩
 ·rw[K] at n;have q:=n.lU;generalize e:a.eval f=R at q;cases q with
  |fn b j y z k l=>
   refine p _ _ b j e hd (by grind) (by grind) (λi d v m r=>?_) (λi d v m r=>?_)
   ·simp only[gT,bq] at m;obtain ⟨x,L,rfl⟩:=m;exact .c (k i x v L r)
   ·simp only[gT,bq] at m;obtain ⟨x,L,rfl⟩:=m;exact .c (l i x v L r)
 ·rw[K] at n;generalize e:a.eval f=R at n;cases n with
  |fn b j y z k l=>exact p _ _ b j e hd y z k l
theorem EF(O:pj P orc)(R:Rel σ M Fz w)(E:cf σ M Fz w env a.tmps){o:Oper}{ao:iA}{d:D}{wr:List Nat}{Q:Exit->Act->World->Prop}(A:comp P o.op o.type=some ao)
  (h:aI P orc ao env σ=some (d,σ',wr)) (K:Act->World->Prop)
  (t:∀v w' M' Fz',Rel σ' M' Fz' w'->V σ' M' Fz' w' d v->aW σ M Fz w σ' M' Fz' w'->σ.length<=σ'.length->K (a.put o.dst v) w'):o.wp P a w K Q:=by
 rcases qg A with ⟨f,args,F,of,os,j,G,k,rfl⟩ | ⟨l,i,_⟩
 ·simp only[aI] at h;have u:∀g ds,orc g ds σ=some (d,σ',wr) ->
    ((∃first cap,of.ev env=.c (.fn (.func g) first cap)/\ds=first.map .c++os.map (ay.ev env)++cap.map .c)∨(∃first cap,of.ev env=.fn (.func g) first cap/\ds=first++os.map (ay.ev env)++cap))->o.wp P a w K Q:=by
   intro g ds L m;obtain ⟨n,p,q,_⟩:=O g ds σ d σ' wr L;obtain ⟨N,b,hs,r⟩:=SM (P:=P) E j G k m n;unfold Oper.wp;rw[b];refine (p M Fz w N R hs r).mono λe w' T=>?_
   grind
  grind
 ·obtain ⟨U,v,w',M',b,s,x,y,z,q⟩:=QW R E l i h;unfold Oper.wp;rw[b];rcases s with rfl | ⟨rfl,rfl⟩
  ·exact t v w' M' Fz x y z q
  ·exact t _ w' M' Fz x y z q
theorem CR{orc:ey}(O:jX P orc)(R:Rel σ M Fz w)(E:cf σ M Fz w env a.tmps){ops:Array Oper}{i:Nat}{o:Oper}{ao:av}{wr:List Nat}{Q:Exit->Act->World->Prop}(n:ops[i]? = some o)(f:aO P ops o=some ao)
  (h:du P orc ao env σ=some (env',σ',wr)) (K:Act->World->Prop)
  (p:∀j w' M' Fz',j.defers=a.defers->Rel σ' M' Fz' w'->cf σ' M' Fz' w' env' j.tmps->aW σ M Fz w σ' M' Fz' w'->σ.length<=σ'.length->K j w'):wpOp P ops Q i K a w:=by
 unfold aO at f;split at f
 ·rename_i g s q k;simp only[ab] at f;subst f;unfold du at h;have e:∀v,(a.put o.dst v).defers=a.defers:=λv=>by cases o.dst <;> rfl
  split at h
  ·rename_i l;have b:=kC E q l;simp only[bq] at h;obtain ⟨⟨d,t,bF⟩,m,h⟩:=h;simp only[aC] at h;obtain ⟨rfl,rfl,rfl⟩:=h;unfold wpOp;rw[n];simp only[b,if_true];exact .inl (EF (O o.dst) R E k m K λv w' M' Fz' u x r y=>p _ w' M' Fz' (e v) u ((E.mono r).put o.dst x) r y)
  ·rename_i l;have b:=kC E q l;simp only[ab,aC] at h;obtain ⟨rfl,rfl,rfl⟩:=h;unfold wpOp;rw[n];simp only[b,aV,bm];exact p _ w M Fz (e _) R (E.put o.dst V.undef) (aW.refl R) (bQ _)
  simp_all
 simp_all
theorem XJ{orc:ey}(O:jX P orc){ops:Array Oper}{Q:Exit->Act->World->Prop}:∀(os:List av)(k:Nat)(σ σ':aa)(M:Nat->Option Nat)(Fz:Nat->Prop)(w:World)(env env':List D)(a:Act)(wr:List Nat),
  (∀j ao,os[j]? = some ao->∃o,ops[k+j]? = some o/\aO P ops o=some ao)->Rel σ M Fz w->cf σ M Fz w env a.tmps->kz P orc os env σ=some (env',σ',wr) ->
  (∀g w' M' Fz',g.defers=a.defers->Rel σ' M' Fz' w'->cf σ' M' Fz' w' env' g.tmps->aW σ M Fz w σ' M' Fz' w'->σ.length<=σ'.length->Q .normal g w') ->
  wpOps P ops Q (List.range' k os.length) a w:=by
 intro os;induction os with
 |nil=>intro k σ σ' M Fz w env env' a wr _ R E h i;simp only[kz,ab,aC] at h;obtain ⟨rfl,rfl,_⟩:=h;exact i a w M Fz rfl R E (aW.refl R) (bQ _)
 |cons ao os ih=>
  intro k σ σ' M Fz w env env' a wr b R E h i;simp only[kz] at h;split at h
  ·rename_i d l w1 v;split at h
   ·rename_i e x w2 y;simp only[ab,aC] at h;obtain ⟨rfl,rfl,_⟩:=h;obtain ⟨o,Y,m⟩:=b 0 ao (by simp);simp only[List.length_cons,List.range'_succ];rw[wpOps_cons];refine CR O R E (by omega) m v _ λz w' A n hd F G p f=>?_;refine ih (k+1) l x A n w' d e z w2 (λj q Z=>?_) F G y λK r L s N T U t u=>?_
    ·obtain ⟨o',W,X⟩:=b (j+1) q (by simp_all)
     grind
    ·exact i K r L s (by simp_all) T U (p.trans t f) (jI f u)
   simp_all
  simp_all
end
end Go.Abs
end
section
namespace Go.Abs
variable[Gl]
def m_:iA->List ay
 |.uV x=>[x]
 |.pick c a b=>[c,a,b]
 |.gen op _=>op.operands.toList.filterMap ba
 |.box x=>[x]
 |.alloc _=>[]
 |.build _ e=>e.map (·.2.2)
 |.fZ _ _ _ e=>e.map (·.2.2)
 |.load _ a=>[a]
 |.store _ a x=>[a,x]
 |.jH x=>[x]
 |.fS _ _ x=>[x]
 |.Aw _ x=>[x]
 |.idx _ _ x i=>[x,i]
 |.Mp _ x g h=>x::(g.toList++h.toList)
 |.len x=>[x]
 |.Nd x=>[x]
 |.mk _ _ _ l c=>[l,c]
 |.pP=>[]
 |.lookup _ _ m k _=>[m,k]
 |.rK _ m k x=>[m,k,x]
 |.extract x _=>[x]
 |.yD _ f c=>f++c
 |.part _ _ x=>[x]
 |.wx _ _ _ x i=>[x,i]
 |.append _ _ s x=>[s,x]
 |.copy _ d s=>[d,s]
 |.del _ m k=>[m,k]
 |.Lj _ x g h j=>[x,g,h,j]
 |.yf _ x=>[x]
 |.Zw _ _ x=>[x]
 |.call f as=>f::as
theorem wg{env env':List D}:∀(ps:List (Nat×Nat×ay))(cs:List D),(∀x∈ps.map (·.2.2),x.ev env=x.ev env')->lL env cs ps=lL env' cs ps:=by
 intro ps;induction ps with
 |nil=>intro cs _;rfl
 |cons p ps ih=>
  intro cs h;obtain ⟨o,n,x⟩:=p;simp only[lL,h x (by simp)]
  simp_all
theorem rX{env env':List D}(d m:Nat)(o:Option ay)(h:∀x∈o.toList,x.ev env=x.ev env'):kI env d m o=kI env' d m o:=by
 cases o with
 |none=>rfl
 |some x=>grind [kI]
theorem ED{P:Program}{op:Op}{ty:TypeId}{env env':List D}(d:∀cs b,op≠.select cs b)(h:∀x∈op.operands.toList.filterMap ba,x.ev env=x.ev env'):kl P op ty env=kl P op ty env':=by
 have e:∀x∈op.operands.toList,((ba x).map (ay.ev env))=((ba x).map (ay.ev env')):=by
  intro x e;cases f:ba x with
  |none=>rfl
  |some o=>grind
 unfold kl;have g:op.operands.toList.all (λx=>(((ba x).map (ay.ev env)).bind D.bO).isSome)=op.operands.toList.all (λx=>(((ba x).map (ay.ev env')).bind D.bO).isSome):=by grind
 grind [Go.execOp_congr]
def Af:iA->Prop
 |.gen op _=>∀d b,op≠.select d b
 |_=>True
theorem sy{P:Program}{orc:qB}{ao:iA}{env env':List D}{σ:aa}(hs:Af ao)(h:∀x∈m_ ao,x.ev env=x.ev env'):aI P orc ao env σ=aI P orc ao env' σ:=by
 cases ao with
 |gen op ty=>simp only[aI,ED hs h]
 |build z g=>simp only[aI,wg g z h]
 |fZ n l z g=>simp only[aI,wg g _ h]
 |Mp e x j p=>
  simp only[aI,h x (by simp[m_])];have r:∀d m,kI env d m j=kI env' d m j:=λd m=>rX d m j (λy q=>h y (by grind [m_]));have s:∀d m,kI env d m p=kI env' d m p:=λd m=>rX d m p (λy q=>h y (by grind [m_]))
  simp_all
 |yD f a b=>grind [List.map_congr_left,m_,aI]
 |call f a=>grind [List.map_congr_left,m_,aI]
 |idx e o x i=>cases o <;> simp only[aI,h x (by simp[m_]),h i (by simp[m_])]
 |uV x=>grind [aI,m_]
 |pick c a b=>grind [aI,m_]
 |box x=>grind [aI,m_]
 |alloc z=>rfl
 |load n x=>grind [aI,m_]
 |store n x y=>grind [aI,m_]
 |jH x=>grind [aI,m_]
 |fS k n x=>grind [aI,m_]
 |Aw o x=>grind [aI,m_]
 |len x=>grind [aI,m_]
 |Nd x=>grind [aI,m_]
 |mk e b z x y=>grind [aI,m_]
 |pP=>rfl
 |lookup k z x y o=>grind [aI,m_]
 |rK k x y z=>simp only[aI,h x (by simp[m_]),h y (by simp[m_]),h z (by simp[m_])]
 |extract x i=>grind [aI,m_]
 |part o n x=>grind [aI,m_]
 |wx e l n x y=>grind [aI,m_]
 |append e b x y=>grind [aI,m_]
 |copy e x y=>simp only[aI,h x (by simp[m_]),h y (by simp[m_])]
 |del k x y=>grind [aI,m_]
 |Lj e x y z u=>simp only[aI,h x (by simp[m_]),h y (by simp[m_]),h z (by simp[m_]),h u (by simp[m_])]
 |yf m x=>grind [aI,m_]
 |Zw e z x=>grind [aI,m_]
theorem jF{P:Program}{op:Op}{ty:TypeId}{ao:iA}(h:comp P op ty=some ao):Af ao:=by
 rcases qg h with ⟨f,args,d,of,os,rfl,_,_,rfl⟩ | ⟨_,_,i⟩
 ·trivial
 ·cases ao with
  |gen e g=>
   intro j b k
   grind [Qq]
  |_=>trivial
theorem Gb{P:Program}{orc:qB}(O:pj P orc){ao:iA}{env:List D}{σ σ':aa}{d:D}{wr:List Nat}(h:aI P orc ao env σ=some (d,σ',wr)) :
  σ.length<=σ'.length/\∀b,b<σ.length->b∉wr->σ'[b]? = σ[b]?:=by
 have same:σ'=σ->σ.length<=σ'.length/\∀b,b<σ.length->b∉wr->σ'[b]? = σ[b]?:=by simp_all
 have PS:∀g,σ'=σ++[g]->σ.length<=σ'.length/\∀b,b<σ.length->b∉wr->σ'[b]? = σ[b]?:=by grind
 have set:∀b g,σ'=σ.set b g->wr=[b]->σ.length<=σ'.length/\∀b,b<σ.length->b∉wr->σ'[b]? = σ[b]?:=by grind
 cases ao with
 |call f args=>
  simp only[aI] at h;split at h
  ·exact ⟨(O _ _ _ _ _ _ h).2.2.1,(O _ _ _ _ _ _ h).2.2.2⟩
  ·exact ⟨(O _ _ _ _ _ _ h).2.2.1,(O _ _ _ _ _ _ h).2.2.2⟩
  simp_all
 |uV x=>grind [aI]
 |pick c a b=>simp only[aI,bq,aC] at h;grind
 |gen op ty=>simp only[aI,bq,aC] at h;grind
 |box x=>simp only[aI,bq,aC] at h;grind
 |alloc z=>grind [aI]
 |build z j=>simp only[aI,bq,aC] at h;grind
 |fZ n l z j=>simp only[aI,bq,aC] at h;grind
 |load n x=>
  simp only[aI] at h;split at h
  ·simp only[Option.bind_eq_bind,bC,ab,aC] at h;grind
  ·simp only[Option.bind_eq_bind,bC,ab,aC] at h;grind
  simp_all
 |store n x y=>grind [aI,Option.bind_eq_some_iff]
 |jH x=>grind [aI]
 |fS k n x=>simp only[aI,bq,aC] at h;grind
 |Aw o x=>grind [aI]
 |idx e o x i=>
  cases o with
  |none=>
   simp only[aI,Option.bind_eq_bind,bC] at h
   grind [Option.bind_eq_some_iff]
  |some len=>
   simp only[aI,Option.bind_eq_bind,bC] at h;obtain ⟨_,_,_,_,h⟩:=h;split at h
   ·simp_all
   ·simp_all
   ·grind
   simp_all
 |Mp e x p q=>
  simp only[aI] at h;split at h
  ·simp only[Option.bind_eq_bind,bC,ab,aC] at h;grind
  ·grind [Option.bind_eq_some_iff]
  ·grind [Option.bind_eq_some_iff]
  simp_all
 |len x=>simp only[aI,bq,aC] at h;grind
 |Nd x=>simp only[aI,bq,aC] at h;grind
 |mk e b z x y=>grind [aI,Option.bind_eq_some_iff]
 |pP=>grind [aI]
 |lookup k z x y o=>
  simp only[aI,Option.bind_eq_bind,bC,ab,aC] at h
  grind
 |rK k x y z=>
  simp only[aI,Option.bind_eq_bind,bC] at h
  grind [Option.bind_eq_some_iff]
 |del k x y=>
  simp only[aI,Option.bind_eq_bind,bC] at h
  grind [Option.bind_eq_some_iff]
 |extract x i=>
  simp only[aI] at h
  grind
 |yD f a b=>grind [aI]
 |part o n x=>
  simp only[aI] at h;split at h
  ·simp only[bq,aC] at h;grind
  simp_all
 |wx e l n x y=>
  simp only[aI,Option.bind_eq_bind,bC] at h;obtain ⟨_,_,_,_,h⟩:=h;split at h
  ·simp only[bq,aC] at h;grind
  simp_all
 |append e b x y=>
  simp only[aI,Option.bind_eq_bind,bC] at h
  grind [Option.bind_eq_some_iff]
 |yf m x=>
  simp only[aI] at h;split at h
  ·split at h
   ·simp only[ab,aC] at h;exact same h.2.1.symm
   ·simp at h
  ·simp at h
 |Lj e x y z u=>
  simp only[aI] at h;split at h
  ·simp only[Option.bind_eq_bind,bC] at h
   grind
  simp_all
 |Zw e z x=>grind [aI,Option.bind_eq_some_iff]
 |copy e x y=>
  simp only[aI] at h;split at h
  ·grind [Option.bind_eq_some_iff]
  simp_all
end Go.Abs
end
section
namespace Go
def Code.calm:Code->Bool
 |.seq x y=>x.calm&&y.calm
 |.cond _ x y=>x.calm&&y.calm
 |.block _ c=>c.calm
 |.loop c=>c.calm
 |.region _ _ _=>true
 |.ret=>true
 |.exit _=>true
 |.goto _=>true
 |.label _=>true
 |.skip=>true
 |_=>false
end Go
namespace Go.Abs
variable[Gl]
structure cP where
 cat:Nat
 blk:Option Nat
 wr:List Nat
 dst:Option Nat
 Vf:List Nat
 lo:Nat
 hi:Nat
 deriving Inhabited
def sL(o:av):List Nat:=(m_ o.op).filterMap (λ| .t n=>some n | _=>none)++(match o.g with | some (t,_)=>[t] | none=>[])
def ce (o:av) (env:List D) (lo hi:Nat) (wr:List Nat):cP:=
  { cat := match eU env o.g with | some true => cat o.op | _ => 0,
    blk:=match KD o.op env with | .ptr b _ _=>some b | _=>none,
    wr:=wr,dst:=o.dst,Vf:=sL o,lo:=lo,hi:=hi }
def ie(σ σ':aa)(wr:List Nat):Bool:=
 wr.all λb=>match σ[b]?,σ'[b]? with
  |some x,some y=>x.sz == y.sz
  |_,_=>false
def iT(P:Program)(orc:ey):Nat->List av->List D->aa->Option (List D×aa×List cP)
 |_,[],env,σ=>some (env,σ,[])
 |n, o :: os, env, σ=>
  match du P orc o env σ with
  |some (d, b, w1)=>
   if n == 0 || ie σ b w1 then
    match iT P orc (n-1) os d b with
    |some (e,am,is)=>some (e,am,ce o env σ.length b.length w1::is)
    |none=>none
   else none
  |none=>none
def RI(b:Option Nat)(l:List Nat):Bool:=
 match b with
 |some t=>!l.contains t
 |none=>true
def safe(i:cP)(wr:List Nat):Bool:=
 wr.isEmpty || i.cat == 0 || i.cat == 2 || (i.cat == 1&&(match i.blk with | some b=>!wr.contains b | none=>true))
def outside(i:cP)(wr:List Nat):Bool:=wr.all λb=>b<i.lo || i.hi<=b
def apart(x y:cP):Bool:=
 RI x.dst y.Vf&&RI y.dst x.Vf&&(match x.dst,y.dst with | some s,some t=>s != t | _,_=>true)&&(safe x y.wr&&safe y x.wr)&&(outside x y.wr&&outside y x.wr)
def dk(b:List Nat)(d:List cP):Bool:=
 (List.range d.length).all λj=>(List.range j).all λi=>(b.getD j 0).testBit i || apart (d.getD i default) (d.getD j default)
def kU(b:List Nat)(p n m:Nat):Bool:=
 (List.range m).all λj=>j<n || (List.range j).all λi=>Nat.blt i p || (b.getD j 0).testBit i
def WI(o:Oper):Bool:=
 o.guard.isNone&&(match o.op with
  |.move _ | .assign _=>true
  |_=>false)
def DG(n:Nat):Nat->Array Bool
 |0=>Array.replicate n false
 |i+1=>(DG n i).setIfInBounds i true
def xO(ops:Array Oper)(i:Nat):Bool:=
 ((ops[i]?).map WI).getD false&&Region.free .any ops (DG ops.size i) i&&(Region.ready .any ops (DG ops.size i)).contains i
def leads(ops:Array Oper):Nat->Nat->Nat
 |0,_=>0
 |k+1,i=>if xO ops i then leads ops k (i+1)+1 else 0
def lead(ops:Array Oper):Nat:=if Region.noSelect ops then leads ops ops.size 0 else 0
inductive az where
 |skip
 |wm (ops:List av)
 |AE (ops:List av) (bef:List Nat) (n p:Nat)
 |seq (a b:az)
 |cond (c:ay) (thn els:az)
 |block (id:Nat) (body:az)
 |loop (body:az)
 |exit (id:Nat)
 |ret
 |stuck
 |Qx (l:Nat)
 |Mu (l:Nat) (a r:az)
 |Mm (o:ay) (ps:List Nat) (a b:az)
 deriving Inhabited
def Vw:az->Option Nat
 |.seq a b=>match Vw a with | some l=>some l | none=>Vw b
 |.Qx l=>some l
 |_=>none
def GX(l:Nat):az->Option az
 |.seq a b=>match GX l a with | some r=>some (.seq r b) | none=>GX l b
 |.Qx d=>if (d == l)=true then some .skip else none
 |_=>none
def JA(a:az):az:=match Vw a with
 |some l=>match GX l a with | some r=>.Mu l a r | none=>.stuck
 |none=>.stuck
def Jr(o:Option ay)(ps:List Nat)(a b:Option az)(calm:Bool):az:=match o,a,b,calm with
 |some o,some a,some b,true=>.Mm o ps a b
 |_,_,_,_=>.stuck
theorem vV(o:Option ay)(ps:List Nat)(a b:Option az)(calm:Bool):(∃o' d e,o=some o'/\a=some d/\b=some e/\calm=true/\Jr o ps a b calm=.Mm o' ps d e)∨Jr o ps a b calm=.stuck:=by
 unfold Jr
 grind
def Dw(acc:List Nat)(o:Oper):Nat:=
 o.after.toList.foldl (λs e=>if Region.binds .any e then s ||| 2 ^ e.on ||| acc.getD e.on 0 else s) 0
def HH(l:List Oper):List Nat:=l.foldl (λb o=>b++[Dw b o]) []
def gU:List av->Nat
 |[]=>0
 |o :: os => match o.op with
  |.append ..=>0
  |_=>gU os+1
def uo(l:List Oper):Bool:=(List.range l.length).all λj=>((l.getD j default).after.toList.all λe=>!Region.binds .any e || e.on<j)
def aS(P:Program):Code->Option az
 |.skip=>some .skip
 |.region _ ops d=>
  match ops.toList.mapM (aO P ops) with
  |some os=>if d then (if uo ops.toList then some (.AE os (HH ops.toList) (gU os) (lead ops)) else some .stuck) else some (.wm os)
  |none=>some .stuck
 |.seq a b => match aS P a, aS P b with
  |some x,some y=>some (.seq x y)
  |_,_=>none
 |.cond c a b => match ba c, aS P a, aS P b with
  |some o,some x,some y=>some (.cond o x y)
  |_,_,_=>some .stuck
 |.block id b=>(aS P b).map (.block (2 * id))
 |.loop b=>(aS P b).map .loop
 |.exit id=>some (.exit (2 * id))
 |.goto l=>some (.exit (2 * l+1))
 |.label l=>some (.Qx l)
 |.scope b=>(aS P b).map JA
 |.rangeFunc g e x y=>some (Jr (ba g) e.toList (aS P x) (aS P y) (x.calm&&y.calm))
 |.ret=>some .ret
 |_=>some .stuck
theorem cU{P:Program}{g:Operand}{ps:Array Tmp}{x y:Code}{ac:az}(h:aS P (.rangeFunc g ps x y)=some ac):(∃o a b,ba g=some o/\aS P x=some a/\aS P y=some b/\(x.calm&&y.calm)=true/\ac=.Mm o ps.toList a b)∨ac=.stuck:=by simp only[aS,ab] at h;subst h;exact vV _ _ _ _ _
structure iw where
 nparams:Nat
 ntmps:Nat
 results:List (Nat×Option (Option Nat))
 body:az
 bG:Bool
 deriving Inhabited
def DM(P:Program):ResultVar->Option (Nat×Option (Option Nat))
 |.tmp t=>some (t,none)
 |.cell a t=>(yF P t).map λn=>(a,some n)
def e_(P:Program)(f:Func)(bG:Bool):Option iw:=
 match f.body with
 |some b=>
  match aS P b,f.results.toList.mapM (DM P) with
  |some c,some rs=>some ⟨f.params.size+f.nfree,f.ntmps,rs,c,bG⟩
  |_,_=>none
 |none=>none
inductive jr where
 |normal
 |exit (id:Nat)
 |ret
 deriving DecidableEq,Inhabited
def cZ(os:List av):Nat:=os.length-1-(os.reverse.takeWhile λo=>match o.op with | .call ..=>false | _=>true).length
def gW(P:Program)(orc:ey)(os:List av)(b:List Nat)(p n:Nat)(env:List D)(σ:aa):Option (List D×aa×List Nat):=
 match iT P orc n os env σ with
 |some (env',σ',is)=>if dk b is&&kU b p n os.length&&Nat.ble p n then some (env',σ',is.flatMap (·.wr)) else none
 |none=>none
def ij(P:Program)(orc:ey):Nat->az->List D->aa->List Nat->Option (jr×List D×aa×List Nat)
 |0,_,_,_,_=>none
 |_+1,.skip,env,σ,wr=>some (.normal,env,σ,wr)
 |_+1,.wm os,env,σ,wr=>(kz P orc os env σ).map λr=>(.normal,r.1,r.2.1,r.2.2++wr)
 |_ + 1, .AE os f n p, env, σ, wr=>
  match gW P orc os f p n env σ with
  |some (env',σ',w)=>some (.normal,env',σ',w++wr)
  |none=>
   match gW P orc os f p (cZ os) env σ with
   |some (env',σ',w)=>some (.normal,env',σ',w++wr)
   |none=>
    match gW P orc os f p os.length env σ with
    |some (env',σ',w)=>some (.normal,env',σ',w++wr)
    |none=>none
 |k + 1, .seq a b, env, σ, wr=>
  match ij P orc k a env σ wr with
  |some (.normal,d,e,bF)=>ij P orc k b d e bF
  |r=>r
 |k + 1, .cond c a b, env, σ, wr=>
  match fD (c.ev env) with
  |some true=>ij P orc k a env σ wr
  |some false=>ij P orc k b env σ wr
  |none=>none
 |k + 1, .block id b, env, σ, wr=>
  match ij P orc k b env σ wr with
  |some (.exit i,d,e,bF)=>if i=id then some (.normal,d,e,bF) else some (.exit i,d,e,bF)
  |r=>r
 |k + 1, .loop b, env, σ, wr=>
  match ij P orc k b env σ wr with
  |some (.normal,d,e,bF)=>ij P orc k (.loop b) d e bF
  |r=>r
 |_+1,.exit id,env,σ,wr=>some (.exit id,env,σ,wr)
 |_+1,.ret,env,σ,wr=>some (.ret,env,σ,wr)
 |_+1,.stuck,_,_,_=>none
 |_+1,.Qx _,_,_,_=>none
 |_+1,.Mu _ _ _,_,_,_=>none
 |_+1,.Mm _ _ _ _,_,_,_=>none
theorem Dp(a:az):(∃l r,GX l a=some r/\JA a=.Mu l a r)∨JA a=.stuck:=by
 unfold JA
 grind
def chunks(n:Nat):Nat->List C->List (List C)
 |0,_=>[]
 |k+1,l=>l.take n::chunks n k (l.drop n)
def dK(σ:aa)(n:Nat):Nat->D->Option C
 |0,_=>none
 |k + 1, d=>
  match d with
  |.c x=>some x
  |.ptr b off sz=>
   if n<=b then
    match jZ σ b sz with
    |some g=>(g.mapM (dK σ n k)).map λl=>.bE l off
    |none=>none
   else none
  |.sl b off len ai sz=>
   if n<=b/\0<ai/\off+len * ai<=sz then
    match jZ σ b sz with
    |some g=>(((g.drop off).take (len * ai)).mapM (dK σ n k)).map λl=>.bG (Nat.blt 0 len) (chunks ai len l)
    |none=>none
   else none
  |.fn f first cap=>
   match first.mapM (dK σ n k),cap.mapM (dK σ n k) with
   |some a,some b=>some (.fn f a b)
   |_,_=>none
  |.mp b=>
   if n<=b then
    match σ[b]? with
    |some (.map es _)=>(es.mapM λe=>(dK σ n k e.2.1).map λx=>(e.1,x)).map .Ei
    |_=>none
   else none
  |_=>none
def kK(σ:aa)(n k:Nat):D->Option D
 |.agg b=>(b.mapM (dK σ n k)).map λl=>.agg (l.map .c)
 |d=>(dK σ n k d).map .c
def qQ(σ:aa)(n k:Nat):D->Option D
 |.aB ds=>(ds.mapM (kK σ n k)).map .aB
 |d=>kK σ n k d
def EE(env:List D)(σ:aa):Nat×Option (Option Nat)->Option D
 |(t,none)=>env[t]?
 |(t, some n)=>
  match env[t]? with
  |some (.ptr b off sz)=>(jZ σ b sz).bind λd=>oW n d off
  |_=>none
def one:List D->D
 |[d]=>d
 |ds=>.aB ds
def finish(f:iw)(σ0:aa)(env:List D)(σ:aa)(wr:List Nat):Option (D×aa×List Nat):=
 match f.results.mapM (EE env σ) with
 |some ds=>
  let b:=wr.filter (·<σ0.length)
  if f.bG&&b.isEmpty then
   match qQ σ σ0.length 100 (one ds) with
   |some r=>some (r,σ0,[])
   |none=>some (one ds,σ,b)
  else some (one ds,σ,b)
 |none=>none
def WS(P:Program)(orc:qB)(k:Nat)(f:iw)(ds:List D)(σ:aa):Option (D×aa×List Nat):=
 if ds.length=f.nparams then
  match ij P (λ_=>orc) k f.body (ds++List.replicate (f.ntmps-ds.length) (.aB [])) σ [] with
  |some (.normal,env,σ',wr)=>finish f σ env σ' wr
  |some (.ret,env,σ',wr)=>finish f σ env σ' wr
  |_=>none
 else none
def YA(P:Program)(b:FuncId->Option iw)(prim:qB)(k:Nat):Nat->qB
 |0=>λ_ _ _=>none
 |n + 1 => λg ds σ=>
  match prim g ds σ with
  |some r=>some r
  |none=>
   match b g with
   |some f=>WS P (YA P b prim k n) k f ds σ
   |none=>none
end Go.Abs
end
section
namespace Go
def Code.wq(P:Program)(c:Code)(Q:Exit->Act->World->Prop)(a:Act)(w:World):Prop:=
 c.wp P Q a w/\(c.calm=true->∀l n,c.wpIn (Fence.wide.inRound l) n P Q a w)
def jz(Q:Exit->Act->World->Prop):Exit->Act->World->Prop:=λe a w=>Q e a w/\e≠.outgrown
section
variable{P:Program}{ops:Array Oper}{Q:Exit->Act->World->Prop}{a:Act}{w:World}
theorem Fw{c:Code}(h:c.wq P Q a w):c.wp P Q a w:=h.1
theorem Kt:¬LetsOut (jz Q):=λ⟨_,_,h⟩=>h.2 rfl
theorem Pb(l n:Nat){o:Oper}{K:Act->World->Prop}(hd:∀c,o.op≠.defer c)(h:o.wp P a w K Q):o.wpIn (Fence.wide.inRound l) n P a w K Q:=by
 refine ⟨λf _=>trivial,?_⟩;rw[Oper.semAt_eq _ _ _ hd];unfold Oper.wp at h;generalize (execOp a.eval o).run P w=r at *;cases r with
 |ok e w'=>
  cases e with
  |value v=>exact h
  |skip=>exact h
  |defer d=>exact h
  |enter f args=>exact ⟨λb=>by simp[Fence.wide] at b,CallsIn.inRound l (callsIn_wide.2 h)⟩
  |row row args=>exact ⟨λb=>by simp[Fence.wide] at b,λc g _=>let ⟨v,w',r,s⟩:=h c g;⟨v,w',r,stepsIn_wide.2 s⟩⟩
  |_=>exact h.elim
 |halt b w'=>cases b <;> first | exact h | exact h.elim
theorem zf(l n:Nat){i:Nat}{a:Act}{w:World}{K:Act->World->Prop}(hd:∀(i:Nat) o c,ops[i]? = some o->o.op≠.defer c)(e:¬LetsOut Q)(h:wpOp P ops Q i K a w):wpOpIn (Fence.wide.inRound l) n P ops Q i K a w:=by
 unfold wpOp at h;unfold wpOpIn;split at h
 ·rename_i b;simp only[b];exact h
 ·rename_i o b;simp only[b];split at h
  ·rename_i d;simp only[d,if_true];rcases h with h | h
   ·exact Pb l n (λc=>hd i o c b) h
   ·exact absurd h.2 e
  ·rename_i d;simp only[d,aV,bm];exact ⟨λf _=>trivial,h⟩
theorem us{F:Fence}{n:Nat}{i:Nat}{a:Act}{w:World}{K b:Act->World->Prop}(hk:∀a w,K a w->b a w)(h:wpOpIn F n P ops Q i K a w):wpOpIn F n P ops Q i b a w:=by
 cases d:ops[i]? with
 |none=>simp only[wpOpIn,d] at h ⊢;exact hk _ _ h
 |some o=>
  simp only[wpOpIn,d] at h ⊢;cases e:Region.wanted o (yielded ops a.tmps) with
  |true=>simp only[e,if_true] at h ⊢;exact Oper.wpIn_mono hk h
  |false=>simp only[e,aV,bm] at h ⊢;exact ⟨h.1,hk _ _ h.2⟩
theorem JY(l n:Nat)(hd:∀(i:Nat) o c,ops[i]? = some o->o.op≠.defer c)(d:¬LetsOut Q):∀(b:List Nat)(a:Act)(w:World),wpOps P ops Q b a w->wpOpsIn (Fence.wide.inRound l) n P ops Q b a w:=by
 intro b;induction b with
 |nil=>intro a w h;exact h
 |cons i b ih=>intro a w h;rw[wpOps_cons] at h;rw[wpOpsIn_cons];exact us (λa w=>ih a w) (zf l n hd d h)
theorem KQ(l n:Nat){md:Region.Mode}(hd:∀(i:Nat) o c,ops[i]? = some o->o.op≠.defer c)(d:¬LetsOut Q):∀(b:Nat)(listed:Array Bool)(a:Act)(w:World),wpAny P md ops Q b listed a w->wpAnyIn (Fence.wide.inRound l) n P md ops Q b listed a w:=by
 intro b;induction b with
 |zero=>intro listed a w h;exact h
 |succ b ih=>intro listed a w h;exact ⟨h.1,λi e=>us (λa w=>ih _ a w) (zf l n hd d (h.2 i e))⟩
theorem Is{c:Code}{Q':Exit->Act->World->Prop}(h:c.wq P Q a w)(b:∀e a w,Q e a w->Q' e a w):c.wq P Q' a w:=
 ⟨wp_mono h.1 b,λd l n=>wpIn_mono (h.2 d l n) b⟩
theorem LZ{id:Nat}(hd:∀(i:Nat) o c,ops[i]? = some o->o.op≠.defer c)(h:wpOps P ops (jz Q) (List.range ops.size) a w):(Code.region id ops false).wq P Q a w:=
 Is (Q:=jz Q) ⟨wp_region h,λ_ l n=>wpIn_region (JY l n hd Kt _ _ _ h)⟩ λ_ _ _ h=>h.1
theorem sc{id:Nat}(hm:P.follows .mixedOrders=true)(hd:∀(i:Nat) o c,ops[i]? = some o->o.op≠.defer c)
  (h:wpAny P .any ops (jz Q) ops.size (Array.replicate ops.size false) a { w with drawn:=w.drawn+1 }):(Code.region id ops true).wq P Q a w:=
 Is (Q:=jz Q) ⟨wp_region_any hm h,λ_ l n=>wpIn_region_any hm (KQ l n hd Kt _ _ _ _ h)⟩ λ_ _ _ h=>h.1
theorem Tl(h:Q .normal a w):Code.skip.wq P Q a w:=⟨wp_skip h,λ_ _ _=>wpIn_skip h⟩
theorem MW{l:Nat}(h:Q .normal a w):(Code.label l).wq P Q a w:=⟨wp_label h,λ_ _ _=>wpIn_label h⟩
theorem TL{i:Nat}(h:Q (.exit i) a w):(Code.exit i).wq P Q a w:=⟨wp_exit h,λ_ _ _=>wpIn_exit h⟩
theorem SH{i:Nat}(h:Q (.goto i) a w):(Code.goto i).wq P Q a w:=⟨wp_goto h,λ_ _ _=>wpIn_goto h⟩
theorem Wd(h:Q .ret a w):Code.ret.wq P Q a w:=⟨wp_ret h,λ_ _ _=>wpIn_ret h⟩
theorem qD{K b:Act->World->Prop}(hk:∀a w,K a w->b a w):∀e a w,Exit.then K Q e a w->Exit.then b Q e a w:=by intro e a w h;cases e <;> first | exact hk _ _ h | exact h
theorem HY {x y:Code} (h:x.wq P (Exit.then (y.wq P Q) Q) a w):(Code.seq x y).wq P Q a w:=
 ⟨wp_seq (wp_mono h.1 (qD fun _ _ h=>h.1)),fun b l n=>by
  simp only [Code.calm,aU] at b
  exact wpIn_seq (wpIn_mono (h.2 b.1 l n) (qD fun _ _ h=>h.2 b.2 l n))⟩
theorem ua {c:Operand} {x y:Code} (b:a.eval c=.bool true) (h:x.wq P Q a w):(Code.cond c x y).wq P Q a w:=
 ⟨wp_cond_true b h.1,fun d l n=>by
  simp only [Code.calm,aU] at d
  exact wpIn_cond_true b (h.2 d.1 l n)⟩
theorem sa {c:Operand} {x y:Code} (b:a.eval c=.bool false) (h:y.wq P Q a w):(Code.cond c x y).wq P Q a w:=
 ⟨wp_cond_false b h.1,fun d l n=>by
  simp only [Code.calm,aU] at d
  exact wpIn_cond_false b (h.2 d.2 l n)⟩
theorem Ed{id:Nat}{c:Code}(h:c.wq P (Exit.inBlock id Q) a w):(Code.block id c).wq P Q a w:=
 ⟨wp_block h.1,λb l n=>wpIn_block (h.2 b l n)⟩
def Code.rq(P:Program)(c:Code)(Q:Exit->Act->World->Prop):Nat->Act->World->Prop
 |0,_,_=>False
 |n+1,a,w=>c.wq P (Exit.then (Code.rq P c Q n) Q) a w
theorem Dd{c:Code}{n:Nat}:Code.rq P c Q (n+1) a w=c.wq P (Exit.then (Code.rq P c Q n) Q) a w:=rfl
theorem Kl{c:Code}:∀(k:Nat)(a:Act)(w:World),Code.rq P c Q k a w->Code.rounds P c Q k a w:=by
 intro k;induction k with
 |zero=>intro a w h;exact h
 |succ k ih=>intro a w h;exact wp_mono h.1 (qD λa w=>ih a w)
theorem Eg{c:Code}(b:c.calm=true)(l n:Nat):∀(k:Nat)(a:Act)(w:World),Code.rq P c Q k a w->Code.roundsIn (Fence.wide.inRound l) n P c Q k a w:=by
 intro k;induction k with
 |zero=>intro a w h;exact h
 |succ k ih=>intro a w h;exact wpIn_mono (h.2 b l n) (qD λa w=>ih a w)
theorem pc{c:Code}(k:Nat)(h:Code.rq P c Q k a w):(Code.loop c).wq P Q a w:=
 ⟨wp_loop_rounds k (Kl k a w h),λb l n=>wpIn_loop_rounds k (Eg (c:=c) (show c.calm=true from b) l n k a w h)⟩
end
end Go
namespace Go.Abs
theorem tR{P:Program}{op:Op}{t:TypeId}{ao:iA}(h:comp P op t=some ao):∀c,op≠.defer c:=by rintro c rfl;simp[comp,iO] at h
theorem lS{P:Program}{ops:Array Oper}{o:Oper}{ao:av}(h:aO P ops o=some ao):∀c,o.op≠.defer c:=by
 unfold aO at h;split at h
 ·rename_i b;exact tR b
 ·cases h
end Go.Abs
end
section
namespace Go.Abs
variable{σ σ':aa}{M M':Nat->Option Nat}{Fz Fz':Nat->Prop}{w w':World}{P:Program}
theorem eS{D c:Nat}{o:Obj}(h:c≠D):(w.putObj D o).heap[c]? = w.heap[c]?:=World.putObj_heap_other h
theorem V.off{B:Nat}{x:Option (List Deferred)}{o:Obj}(L:¬Fz B)(hD:w.heap[B]? = some (.deferred x)){d:D}{v:Value}(h:V σ M Fz w d v):V σ M Fz (w.putObj B o) d v:=by
 induction h with
 |c h=>exact .c (h.mono λc K=>⟨K,eS (λe=>L (by rw[<-e];exact K))⟩)
 |any v=>exact .any v
 |ptr a u h j i=>exact .ptr a u h j i
 |sl a n cap A u h j i=>
  refine .sl a n cap A u h j (λO=>?_);rcases i O with s | ⟨c,o,E,T,R,U,W,X,hh,hb⟩
  ·exact .inl s
  ·exact .inr ⟨c,o,E,T,R,U,W,X,by grind [eS]⟩
 |mp c u h i=>exact .mp c u h i
 |fn z Y s Z i hw F G=>exact .fn z Y s Z F G
 |agg z s i ih=>exact .agg z s ih
 |aB z s i ih=>exact .aB z s ih
theorem bb.off{D:Nat}{x:Option (List Deferred)}{o':Obj}(G:¬Fz D)(K:w.heap[D]? = some (.deferred x)){ob:Ob}{o:Obj}(h:bb σ M Fz w ob o):bb σ M Fz (w.putObj D o') ob o:=by
 cases ob with
 |cells L=>obtain ⟨j,T,A,E,s⟩:=h;exact ⟨j,T,A,E,λi d v u z=>⟨(s i d v u z).1.off G K,(s i d v u z).2⟩⟩
 |map O F=>obtain ⟨j,A,E,s⟩:=h;exact ⟨j,A,E,λi k d n e u z=>let ⟨a,b,c⟩:=s i k d n e u z;⟨a,b,c.off G K⟩⟩
 |gone n=>exact h.elim
variable[Gl]
theorem Rel.off{D:Nat}{x:Option (List Deferred)}{o':Obj}(R:Rel σ M Fz w)(hm:∀b,M b≠some D)(i:¬Fz D)(s:w.heap[D]? = some (.deferred x)):Rel σ M Fz (w.putObj D o'):={
 blk:=λb c h=>by obtain ⟨u,ob,o,h1,h2,z⟩:=R.blk b c h;exact ⟨u,ob,o,h1,by rw[eS (λe=>hm b (by rw[<-e];exact h))];exact h2,z.off i s⟩
 inj:=R.inj
 fz:=λc h=>by simpa using R.fz c h
 gl:=Gl.mono (λc j=>⟨j,eS (λe=>i (by rw[<-e];exact j))⟩) R.gl }
def mark(D:Nat):Deferred:={ target:=.collected D,args:=#[] }
def MkD(n:Nat)(M:Nat->Option Nat)(Fz:Nat->Prop)(w:World)(D:Nat):Prop:=
 n<=D/\D<w.heap.size/\(∀b,M b≠some D)/\¬Fz D/\w.heap[D]? = some (.deferred (some []))
theorem MkD.mono{n D:Nat}(E:aW σ M Fz w σ' M' Fz' w')(h:MkD n M Fz w D):MkD n M' Fz' w' D:=by
 obtain ⟨a,b,c,d,e⟩:=h;refine ⟨a,xD b E.size,λs j=>?_,λu=>?_,by rw[E.frame D b c];exact e⟩
 ·rcases E.hY s D j with ⟨o,i⟩ | i
  ·exact c o i
  ·omega
 ·rcases E.jj D u with i | ⟨o,i⟩ | i
  ·exact d i
  ·exact c o i
  ·omega
def Mk(n:Nat)(M:Nat->Option Nat)(Fz:Nat->Prop)(w:World)(ds b:List Deferred):Prop:=
 ∃d:List Nat,ds=d.map mark++b/\d.Nodup/\∀D∈d,MkD n M Fz w D
theorem Mk.refl(n:Nat)(ds:List Deferred):Mk n M Fz w ds ds:=⟨[],rfl,List.nodup_nil,λ_ h=>by cases h⟩
theorem Mk.of_eq{n:Nat}{ds i:List Deferred}(h:ds=i):Mk n M Fz w ds i:=h▸Mk.refl n ds
theorem Mk.mono{n:Nat}{ds i:List Deferred}(E:aW σ M Fz w σ' M' Fz' w')(h:Mk n M Fz w ds i):Mk n M' Fz' w' ds i:=
 let ⟨j,h1,h2,h3⟩:=h
 ⟨j,h1,h2,λD o=>(h3 D o).mono E⟩
theorem Mk.trans{n:Nat}{ds i j:List Deferred}(E:aW σ M Fz w σ' M' Fz' w')(U:n<=w.heap.size)(h:Mk n M Fz w i j)(F:Mk w.heap.size M' Fz' w' ds i):Mk n M' Fz' w' ds j:=by
 obtain ⟨G,K,L,A⟩:=h;obtain ⟨u,x,z,o⟩:=F;refine ⟨u++G,by rw[x,K];simp,?_,λD s=>?_⟩
 ·rw[List.nodup_append];refine ⟨z,L,λa O b R e=>?_⟩;have:=(o a O).1;have:=(A b R).2.1;omega
 ·rcases uQ.1 s with s | s
  ·obtain ⟨a,b⟩:=o D s;exact ⟨by omega,b⟩
  ·exact (A D s).mono E
def Bp(M:Nat->Option Nat)(Fz:Nat->Prop)(f:Nat->Option Nat)(e:Nat->Prop):Prop:=(∀b c,f b=some c->∃d,M d=some c)/\(∀c,e c->Fz c∨∃d,M d=some c)/\∀c,Fz c->e c
theorem Bp.refl:Bp M Fz M Fz:=⟨λb c h=>⟨b,h⟩,λc h=>.inl h,λc h=>h⟩
theorem Bp.trans {s u:Nat→Option Nat} {x z:Nat→Prop} (h:Bp M Fz s x) (i:Bp s x u z):Bp M Fz u z:=
 ⟨fun b c e=>let ⟨j,o⟩:=i.1 b c e; h.1 j c o,fun c e=>by
  rcases i.2.1 c e with e | ⟨j,o⟩
  ·exact h.2.1 c e
  ·exact .inr (h.1 j c o),fun c e=>i.2.2 c (h.2.2 c e)⟩
theorem Mk.Sp{n:Nat}{ds i:List Deferred}{u:Nat->Option Nat}{x:Nat->Prop}(h:Mk n M Fz w ds i)(W:Bp M Fz u x):Mk n u x w ds i:=by
 obtain ⟨z,A,E,F⟩:=h;refine ⟨z,A,E,λD G=>?_⟩;obtain ⟨a,b,c,d,e⟩:=F D G;refine ⟨a,b,λK o=>?_,λL=>?_,e⟩
 ·obtain ⟨s,j⟩:=W.1 K D o;exact c s j
 ·rcases W.2.1 D L with j | ⟨s,j⟩
  ·exact d j
  ·exact c s j
theorem Mk.Pm {n k:Nat} {fn:Func} {i:Array Value} {R:Ending→World→Prop}:∀(o:List Nat) (w:World),Rel σ M Fz w→o.Nodup →
  (∀D∈o,n≤D∧(∀b,M b≠some D)∧¬Fz D∧w.heap[D]? = some (.deferred (some []))) →
  (∀w',Rel σ M Fz w'→w'.heap.size=w.heap.size→(w'.os=w.os∧w'.tape=w.tape∧w'.output=w.output)→(∀c:Nat,c<n→w'.heap[c]? = w.heap[c]?)→(∀(c:Nat) arr T u,w.heap[c]? = some (Obj.cells arr T u)→w'.heap[c]? = w.heap[c]?)→(∀c:Nat,Fz c→w'.heap[c]? = w.heap[c]?)→(∀d v,V σ M Fz w d v→V σ M Fz w' d v) →
   ∃v,(results fn i).run P w'=.ok v w'∧R (.returned v) w') →
  LeavesInM Fence.wide k P fn i R (o.map mark) .returning w:=by
 intro o
 induction o with
 | nil =>
  intro w R _ _ h
  exact h w R rfl ⟨rfl,rfl,rfl⟩ (fun _ _=>rfl) (fun _ _ _ _ _=>rfl) (fun _ _=>rfl) (fun _ _ h=>h)
 | cons D o ih =>
  intro w R x E h
  obtain ⟨a,b,c,d⟩:=E D (by simp)
  simp only [List.nodup_cons] at x
  refine ⟨by simp,.inl ⟨D,_,rfl,run_takeDeferred d,?_⟩⟩
  refine ih _ (R.off b c d) x.2 (fun F s=>?_) fun w' G K z L O U W=>?_
  ·obtain ⟨X,Y,Z,A⟩:=E F (by simp [s])
   exact ⟨X,Y,Z,by rw [eS (fun e=>x.1 (by rw [←e]; exact s))]; exact A⟩
  ·refine h w' G (by rw [K]; simp) ⟨z.1,z.2.1,z.2.2⟩ (fun q j=>?_) (fun q arr T u j=>?_) (fun q j=>?_) (fun A v hv=>W A v (hv.off c d))
   ·rw [L q j,eS (by omega)]
   ·have:q≠D:=fun e=>by rw [e,d] at j; cases j
    rw [O q arr T u (by rw [eS this]; exact j),eS this]
   ·rw [U q j,eS (fun e=>c (by rw [←e]; exact j))]
theorem aW.Pm{w'':World}(E:aW σ M Fz w σ' M' Fz' w')(u:w''.heap.size=w'.heap.size)(s:w''.os=w'.os/\w''.tape=w'.tape/\w''.output=w'.output)(x:∀c:Nat,c<w.heap.size->w''.heap[c]? = w'.heap[c]?)
  (z:∀(c:Nat) arr T o,w'.heap[c]? = some (Obj.cells arr T o)->w''.heap[c]? = w'.heap[c]?) (A:∀c:Nat,Fz' c->w''.heap[c]? = w'.heap[c]?):aW σ M Fz w σ' M' Fz' w'':={
 size:=by rw[u];exact E.size
 frame:=λc i F=>by rw[x c i];exact E.frame c i F
 hY:=E.hY
 fz:=λc i=>⟨(E.fz c i).1,by rw[A c (E.fz c i).1];exact (E.fz c i).2⟩
 jj:=E.jj
 lm:=λc arr T o i=>by obtain ⟨j,h,hs⟩:=E.lm c arr T o i;exact ⟨j,by rw[z c j T o h];exact h,hs⟩
 bX:=E.bX
 out:=⟨s.1.trans E.out.1,s.2.1.trans E.out.2.1,s.2.2.trans E.out.2.2⟩ }
theorem Mk.end{k:Nat}{fn:Func}{i:Array Value}{ds:List Deferred}{Q:Ending->World->Prop}(hd:Mk w.heap.size M' Fz' w' ds [])(R:Rel σ' M' Fz' w')(E:aW σ M Fz w σ' M' Fz' w')
  (h:∀w'',Rel σ' M' Fz' w''->aW σ M Fz w σ' M' Fz' w''->(∀d v,V σ' M' Fz' w' d v->V σ' M' Fz' w'' d v)->∃v,(results fn i).run P w''=.ok v w''/\Q (.returned v) w''):LeavesInM Fence.wide k P fn i Q ds .returning w':=by
 obtain ⟨o,s,u,x⟩:=hd;rw[s,DA];refine Mk.Pm (n:=w.heap.size) o w' R u (λD z=>?_) λw'' j A F G K L O=>h w'' j (E.Pm A F G K L) O;obtain ⟨a,b,c,d,e⟩:=x D z;exact ⟨a,c,d,e⟩
omit [Gl] in
theorem jJ{f:FuncId}{fn:Func}{c:Code}{args:Array Value}{R:Ending->World->Prop}(d:P.funcs[f]? = some fn)(g:fn.body=some c)
  (h:c.wp P (λe a w'=>(e=.normal∨e=.ret)/\LeavesInM Fence.wide 0 P fn a.tmps R a.defers .returning w') { tmps:=args++Array.replicate (fn.ntmps-args.size) undef,defers:=[] } w):Calls P f args w R:=
 callsIn_wide.1 (callsIn_of_wp_marks (F:=Fence.wide) (n:=0) d g trivial (wpIn_wide.2 (wp_mono h λe a w' b=>by
  rcases b with ⟨rfl | rfl,b⟩
  ·exact b
  ·exact b)) rfl)
end Go.Abs
end
section
namespace Go.Abs
variable[Gl]
structure Dl (M:Nat->Option Nat) (Fz:Nat->Prop) (w:World) (M':Nat->Option Nat) (Fz':Nat->Prop) (w':World):Prop where
 size:w.heap.size<=w'.heap.size
 frame:∀c:Nat,c<w.heap.size->(∀b,M b≠some c)->w'.heap[c]? = w.heap[c]?
 ext:∀b c,M b=some c->M' b=some c
 hY:∀b c,M' b=some c->M b=some c∨w.heap.size<=c
 fz:∀c:Nat,Fz c->Fz' c/\w'.heap[c]? = w.heap[c]?
 jj:∀c,Fz' c->Fz c∨w.heap.size<=c
 lm:∀(c:Nat) arr T fr,w.heap[c]? = some (.cells arr T fr)->∃arr',w'.heap[c]? = some (.cells arr' T fr)/\arr'.size=arr.size
 out:w'.os=w.os/\w'.tape=w.tape/\w'.output=w.output
section
variable{σ σ':aa}{M M' M'':Nat->Option Nat}{Fz Fz' Fz'':Nat->Prop}{w w' w'':World}
theorem Dl.refl:Dl M Fz w M Fz w:={
 size:=bQ _
 frame:=λ_ _ _=>rfl
 ext:=λ_ _ h=>h
 hY:=λ_ _ h=>.inl h
 fz:=λ_ h=>⟨h,rfl⟩
 jj:=λ_ h=>.inl h
 lm:=λc i T j h=>⟨i,h,rfl⟩
 out:=⟨rfl,rfl,rfl⟩ }
theorem Dl.trans(A:Dl M Fz w M' Fz' w')(B:Dl M' Fz' w' M'' Fz'' w''):Dl M Fz w M'' Fz'' w'':={
 size:=jI A.size B.size
 frame:=λc o u=>by
  rw[<-A.frame c o u];refine B.frame c (xD o A.size) (λb x=>?_);rcases A.hY b c x with i | i
  ·simp_all
  ·omega
 ext:=λb c h=>B.ext b c (A.ext b c h)
 hY:=λb c h=>by
  rcases B.hY b c h with i | i
  ·exact A.hY b c i
  ·exact .inr (jI A.size i)
 fz:=λc h=>⟨(B.fz c (A.fz c h).1).1,by rw[(B.fz c (A.fz c h).1).2,(A.fz c h).2]⟩
 jj:=λc h=>by
  rcases B.jj c h with i | i
  ·exact A.jj c i
  ·exact .inr (jI A.size i)
 lm:=λc j T s h=>by
  obtain ⟨z,h1,E⟩:=A.lm c j T s h;obtain ⟨F,h2,G⟩:=B.lm c z T s h1
  simp_all
 out:=⟨B.out.1.trans A.out.1,B.out.2.1.trans A.out.2.1,B.out.2.2.trans A.out.2.2⟩ }
def ju(σ σ':aa):Prop:=∀(b:Nat) ob,σ[b]? = some ob->∃d,σ'[b]? = some d/\d.sz=ob.sz
theorem ju.refl:ju σ σ:=λ_ i h=>⟨i,h,rfl⟩
theorem V.sub(s:ju σ σ')(z:∀b c,M b=some c->M' b=some c)(G:∀c:Nat,Fz c->Fz' c/\w'.heap[c]? = w.heap[c]?)
  (A:∀(c:Nat) arr T fr,w.heap[c]? = some (.cells arr T fr)->∃i,w'.heap[c]? = some (.cells i T fr)/\i.size=arr.size) {d:D} {v:Value} (h:V σ M Fz w d v):V σ' M' Fz' w' d v:=by
 induction h with
 |c h=>exact .c (h.mono G)
 |any v=>exact .any v
 |ptr a U h K u=>
  obtain ⟨j,E,hs⟩:=s _ _ h;refine .ptr a j E (by omega) (λW=>?_)
  grind
 |sl a n cap L U h K u=>
  obtain ⟨j,E,hs⟩:=s _ _ h;refine .sl a n cap L j E (by omega) (λW=>?_);rcases u (by omega) with x | ⟨c,o,arr,T,hM,ha,hn,hl,ho,X,hb,hz⟩
  ·simp_all
  ·obtain ⟨i,Y,Z⟩:=A _ _ _ _ X
   simp_all
 |mp c U h u=>obtain ⟨j,E,hs⟩:=s _ _ h;exact .mp c j E (λW=>z _ _ (u (by omega)))
 |fn F ws x h2 u hw O R=>exact .fn F ws x h2 O R
 |agg F x u ih=>exact .agg F x ih
 |aB F x u ih=>exact .aB F x ih
theorem V.ext(i:ju σ σ')(S:Dl M Fz w M' Fz' w'){d:D}{v:Value}(h:V σ M Fz w d v):V σ' M' Fz' w' d v:=h.sub i S.ext S.fz S.lm
theorem bb.sub(A:ju σ σ')(s:∀b c,M b=some c->M' b=some c){ob:Ob}{o:Obj}(h:bb σ M Fz w ob o):bb σ' M' Fz w ob o:=by
 have e:∀{d v},V σ M Fz w d v->V σ' M' Fz w d v:=λh=>h.sub A s (λc h=>⟨h,rfl⟩) (λc j T L h=>⟨j,h,rfl⟩);cases ob with
 |cells O=>obtain ⟨j,T,E,F,u⟩:=h;exact ⟨j,T,E,F,λi d v x z=>⟨e (u i d v x z).1,(u i d v x z).2⟩⟩
 |map R G=>obtain ⟨j,E,F,u⟩:=h;exact ⟨j,E,F,λi k d n K x z=>let ⟨a,b,c⟩:=u i k d n K x z;⟨a,b,e c⟩⟩
 |gone n=>exact h.elim
theorem bb.ext(s:ju σ σ')(S:Dl M Fz w M' Fz' w'){ob:Ob}{o:Obj}(h:bb σ M Fz w ob o):bb σ' M' Fz' w' ob o:=by
 cases ob with
 |cells G=>obtain ⟨j,T,A,E,u⟩:=h;exact ⟨j,T,A,E,λi d v x z=>⟨(u i d v x z).1.ext s S,(u i d v x z).2⟩⟩
 |map K F=>obtain ⟨j,A,E,u⟩:=h;exact ⟨j,A,E,λi k d n e x z=>let ⟨a,b,c⟩:=u i k d n e x z;⟨a,b,c.ext s S⟩⟩
 |gone n=>exact h.elim
theorem V.down(z:ju σ σ'){d:D}{v:Value}(h:V σ' M' Fz' w' d v):∀{A:Value},V σ M Fz w d A->V σ M' Fz' w' d v:=by
 induction h with
 |c h=>intro _ _;exact .c h
 |any v=>intro _ _;exact .any v
 |ptr a U h O x=>
  intro A o;cases o with
  |ptr Z s j _ _=>obtain ⟨E,u,hs⟩:=z _ _ j;rw[h] at u;simp only[ab] at u;subst u;exact .ptr a s j (by omega) (λW=>x (by omega))
 |sl a n cap R U h O x=>
  intro A o;cases o with
  |sl Z n0 X _ s j _ _=>obtain ⟨E,u,hs⟩:=z _ _ j;rw[h] at u;simp only[ab] at u;subst u;exact .sl a n cap R s j (by omega) (λW=>x (by omega))
 |mp c U h x=>
  intro A o;cases o with
  |mp c0 s j _=>obtain ⟨E,u,hs⟩:=z _ _ j;rw[h] at u;simp only[ab] at u;subst u;exact .mp c s j (λW=>x (by omega))
 |fn F ws G h2 x hw ad af=>
  intro A o;cases o with
  |fn K ak Y k2 L ax=>
   refine .fn F ws G h2 (λi d v a b=>?_) (λi d v a b=>?_)
   ·grind
   grind
 |agg F G x ih=>
  intro A o;cases o with
  |agg K Y L=>
   refine .agg F G (λi d v a b=>?_)
   grind
 |aB F G x ih=>
  intro A o;cases o with
  |aB K Y L=>
   refine .aB F G (λi d v a b=>?_)
   grind
theorem bb.down(x:ju σ σ'){ob:Ob}{o U:Obj}(h:bb σ' M' Fz' w' ob o)(R:bb σ M Fz w ob U):bb σ M' Fz' w' ob o:=by
 cases ob with
 |cells X=>obtain ⟨s,T,F,G,A⟩:=h;obtain ⟨z,Y,K,L,u⟩:=R;refine ⟨s,T,F,G,λi d v j E=>⟨?_,(A i d v j E).2⟩⟩;have W:=(dT.1 j).1;exact (A i d v j E).1.down x (u i d _ j (nE (by omega))).1
 |map Z O=>obtain ⟨s,F,G,A⟩:=h;obtain ⟨z,K,L,u⟩:=R;refine ⟨s,F,G,λi k d n e j E=>?_⟩;have W:=(dT.1 j).1;obtain ⟨a,b,c⟩:=A i k d n e j E;exact ⟨a,b,c.down x (u i k d n _ j (nE (by omega))).2.2⟩
 |gone n=>exact h.elim
def bN(M:Nat->Option Nat)(n:Nat):Nat->Option Nat:=λb=>if b<n then M b else none
theorem V.cut{d:D}{v:Value}(h:V σ M Fz w d v):V σ (bN M σ.length) Fz w d v:=by
 induction h with
 |c h=>exact .c h
 |any v=>exact .any v
 |ptr a u h i j=>refine .ptr a u h i (λA=>?_);obtain ⟨c,L,O⟩:=j A;exact ⟨c,by simp only[bN];grind,O⟩
 |sl a n cap E u h i j=>
  refine .sl a n cap E u h i (λA=>?_);rcases j A with s | ⟨c,o,F,T,L,x⟩
  ·simp_all
  ·exact .inr ⟨c,o,F,T,by simp only[bN];grind,x⟩
 |mp c u h j=>exact .mp c u h (λA=>by simp only[bN];grind)
 |fn z R s U j W G K=>exact .fn z R s U G K
 |agg z s j ih=>exact .agg z s ih
 |aB z s j ih=>exact .aB z s ih
theorem bb.cut{ob:Ob}{o:Obj}(h:bb σ M Fz w ob o):bb σ (bN M σ.length) Fz w ob o:=by
 cases ob with
 |cells F=>obtain ⟨j,T,z,A,s⟩:=h;exact ⟨j,T,z,A,λi d v u x=>⟨(s i d v u x).1.cut,(s i d v u x).2⟩⟩
 |map G E=>obtain ⟨j,z,A,s⟩:=h;exact ⟨j,z,A,λi k d n e u x=>let ⟨a,b,c⟩:=s i k d n e u x;⟨a,b,c.cut⟩⟩
 |gone n=>exact h.elim
end
inductive wD (ops:Array Oper):Nat->Nat->Prop where
 |one {i j:Nat} {o:Oper} {e:Edge} (ho:ops[j]? = some o) (he:e∈o.after) (hb:Region.binds .any e=true) (hi:e.on=i):wD ops i j
 |more {i j k:Nat} {o:Oper} {e:Edge} (ho:ops[j]? = some o) (he:e∈o.after) (hb:Region.binds .any e=true) (hk:e.on=k) (h:wD ops i k):wD ops i j
def dU(ops:Array Oper)(S:Nat->Prop):Prop:=∀(j:Nat) o e,S j->ops[j]? = some o->e∈o.after->Region.binds .any e=true->S e.on
theorem wD.in{ops:Array Oper}{S:Nat->Prop}(x:dU ops S){i j:Nat}(h:wD ops i j)(z:S j):S i:=by
 induction h with
 |one o s u A=>exact A▸x _ _ _ z o s u
 |more o s u hk h ih=>exact ih (hk▸x _ _ _ z o s u)
theorem wD.ready{ops:Array Oper}{S:Nat->Prop}(z:dU ops S){i j:Nat}(h:wD ops i j)(A:∀o e,ops[j]? = some o->e∈o.after->Region.binds .any e=true->S e.on):S i:=by
 cases h with
 |one s u x E=>grind
 |more s u x hk h=>exact h.in z (hk▸A _ _ s u x)
theorem Nv{ops:Array Oper}{j:Nat}{o:Oper}(m:ops[j]? = some o){acc:List Nat}(f:∀k i,(acc.getD k 0).testBit i=true->wD ops i k){i:Nat}(h:(Dw acc o).testBit i=true):wD ops i j:=by
 unfold Dw at h;have n:∀(l:List Edge)(s:Nat),(∀e∈l,e∈o.after)->(s.testBit i=true->wD ops i j) ->
   (l.foldl (λs e=>if Region.binds .any e then s ||| 2 ^ e.on ||| acc.getD e.on 0 else s) s).testBit i=true->wD ops i j:=by
  intro l;induction l with
  |nil=>simp_all
  |cons e l ih=>
   intro s g hs h;simp only[List.foldl_cons] at h;refine ih _ (λp q=>g p (by grind)) ?_ h;intro d;split at d
   ·rename_i b;simp only[Nat.testBit_or,dQ,Nat.testBit_two_pow,aM] at d;rcases d with (d | d) | d
    ·simp_all
    ·exact .one m (g e (by simp)) b d
    ·exact .more m (g e (by simp)) b rfl (f _ _ d)
   simp_all
 grind
theorem wP{ops:Array Oper}{i j:Nat}(h:((HH ops.toList).getD j 0).testBit i=true):wD ops i j:=by
 have m:∀(l pre:List Oper)(b:List Nat),ops.toList=pre++l->b.length=pre.length->(∀k i,(b.getD k 0).testBit i=true->wD ops i k) ->
   ∀k i,((l.foldl (λb o=>b++[Dw b o]) b).getD k 0).testBit i=true->wD ops i k:=by
  intro l;induction l with
  |nil=>simp_all
  |cons o l ih=>
   intro pre b d e f k i h;simp only[List.foldl_cons] at h;refine ih (pre++[o]) (b++[Dw b o]) (by simp_all) (by simp_all) ?_ k i h;intro k i g;rw[LQ,VK] at g;split at g
   ·simp_all
   ·rename_i hk;by_cases n:k=b.length
    ·subst n;simp at g;refine Nv ?_ f g;rw[<-Gq,d,e,Jo (bQ _)];simp
    grind
 exact m ops.toList [] [] rfl rfl (by simp) j i h
end Go.Abs
end
section
namespace Go.Abs
variable[Gl]
structure Tr (P:Program) (orc:ey) (ops:Array Oper) (os:List av) (p0 n0:Nat) (env:Nat->List D) (sg:Nat->aa) (wrs:Nat->List Nat):Prop where
 len:os.length=ops.size
 comp:∀(j:Nat) ao,os[j]? = some ao->∃o,ops[j]? = some o/\aO P ops o=some ao
 step:∀(i:Nat) ao,os[i]? = some ao->du P orc ao (env i) (sg i)=some (env (i+1),sg (i+1),wrs i)
 wrk:∀i,i<n0->ie (sg i) (sg (i+1)) (wrs i)=true
 le:n0<=os.length
 pair:∀(i j:Nat) x y,i<j->os[i]? = some x->os[j]? = some y->wD ops i j∨apart (ce x (env i) (sg i).length (sg (i+1)).length (wrs i)) (ce y (env j) (sg j).length (sg (j+1)).length (wrs j))=true
 lead:∀i,i<p0->sg (i+1)=sg i/\wrs i=[]
 XU:p0<=n0
section
variable{P:Program}{orc:ey}{ops:Array Oper}{os:List av}{p0 n0:Nat}{env:Nat->List D}{sg:Nat->aa}{wrs:Nat->List Nat}
theorem fC(O:jX P orc){ao:av}{e e':List D}{σ σ':aa}{wr:List Nat}(h:du P orc ao e σ=some (e',σ',wr)) :
  σ.length<=σ'.length/\(∀b,b<σ.length->b∉wr->σ'[b]? = σ[b]?)/\∃d,e'=kc e ao.dst d:=by
 unfold du at h;split at h
 ·simp only[bq] at h;obtain ⟨⟨d,g,bF⟩,f,h⟩:=h;simp only[aC] at h;obtain ⟨rfl,rfl,rfl⟩:=h;obtain ⟨i,j⟩:=Gb (O _) f
  grind
 ·grind
 simp_all
theorem Tr.at(T:Tr P orc ops os p0 n0 env sg wrs){i:Nat}(h:i<os.length):∃ao,os[i]? = some ao:=⟨_,cE h⟩
theorem Tr.frame(T:Tr P orc ops os p0 n0 env sg wrs)(O:jX P orc){i:Nat}(h:i<os.length) :
  (sg i).length<=(sg (i+1)).length/\∀b,b<(sg i).length->b∉wrs i->(sg (i+1))[b]? = (sg i)[b]?:=by
 obtain ⟨o,j⟩:=T.at h;obtain ⟨s,u,_⟩:=fC O (T.step i o j)
 simp_all
theorem Tr.sz1(T:Tr P orc ops os p0 n0 env sg wrs)(O:jX P orc){i:Nat}(h:i<n0):ju (sg i) (sg (i+1)):=by
 intro b u o;have j:=(dT.1 o).1;by_cases s:b∈wrs i
 ·have:=eG.1 (T.wrk i h) b s
  grind
 ·exact ⟨u,by rw[(T.frame O (xD h T.le)).2 b j s];exact o,rfl⟩
theorem Tr.sz(T:Tr P orc ops os p0 n0 env sg wrs)(O:jX P orc){m m':Nat}(h:m<=m')(u:m'<=n0):ju (sg m) (sg m'):=by
 induction m' with
 |zero=>grind [ju.refl]
 |succ k ih=>
  by_cases e:m=k+1
  ·grind [ju.refl]
  ·intro b i j;obtain ⟨o,s,s1⟩:=ih (by omega) (by omega) b i j;obtain ⟨x,z,A⟩:=T.sz1 O (by omega) b o s
   simp_all
theorem Tr.bD(T:Tr P orc ops os p0 n0 env sg wrs)(O:jX P orc){m m':Nat}(h:m<=m')(i:m'<=os.length):(sg m).length<=(sg m').length:=by
 induction m' with
 |zero=>simp_all
 |succ k ih=>
  by_cases e:m=k+1
  ·simp_all
  ·exact jI (ih (by omega) (by omega)) (T.frame O (by omega)).1
theorem Tr.Kk(T:Tr P orc ops os p0 n0 env sg wrs)(O:jX P orc){m m' b:Nat}(h:m<=m')(x:m'<=os.length)(o:b<(sg m).length)(j:∀i,m<=i->i<m'->b∉wrs i) :
  (sg m')[b]? = (sg m)[b]?:=by
 induction m' with
 |zero=>simp_all
 |succ k ih=>
  by_cases e:m=k+1
  ·simp_all
  ·have s:=ih (by omega) (by omega) (λi u hk=>j i u (by omega));rw[<-s];exact (T.frame O (by omega)).2 b (xD o (T.bD O (by omega) (by omega))) (j k (by omega) (by omega))
theorem Tr.vd(T:Tr P orc ops os p0 n0 env sg wrs)(O:jX P orc){m:Nat}(h:m<=os.length):(env m).length=(env 0).length:=by
 induction m with
 |zero=>rfl
 |succ k ih=>obtain ⟨o,j⟩:=T.at (i:=k) (by omega);obtain ⟨_,_,d,hd⟩:=fC O (T.step k o j);rw[hd,<-ih (by omega)];cases o.dst <;> simp[kc]
theorem Tr.uG(T:Tr P orc ops os p0 n0 env sg wrs)(O:jX P orc){m m' t:Nat}(h:m<=m')(z:m'<=os.length)(o:∀i ao,m<=i->i<m'->os[i]? = some ao->ao.dst≠some t) :
  (env m')[t]? = (env m)[t]?:=by
 induction m' with
 |zero=>simp_all
 |succ k ih=>
  by_cases e:m=k+1
  ·simp_all
  ·rw[<-ih (by omega) (by omega) (λi ao x hk=>o i ao x (by omega))];obtain ⟨ao,j⟩:=T.at (i:=k) (by omega);obtain ⟨_,_,d,hd⟩:=fC O (T.step k ao j);rw[hd];have:=o k ao (by omega) (by omega) j;cases u:ao.dst with
   |none=>rfl
   |some s=>grind [kc]
structure Inv (os:List av) (n0:Nat) (env:Nat->List D) (sg:Nat->aa) (wrs:Nat->List Nat) (M0:Nat->Option Nat) (Fz0:Nat->Prop) (w0:World) (oI:List Deferred)
  (S:Nat->Prop) (M:Nat->Option Nat) (Fz:Nat->Prop) (w:World) (a:Act):Prop where
 Kj:a.tmps.size=(env 0).length
 oI:a.defers=oI
 tmp:∀(t m:Nat),m<=n0->(∀i o,i<n0->os[i]? = some o->o.dst=some t->(i<m↔S i))->∀d v,(env m)[t]? = some d->a.tmps[t]? = some v->V (sg m) M Fz w d v
 own:∀b c,M b=some c->¬Fz c/\c<w.heap.size/\((b<(sg 0).length/\M0 b=some c)∨∃j,j<n0/\S j/\(sg j).length<=b/\b<(sg (j+1)).length)
 blk:∀b c,M b=some c->∀m ob,m<=n0->(sg m)[b]? = some ob->(∀i,i<n0->b∈wrs i->(i<m↔S i))->∃o,w.heap[c]? = some o/\bb (sg m) M Fz w ob o
 inj:∀b b' c,M b=some c->M b'=some c->b=b'
 fz:∀c,Fz c->c<w.heap.size
 xC:Dl M0 Fz0 w0 M Fz w
 Wy:Gl.ok Fz0 w0
theorem Inv.start{σ:aa}{M:Nat->Option Nat}{Fz:Nat->Prop}{w:World}{a:Act}(R:Rel σ M Fz w)(j:sg 0=σ)(E:cf σ M Fz w (env p0) a.tmps){S:Nat->Prop}(L:∀i,i<os.length->(S i↔i<p0))
  (T:Tr P orc ops os p0 n0 env sg wrs) (O:jX P orc):Inv os n0 env sg wrs M Fz w a.defers S M Fz w a:={
 Kj:=by rw[E.1,T.vd O (jI T.XU T.le)]
 oI:=rfl
 tmp:=λt m x z d v h1 h2=>by
  have A:=T.le;have U:=T.XU;have Z:(env m)[t]? = (env p0)[t]?:=by
   rcases Nat.le_total m p0 with h | h
   ·exact (T.uG O (m:=m) (m':=p0) (t:=t) h (by omega) (λi W F G s hd=>by have:=(z i W (by omega) s hd).2 ((L i (by omega)).2 G);omega)).symm
   ·exact T.uG O (m:=p0) (m':=m) (t:=t) h (by omega) (λi W F ad s hd=>by grind)
  rw[Z] at h1;have hv:V (sg 0) M Fz w d v:=j▸E.2 t d v h1 h2;exact hv.ext (T.sz O (JG m) x) Dl.refl
 own:=λb c h=>by have X:=R.lt h;exact ⟨(R.blk b c h).1,X.2,.inl ⟨by simp_all,h⟩⟩
 blk:=λb c h m ob x u z=>by
  have X:=R.lt h;have A:=T.le;have:=T.Kk O (m:=0) (m':=m) (b:=b) (by omega) (jI x T.le) (by simp_all) (λi _ F Y=>by
   have K:=(L i (by omega)).1 ((z i (by omega) Y).1 F);rw[(T.lead i K).2] at Y
   grind)
  rw[this,j] at u;obtain ⟨_,af,o,h1,h2,K⟩:=R.blk b c h;rw[u] at h1;simp only[ab] at h1;subst h1;exact ⟨o,h2,(j▸K:bb (sg 0) M Fz w ob o).ext (T.sz O (by omega) x) Dl.refl⟩
 inj:=R.inj
 fz:=R.fz
 xC:=Dl.refl
 Wy:=R.gl }
theorem Inv.done{M0 M:Nat->Option Nat}{Fz0 Fz:Nat->Prop}{w0 w:World}{a:Act}{oI:List Deferred}{S:Nat->Prop}(I:Inv os n0 env sg wrs M0 Fz0 w0 oI S M Fz w a)(T:Tr P orc ops os p0 n0 env sg wrs)(O:jX P orc)
  (K:∀i,i<n0->S i) (L:∀b,M0 b≠none->b<(sg 0).length):Rel (sg n0) M Fz w/\cf (sg n0) M Fz w (env n0) a.tmps/\aW (sg 0) M0 Fz0 w0 (sg n0) M Fz w:=by
 refine ⟨⟨λb c h=>?_,I.inj,I.fz,Gl.mono I.xC.fz I.Wy⟩,⟨by rw[I.Kj,T.vd O T.le],λt d v x A=>I.tmp t n0 (bQ _) (λi _ u _ _=>⟨λ_=>K i u,λ_=>u⟩) d v x A⟩,?_⟩
 ·obtain ⟨x,A,s⟩:=I.own b c h;have z:b<(sg n0).length:=by
   rcases s with ⟨s,_⟩ | ⟨j,R,_,_,s⟩
   ·exact xD s (T.bD O (by omega) T.le)
   ·exact xD s (T.bD O (by omega) T.le)
  have E:(sg n0)[b]? = some (sg n0)[b]:=cE z;obtain ⟨o,Y,Z⟩:=I.blk b c h n0 _ (bQ _) E (λi u _=>⟨λ_=>K i u,λ_=>u⟩)
  simp_all
 ·refine ⟨I.xC.size,I.xC.frame,λb c h=>?_,I.xC.fz,λc h=>?_,I.xC.lm,λb U z=>?_,I.xC.out⟩
  ·rcases I.xC.hY b c h with h | h
   ·grind
   omega
  ·rcases I.xC.jj c h with h | h
   ·simp_all
   omega
  ·obtain ⟨F,x,A⟩:=T.sz O (by omega) (bQ n0) b U z;refine ⟨F,x,by omega,λ_=>?_⟩;have W:=(dT.1 z).1;cases X:M0 b with
   |some c=>exact I.xC.ext b c X
   |none=>
    cases G:M b with
    |none=>rfl
    |some c=>
     obtain ⟨_,_,s⟩:=I.own b c G;rcases s with ⟨_,s⟩ | ⟨j,R,_,s,_⟩
     ·simp_all
     ·have:=T.bD O (m:=0) (m':=j) (by omega) (by have:=T.le;omega);omega
end
end Go.Abs
end
section
namespace Go.Abs
variable[Gl]
section
variable{P:Program}{orc:ey}{ops:Array Oper}{os:List av}{p0 n0:Nat}{env:Nat->List D}{sg:Nat->aa}{wrs:Nat->List Nat}
variable{M0 M M':Nat->Option Nat}{Fz0 Fz Fz':Nat->Prop}{w0 w w':World}{a:Act}{oI:List Deferred}{S S':Nat->Prop}
theorem Tr.ZR(T:Tr P orc ops os p0 n0 env sg wrs){i b:Nat}(h:i<n0)(j:b∈wrs i):b<(sg i).length:=by
 have:=eG.1 (T.wrk i h) b j
 grind
theorem ed {x y:cP} (h:apart x y=true) :
  (∀t,x.dst=some t→t∉y.Vf)∧(∀t,y.dst=some t→t∉x.Vf)∧(∀t,x.dst=some t→y.dst≠some t)∧safe x y.wr=true∧safe y x.wr=true ∧
   (∀b∈y.wr,¬(x.lo≤b∧b<x.hi))∧(∀b∈x.wr,¬(y.lo≤b∧b<y.hi)):=by
 simp only [apart,aU] at h
 obtain ⟨⟨⟨⟨k,l⟩,m⟩,f,g⟩,i,j⟩:=h
 refine ⟨fun t e=>?_,fun t e=>?_,fun t e n=>?_,f,g,fun b d=>?_,fun b d=>?_⟩
 ·grind [RI]
 ·grind [RI]
 ·simp_all
 ·have:=eG.1 i b d
  grind
 ·have:=eG.1 j b d
  grind
theorem Tr.other (T:Tr P orc ops os p0 n0 env sg wrs) (K:dU ops S) {k i:Nat} {x y:av} (L:os[k]? = some x) (O:os[i]? = some y) (s:i≠k) (u:¬S k)
    (z:∀o e,ops[k]? = some o→e∈o.after→Region.binds .any e=true→S e.on) :
    (i<k∧S i)∨(k<i∧¬S i) ∨
      ((∀t,y.dst=some t→t∉sL x)∧(∀t,x.dst=some t→y.dst≠some t) ∧
        safe (ce x (env k) (sg k).length (sg (k+1)).length (wrs k)) (wrs i)=true∧safe (ce y (env i) (sg i).length (sg (i+1)).length (wrs i)) (wrs k)=true ∧
        (∀b∈wrs i,¬((sg k).length≤b∧b<(sg (k+1)).length))):=by
  rcases Nat.lt_or_gt_of_ne s with h | h
  · rcases T.pair i k y x h O L with j | j
    · exact .inl ⟨h,j.ready K z⟩
    · obtain ⟨R,_,A,E,F,_,U⟩:=ed j
      exact .inr (.inr ⟨R,fun t W G=>A t G W,F,E,U⟩)
  · rcases T.pair k i x y h L O with j | j
    · exact .inr (.inl ⟨h,fun X=>u (j.in K X)⟩)
    · obtain ⟨_,Y,A,E,F,Z,_⟩:=ed j
      exact .inr (.inr ⟨Y,A,E,F,Z⟩)
theorem Inv.next(I:Inv os n0 env sg wrs M0 Fz0 w0 oI S M Fz w a)(T:Tr P orc ops os p0 n0 env sg wrs)(O:jX P orc)(hC:dU ops S){k:Nat}{ao:av}{d:D}{v:Value}(hk:k<n0)(A:os[k]? = some ao)(U:¬S k)
  (W:∀o e,ops[k]? = some o->e∈o.after->Region.binds .any e=true->S e.on) (E:∀i,S' i↔S i∨i=k) (st:Dl M Fz w M' Fz' w') (F:env (k+1)=kc (env k) ao.dst d)
  (hv:V (sg (k+1)) M' Fz' w' d v) (G:∀b b' c,M' b=some c->M' b'=some c->b=b') (X:∀c,Fz' c->c<w'.heap.size)
  (K:∀b c,M' b=some c->¬Fz' c/\c<w'.heap.size/\(M b=some c∨((sg k).length<=b/\b<(sg (k+1)).length)))
  (L:∀b c,M' b=some c->∀m ob,m<=n0->(sg m)[b]? = some ob->(∀i,i<n0->b∈wrs i->(i<m↔S' i))->∃o,w'.heap[c]? = some o/\bb (sg m) M' Fz' w' ob o) :
  Inv os n0 env sg wrs M0 Fz0 w0 oI S' M' Fz' w' (a.put ao.dst v):={
 Kj:=by rw[<-I.Kj];cases ao.dst <;> simp[Act.put]
 oI:=by rw[<-I.oI];cases ao.dst <;> rfl
 tmp:=λt m Y hc d' v' u h2=>by
  by_cases Z:ao.dst=some t
  ·have ax:k<m:=(hc k ao hk A Z).2 ((E k).2 (.inr rfl));have ad:=T.uG O (m:=k+1) (m':=m) (t:=t) (by omega) (jI Y T.le) (λi x hi af hx hd=>by
    have z:=(hc i x (by omega) hx hd).1 af;rcases (E i).1 z with z | z
    ·rcases T.other hC A hx (by omega) U W with ⟨h,_⟩ | ⟨_,h⟩ | ⟨_,h,_⟩
     ·omega
     ·grind
     grind
    ·omega)
   rw[ad,F,Z] at u;rw[Z] at h2;simp only[kc,UJ] at u;simp only[Act.put,QH] at h2;simp only[if_true] at u h2;split at u
   ·rename_i a0;rw[if_pos (by grind)] at h2;simp only[ab] at u h2;subst u h2;exact hv.ext (T.sz O (by omega) Y) Dl.refl
   grind
  ·have ak:a.tmps[t]? = some v':=by
    cases hd:ao.dst with
    |none=>rw[hd] at h2;exact h2
    |some s=>
     rw[hd] at h2;simp only[Act.put,QH] at h2
     grind
   refine (I.tmp t m Y (λi o hi ho hd=>?_) d' v' u ak).ext ju.refl st
   grind
 own:=λb c h=>by
  obtain ⟨u,h2,R⟩:=K b c h;refine ⟨u,h2,?_⟩;rcases R with R | R
  ·rcases (I.own b c R).2.2 with h4 | ⟨j,hj,a1,h4⟩
   ·simp_all
   grind
  grind
 blk:=L
 inj:=G
 fz:=X
 xC:=I.xC.trans st
 Wy:=I.Wy }
theorem Inv.Qm(I:Inv os n0 env sg wrs M0 Fz0 w0 oI S M Fz w a)(T:Tr P orc ops os p0 n0 env sg wrs)(O:jX P orc)(F:dU ops S){k:Nat}{ao:av}{d:D}{v:Value}(hk:k<n0)(s:os[k]? = some ao)(u:¬S k)
  (x:∀o e,ops[k]? = some o->e∈o.after->Region.binds .any e=true->S e.on) (z:∀i,S' i↔S i∨i=k) (j:env (k+1)=kc (env k) ao.dst d)
  (A:sg (k+1)=sg k) (G:wrs k=[]) (K:V (sg k) M Fz w d v):Inv os n0 env sg wrs M0 Fz0 w0 oI S' M Fz w (a.put ao.dst v):=by
 refine I.next T O F hk s u x z Dl.refl j (A▸K) I.inj I.fz (λb c h=>⟨(I.own b c h).1,(I.own b c h).2.1,.inl h⟩) (λb c h m L R E U=>?_);refine I.blk b c h m L R E (λi W X=>?_)
 grind
theorem Inv.alloc(I:Inv os n0 env sg wrs M0 Fz0 w0 oI S M Fz w a)(T:Tr P orc ops os p0 n0 env sg wrs)(O:jX P orc)(hC:dU ops S){k:Nat}{ao:av}{d:D}{v:Value}{ob:Ob}{o:Obj}(hk:k<n0)(F:os[k]? = some ao)(G:¬S k)
  (K:∀o e,ops[k]? = some o->e∈o.after->Region.binds .any e=true->S e.on) (L:∀i,S' i↔S i∨i=k) (R:env (k+1)=kc (env k) ao.dst d)
  (z:sg (k+1)=sg k++[ob]) (ax:wrs k=[]) (X:bb (sg k++[ob]) (rS M (sg k).length w.heap.size) Fz (w.alloc o) ob o)
  (hv:V (sg k++[ob]) (rS M (sg k).length w.heap.size) Fz (w.alloc o) d v):Inv os n0 env sg wrs M0 Fz0 w0 oI S' (rS M (sg k).length w.heap.size) Fz (w.alloc o) (a.put ao.dst v):=by
 have W:M (sg k).length=none:=by
  cases h:M (sg k).length with
  |none=>rfl
  |some c=>
   rcases (I.own _ c h).2.2 with ⟨x,_⟩ | ⟨j,hj,a0,x,A⟩
   ·have:=T.bD O (m:=0) (m':=k) (by omega) (by grind);omega
   ·have a1:=T.le;rcases Yx j k with U | U | U
    ·have:=T.bD O (m:=j+1) (m':=k) (by omega) (by omega);omega
    ·simp_all
    ·have:=T.bD O (m:=k+1) (m':=j) (by omega) (by omega)
     grind
 have st:Dl M Fz w (rS M (sg k).length w.heap.size) Fz (w.alloc o):=by
  refine ⟨by simp,λc Y _=>Yj w o c Y,λb c h=>?_,λb c h=>?_,λc h=>⟨h,Yj w o c (I.fz c h)⟩,λc h=>.inl h,
   λc Z T fr h=>⟨Z,by grind [Go.heap_alloc_old],rfl⟩,⟨rfl,rfl,rfl⟩⟩
  ·unfold rS
   grind
  grind [rS]
 have s:∀b c,rS M (sg k).length w.heap.size b=some c->(b=(sg k).length/\c=w.heap.size)∨M b=some c:=by
  intro b c h;unfold rS at h
  grind
 refine I.next T O hC hk F G K L st R (z▸hv) (λb b' c h h'=>?_) (λc h=>by have:=I.fz c h;simp;omega) (λb c h=>?_) (λb c h m ad hm u Y=>?_)
 ·rcases s b c h with ⟨rfl,rfl⟩ | x <;> rcases s b' _ h' with ⟨rfl,A⟩ | A
  ·rfl
  ·have:=(I.own _ _ A).2.1;omega
  ·have:=(I.own _ _ x).2.1;omega
  ·exact I.inj b b' c x A
 ·rcases s b c h with ⟨rfl,rfl⟩ | x
  ·exact ⟨λhf=>by have:=I.fz _ hf;omega,by simp,.inr ⟨bQ _,by simp_all⟩⟩
  ·obtain ⟨A,U,_⟩:=I.own b c x;exact ⟨A,by simp;omega,.inl x⟩
 ·rcases s b c h with ⟨rfl,rfl⟩ | x
  ·have a2:k<m:=by
    rcases pY k m with h | h
    ·exact h
    ·have x:=T.bD O h (by grind)
     simp_all
   have af:=T.Kk O (m:=k+1) (m':=m) (b:=(sg k).length) (by omega) (jI hm T.le) (by simp_all) (λi hi ak hb=>by
    have E:=(Y i (by omega) hb).1 ak;rcases (L i).1 E with E | E
    ·obtain ⟨y,hy⟩:=T.at (i:=i) (by have:=T.le;omega);rcases T.other hC F hy (by omega) G K with ⟨h,_⟩ | ⟨_,h⟩ | ⟨_,_,_,_,h⟩
     ·omega
     ·simp_all
     grind
    ·omega)
   rw[af,z] at u;simp at u;subst u;refine ⟨o,heap_alloc_new w o,X.ext ?_ Dl.refl⟩;rw[<-z];exact T.sz O (by omega) hm
  ·obtain ⟨o',A,U⟩:=I.blk b c x m ad hm u (λi hi hb=>by
    grind)
   exact ⟨o',by grind [Go.heap_alloc_old],U.ext ju.refl st⟩
end
end Go.Abs
end
section
namespace Go.Abs
variable[Gl]
section
variable{P:Program}{orc:ey}{ops:Array Oper}{os:List av}{p0 n0:Nat}{env:Nat->List D}{sg:Nat->aa}{wrs:Nat->List Nat}
variable{M0 M M':Nat->Option Nat}{Fz0 Fz Fz':Nat->Prop}{w0 w w':World}{a:Act}{oI:List Deferred}{S S':Nat->Prop}
theorem Tr.AH(T:Tr P orc ops os p0 n0 env sg wrs)(A:dU ops S){k i:Nat}{x:av}(hk:k<n0)(E:os[k]? = some x)(j:¬S k)
  (s:∀o e,ops[k]? = some o->e∈o.after->Region.binds .any e=true->S e.on) (z:(ce x (env k) (sg k).length (sg (k+1)).length (wrs k)).cat=3) (G:i<n0) (K:wrs i≠[]) (u:i≠k) :
  (i<k/\S i)∨(k<i/\¬S i):=by
 obtain ⟨y,F⟩:=T.at (i:=i) (by have:=T.le;omega);rcases T.other A E F u j s with h | h | ⟨_,_,h,_⟩
 ·simp_all
 ·simp_all
 grind [safe]
theorem Inv.rel(I:Inv os n0 env sg wrs M0 Fz0 w0 oI S M Fz w a)(T:Tr P orc ops os p0 n0 env sg wrs)(G:dU ops S){k:Nat}{x:av}(hk:k<n0)(K:os[k]? = some x)(u:¬S k)
  (z:∀o e,ops[k]? = some o->e∈o.after->Region.binds .any e=true->S e.on) (j:(ce x (env k) (sg k).length (sg (k+1)).length (wrs k)).cat=3) :
  Rel (sg k) (bN M (sg k).length) Fz w:={
 blk:=λb c h=>by
  unfold bN at h;split at h
  ·rename_i L;have s:(sg k)[b]? = some (sg k)[b]:=cE L;obtain ⟨o,h1,A⟩:=I.blk b c h k _ (by omega) s (λi O R=>by
    by_cases E:i=k
    ·simp_all
    ·rcases T.AH G hk K u z j O (λW=>by simp_all) E with ⟨h1,A⟩ | ⟨h1,A⟩
     ·simp_all
     grind)
   exact ⟨(I.own b c h).1,_,o,s,h1,A.cut⟩
  simp_all
 inj:=λb U c h F=>by
  unfold bN at h F;split at h
  ·split at F
   ·exact I.inj b U c h F
   simp_all
  simp_all
 fz:=I.fz
 gl:=Gl.mono I.xC.fz I.Wy }
theorem Inv.AH(I:Inv os n0 env sg wrs M0 Fz0 w0 oI S M Fz w a)(T:Tr P orc ops os p0 n0 env sg wrs)(O:jX P orc)(hC:dU ops S){k:Nat}{ao:av}{d:D}{v:Value}{W:Nat->Option Nat}{E:Nat->Prop}{w1:World}(hk:k<n0)(ak:os[k]? = some ao)(ax:¬S k)
  (a0:∀o e,ops[k]? = some o->e∈o.after->Region.binds .any e=true->S e.on) (a1:∀i,S' i↔S i∨i=k) (a2:env (k+1)=kc (env k) ao.dst d)
  (a3:(ce ao (env k) (sg k).length (sg (k+1)).length (wrs k)).cat=3) (X:Rel (sg (k+1)) W E w1) (hv:V (sg (k+1)) W E w1 d v) (R:aW (sg k) (bN M (sg k).length) Fz w (sg (k+1)) W E w1) :
  ∃M',Inv os n0 env sg wrs M0 Fz0 w0 oI S' M' E w1 (a.put ao.dst v):=by
 have bi:=T.le;have hL:=(T.frame O (i:=k) (by omega)).1;have f1:∀b,b<(sg k).length->W b=M b:=by intro b F;obtain ⟨bk,s,_,x⟩:=R.bX b _ (cE F);obtain ⟨bl,u,U⟩:=T.sz1 O hk b _ (cE F);rw[s] at u;simp only[ab] at u;subst u;rw[x U];simp only[bN,if_pos F]
 have f2:∀b,(sg k).length<=b->b<(sg (k+1)).length->M b=none:=by
  intro b s x;cases h:M b with
  |none=>rfl
  |some c=>
   rcases (I.own b c h).2.2 with ⟨u,_⟩ | ⟨j,hj,bt,u,U⟩
   ·have:=T.bD O (m:=0) (m':=k) (by omega) (by omega);omega
   ·rcases Yx j k with Y | Y | Y
    ·have:=T.bD O (m:=j+1) (m':=k) (by omega) (by omega);omega
    ·simp_all
    ·have:=T.bD O (m:=k+1) (m':=j) (by omega) (by omega);omega
 have f3:∀b c,W b=some c->b<(sg k).length∨w.heap.size<=c:=by
  intro b c h;by_cases F:b<(sg k).length
  ·omega
  ·right;rcases R.hY b c h with ⟨b0,Z⟩ | Z
   ·exfalso;unfold bN at Z;split at Z
    ·rename_i a7;have:=X.inj b b0 c h (by simp_all);omega
    simp_all
   omega
 let M':Nat->Option Nat:=λb=>if b<(sg (k+1)).length then W b else M b
 have G:∀b,b<(sg (k+1)).length->M' b=W b:=λb h=>by grind
 have K:∀b,¬b<(sg (k+1)).length->M' b=M b:=λb h=>by grind
 have L:∀b c,W b=some c->M' b=some c:=λb c h=>by rw[G b (X.lt h).1];exact h
 have jj:∀c,E c->Fz c∨w.heap.size<=c:=by
  intro c h;rcases R.jj c h with h | ⟨b,s⟩ | h
  ·simp_all
  ·exfalso;unfold bN at s;split at s
   ·rename_i F;exact (X.blk b c (by simp_all)).1 h
   simp_all
  omega
 have st:Dl M Fz w M' E w1:=by
  refine ⟨R.size,λc hc hn=>R.frame c hc (λb F=>?_),λb c h=>?_,λb c h=>?_,R.fz,jj,R.lm,R.out⟩
  ·grind [bN]
  ·grind
  grind
 refine ⟨M',I.next T O hC hk ak ax a0 a1 st a2 (hv.sub ju.refl L (λc h=>⟨h,rfl⟩) (λc a8 T fr h=>⟨a8,h,rfl⟩)) (λb A c h h'=>?_) X.fz (λb c h=>?_) (λb c h m ob hm z hc=>?_)⟩
 ·have a9:∀b A,b<(sg (k+1)).length->¬A<(sg (k+1)).length->M' b=some c->M' A=some c->b=A:=by
   intro b A s x u U;rw[G b s] at u;rw[K A x] at U;rcases f3 b c u with Y | Y
   ·rw[f1 b Y] at u;exact I.inj b A c u U
   ·have:=(I.own A c U).2.1;omega
  by_cases s:b<(sg (k+1)).length
  ·by_cases x:A<(sg (k+1)).length
   ·rw[G b s] at h;rw[G A x] at h';exact X.inj b A c h h'
   grind
  ·by_cases x:A<(sg (k+1)).length
   ·grind
   ·rw[K b s] at h;rw[K A x] at h';exact I.inj b A c h h'
 ·by_cases s:b<(sg (k+1)).length
  ·rw[G b s] at h;refine ⟨(X.blk b c h).1,(X.lt h).2,?_⟩
   grind
  ·rw[K b s] at h;obtain ⟨x,u,_⟩:=I.own b c h;refine ⟨λhf=>?_,xD u R.size,.inl h⟩
   grind
 ·have a4:b∉wrs k->∀i,i<n0->b∈wrs i->(i<m↔S i):=by
   grind
  by_cases s:b<(sg (k+1)).length
  ·rw[G b s] at h;have a6:∀i,i<n0->b∈wrs i->i≠k->(i<k/\S i)∨(k<i/\¬S i):=λi hi F bc=>T.AH hC hk ak ax a0 a3 hi (λhe=>by simp_all) bc;obtain ⟨_,bu,o1,x,u,U⟩:=X.blk b c h;by_cases bd:k<m
   ·have ad:=T.Kk O (m:=k+1) (m':=m) (b:=b) (by omega) (jI hm T.le) s (λi hi be F=>by
     grind)
    rw[ad,x] at z;simp only[ab] at z;subst z;exact ⟨o1,u,U.sub (T.sz O (by omega) hm) L⟩
   ·have a5:=(dT.1 z).1;have af:b∉wrs k:=λF=>bd ((hc k hk F).2 ((a1 k).2 (.inr rfl)));have ad:=T.Kk O (m:=m) (m':=k+1) (b:=b) (by omega) (by omega) a5 (λi hi be F=>by
     grind)
    rw[ad,z] at x;simp only[ab] at x;subst x;have bh:b<(sg k).length:=xD a5 (T.bD O (by omega) (by omega));rw[f1 b bh] at h;obtain ⟨o0,_,Y⟩:=I.blk b c h m ob hm z (a4 af);exact ⟨o1,u,(U.down (T.sz O (by omega) (by omega)) Y).sub ju.refl L⟩
  ·rw[K b s] at h;have af:b∉wrs k:=λF=>by have:=T.ZR hk F;omega
   obtain ⟨o,x,u⟩:=I.blk b c h m ob hm z (a4 af);refine ⟨o,?_,u.ext ju.refl st⟩;rw[R.frame c (I.own b c h).2.1 (λb0 Z=>?_)]
   ·exact x
   ·unfold bN at Z;split at Z
    ·rename_i a7;have:=I.inj b0 b c Z h;omega
    simp_all
def gN(T:List Nat)(e:List D):List D:=e.mapIdx λi d=>if T.contains i then d else .any
theorem lJ{T:List Nat}{e:List D}{i:Nat}:(gN T e)[i]? = (e[i]?).map λd=>if T.contains i then d else .any:=by simp[gN,List.getElem?_mapIdx]
theorem uf{T:List Nat}{e:List D}{x:ay}(h:∀n,x=.t n->n∈T):x.ev (gN T e)=x.ev e:=by
 cases x with
 |k d=>rfl
 |t n=>
  simp only[ay.ev,lJ]
  simp_all
theorem Inv.step(I:Inv os n0 env sg wrs M0 Fz0 w0 oI S M Fz w a)(T:Tr P orc ops os p0 n0 env sg wrs)(O:jX P orc)(X:dU ops S){k:Nat}{Q:Exit->Act->World->Prop}(hk:k<n0)(E:¬S k)
  (F:∀o e,ops[k]? = some o->e∈o.after->Region.binds .any e=true->S e.on) (U:∀i,S' i↔S i∨i=k) (K:Act->World->Prop)
  (hK:∀a' w' M' Fz',Inv os n0 env sg wrs M0 Fz0 w0 oI S' M' Fz' w' a'->K a' w'):wpOp P ops Q k K a w:=by
 have be:=T.le;obtain ⟨ao,z⟩:=T.at (i:=k) (by omega);obtain ⟨o,ho,W⟩:=T.comp k ao z;have u:=T.step k ao z;have hE:cf (sg k) M Fz w (gN (sL ao) (env k)) a.tmps:=by
  refine ⟨by rw[I.Kj,<-T.vd O (m:=k) (by omega)];simp[gN],λi d v Y h2=>?_⟩;rw[lJ] at Y;simp only[bq] at Y;obtain ⟨d0,h3,h4⟩:=Y;by_cases ht:(sL ao).contains i=true
  ·rw[if_pos ht] at h4;subst h4;refine I.tmp i k (by omega) (λj x hj hx hd=>?_) d0 v h3 h2;by_cases a3:j=k
   ·simp_all
   ·rcases T.other X z hx a3 E F with ⟨h5,h6⟩ | ⟨h5,h6⟩ | ⟨h5,_⟩
    ·simp_all
    ·grind
    simp_all
  ·rw[if_neg ht] at h4;subst h4;exact .any v
 have Z:eU (gN (sL ao) (env k)) ao.g=eU (env k) ao.g:=by
  cases hg:ao.g with
  |none=>rfl
  |some p=>
   obtain ⟨t,bc⟩:=p;have:(sL ao).contains t=true:=by grind [sL]
   simp only[eU,lJ,this,if_true]
   simp_all
 unfold aO at W;split at W
 ·rename_i g s hg G;simp only[ab] at W;subst W;simp only at u Z hE;have ad:aI P (orc o.dst) s (gN (sL ⟨o.dst,s,g⟩) (env k)) (sg k)=aI P (orc o.dst) s (env k) (sg k):=by
   refine sy (jF G) (λx hx=>uf (λn hn=>?_));subst hn;simp only[sL,uQ,List.mem_filterMap]
   grind
  unfold du at u;split at u
  ·rename_i hw;simp only at hw;have L:=kC (σ:=sg k) (M:=M) (Fz:=Fz) (w:=w) (ops:=ops) (o:=o) hE hg (by rw[Z];exact hw);simp only[bq] at u;obtain ⟨⟨d,bh,bF⟩,a4,h⟩:=u;simp only[aC] at h;obtain ⟨A,af,ak⟩:=h;subst af ak;have a5:(ce ⟨o.dst,s,g⟩ (env k) (sg k).length (sg (k+1)).length (wrs k)).cat=cat s:=by grind [ce]
   unfold wpOp;rw[ho];simp only[L,if_true];left;have AH:cat s=3->o.wp P a w K Q:=by
    intro a6;have R:=I.rel T X hk z E F (by omega);have a7:cf (sg k) (bN M (sg k).length) Fz w (gN (sL ⟨o.dst,s,g⟩) (env k)) a.tmps:=⟨hE.1,λi d v Y h2=>(hE.2 i d v Y h2).cut⟩;refine EF (O o.dst) R a7 G (by rw[ad];exact a4) K λv w1 M1 bi R1 hv EV _=>?_;obtain ⟨M',hI⟩:=I.AH (ao:=⟨o.dst,s,g⟩) T O X hk z E F U A.symm (by omega) R1 hv EV
    grind
   rcases qg G with ⟨f,args,bk,of,bl,_,_,_,rfl⟩ | ⟨a8,ax,_⟩
   ·exact AH rfl
   ·have a1:aI P (orc o.dst) s (gN (sL ⟨o.dst,s,g⟩) (env k)) (sg k)=some (d,sg (k+1),wrs k):=by simp_all
    have out:=yZ (M:=M) (Fz:=Fz) (w:=w) (Gl.mono I.xC.fz I.Wy) hE a8 ax a1;generalize a2:sg (k+1)=s1 at out;generalize a0:wrs k=w1 at out;cases out with
    |y _ hy=>obtain ⟨v,hr,hv⟩:=hy;unfold Oper.wp;rw[hr];exact hK _ _ M Fz (I.Qm (ao:=⟨o.dst,s,g⟩) T O X hk z E F U A.symm a2 a0 hv)
    |l bt bu hy=>
     obtain ⟨v,hr,hv⟩:=hy (λb off sz c cs bv hM hb=>by
      obtain ⟨o',Y,h2⟩:=I.blk b c hM k _ (by omega) hb (λi hi bw=>by
       by_cases a9:i=k
       ·simp_all
       ·obtain ⟨y,hy⟩:=T.at (i:=i) (by omega);rcases T.other X z hy a9 E F with ⟨h5,h6⟩ | ⟨h5,h6⟩ | ⟨_,_,h5,_⟩
        ·simp_all
        ·grind
        ·exfalso;have bd:(ce ⟨o.dst,s,g⟩ (env k) (sg k).length (sg (k+1)).length (wrs k)).blk=some b:=by
          have:KD s (env k)=KD s (gN (sL ⟨o.dst,s,g⟩) (env k)):=by
           cases s with
           |load n x=>grind [KD,uf,sL,m_]
           |_=>rfl
          grind [ce]
         grind [safe])
      obtain ⟨b0,T',rfl,h3,h4⟩:=h2
      grind)
     unfold Oper.wp;rw[hr];exact hK _ _ M Fz (I.Qm (ao:=⟨o.dst,s,g⟩) T O X hk z E F U A.symm (by simp_all) a0 hv)
    |a _ hy=>obtain ⟨b1,v,hr,Y,hv⟩:=hy I.fz;unfold Oper.wp;rw[hr];exact hK _ _ _ Fz (I.alloc (ao:=⟨o.dst,s,g⟩) T O X hk z E F U A.symm a2 a0 Y hv)
    |g a6 _=>simp_all
  ·rename_i hw;simp only at hw;have L:=kC (σ:=sg k) (M:=M) (Fz:=Fz) (w:=w) (ops:=ops) (o:=o) hE hg (by rw[Z];exact hw);simp only[ab,aC] at u;obtain ⟨A,af,ak⟩:=u;unfold wpOp;rw[ho];simp only[L,aV,bm];exact hK _ _ M Fz (I.Qm (ao:=⟨o.dst,s,g⟩) T O X hk z E F U A.symm af.symm ak.symm V.undef)
  simp_all
 simp_all
end
end Go.Abs
end
section
namespace Go.Abs
variable[Gl]
section
variable{P:Program}{orc:ey}{ops:Array Oper}{os:List av}{p0 n0:Nat}{env:Nat->List D}{sg:Nat->aa}{wrs:Nat->List Nat}
variable{M:Nat->Option Nat}{Fz:Nat->Prop}{w:World}{a:Act}
def LK(N:Nat)(listed:Array Bool):Nat:=((List.range N).filter λj=>!listed.getD j false).length
def eE(listed:Array Bool)(i:Nat):Prop:=listed.getD i false=true
theorem BH{listed:Array Bool}{k:Nat}(hk:k<listed.size)(i:Nat):eE (listed.setIfInBounds k true) i↔eE listed i∨i=k:=by
 unfold eE;by_cases h:k=i
 ·simp_all
 ·rw[getD_set_ne false h]
  grind
theorem wQ{N:Nat}{listed:Array Bool}{k:Nat}(hs:k<listed.size)(hk:k<N)(b:¬eE listed k):LK N (listed.setIfInBounds k true)<LK N listed:=by
 unfold LK;have e:(List.range N).filter (λj=>!(listed.setIfInBounds k true).getD j false)=((List.range N).filter λj=>!listed.getD j false).filter λj=>j != k:=by
  rw[List.filter_filter];apply List.filter_congr;intro j _;have:=BH hs (i:=j);unfold eE at this
  grind
 rw[e,List.length_filter_lt_length_iff_exists]
 grind [eE]
theorem oM{N:Nat}{listed:Array Bool}(h:LK N listed=0):∀i,i<N->eE listed i:=by grind [LK,List.filter_eq_nil_iff,eE]
theorem KJ{N:Nat}{listed:Array Bool}(h:∃i,i<N/\¬eE listed i):∃i,i<N/\¬eE listed i/\∀j,j<i->eE listed j:=by
 obtain ⟨i,b,d⟩:=h;induction i using Nat.strongRecOn with
 |_ i ih=>grind
theorem sx{listed:Array Bool}(g:listed.size=ops.size)(b:∀(j:Nat) o e,ops[j]? = some o->e∈o.after->Region.binds .any e=true->e.on<j)
  (h:Region.ready .any ops listed=[]):∀i,i<ops.size->eE listed i:=by
 intro i k;refine Classical.byContradiction λl=>?_;obtain ⟨j,m,n,d⟩:=KJ (N:=ops.size) ⟨i,k,l⟩;have f:ops[j]? = some ops[j]:=nE m;have:j∈Region.ready .any ops listed:=by
  rw[mem_ready];refine ⟨?_,ops[j],f,λe p q=>d e.on (b j _ e f p q)⟩
  grind [eE]
 simp_all
theorem Wg(n0:Nat):∀m,((List.range (n0+m)).filter (λj=>decide (n0<=j))).length=m:=by
 intro m;induction m with
 |zero=>simp_all
 |succ m ih=>grind [List.range_succ]
theorem fU(m j:Nat):(Array.replicate m false).getD j false=false:=by
 simp only[Up,yBS]
 grind
theorem Jt(O:jX P orc)(T:Tr P orc ops os p0 n0 env sg wrs)(q:∀i j,p0<=i->i<j->n0<=j->j<os.length->wD ops i j)(g:∀(j:Nat) o e,ops[j]? = some o->e∈o.after->Region.binds .any e=true->e.on<j){Q:Exit->Act->World->Prop}
  (Y:∀f w' M' Fz',f.defers=a.defers->Rel (sg os.length) M' Fz' w'->cf (sg os.length) M' Fz' w' (env os.length) f.tmps->aW (sg 0) M Fz w (sg os.length) M' Fz' w'->Q .normal f w') :
  ∀ (b : Nat) (listed : Array Bool) (k : Nat) (M' : Nat -> Option Nat) (Fz' : Nat -> Prop) (w' : World) (f : Act), listed.size = ops.size -> n0 <= k -> k <= os.length -> (∀ i, i < ops.size -> (eE listed i ↔ i < k)) -> os.length - k <= b -> f.defers = a.defers ->
   Rel (sg k) M' Fz' w'->cf (sg k) M' Fz' w' (env k) f.tmps->aW (sg 0) M Fz w (sg k) M' Fz' w'->wpAny P .any ops Q b listed f w':=by
 have A:=T.len;intro b;induction b with
 |zero=>
  intro listed k M' Fz' w' f m hk r Z hf hd R E s;have n:k=os.length:=by omega
  subst n;refine ⟨?_,Y f w' M' Fz' hd R E s⟩;cases F:Region.ready .any ops listed with
  |nil=>rfl
  |cons j l=>
   have hm:j∈Region.ready .any ops listed:=by simp_all
   rw[mem_ready] at hm
   grind [eE]
 |succ b ih=>
  intro listed k M' Fz' w' f m hk r Z hf hd R E s;refine ⟨λF=>?_,λj G=>?_⟩
  ·have K:=sx m g F;have n:k=os.length:=by
    rcases pY k os.length with h | h
    ·grind
    ·omega
   grind
  ·rw[mem_ready] at G;obtain ⟨h1,o,L,t⟩:=G;have ad:j<ops.size:=(CS.1 L).1;have hC:dU ops (eE listed):=by
    intro i N e hi d U W
    grind
   have af:¬eE listed j:=by grind [eE]
   have ak:k<=j:=by simp_all
   have u:j=k:=by
    rcases pY k j with h | h
    ·have W:=q k j (by have:=T.XU;omega) h (by omega) (by omega);have:=W.ready hC (λN e d U v=>by rw[L] at d;simp only[ab] at d;subst d;exact t e U v)
     grind
    ·omega
   subst u;obtain ⟨X,p⟩:=T.at (i:=j) (by omega);obtain ⟨N,d,x⟩:=T.comp j X p;refine CR O R E d x (T.step j X p) _ λa1 w1 M1 y ax R1 E1 z a0=>?_;refine ih (listed.setIfInBounds j true) (j+1) M1 y w1 a1 (by grind) (by omega) (by omega) (λi hi=>?_) (by omega) (by simp_all) R1 E1 (s.trans z (T.bD O (by omega) (by omega)))
   grind [BH]
theorem NC(O:jX P orc)(T:Tr P orc ops os p0 n0 env sg wrs)(t:∀i j,p0<=i->i<j->n0<=j->j<os.length->wD ops i j)(l:∀(j:Nat) o e,ops[j]? = some o->e∈o.after->Region.binds .any e=true->e.on<j)(R:Rel (sg 0) M Fz w)(E:cf (sg 0) M Fz w (env p0) a.tmps){Q:Exit->Act->World->Prop}
  (hQ:∀p w' M' Fz',p.defers=a.defers->Rel (sg os.length) M' Fz' w'->cf (sg os.length) M' Fz' w' (env os.length) p.tmps->aW (sg 0) M Fz w (sg os.length) M' Fz' w'->Q .normal p w') :
  wpAny P .any ops Q (ops.size-p0) (DG ops.size p0) a w:=by
 have a2:=T.XU;have a3:=T.len;have x:=T.le;have q:∀b,M b≠none->b<(sg 0).length:=λb h=>by
  cases hM:M b with
  |none=>simp_all
  |some c=>exact (R.lt hM).1
 have y:∀(d:Nat)(listed:Array Bool)(M':Nat->Option Nat)(Fz':Nat->Prop)(w':World)(p:Act),listed.size=ops.size->LK ops.size listed<=d->dU ops (eE listed)->(∀i,i<p0->eE listed i)->(∀i,eE listed i->i<n0) ->
   Inv os n0 env sg wrs M Fz w a.defers (eE listed) M' Fz' w' p->wpAny P .any ops Q d listed p w':=by
  intro d;induction d with
  |zero=>
   intro listed M' Fz' w' p m hu K z u I;have r:=oM (N:=ops.size) (listed:=listed) (by omega);have hn:n0=os.length:=by
    rcases pY n0 os.length with h | h
    ·grind
    ·omega
   obtain ⟨U,W,v⟩:=I.done T O (λi f=>r i (by omega)) q;refine Jt O T t l hQ 0 listed n0 M' Fz' w' p m (bQ _) x (λi f=>⟨λh=>u i h,λ_=>r i f⟩) (by omega) I.oI U W v
  |succ d ih=>
   intro listed M' Fz' w' p m hu K z u I;by_cases g:∀i,i<n0->eE listed i
   ·obtain ⟨U,W,v⟩:=I.done T O g q;refine Jt O T t l hQ (d+1) listed n0 M' Fz' w' p m (bQ _) x (λi f=>⟨λh=>u i h,λh=>g i h⟩) ?_ I.oI U W v;have:os.length-n0<=LK ops.size listed:=by
     unfold LK;have e:(List.range ops.size).filter (λj=>!listed.getD j false)=(List.range ops.size).filter (λj=>decide (n0<=j)):=by
      apply List.filter_congr
      grind [eE]
     rw[e,show ops.size=n0+(os.length-n0) from by omega,Wg];omega
    omega
   ·refine ⟨λhr=>?_,λj X=>?_⟩
    ·grind [sx]
    ·rw[mem_ready] at X;obtain ⟨h1,o,Y,Z⟩:=X;have ad:j<ops.size:=(CS.1 Y).1;have A:¬eE listed j:=by
      grind [eE]
     have s:∀F e,ops[j]? = some F->e∈F.after->Region.binds .any e=true->eE listed e.on:=λF e n L af=>by rw[Y] at n;simp only[ab] at n;subst n;exact Z e L af
     have ak:j<n0:=by
      rcases pY j n0 with h | h
      ·exact h
      ·refine absurd (λi f=>?_) g;rcases pY i p0 with G | G
       ·simp_all
       ·exact (t i j G (by omega) h (by omega)).ready K s
     refine I.step (S':=eE (listed.setIfInBounds j true)) T O K ak A s (λi=>BH (by omega) i) _ λa1 w1 M1 ax I1=>?_;refine ih (listed.setIfInBounds j true) M1 ax w1 a1 (by grind) ?_ ?_ (λi f=>(BH (by omega) i).2 (.inl (z i f))) ?_ I1
     ·have:=wQ (N:=ops.size) (listed:=listed) (k:=j) (by omega) ad A;omega
     ·intro i F e f n L hb;rw[BH (by omega)] at f ⊢;rcases f with f | rfl
      ·exact .inl (K i F e f n L hb)
      simp_all
     grind [BH]
 have m:∀k,(DG ops.size k).size=ops.size:=by
  intro k;induction k with
  |zero=>simp[DG]
  |succ k ih=>grind [DG]
 have hl:∀k i,i<ops.size->(eE (DG ops.size k) i↔i<k):=by
  intro k;induction k with
  |zero=>grind [DG,eE,fU]
  |succ k ih=>
   intro i f;by_cases hk:k<ops.size
   ·grind [DG,BH]
   grind [DG]
 have a4:∀i,eE (DG ops.size p0) i->i<ops.size:=by grind [eE]
 have a0:∀k,k<=ops.size->LK ops.size (DG ops.size k)<=ops.size-k:=by
  intro k;induction k with
  |zero=>grind [LK]
  |succ k ih=>
   intro hk;have:=wQ (N:=ops.size) (listed:=DG ops.size k) (k:=k) (by grind) (by omega) (λh=>by grind)
   grind [DG]
 refine y (ops.size-p0) _ M Fz w a (m _) (a0 p0 (by omega)) ?_ (λi f=>(hl p0 i (by omega)).2 f) (λi f=>?_) (Inv.start R rfl E (λi f=>hl p0 i (by omega)) T O)
 ·intro j o e X Y L hb
  grind
 grind
end
end Go.Abs
end
section
namespace Go.Abs
variable[Gl]
def sX:jr->Exit
 |.normal=>.normal
 |.exit i=>if i % 2=0 then .exit (i / 2) else .goto (i / 2)
 |.ret=>.ret
theorem Ek(i:Nat):sX (.exit (2 * i))=.exit i:=by
 show (if 2 * i % 2=0 then Exit.exit (2 * i / 2) else Exit.goto (2 * i / 2))=_
 simp_all
theorem Dx(i:Nat):sX (.exit (2 * i+1))=.goto i:=by
 show (if (2 * i+1) % 2=0 then Exit.exit ((2 * i+1) / 2) else Exit.goto ((2 * i+1) / 2))=_
 grind
theorem vg{i:Nat}(h:i % 2=0):sX (.exit i)=.exit (i / 2):=if_pos h
theorem IM{i:Nat}(h:¬i % 2=0):sX (.exit i)=.goto (i / 2):=if_neg h
theorem lA{i:Nat}{R:Act->World->Prop}{Q:Exit->Act->World->Prop}{a:Act}{w:World}(h:Q (sX (.exit i)) a w):Exit.then R Q (sX (.exit i)) a w:=by
 by_cases b:i % 2=0
 ·rw[vg b] at h ⊢;exact h
 ·rw[IM b] at h ⊢;exact h
theorem yA{id:Nat}{Q:Exit->Act->World->Prop}{a:Act}{w:World}(h:Q .normal a w):Exit.inBlock id Q (sX (.exit (2 * id))) a w:=by rw[Ek];simp only[Exit.inBlock,if_true];exact h
theorem vX{i id:Nat}{Q:Exit->Act->World->Prop}{a:Act}{w:World}(d:i≠2 * id)(h:Q (sX (.exit i)) a w):Exit.inBlock id Q (sX (.exit i)) a w:=by
 by_cases b:i % 2=0
 ·rw[vg b] at h ⊢;simp only[Exit.inBlock]
  grind
 ·rw[IM b] at h ⊢;exact h
section
variable{P:Program}{orc:ey}
theorem JC{n:Nat}:∀(os:List av)(n:Nat)(e e':List D)(σ σ':aa)(b:List cP),iT P orc n os e σ=some (e',σ',b) ->
  ∃ (env : Nat -> List D) (sg : Nat -> aa) (wrs : Nat -> List Nat), env 0 = e /\ sg 0 = σ /\ env os.length = e' /\ sg os.length = σ' /\ b.length = os.length /\
   (∀(i:Nat) ao,os[i]? = some ao->du P orc ao (env i) (sg i)=some (env (i+1),sg (i+1),wrs i)/\b[i]? = some (ce ao (env i) (sg i).length (sg (i+1)).length (wrs i))) /\
   (∀i,i<os.length->i<n->ie (sg i) (sg (i+1)) (wrs i)=true):=by
 intro os;induction os with
 |nil=>intro n e e' σ σ' b h;simp only[iT,ab,aC] at h;obtain ⟨rfl,rfl,rfl⟩:=h;exact ⟨λ_=>e,λ_=>σ,λ_=>[],rfl,rfl,rfl,rfl,rfl,λi ao h=>by simp at h,λi h=>by simp at h⟩
 |cons o os ih=>
  intro n e e' σ σ' b h;simp only[iT] at h;split at h
  ·rename_i g d w1 s;split at h
   ·rename_i t;split at h
    ·rename_i j k f l;simp only[ab,aC] at h;obtain ⟨rfl,rfl,rfl⟩:=h;obtain ⟨env,sg,wrs,u,v,m,p,q,x,y⟩:=ih (n-1) g j d k f l;refine ⟨λi=>match i with | 0=>e | i+1=>env i,λi=>match i with | 0=>σ | i+1=>sg i,λi=>match i with | 0=>w1 | i+1=>wrs i,rfl,rfl,m,p,by simp[q],λi ao r=>?_,λi r z=>?_⟩
     ·grind
     grind
    simp_all
   simp_all
  simp_all
theorem oV{ops:Array Oper}(h:uo ops.toList=true)(j:Nat)(o:Oper)(e:Edge)(b:ops[j]? = some o)(d:e∈o.after)(f:Region.binds .any e=true):e.on<j:=by
 have g:j<ops.size:=(CS.1 b).1;have i:=eG.1 h j (by simp_all)
 grind
theorem Eo{α d:Type}{f:α->Option d}:∀{l:List α}{r:List d},l.mapM f=some r->r.length=l.length/\∀(i:Nat) b,r[i]? = some b->∃a,l[i]? = some a/\f a=some b:=by
 intro l;induction l with
 |nil=>simp_all
 |cons a l ih=>grind [Option.bind_eq_some_iff]
theorem EW(O:jX P orc):∀(os:List av)(e e':List D)(σ σ':aa)(wr:List Nat),kz P orc os e σ=some (e',σ',wr)->σ.length<=σ'.length/\∀b,b<σ.length->b∉wr->σ'[b]? = σ[b]?:=by
 intro os;induction os with
 |nil=>
  intro e e' σ σ' wr h;simp only[kz,ab,aC] at h
  simp_all
 |cons o os ih=>
  intro e e' σ σ' wr h;simp only[kz] at h;split at h
  ·rename_i g d w1 f;split at h
   ·rename_i i j w2 k;simp only[ab,aC] at h;obtain ⟨rfl,rfl,rfl⟩:=h;obtain ⟨l,m,_⟩:=fC O f
    grind
   simp_all
  simp_all
theorem yW(O:jX P orc):∀(os:List av)(n:Nat)(e e':List D)(σ σ':aa)(d:List cP),iT P orc n os e σ=some (e',σ',d) ->
  σ.length<=σ'.length/\∀b,b<σ.length->b∉d.flatMap (·.wr)->σ'[b]? = σ[b]?:=by
 intro os;induction os with
 |nil=>
  intro n e e' σ σ' d h;simp only[iT,ab,aC] at h
  simp_all
 |cons o os ih=>
  intro n e e' σ σ' d h;simp only[iT] at h;split at h
  ·rename_i j f w1 k;split at h
   ·split at h
    ·rename_i l m g p;simp only[ab,aC] at h;obtain ⟨rfl,rfl,rfl⟩:=h;obtain ⟨q,r,_⟩:=fC O k;obtain ⟨s,t⟩:=ih _ j l f m g p;refine ⟨jI q s,λb u i=>?_⟩;simp only[Vl,uQ,not_or] at i;rw[t b (by omega) i.2,r b u i.1]
    simp_all
   simp_all
  simp_all
theorem qp(O:jX P orc):∀(k:Nat)(c:az)(e e':List D)(σ σ':aa)(wr wr':List Nat)(x:jr),ij P orc k c e σ wr=some (x,e',σ',wr') ->
  σ.length<=σ'.length/\(∀b∈wr,b∈wr')/\∀b,b<σ.length->b∉wr'->σ'[b]? = σ[b]?:=by
 intro k;induction k with
 |zero=>grind [ij]
 |succ k ih=>
  intro c e e' σ σ' wr wr' x h;cases c with
  |skip=>simp only[ij,ab,aC] at h;simp_all
  |exit id=>simp only[ij,ab,aC] at h;simp_all
  |ret=>simp only[ij,ab,aC] at h;simp_all
  |stuck=>grind [ij]
  |Qx l=>grind [ij]
  |Mu l a r=>grind [ij]
  |Mm o m a b=>grind [ij]
  |wm os=>
   simp only[ij,bq,aC] at h;obtain ⟨⟨g,d,w1⟩,f,_,_,rfl,rfl⟩:=h;obtain ⟨q,s⟩:=EW O os _ _ _ _ _ f
   simp_all
  |AE os i n p=>
   have one:∀n g d w1,gW P orc os i p n e σ=some (g,d,w1)->σ.length<=d.length/\∀b,b<σ.length->b∉w1->d[b]? = σ[b]?:=by
    intro n g d w1 f;unfold gW at f;split at f
    ·rename_i t u v j;split at f
     ·simp only[ab,aC] at f;obtain ⟨_,rfl,rfl⟩:=f;exact yW O os _ _ _ _ _ _ j
     simp_all
    simp_all
   grind [ij]
  |seq a b=>grind [ij]
  |cond o a b=>grind [ij]
  |block id b=>grind [ij]
  |loop b=>grind [ij]
theorem pZ{ops:Array Oper}{os:List av}(g:ops.toList.mapM (aO P ops)=some os):∀(i:Nat) o c,ops[i]? = some o->o.op≠.defer c:=by intro i o c e;obtain ⟨k,h⟩:=Eo g;rw[<-Gq] at e;have l:=(dT.1 e).1;obtain ⟨b,j⟩:∃b,os[i]? = some b:=⟨_,cE (by omega)⟩;obtain ⟨m,d,f⟩:=h i b j;rw[e] at d;cases d;exact lS f c
theorem Ly(O:jX P orc){id:Nat}{ops:Array Oper}{os:List av}{σ σ':aa}{M:Nat->Option Nat}{Fz:Nat->Prop}{w:World}{e e':List D}{a:Act}{wr:List Nat}{Q:Exit->Act->World->Prop}
  (k:ops.toList.mapM (aO P ops)=some os) (R:Rel σ M Fz w) (E:cf σ M Fz w e a.tmps) (h:kz P orc os e σ=some (e',σ',wr))
  (l:∀b w' M' Fz',b.defers=a.defers->Rel σ' M' Fz' w'->cf σ' M' Fz' w' e' b.tmps->aW σ M Fz w σ' M' Fz' w'->Q .normal b w'):(Code.region id ops false).wq P Q a w:=by
 obtain ⟨d,f⟩:=Eo k;refine LZ (pZ k) ?_;have g:ops.size=os.length:=by rw[d,Array.length_toList]
 rw[List.range_eq_range',g];exact XJ O os 0 σ σ' M Fz w e e' a wr (λj m n=>by obtain ⟨o,p,i⟩:=f j m n;exact ⟨o,by rw[Dn,<-Gq];exact p,i⟩) R E h λb w' M' Fz' d f q r _=>⟨l b w' M' Fz' d f q r,by simp⟩
theorem Gs{ops:Array Oper}:∀(k i j:Nat),i<=j->j<i+leads ops k i->xO ops j=true:=by
 intro k;induction k with
 |zero=>grind [leads]
 |succ k ih=>
  intro i j d b;simp only[leads] at b;split at b
  ·rename_i h;by_cases e:i=j
   ·simp_all
   ·exact ih (i+1) j (by omega) (by omega)
  ·omega
theorem AO{ops:Array Oper}{i:Nat}(h:i<lead ops):Region.noSelect ops=true/\xO ops i=true:=by
 unfold lead at h;split at h
 ·rename_i b;exact ⟨b,Gs ops.size 0 i (by omega) (by omega)⟩
 ·omega
def JS(Q:Exit->Act->World->Prop):Exit->Act->World->Prop:=λx a w=>x=.normal/\Q .normal a w
theorem HW{ops:Array Oper}{Q:Exit->Act->World->Prop}{i:Nat}{a:Act}{w:World}{K:Act->World->Prop}(h:wpOp P ops (JS Q) i K a w):wpOp P ops Q i K a w:=by
 unfold wpOp at *;split
 ·simp_all
 ·rename_i o d;simp only[d] at h;split
  ·rename_i f;simp only[f,if_true] at h;rcases h with h | ⟨_,g,w',h,_⟩
   ·left;unfold Oper.wp at *;generalize (execOp a.eval o).run P w=r at *;cases r with
    |ok n w'=>
     cases n <;> simp only[Oper.upon] at h ⊢ <;>
      first
       |exact h
       |exact Calls.mono h (λe w'' b=>by
         cases e with
         |returned v=>exact b
         |panicked c=>exact absurd b.1 (by simp)
         |outgrown=>obtain ⟨g,w',j,_⟩:=b;simp_all)
    |halt x w'=>
     cases x <;> simp only[Oper.upon] at h ⊢
     exact absurd h.1 (by simp)
   simp_all
  simp_all
theorem FN{ops:Array Oper}{Q:Exit->Act->World->Prop}{md:Region.Mode}:∀(b:Nat)(listed:Array Bool)(a:Act)(w:World),wpAny P md ops (JS Q) b listed a w->wpAny P md ops Q b listed a w:=by
 intro b;induction b with
 |zero=>intro listed a w h;exact ⟨h.1,h.2.2⟩
 |succ b ih=>intro listed a w h;exact ⟨λd=>(h.1 d).2,λi e=>HW (wpOp_mono (λf w' g=>ih _ f w' g) (h.2 i e))⟩
theorem Ub{ops:Array Oper}{Q:Exit->Act->World->Prop}{p:Nat}{w:World}(y:p<=lead ops)(l:p<=ops.size)(J:Nat->Act->Prop)
  (z:∀i o x a,i<p->ops[i]? = some o->(o.op=.move x∨o.op=.assign x)->o.guard=none->J i a->J (i+1) (a.put o.dst (a.eval x)))
  (g:∀a,J p a->wpAny P .any ops (JS Q) (ops.size-p) (DG ops.size p) a w):∀k a,k<=p->J (p-k) a->wpAny P .any ops (JS Q) (ops.size-(p-k)) (DG ops.size (p-k)) a w:=by
 intro k;induction k with
 |zero=>simp_all
 |succ k ih=>
  intro a hk h;obtain ⟨i,rfl⟩:∃i,p=i+(k+1):=⟨p-(k+1),by omega⟩;have m:i+(k+1)-(k+1)=i:=by omega
  have n:i+(k+1)-k=i+1:=by omega
  rw[m] at h ⊢;obtain ⟨e,d⟩:=AO (ops:=ops) (i:=i) (by omega);simp only[xO,aU] at d;obtain ⟨⟨f,q⟩,r⟩:=d;cases j:ops[i]? with
  |none=>simp_all
  |some o=>
   rw[j] at f;simp only[Option.map_some,Option.getD_some,WI,aU,Option.isNone_iff_eq_none] at f;obtain ⟨s,t⟩:=f;have b:∃x,o.op=.move x∨o.op=.assign x:=by grind
   obtain ⟨x,b⟩:=b;have u:Go.Yields P ops o (a.eval x) a:=by left;refine ⟨by simp[Region.wanted,s],λw=>?_⟩;rcases b with b | b <;> simp[execOp,b]
   have v:ops.size-i=(ops.size-(i+1))+1:=by omega
   rw[v];refine wpAny_take j e q r (λc a w h=>absurd h.1 (by simp)) u ?_;have:=ih (a.put o.dst (a.eval x)) (by omega) (by simp_all);rw[n] at this;exact this
theorem Rv (u:P.follows .mixedOrders=true) (O:jX P orc) {id n:Nat} {ops:Array Oper} {os:List av} {σ σ':aa} {M:Nat→Option Nat} {Fz:Nat→Prop} {w:World} {e e':List D} {a:Act} {W:List cP} {Q:Exit→Act→World→Prop}
  (hc:ops.toList.mapM (aO P ops)=some os) (m:uo ops.toList=true) (R:Rel σ M Fz w) (E:cf σ M Fz w e a.tmps) (h:iT P orc n os e σ=some (e',σ',W)) (hn:n≤os.length)
  (hp:dk (HH ops.toList) W=true) (ht:kU (HH ops.toList) (lead ops) n os.length=true) (X:lead ops≤n)
  (Y:∀g w' M' Fz',g.defers=a.defers→Rel σ' M' Fz' w'→cf σ' M' Fz' w' e' g.tmps→aW σ M Fz w σ' M' Fz' w'→Q .normal g w'):(Code.region id ops true).wq P Q a w:=by
 obtain ⟨r,Z⟩:=Eo hc
 obtain ⟨env,sg,wrs,k1,k2,k3,k4,k5,k6,k7⟩:=JC (n:=n) os n e e' σ σ' W h
 subst k1 k2 k3 k4
 have v:os.length=ops.size:=by omega
 have mv:∀i o x,i<lead ops→ops[i]? = some o→(o.op=.move x∨o.op=.assign x)→o.guard=none→∃z,ba x=some z∧env (i+1)=kc (env i) o.dst (z.ev (env i))∧sg (i+1)=sg i∧wrs i=[]:=by
  intro i o x k A s U
  have F:i<os.length:=by omega
  obtain ⟨o',q,d⟩:=Z i _ (cE F)
  rw [Gq,A] at q
  simp only [ab] at q
  subst q
  have G:=(k6 i _ (cE F)).1
  unfold aO at d
  rw [U] at d
  simp only [tU] at d
  cases K:ba x with
  | none=>grind [comp,iO]
  | some z =>
   have ad:comp P o.op o.type=some (.uV z):=by
    grind [comp,iO]
   rw [ad] at d
   simp only [ab] at d
   rw [←d] at G
   simp only [du,eU,aI,Option.map_some,ab,aC] at G
   simp_all
 have af:∀i j,lead ops≤i→i<j→n≤j→j<os.length→wD ops i j:=fun i j ax ak a0 hj=>by
  have f:=eG.1 ht j (by simp_all)
  simp only [dQ,aM] at f
  rcases f with f | f
  ·omega
  ·have t:=eG.1 f i (by simp_all)
   simp only [dQ] at t
   grind [Nat.blt_eq,wP]
 have T:Tr P orc ops os (lead ops) n env sg wrs:={
  len:=v
  comp:=fun j ao hj=>by simp_all
  step:=fun i ao k=>(k6 i ao k).1
  wrk:=fun i k=>k7 i (by omega) k
  le:=hn
  pair:=fun i j x y ak s hy=>by
   have hj:=(dT.1 hy).1
   have f:=eG.1 hp j (by simp_all)
   have t:=eG.1 f i (by simp_all)
   simp only [dQ] at t
   grind [wP]
  lead:=fun i k=>by
   obtain ⟨_,L⟩:=AO k
   simp only [xO,aU] at L
   cases A:ops[i]? with
   | none=>simp_all
   | some o =>
    have r:=L.1.1
    rw [A] at r
    simp only [Option.map_some,Option.getD_some,WI,aU,Option.isNone_iff_eq_none] at r
    obtain ⟨U,a1⟩:=r
    have s:∃x,o.op=.move x∨o.op=.assign x:=by
     grind
    obtain ⟨x,s⟩:=s
    grind
  XU:=X }
 refine sc u (pZ hc) ?_
 replace Y:=fun g w' M' Fz' r Z f t=>(⟨Y g w' M' Fz' r Z f t,by simp⟩:jz Q .normal g w')
 have R1:Rel (sg 0) M Fz { w with drawn:=w.drawn+1 }:=R.heap rfl ⟨rfl,rfl,rfl⟩
 have EH:aW (sg 0) M Fz w (sg 0) M Fz { w with drawn:=w.drawn+1 }:=aW.heap R rfl ⟨rfl,rfl,rfl⟩
 refine FN _ _ _ _ ?_
 have l:=Ub (P:=P) (ops:=ops) (Q:=jz Q) (p:=lead ops) (w:={ w with drawn:=w.drawn+1 }) (bQ _) (by omega)
  (fun i b=>cf (sg 0) M Fz { w with drawn:=w.drawn+1 } (env i) b.tmps∧b.defers=a.defers)
  (fun i o x b k A s U N=>by
   obtain ⟨z,K,f,t,_⟩:=mv i o x k A s U
   refine ⟨?_,by rw [←N.2]; cases o.dst <;> rfl⟩
   rw [f]
   exact N.1.put o.dst (jc N.1 K))
  (fun b N=>by
   refine NC O T af (oV m) R1 N.1 fun g w' M' Fz' hd R' E' EV=>⟨rfl,?_⟩
   exact Y g w' M' Fz' (by simp_all) R' E' (EH.trans EV (bQ _)))
  (lead ops) a (bQ _) (by rw [YH]; exact ⟨E.mono EH,rfl⟩)
 rw [YH,Nat.sub_zero] at l
 exact l
theorem FF(os:List av):cZ os<=os.length:=by grind [cZ]
theorem xX(os:List av):gU os<=os.length:=by
 induction os with
 |nil=>simp[gU]
 |cons o os ih=>grind [gU]
theorem Cq (W:P.follows .mixedOrders=true) (O:jX P orc):∀(k:Nat),
  (∀(c:Code) (ac:az) (σ σ':aa) (M:Nat→Option Nat) (Fz:Nat→Prop) (w:World) (e e':List D) (a:Act) (wr wr':List Nat) (x:jr) (Q:Exit→Act→World→Prop),aS P c=some ac→Rel σ M Fz w→cf σ M Fz w e a.tmps →
   ij P orc k ac e σ wr=some (x,e',σ',wr')→(∀z w' M' Fz',z.defers=a.defers→Rel σ' M' Fz' w'→cf σ' M' Fz' w' e' z.tmps→aW σ M Fz w σ' M' Fz' w'→Q (sX x) z w')→c.wq P Q a w) ∧
  (∀(c:Code) (ac:az) (σ σ':aa) (M:Nat→Option Nat) (Fz:Nat→Prop) (w:World) (e e':List D) (a:Act) (wr wr':List Nat) (x:jr) (Q:Exit→Act→World→Prop),aS P c=some ac→Rel σ M Fz w→cf σ M Fz w e a.tmps →
   ij P orc k (.loop ac) e σ wr=some (x,e',σ',wr')→(∀z w' M' Fz',z.defers=a.defers→Rel σ' M' Fz' w'→cf σ' M' Fz' w' e' z.tmps→aW σ M Fz w σ' M' Fz' w'→Q (sX x) z w')→Code.rq P c Q k a w):=by
 intro k
 induction k with
 | zero=>grind [ij]
 | succ k ih =>
  obtain ⟨q,af⟩:=ih
  have L:∀(c:Code) (ac:az) (σ σ':aa) (M:Nat→Option Nat) (Fz:Nat→Prop) (w:World) (e e':List D) (a:Act) (wr wr':List Nat) (x:jr) (Q:Exit→Act→World→Prop),aS P c=some ac→Rel σ M Fz w→cf σ M Fz w e a.tmps →
   ij P orc (k+1) (.loop ac) e σ wr=some (x,e',σ',wr')→(∀z w' M' Fz',z.defers=a.defers→Rel σ' M' Fz' w'→cf σ' M' Fz' w' e' z.tmps→aW σ M Fz w σ' M' Fz' w'→Q (sX x) z w')→Code.rq P c Q (k+1) a w:=by
   intro c ac σ σ' M Fz w e e' a wr wr' x Q d R E h t
   rw [Dd]
   simp only [ij] at h
   split at h
   ·rename_i u f bF p
    have hl:=(qp O _ _ _ _ _ _ _ _ _ p).1
    refine q c ac σ f M Fz w e u a wr bF .normal _ d R E p fun v w1 A j hd F G m=>?_
    exact af c ac f σ' A j w1 u e' v bF wr' x Q d F G h fun a2 w2 M2 N ak R2 E2 T=>t a2 w2 M2 N (by simp_all) R2 E2 (m.trans T hl)
   ·rename_i X
    have Y:x≠.normal:=fun Y=>by simp_all
    refine q c ac σ σ' M Fz w e e' a wr wr' x _ d R E h fun v w1 A j hd F G m=>?_
    have:=t v w1 A j hd F G m
    cases x with
    | normal=>simp_all
    | exit i=>grind [lA]
    | ret=>exact this
  refine ⟨?_,L⟩
  intro c ac σ σ' M Fz w e e' a wr wr' x Q d R E h t
  cases c with
  | skip =>
   simp only [aS,ab] at d
   subst d
   simp only [ij,ab,aC] at h
   obtain ⟨rfl,rfl,rfl,_⟩:=h
   exact Tl (t a w M Fz rfl R E (aW.refl R))
  | exit id =>
   simp only [aS,ab] at d
   subst d
   simp only [ij,ab,aC] at h
   grind [aW.refl,Ek,Go.TL]
  | goto l =>
   simp only [aS,ab] at d
   subst d
   simp only [ij,ab,aC] at h
   grind [aW.refl,Dx,Go.SH]
  | scope b =>
   grind [aS,Option.map_eq_some_iff,Dp,ij]
  | rangeFunc g ps x y =>
   simp only [aS,ab] at d
   subst d
   rcases vV (ba g) ps.toList (aS P x) (aS P y) (x.calm&&y.calm) with ⟨_,_,_,_,_,_,_,e⟩ | e <;> rw [e] at h <;> simp [ij] at h
  | ret =>
   simp only [aS,ab] at d
   subst d
   simp only [ij,ab,aC] at h
   obtain ⟨rfl,rfl,rfl,_⟩:=h
   exact Wd (t a w M Fz rfl R E (aW.refl R))
  | region id ops Z =>
   simp only [aS] at d
   split at d
   ·rename_i os ad
    cases Z with
    | false =>
     simp only [aV,bm,ab] at d
     subst d
     simp only [ij,bq,aC] at h
     obtain ⟨⟨u,f,w1⟩,p,rfl,rfl,rfl,_⟩:=h
     exact Ly O ad R E p t
    | true =>
     simp only [if_true] at d
     split at d
     ·rename_i U
      simp only [ab] at d
      subst d
      have one:∀n u f w1,n≤os.length→gW P orc os (HH ops.toList) (lead ops) n e σ=some (u,f,w1)→x=.normal→u=e'→f=σ'→(Code.region id ops true).wq P Q a w:=by
       intro n u f w1 hn p Y he hs
       unfold gW at p
       split at p
       ·rename_i e2 am is h2
        split at p
        ·rename_i s
         simp only [aU] at s
         simp only [ab,aC] at p
         obtain ⟨rfl,rfl,rfl⟩:=p
         subst Y he hs
         exact Rv W O ad U R E h2 hn s.1.1 s.1.2 (wS s.2) t
        simp_all
       simp_all
      simp only [ij] at h
      split at h
      ·grind [xX]
      ·split at h
       ·grind [FF]
       grind
     grind [ij]
   grind [ij]
  | seq c1 c2 =>
   simp only [aS] at d
   split at d
   ·rename_i v a2 p h2
    simp only [ab] at d
    subst d
    simp only [ij] at h
    split at h
    ·rename_i u f bF K
     have hl:=(qp O _ _ _ _ _ _ _ _ _ K).1
     refine HY (q c1 v σ f M Fz w e u a wr bF .normal _ p R E K fun r w1 A j hd F G m=>?_)
     exact q c2 a2 f σ' A j w1 u e' r bF wr' x Q h2 F G h fun ax w2 M2 N ak R2 E2 T=>t ax w2 M2 N (by simp_all) R2 E2 (m.trans T hl)
    ·rename_i X
     have Y:x≠.normal:=fun Y=>by simp_all
     refine HY (q c1 v σ σ' M Fz w e e' a wr wr' x _ p R E h fun r w1 A j hd F G m=>?_)
     have:=t r w1 A j hd F G m
     cases x with
     | normal=>simp_all
     | exit i=>grind [lA]
     | ret=>exact this
   simp_all
  | cond o c1 c2 =>
   simp only [aS] at d
   split at d
   ·rename_i oo v a2 h0 p h2
    simp only [ab] at d
    subst d
    simp only [ij] at h
    have hv:=jc E h0
    grind [Go.ua,kG,Go.sa]
   grind [ij]
  | block id c1 =>
   simp only [aS,bq] at d
   obtain ⟨v,p,rfl⟩:=d
   simp only [ij] at h
   refine Ed ?_
   split at h
   ·rename_i i u f bF K
    split at h
    ·rename_i a0
     simp only [ab,aC] at h
     obtain ⟨rfl,rfl,rfl,_⟩:=h
     refine q c1 v σ f M Fz w e u a wr bF (.exit i) _ p R E K fun r w1 A j hd F G m=>?_
     have:=t r w1 A j hd F G m
     rw [a0]
     exact yA this
    grind [vX]
   ·rename_i X
    refine q c1 v σ σ' M Fz w e e' a wr wr' x _ p R E h fun r w1 A j hd F G m=>?_
    have:=t r w1 A j hd F G m
    cases x with
    | normal=>exact this
    | exit i=>grind
    | ret=>exact this
  | loop c1 =>
   simp only [aS,bq] at d
   obtain ⟨v,p,rfl⟩:=d
   exact pc (k+1) (L c1 v σ σ' M Fz w e e' a wr wr' x Q p R E h t)
  | _=>grind [aS,ij]
end
end Go.Abs
end
section
namespace Go.Abs
variable[Gl]
section
variable{P:Program}{σ σ0:aa}{M M0:Nat->Option Nat}{Fz Fz0:Nat->Prop}{w w0:World}
def zF(M:Nat->Option Nat)(Fz:Nat->Prop)(n:Nat):Nat->Prop:=λc=>Fz c∨∃b,n<=b/\M b=some c
theorem sJ(n:Nat):∀(k:Nat)(l:List C),(chunks n k l).length=k:=by
 intro k;induction k with
 |zero=>intro l;rfl
 |succ k ih=>grind [chunks]
theorem yy{n:Nat}:∀(k:Nat)(l:List C),l.length=k * n->∀(i:Nat) e,(chunks n k l)[i]? = some e->e.length=n/\∀(j:Nat),j<n->e[j]? = l[i * n+j]?:=by
 intro k;induction k with
 |zero=>grind [chunks]
 |succ k ih=>
  intro l b i e h;rw[Nat.succ_mul] at b;cases i with
  |zero=>grind [chunks]
  |succ i=>grind [chunks]
theorem vu{α d:Type}{f:α->Option d}:∀{l:List α}{r:List d},l.mapM f=some r->∀(i:Nat) a,l[i]? = some a->∃b,r[i]? = some b/\f a=some b:=by
 intro l;induction l with
 |nil=>simp_all
 |cons a l ih=>grind [Option.bind_eq_some_iff]
theorem CD(R:Rel σ M Fz w){n:Nat}:∀(k:Nat)(d:D)(x:C)(v:Value),dK σ n k d=some x->V σ M Fz w d v->VC (zF M Fz n) w x v:=by
 intro k;induction k with
 |zero=>grind [dK]
 |succ k ih=>
  intro d x v h u;cases d with
  |c y=>simp only[dK,ab] at h;subst h;exact u.lU.mono (λc hc=>⟨.inl hc,rfl⟩)
  |ptr b off sz=>
   simp only[dK] at h;split at h
   ·rename_i A;split at h
    ·rename_i cs E;simp only[bq] at h;obtain ⟨l,F,rfl⟩:=h;obtain ⟨c,s,rfl⟩:=u.qG E;obtain ⟨m,_⟩:=FV E;obtain ⟨g,T,U,X,Y⟩:=R.row s m;obtain ⟨m1,G⟩:=Eo F;have:=VC.bE (Fz:=zF M Fz n) (w:=w) (cs:=l) (off:=off) c 0 (λj=>g[j]!) (.inr ⟨b,A,s⟩) (λj d K=>?_) (λj d K=>?_)
     ·simp_all
     ·obtain ⟨a,r,_⟩:=G j d K;have q:=(dT.1 r).1;have e:g[j]? = some (g[j]'(by omega)):=nE _;have W:g[j]! = g[j]'(by omega):=getElem!_pos g j (by omega);rw[Dn,cell_of_row w c j g T (0,0) U,e,W]
      grind
     ·obtain ⟨a,r,L⟩:=G j d K;have q:=(dT.1 r).1;have e:g[j]? = some (g[j]'(by omega)):=nE _
      grind
    simp_all
   simp_all
  |sl b off len ai sz=>
   simp only[dK] at h;split at h
   ·rename_i N;obtain ⟨A,ak,a3⟩:=N;split at h
    ·rename_i cs E;simp only[bq] at h;obtain ⟨l,F,rfl⟩:=h;rcases u.ld E with ⟨rfl,W,_,_,_⟩ | ⟨c,o,cap,ax,T0,s,rfl,a4,a0,a5,a1,_⟩
     ·subst W;exact VC.bG (nn:=Nat.blt 0 0) (es:=[]) ai none 0 (λh=>by cases h) (λ_=>rfl) (λ_ _=>undef) (λ_ h=>by simp at h) (bQ _) (λi j e d h=>by simp at h) (λi j e d h=>by simp at h)
     obtain ⟨m,Z⟩:=FV E;obtain ⟨g,T,U,X,Y⟩:=R.row s m;obtain ⟨m1,G⟩:=Eo F;have ad:l.length=len * ai:=by grind
     have O:∀(i j:Nat)(e:List C)(d:C),(chunks ai len l)[i]? = some e->e[j]? = some d->j<ai/\i<len/\o=off/\∃a,cs[off+(i * ai+j)]? = some a/\dK σ n k a=some d:=by
      intro i j e d t z;obtain ⟨h3,h4⟩:=yy len l ad i e t
      grind [sJ]
     have:=VC.bG (Fz:=zF M Fz n) (w:=w) (nn:=Nat.blt 0 len) (es:=chunks ai len l) ai (some ⟨c,o,none⟩) cap (λ_=>rfl) (λh=>by cases h) (λi j=>g[o+i * ai+j]!) (λe he=>?_) (by grind [sJ]) (λi j e d t z=>?_) (λi j e d t z=>?_)
     ·grind [sJ]
     ·grind [List.mem_iff_getElem?,yy]
     ·obtain ⟨K,hi,rfl,a,r,L⟩:=O i j e d t z;have q:=(dT.1 r).1;rw[<-Nat.add_assoc] at r q;have e1:g[o+i * ai+j]? = some (g[o+i * ai+j]'(by omega)):=nE _;have W:g[o+i * ai+j]! = g[o+i * ai+j]'(by omega):=getElem!_pos g _ (by omega);refine ⟨c,o,rfl,.inr ⟨b,A,s⟩,?_,?_⟩
      ·grind [Go.cell_of_row]
      grind
     ·obtain ⟨K,hi,rfl,a,r,L⟩:=O i j e d t z;have q:=(dT.1 r).1;rw[<-Nat.add_assoc] at r q;have e1:g[o+i * ai+j]? = some (g[o+i * ai+j]'(by omega)):=nE _
      grind
    simp_all
   simp_all
  |fn f first cap=>
   simp only[dK] at h;split at h
   ·rename_i l1 l2 t z;simp only[ab] at h;subst h;obtain ⟨m1,G⟩:=Eo t;obtain ⟨m3,m4⟩:=Eo z;cases u with
    |fn vs ws k1 k2 u hw=>
     refine .fn vs ws (by omega) (by omega) (λi d v a b=>?_) (λi d v a b=>?_)
     ·grind
     grind
   simp_all
  |mp b=>
   simp only[dK] at h;split at h
   ·rename_i A;split at h
    ·rename_i es af m;simp only[bq] at h;obtain ⟨l,F,rfl⟩:=h;obtain ⟨c,rfl,s⟩:=u.xJ m;obtain ⟨g,ck,U,⟨Z,_⟩,a2⟩:=R.Ff m s;obtain ⟨m1,G⟩:=Eo F;refine .Ei c ck g (.inr ⟨b,A,s⟩) U (by omega) (λi p e hi he=>?_) (λi p e hi he=>?_)
     ·grind [Option.map_eq_some_iff]
     grind [Option.map_eq_some_iff]
    simp_all
   simp_all
  |agg cs=>grind [dK]
  |aB vs=>grind [dK]
  |any=>grind [dK]
theorem Ev(R:Rel σ M Fz w){n k:Nat}{d r:D}{v:Value}(h:kK σ n k d=some r)(e:V σ M Fz w d v)(σ':aa)(M':Nat->Option Nat):V σ' M' (zF M Fz n) w r v:=by
 have plain:∀d,(dK σ n k d).map D.c=some r->V σ M Fz w d v->V σ' M' (zF M Fz n) w r v:=by intro d h e;simp only[bq] at h;obtain ⟨x,f,rfl⟩:=h;exact .c (CD R k d x v f e)
 cases d with
 |agg q=>
  simp only[kK,bq] at h;obtain ⟨l,j,rfl⟩:=h;obtain ⟨m1,m⟩:=Eo j;cases e with
  |agg o s e=>refine .agg o (by simp_all) (λi d v a b=>?_);simp only[gT,bq] at a;obtain ⟨x,f,rfl⟩:=a;obtain ⟨y,p,g⟩:=m i x f;exact .c (CD R k y x v g (e i y v p b))
 |_=>exact plain _ h e
theorem Co(R:Rel σ M Fz w){n k:Nat}{d r:D}{v:Value}(h:qQ σ n k d=some r)(e:V σ M Fz w d v)(σ':aa)(M':Nat->Option Nat):V σ' M' (zF M Fz n) w r v:=by
 cases d with
 |aB ds=>
  simp only[qQ,bq] at h;obtain ⟨l,f,rfl⟩:=h;obtain ⟨m1,j⟩:=Eo f;cases e with
  |aB g m e=>
   refine .aB g (by omega) (λi d v a b=>?_)
   grind [Ev]
 |_=>grind [qQ,Ev]
theorem Rel.forget(R0:Rel σ0 M0 Fz0 w0)(R:Rel σ M Fz w)(s:aW σ0 M0 Fz0 w0 σ M Fz w)(G:∀b,b<σ0.length->σ[b]? = σ0[b]?) :
  Rel σ0 (bN M σ0.length) (zF M Fz σ0.length) w/\aW σ0 M0 Fz0 w0 σ0 (bN M σ0.length) (zF M Fz σ0.length) w:=by
 have K:ju σ0 σ:=λb A z=>⟨A,by grind,rfl⟩;have L:∀b,b<σ0.length->M b=M0 b:=λb z=>by
  obtain ⟨af,h1,_,h2⟩:=s.bX b _ (cE z)
  simp_all
 refine ⟨⟨λb c h=>?_,λb O c h U=>?_,λc h=>?_,Gl.mono (λc h=>⟨.inl h,rfl⟩) R.gl⟩,⟨s.size,s.frame,λb c h=>?_,λc h=>⟨.inl (s.fz c h).1,(s.fz c h).2⟩,λc h=>?_,s.lm,λb A z=>⟨A,z,bQ _,λ_=>?_⟩,s.out⟩⟩
 ·unfold bN at h;split at h
  ·rename_i z;obtain ⟨h1,A,o,h2,h3,h4⟩:=R.blk b c h;have W:M0 b=some c:=by simp_all
   obtain ⟨_,u,o0,h5,_,h6⟩:=R0.blk b c W;have:u=A:=by simp_all
   subst this;refine ⟨λhf=>?_,u,o,h5,h3,?_⟩
   ·rcases hf with hf | ⟨O,E,X⟩
    ·simp_all
    ·have:=R.inj b O c h X;omega
   ·have Y:=(h4.down K h6).cut;have e:∀{d v},V σ0 (bN M σ0.length) Fz w d v->V σ0 (bN M σ0.length) (zF M Fz σ0.length) w d v:=λh=>h.sub ju.refl (λ_ _ h=>h) (λc h=>⟨.inl h,rfl⟩) (λc j T fr h=>⟨j,h,rfl⟩);cases u with
    |cells cs=>obtain ⟨j,T,Z,hl,F⟩:=Y;exact ⟨j,T,Z,hl,λi d v x y=>⟨e (F i d v x y).1,(F i d v x y).2⟩⟩
    |map es ad=>obtain ⟨j,Z,hl,F⟩:=Y;exact ⟨j,Z,hl,λi k d n e' x y=>let ⟨a,b,c⟩:=F i k d n e' x y;⟨a,b,e c⟩⟩
    |gone n=>exact Y.elim
  simp_all
 ·unfold bN at h U;split at h
  ·split at U
   ·exact R.inj b O c h U
   simp_all
  simp_all
 ·rcases h with h | ⟨b,_,h⟩
  ·exact R.fz c h
  ·exact (R.lt h).2
 ·grind [bN]
 ·rcases h with h | ⟨b,_,h⟩
  ·exact s.jj c h
  ·rcases s.hY b c h with h | h
   ·simp_all
   omega
 ·have E:=(dT.1 z).1;simp only[bN,if_pos E]
  simp_all
theorem WP{ds:List D}{vs:Array Value}(hs:vs.size=ds.length)(e:∀(i:Nat) d v,ds[i]? = some d->vs[i]? = some v->V σ M Fz w d v) :
  V σ M Fz w (one ds) (if h:vs.size=1 then vs[0] else .tuple vs):=by
 match ds,hs,e with
 |[d], hs, e=>
  have f:vs.size=1:=by omega
  rw[dif_pos f];exact e 0 d _ (by simp) (nE (by omega))
 |[], hs, e=>rw[dif_neg (by grind)];exact .aB vs hs e
 |a :: b :: l, hs, e=>rw[dif_neg (by grind)];exact .aB vs hs e
def Hc(b:Array Value):ResultVar->Sem Value
 |.tmp t=>pure (b.getD t undef)
 |.cell x t=>do loadVar t (<-asAddr (b.getD x undef))
theorem GF(fn:Func)(b:Array Value):results fn b=(do
  let vs <-fn.results.mapM (Hc b)
  pure (if h:vs.size=1 then vs[0] else .tuple vs)):=by
 unfold results;congr 2
theorem gp(R:Rel σ M Fz w){env:List D}{a:Act}(E:cf σ M Fz w env a.tmps){fn:Func}{rs:List (Nat×Option (Option Nat))}{ds:List D}(k:fn.results.toList.mapM (DM P)=some rs)(hd:rs.mapM (EE env σ)=some ds) :
  ∃v,(results fn a.tmps).run P w=.ok v w/\V σ M Fz w (one ds) v:=by
 have p:∀(l:List ResultVar)(rs:List (Nat×Option (Option Nat)))(ds:List D),l.mapM (DM P)=some rs->rs.mapM (EE env σ)=some ds ->
   ∃vs:List Value,(l.mapM (Hc a.tmps)).run P w=.ok vs w/\vs.length=ds.length/\∀(i:Nat) d v,ds[i]? = some d->vs[i]? = some v->V σ M Fz w d v:=by
  intro l;induction l with
  |nil=>simp_all
  |cons x l ih=>
   intro rs ds q s;simp only[Lm,Option.pure_def,Option.bind_eq_bind,bC,ab] at q;obtain ⟨r,k,z,A,rfl⟩:=q;simp only[Lm,Option.pure_def,Option.bind_eq_bind,bC,ab] at s;obtain ⟨d,hd,F,G,rfl⟩:=s;obtain ⟨vs,O,W,h5⟩:=ih z F A G;have X:∃v,(Hc a.tmps x).run P w=.ok v w/\V σ M Fz w d v:=by
    cases x with
    |tmp t=>simp only[DM,ab] at k;subst k;simp only[EE] at hd;have g:=(dT.1 hd).1;have e:a.tmps[t]? = some (a.tmps[t]'(by rw[E.1];exact g)):=nE _;refine ⟨_,rfl,?_⟩;rw[Up,e];exact E.2 t _ _ hd e
    |cell y t=>
     simp only[DM,bq] at k;obtain ⟨n,Y,rfl⟩:=k;simp only[EE] at hd;split at hd
     ·rename_i b off sz U;simp only[bC] at hd;obtain ⟨Z,f,hg⟩:=hd;have g:=(dT.1 U).1;have e:a.tmps[y]? = some (a.tmps[y]'(by rw[E.1];exact g)):=nE _;have hv:=E.2 y _ _ U e;obtain ⟨c,hM,ad⟩:=hv.qG f;obtain ⟨K,_⟩:=FV f;obtain ⟨h,T,hh,af,L⟩:=R.row hM K;have j:∀(i:Nat) x,Z[i]? = some x->∃u,w.cell? ⟨c,0+i,none⟩=some u/\V σ M Fz w x u:=by
       intro i x m;have hi:=(dT.1 m).1;have e:h[i]? = some (h[i]'(by omega)):=nE _;exact ⟨_,by rw[Dn,cell_of_row w c i h T (0,0) hh];exact e,(L i _ _ m e).1⟩
      obtain ⟨v,o,N⟩:=sH (P:=P) Y hg j;refine ⟨v,?_,N⟩;rw[Dn] at o;have eg:a.tmps.getD y undef=.pointer (some ⟨c,off,none⟩):=by simp_all
      show (do loadVar t (<-asAddr (a.tmps.getD y undef)):Sem Value).run P w=_
      grind [Go.asAddr]
     simp_all
   obtain ⟨v,ak,ax⟩:=X;refine ⟨v::vs,?_,by simp[W],λi d' v' hi a0=>?_⟩
   ·simp_all
   grind
 obtain ⟨vs,q,s,O⟩:=p _ _ _ k hd;refine ⟨_,?_,WP (vs:=vs.toArray) (by omega) (λi d v a b=>O i d v a (by simp_all))⟩
 grind [GF,Go.Sem.run_bind,Array.mapM_eq_mapM_toList,Go.Sem.run_map,Go.Result.andThen_ok,Go.Sem.run_pure]
end
theorem QX{P:Program}(l:P.follows .mixedOrders=true){orc:qB}(O:pj P orc){g:FuncId}{fn:Func}{U:iw}{W:Bool}{k:Nat}{ds:List D}{σ σ':aa}{r:D}{wr:List Nat}
  (X:P.funcs[g]? = some fn) (t:e_ P fn W=some U) (h:WS P orc k U ds σ=some (r,σ',wr)) :
  Ok P g ds σ r σ'/\σ.length<=σ'.length/\∀b,b<σ.length->b∉wr->σ'[b]? = σ[b]?:=by
 unfold e_ at t;split at t
 ·rename_i c E;split at t
  ·rename_i ac rs Y Z;simp only[ab] at t;subst t;unfold WS at h;split at h
   ·rename_i ad;have ak:∀env f bF x,(x=.normal∨x=.ret)->ij P (λ_=>orc) k ac (ds++List.replicate (fn.ntmps-ds.length) (.aB [])) σ []=some (x,env,f,bF) ->
      finish ⟨fn.params.size+fn.nfree,fn.ntmps,rs,ac,W⟩ σ env f bF=some (r,σ',wr)->Ok P g ds σ r σ'/\σ.length<=σ'.length/\∀b,b<σ.length->b∉wr->σ'[b]? = σ[b]?:=by
     intro env f bF x hx m e;obtain ⟨k1,_,k3⟩:=qp (orc:=λ_=>orc) (λ_=>O) _ _ _ _ _ _ _ _ _ m;unfold finish at e;split at e
     ·rename_i u n;dsimp only at n e;have ax:some (one u,f,bF.filter (·<σ.length))=some (r,σ',wr)->Ok P g ds σ r σ'/\σ.length<=σ'.length/\∀b,b<σ.length->b∉wr->σ'[b]? = σ[b]?:=by
       intro he;simp only[ab,aC] at he;obtain ⟨rfl,rfl,rfl⟩:=he;refine ⟨λM Fz w j R hs F=>?_,k1,λb E hn=>k3 b E (λhw=>hn (by simp_all))⟩;refine calls_of_wp X E ?_;have G:cf σ M Fz w (ds++List.replicate (fn.ntmps-ds.length) (.aB [])) (j++Array.replicate (fn.ntmps-j.size) undef):=by
        refine ⟨by simp[hs],λi d v a b=>?_⟩;rw[VK] at a;rw[Array.getElem?_append] at b;split at a
        ·grind
        ·rename_i hi;rw[if_neg (by omega)] at b
         grind [V.undef]
       refine Fw ((Cq l (orc:=λ_=>orc) (λ_=>O) k).1 c ac σ f M Fz w _ env { tmps:=j++Array.replicate (fn.ntmps-j.size) undef,defers:=[] } [] bF x _ Y R G m λy w' M' Fz' hd s K L=>?_);obtain ⟨v,o,p⟩:=gp (P:=P) s K Z n;have post:y.defers=[]/\∃v,(results fn y.tmps).run P w'=.ok v w'/\∃z M'' Fz'',Ending.returned v=.returned z/\Rel f M'' Fz'' w'/\V f M'' Fz'' w' (one u) z/\aW σ M Fz w f M'' Fz'' w':=
        ⟨hd,v,o,v,M',Fz',rfl,s,p,L⟩
       rcases hx with rfl | rfl
       ·exact post
       ·exact post
      split at e
      ·rename_i A;simp only[aU] at A;split at e
       ·rename_i r' N;simp only[ab,aC] at e;obtain ⟨rfl,rfl,rfl⟩:=e;have q:∀b,b<σ.length->f[b]? = σ[b]?:=by
         grind
        refine ⟨λM Fz w j R hs F=>?_,bQ _,λ_ _ _=>rfl⟩;refine calls_of_wp X E ?_;have G:cf σ M Fz w (ds++List.replicate (fn.ntmps-ds.length) (.aB [])) (j++Array.replicate (fn.ntmps-j.size) undef):=by
         refine ⟨by simp[hs],λi d v a b=>?_⟩;rw[VK] at a;rw[Array.getElem?_append] at b;split at a
         ·grind
         ·rename_i hi;rw[if_neg (by omega)] at b
          grind [V.undef]
        refine Fw ((Cq l (orc:=λ_=>orc) (λ_=>O) k).1 c ac σ f M Fz w _ env { tmps:=j++Array.replicate (fn.ntmps-j.size) undef,defers:=[] } [] bF x _ Y R G m λy w' M' Fz' hd s K L=>?_);obtain ⟨v,o,p⟩:=gp (P:=P) s K Z n;obtain ⟨R2,T⟩:=Rel.forget R s L q;have post:y.defers=[]/\∃v,(results fn y.tmps).run P w'=.ok v w'/\∃z M'' Fz'',Ending.returned v=.returned z/\Rel σ M'' Fz'' w'/\V σ M'' Fz'' w' r' z/\aW σ M Fz w σ M'' Fz'' w':=
         ⟨hd,v,o,v,_,_,rfl,R2,Co s N p _ _,T⟩
        rcases hx with rfl | rfl
        ·exact post
        ·exact post
       simp_all
      simp_all
     simp_all
    grind
   simp_all
  simp_all
 simp_all
def Vt(P:Program)(b:FuncId->Option iw):Prop:=∀g d,b g=some d->aH P g=true/\∃fn e,P.funcs[g]? = some fn/\e_ P fn e=some d
theorem W_{P:Program}(f:P.follows .mixedOrders=true){b:FuncId->Option iw}(i:Vt P b){prim:qB}(j:pj P prim)(k:Nat):∀n,pj P (YA P b prim k n):=by
 intro n;induction n with
 |zero=>intro g ds σ r σ' wr h;grind [YA]
 |succ n ih=>
  intro g ds σ r σ' wr h;simp only[YA] at h;split at h
  ·rename_i LU d;simp only[ab] at h;subst h;exact j g ds σ r σ' wr d
  ·split at h
   ·rename_i l e;obtain ⟨m,fn,o,p,q⟩:=i g l e
    grind [QX]
   simp_all
end Go.Abs
end
