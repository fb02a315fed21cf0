/- DfwJ, DfwK, DfwL, DfwM, DfwN, DfwO, DfwQ, DfwR, DfwS, DfwT, DfwU, DfwV, DfwW, DfwX -/
import Derived.Test.YtidhdalhpjapaaaGreatDoorFwA
import Derived.LoopN
import GoSem.ClaimChange
import Derived.DataReads
import Derived.Below
set_option linter.all false
section
namespace Go.Abs
variable[Gl]
def Ok(P:Program)(g:FuncId)(ds:List D)(U:aq)(r:D)(U':aq):Prop:=
 ∀ (M : Nat -> Option Nat) (Fz : Nat -> Prop) (w : World) (b : Array Value), Rel U M Fz w -> b.size = ds.length -> (∀ (i : Nat) d v, ds[i]? = some d -> b[i]? = some v -> V U M Fz w d v) ->
  Calls P g b w λe w'=>∃v M' Fz',e=.returned v/\Rel U' M' Fz' w'/\V U' M' Fz' w' r v/\bQ U M Fz w U' M' Fz' w'
def bq(P:Program)(g:FuncId):Bool:=
 match P.funcs[g]? with
 |some fn=>fn.body.isSome&&fn.name != "runtime.NumGoroutine"
 |none=>false
def tf(P:Program)(orc:uE):Prop:=
 ∀g ds U r U' wr,orc g ds U=some (r,U',wr)->bq P g=true/\Ok P g ds U r U'/\U.length<=U'.length/\∀b,b<U.length->b∉wr->U'[b]? = U[b]?
abbrev ig:=Option Nat->uE
def pC(P:Program)(orc:ig):Prop:=∀t,tf P (orc t)
section
variable{P:Program}{U U':aq}{M M':Nat->Option Nat}{Fz:Nat->Prop}{w w':World}{env:List D}{a:Act}{orc:uE}
theorem Ff{d:D}{es:List (Value×D×Nat)}(h:EJ U d=some es):(d=.c (.lit (.map none))/\es=[])∨(∃b e,d=.mp b/\U[b]? = some (.map es e))∨∃f,d=.c (.Kl f)/\es=f.map λp=>(p.1,.c p.2,0):=by
 unfold EJ at h;split at h
 ·simp_all
 ·simp_all
 ·grind
 simp_all
def TE(ao:lg)(env:List D):D:=
 match ao with
 |.load _ x=>x.ev env
 |_=>.any
inductive Out (P:Program) (s:Sem Next) (U:aq) (M:Nat->Option Nat) (Fz:Nat->Prop) (w:World) (at_:D):lg->aq->D->List Nat->Prop where
 |y {ao:lg} {d:D} (hc:cat ao=0) (h:Yields P s U M Fz w d):Out P s U M Fz w at_ ao U d []
 |l {ao:lg} {d:D} {U':aq} (hc:cat ao=1) (hσ:U'=U) (h:(∀b off sz c cs,at_=.ptr b off sz->M b=some c->U[b]? = some (.cells cs)->∃arr T,w.heap[c]? = some (.cells arr T (0,0))/\cs.length<=arr.size/\∀(i:Nat) d v,cs[i]? = some d->arr[i]? = some v->V U M Fz w d v/\v.oneCell'=true)->Yields P s U M Fz w d):Out P s U M Fz w at_ ao U' d []
 |a {ao:lg} {d:D} {ob:Ob} (hc:cat ao=2) (h:(∀c,Fz c->c<w.heap.size)->ai P s U M Fz w ob d):Out P s U M Fz w at_ ao (U++[ob]) d []
 |g {ao:lg} {d:D} {U':aq} {wr:List Nat} (hc:cat ao=3) (h:Rel U M Fz w->dj P s U M Fz w U' d):Out P s U M Fz w at_ ao U' d wr
theorem Ju(bc:Gl.ok Fz w)(E:dk U M Fz w env a.tmps){o:Oper}{ao:lg}{d:D}{wr:List Nat}(g:lj P o.op o.type=some ao)(b7:DI ao=false)
  (h:bg P orc ao env U=some (d,U',wr)):Out P (execOp a.eval o) U M Fz w (TE ao env) ao U' d wr:=by
 cases j:o.op with
 |move x=>rw[j] at g;simp only[lj,cu] at g;obtain ⟨G,p,rfl⟩:=g;simp only[bg,aw,ba] at h;obtain ⟨rfl,rfl,rfl⟩:=h;exact .y rfl (R_ E (.inl j) p)
 |assign x=>rw[j] at g;simp only[lj,cu] at g;obtain ⟨G,p,rfl⟩:=g;simp only[bg,aw,ba] at h;obtain ⟨rfl,rfl,rfl⟩:=h;exact .y rfl (R_ E (.inr j) p)
 |pick c x y=>rw[j] at g;simp only[lj,Option.bind_eq_bind,cr,aw] at g;obtain ⟨oc,bd,G,p,oy,hy,rfl⟩:=g;simp only[bg,cu,ba] at h;obtain ⟨t,W,rfl,rfl,rfl⟩:=h;exact .y rfl (Wi E j bd p hy W)
 |alloc t=>rw[j] at g;simp only[lj,cu] at g;obtain ⟨z,Q,rfl⟩:=g;simp only[bg,aw,ba] at h;obtain ⟨rfl,rfl,rfl⟩:=h;exact .a rfl (λN=>Th N j Q)
 |box t x=>rw[j] at g;simp only[lj,cu] at g;obtain ⟨G,p,rfl⟩:=g;simp only[bg,cu,ba] at h;obtain ⟨cs,K,rfl,rfl,rfl⟩:=h;exact .a rfl (λN=>box_ok N E j p K)
 |build t a0=>
  rw[j] at g;simp only[lj,Option.bind_eq_bind,cr] at g;obtain ⟨z,Q,u,q,g⟩:=g;cases u <;> simp only[cr,aw,reduceCtorEq] at g
  ·rename_i len e;obtain ⟨n,v,qs,Y,rfl⟩:=g;simp only[bg,cu,ba] at h;obtain ⟨cs,K,rfl,rfl,rfl⟩:=h;exact .y rfl (Is E j Q (.inr ⟨len,e,n,q,v,rfl⟩) Y K)
  ·rename_i fs;obtain ⟨ps,be,qs,Y,rfl⟩:=g;simp only[bg,cu,ba] at h;obtain ⟨cs,K,rfl,rfl,rfl⟩:=h;exact .y rfl (Is E j Q (.inl ⟨fs,ps,q,be,rfl⟩) Y K)
 |buildSlice t len a0=>
  rw[j] at g;simp only[lj,Option.bind_eq_bind,cr] at g;obtain ⟨u,q,g⟩:=g;cases u <;> simp only[cr,reduceCtorEq] at g
  obtain ⟨n,v,z,Q,g⟩:=g;split at g
  ·grind
  ·rename_i A;simp only[cr,aw] at g;obtain ⟨qs,Y,rfl⟩:=g;simp only[bg,cu,ba] at h;obtain ⟨cs,K,rfl,rfl,rfl⟩:=h;exact .a rfl (λN=>PF N E j q v Q A Y K)
 |load t x=>
  rw[j] at g;simp only[lj,Option.bind_eq_bind,cr,aw] at g;obtain ⟨n,v,G,p,rfl⟩:=g;simp only[bg] at h;have Z:wr=[]:=by
   split at h
   ·simp only[Option.bind_eq_bind,cr,aw,ba] at h;grind
   ·simp only[Option.bind_eq_bind,cr,aw,ba] at h;grind
   simp_all
  subst Z;refine .l rfl ?_ (λhR=>(Wo E j p v hR h).2);revert h;split
  ·simp only[Option.bind_eq_bind,cr,aw,ba];simp_all
  ·simp only[Option.bind_eq_bind,cr,aw,ba];simp_all
  ·simp
 |store t x y=>
  rw[j] at g;simp only[lj,Option.bind_eq_bind,cr,aw] at g;obtain ⟨n,v,G,p,oy,hy,rfl⟩:=g;simp only[bg] at h;split at h
  ·rename_i b off sz O;simp only[Option.bind_eq_bind,cr] at h;obtain ⟨cs,K,xs,bh,h⟩:=h;split at h
   ·rename_i F;simp only[aw,ba] at h;obtain ⟨rfl,rfl,rfl⟩:=h;exact .g rfl (λR=>Tj R E j p hy v O K bh F)
   simp_all
  simp_all
 |nilCheck x=>
  rw[j] at g;simp only[lj,cu] at g;obtain ⟨G,p,rfl⟩:=g;simp only[bg] at h;have Z:wr=[]:=by grind
  subst Z;obtain ⟨rfl,hg⟩:=UB (P:=P) E j p h;exact .y rfl hg
 |binOp op t x y t2=>
  rw[j] at g;simp only[lj] at g;cases q:P.underlying t with
  |none=>rw[q] at g;simp only[Option.bind_none,aw] at g;subst g;simp only[bg,cu,ba] at h;obtain ⟨T,hd,rfl,rfl,rfl⟩:=h;exact .y rfl (kc E (by simp_all) (by simp_all))
  |some u=>
   rw[q] at g;simp only[Option.bind_some] at g;cases hk:yr u with
   |none=>rw[hk] at g;simp only[aw] at g;subst g;simp only[bg,cu,ba] at h;obtain ⟨T,hd,rfl,rfl,rfl⟩:=h;exact .y rfl (kc E (by simp_all) (by simp_all))
   |some k=>
    rw[hk] at g;have ad:∀neg,uH k neg x y=some ao->∃k' af G,ao=.iy k' af G:=by
     intro neg bi;unfold uH at bi
     grind [Option.map_eq_some_iff]
    cases op <;> simp only[reduceCtorEq] at g
    ·obtain ⟨k',af,G,rfl⟩:=ad false g;simp only[bg,cu,ba] at h;obtain ⟨b,hb,rfl,rfl,rfl⟩:=h;exact .y rfl (Ih (neg:=false) E (by simpa using j) q hk g hb)
    ·obtain ⟨k',af,G,rfl⟩:=ad true g;simp only[bg,cu,ba] at h;obtain ⟨b,hb,rfl,rfl,rfl⟩:=h;exact .y rfl (Ih (neg:=true) E (by simpa using j) q hk g hb)
 |unOp op t x=>rw[j] at g;simp only[lj,aw] at g;subst g;simp only[bg,cu,ba] at h;obtain ⟨T,hd,rfl,rfl,rfl⟩:=h;exact .y rfl (kc E (by simp_all) (by simp_all))
 |convert s t x=>rw[j] at g;simp only[lj,aw] at g;subst g;simp only[bg,cu,ba] at h;obtain ⟨T,hd,rfl,rfl,rfl⟩:=h;exact .y rfl (kc E (by simp_all) (by simp_all))
 |makeFunc f first b8=>rw[j] at g;simp only[lj,Option.bind_eq_bind,cr,aw] at g;obtain ⟨o1,h1,o2,h2,rfl⟩:=g;simp only[bg,aw,ba] at h;obtain ⟨rfl,rfl,rfl⟩:=h;exact .y rfl (VJ E j h1 h2)
 |makeMap t r=>
  rw[j] at g;cases r with
  |some _=>grind [lj]
  |none=>simp only[lj,aw] at g;subst g;simp only[bg,aw,ba] at h;obtain ⟨rfl,rfl,rfl⟩:=h;exact .a rfl (λN=>UX j)
 |makeSlice t x y=>
  rw[j] at g;simp only[lj,Option.bind_eq_bind,cr] at g;obtain ⟨u,q,g⟩:=g;cases u <;> simp only[cr,reduceCtorEq] at g
  obtain ⟨n,v,z,Q,i,X,g⟩:=g;split at g
  ·grind
  ·rename_i A;simp only[cr,aw] at g;obtain ⟨G,p,oy,hy,rfl⟩:=g;simp only[bg,Option.bind_eq_bind,cr] at h;obtain ⟨l,hl,c,bt,h⟩:=h;split at h
   ·rename_i F;simp only[aw,ba] at h;obtain ⟨rfl,rfl,rfl⟩:=h;exact .a rfl (λN=>mk_ok N E j q v Q X A p hy hl bt F)
   simp_all
 |slice t x lo X mx=>
  rw[j] at g;cases mx with
  |some mx=>
   cases lo with
   |none=>grind [lj]
   |some lo => cases X with
    |none=>grind [lj]
    |some X=>
     simp only[lj,Option.bind_eq_bind,cr] at g;obtain ⟨u,q,g⟩:=g;cases u <;> simp only[cr,aw,reduceCtorEq] at g
     obtain ⟨n,v,G,p,bu,a1,bv,a2,b9,bw,rfl⟩:=g;simp only[bg] at h;split at h
     ·rename_i b off len es sz O;simp only[Option.bind_eq_bind,cr] at h;obtain ⟨cs,hr,m,h0,h',h1,l,h2,h⟩:=h;split at h
      ·rename_i F;obtain ⟨rfl,rfl⟩:=F;simp only[aw,ba] at h;obtain ⟨rfl,rfl,rfl⟩:=h;exact .y rfl (XU (P:=P) E j p a1 a2 bw q v O hr (cr.2 h0) (cr.2 h1) (cr.2 h2))
      simp_all
     simp_all
  |none=>
   simp only[lj,Option.bind_eq_bind,cr] at g;obtain ⟨u,q,g⟩:=g;cases u <;> simp only[cr,aw,reduceCtorEq] at g
   ·subst g;simp only[bg,cu,ba] at h;obtain ⟨T,hd,rfl,rfl,rfl⟩:=h;exact .y rfl (kc E (by simp_all) (by simp_all))
   ·obtain ⟨n,v,G,p,bu,a1,bv,a2,rfl⟩:=g;simp only[bg] at h;have Z:wr=[]:=by
     split at h
     ·simp only[Option.bind_eq_bind,cr,aw,ba] at h;grind
     ·grind [Option.bind_eq_some_iff]
     ·grind [Option.bind_eq_some_iff]
     simp_all
    subst Z;obtain ⟨rfl,hg⟩:=slc_ok (P:=P) E j p a1 a2 q v h;exact .y rfl hg
 |fieldAddr s x f=>
  rw[j] at g;simp only[lj,Option.bind_eq_bind,cr] at g;obtain ⟨u,q,g⟩:=g;cases u <;> simp only[cr,reduceCtorEq] at g
  obtain ⟨fd,a3,n,v,g⟩:=g;split at g
  ·grind
  ·rename_i A;simp only[cr,aw] at g;obtain ⟨G,p,rfl⟩:=g;simp only[bg] at h;have Z:wr=[]:=by
    grind
   subst Z;obtain ⟨rfl,hg⟩:=fld_ok (P:=P) E j p q a3 v A h;exact .y rfl hg
 |field t x f=>
  rw[j] at g;simp only[lj,Option.bind_eq_bind,cr] at g;obtain ⟨u,q,g⟩:=g;cases u <;> simp only[cr,aw,reduceCtorEq] at g
  obtain ⟨fd,a3,n,v,G,p,rfl⟩:=g;simp only[bg] at h;split at h
  ·rename_i cs O;simp only[cu,ba] at h;obtain ⟨T,hd,rfl,rfl,rfl⟩:=h;exact .y rfl (VP E j p q a3 v O hd)
  simp_all
 |indexAddr t x i=>
  rw[j] at g;simp only[lj,Option.bind_eq_bind,cr] at g;obtain ⟨u,q,g⟩:=g;cases u <;> simp only[cr,reduceCtorEq] at g
  ·rename_i e;obtain ⟨n,v,g⟩:=g;split at g
   ·grind
   ·rename_i A;simp only[cr,aw] at g;obtain ⟨G,p,oi,X,rfl⟩:=g;simp only[bg] at h;have Z:wr=[]:=by
     grind [Option.bind_eq_some_iff]
    subst Z;obtain ⟨rfl,hg⟩:=idx_ok (P:=P) E j p X q v A h;exact .y rfl hg
  ·rename_i len e;obtain ⟨n,v,g⟩:=g;split at g
   ·grind
   ·rename_i A;simp only[cr,aw] at g;obtain ⟨G,p,oi,X,rfl⟩:=g;simp only[bg] at h;have Z:wr=[]:=by
     simp only[Option.bind_eq_bind,cr] at h;obtain ⟨_,_,_,_,h⟩:=h;split at h
     ·simp_all
     ·simp_all
     ·grind
     simp_all
    subst Z;obtain ⟨rfl,hg⟩:=IU (P:=P) bc E j p X q v h;exact .y rfl hg
 |index t x i=>
  rw[j] at g;simp only[lj,Option.bind_eq_bind,cr] at g;obtain ⟨u,q,g⟩:=g;cases u <;> simp only[cr,aw,reduceCtorEq] at g
  ·subst g;simp only[bg,cu,ba] at h;obtain ⟨T,hd,rfl,rfl,rfl⟩:=h;exact .y rfl (kc E (by simp_all) (by simp_all))
  ·rename_i len e;obtain ⟨sz,b0,n,v,G,p,oi,X,rfl⟩:=g;simp only[bg,Option.bind_eq_bind,cr] at h;obtain ⟨z,Q,k,hk,h⟩:=h;split at h
   ·rename_i cs O;simp only[cu,ba] at h;obtain ⟨T,hd,rfl,rfl,rfl⟩:=h;exact .y rfl (Yc E j p X q b0 v O Q hk hd)
   simp_all
 |lookup t m k ok=>
  rw[j] at g;simp only[lj,Option.bind_eq_bind,cr] at g;obtain ⟨u,q,g⟩:=g;cases u <;> simp only[cr,reduceCtorEq] at g
  rename_i kt e;obtain ⟨kd,ak,g⟩:=g;split at g
  ·rename_i hs;simp only[cr,aw] at g;obtain ⟨zero,Q,om,hm,a7,hk,rfl⟩:=g;simp only[bg,Option.bind_eq_bind,cr,aw,ba] at h;obtain ⟨kv,av,es,a8,r,hr,rfl,rfl,rfl⟩:=h;exact .g rfl (λR=>PH R E j q ak hs Q hm hk av (Ff a8) hr rfl)
  ·simp at g
 |mapUpdate t m k x | insert t m k x=>
  rw[j] at g;simp only[lj,Option.bind_eq_bind,cr] at g;obtain ⟨u,q,g⟩:=g;cases u <;> simp only[cr,reduceCtorEq] at g
  rename_i kt e;obtain ⟨kd,ak,g⟩:=g;split at g
  ·rename_i hs;simp only[cr,aw] at g;obtain ⟨om,hm,a7,hk,G,p,rfl⟩:=g;simp only[bg,Option.bind_eq_bind,cr] at h;obtain ⟨kv,av,h⟩:=h;split at h
   ·rename_i b O;split at h
    ·rename_i es a4 hb;simp only[cr] at h;obtain ⟨r,hr,h⟩:=h;have:=λR=>upd_ok (P:=P) (U:=U) (M:=M) (Fz:=Fz) (w:=w) R E (by first | exact .inl j | exact .inr j) q ak hs hm hk p av O hb hr;split at h
     ·simp only[aw,ba] at h;obtain ⟨rfl,rfl,rfl⟩:=h;exact .g rfl this
     ·simp only[aw,ba] at h;obtain ⟨rfl,rfl,rfl⟩:=h;exact .g rfl this
    simp_all
   simp_all
  simp_all
 |extract x i=>
  rw[j] at g;simp only[lj,Option.bind_eq_bind,cr,aw] at g;obtain ⟨G,p,rfl⟩:=g;simp only[bg] at h;split at h
  ·rename_i ds O;simp only[cu,ba] at h;obtain ⟨T,hd,rfl,rfl,rfl⟩:=h;exact .y rfl (Lk E j p O hd)
  simp_all
 |call c=>
  obtain ⟨ax,args,ch⟩:=c;rw[j] at g;cases ax with
  |value f=>grind [lj,Option.bind_eq_some_iff,DI]
  |invoke r m=>grind [lj]
  |builtin b=>
   cases b with
   |len=>
    simp only[lj,Option.bind_eq_bind,cr] at g;obtain ⟨t,W,x,L,g⟩:=g;split at g
    ·grind
    ·rename_i hs;simp only[ne_eq,HH] at hs;simp only[cr] at g;obtain ⟨u,q,g⟩:=g;cases u <;> simp only[cu,aw,reduceCtorEq] at g
     ·subst g;simp only[bg,cu,ba] at h;obtain ⟨T,hd,rfl,rfl,rfl⟩:=h;exact .y rfl (kc E (by simp_all) (by simp_all))
     ·obtain ⟨G,p,rfl⟩:=g;simp only[bg,cu,ba] at h;obtain ⟨n,v,rfl,rfl,rfl⟩:=h;exact .y rfl (len_ok E j W L hs p q v)
     ·rename_i n e;subst g;simp only[bg,aP.ev,aw,ba] at h;obtain ⟨rfl,rfl,rfl⟩:=h;exact .y rfl (QX j W L hs q)
     ·obtain ⟨G,p,rfl⟩:=g;simp only[bg,cu,ba] at h;obtain ⟨es,a8,rfl,rfl,rfl⟩:=h;refine .g rfl (λR=>QD R E j W L hs p q ?_)
      grind [Ff]
   |append=>
    simp only[lj,Option.bind_eq_bind,cr] at g;obtain ⟨t,W,t1,b1,s,a5,x,L,u,q,b2,b3,g⟩:=g;cases u <;> cases b2 <;> simp only[cr,reduceCtorEq] at g
    obtain ⟨n,v,i,X,z,Q,g⟩:=g;split at g
    ·grind
    ·rename_i A;simp only[cr,aw] at g;obtain ⟨os,hs,G,p,rfl⟩:=g;simp only[bg] at h;exact .g rfl (λR=>Pw R E j W b1 a5 L q b3 v X Q A hs p h)
   |copy=>
    simp only[lj,Option.bind_eq_bind,cr] at g;obtain ⟨t,W,s,a5,x,L,u,q,g⟩:=g;cases u <;> simp only[cr,reduceCtorEq] at g
    obtain ⟨n,v,g⟩:=g;split at g
    ·grind
    ·rename_i A;simp only[cr,aw] at g;obtain ⟨os,hs,G,p,rfl⟩:=g;simp only[bg] at h;split at h
     ·rename_i b off len es sz O;simp only[Option.bind_eq_bind,cr,cu] at h;obtain ⟨cs,hr,k,⟨m,hm,hk⟩,new,a9,h⟩:=h;split at h
      ·rename_i F;obtain ⟨rfl,a6⟩:=F;simp only[aw,ba] at h;obtain ⟨rfl,rfl,rfl⟩:=h;exact .g rfl (λR=>BB R E j W a5 L q v A hs p O hr hm hk.symm a9 a6)
      simp_all
     simp_all
   |clear=>
    simp only[lj,Option.bind_eq_bind,cr] at g;obtain ⟨t,W,x,L,u,q,g⟩:=g;cases u <;> simp only[cr,reduceCtorEq] at g
    obtain ⟨n,v,z,Q,g⟩:=g;split at g
    ·grind
    ·rename_i A;simp only[cr,aw] at g;obtain ⟨G,p,rfl⟩:=g;simp only[bg] at h;split at h
     ·rename_i b off len es sz O;simp only[Option.bind_eq_bind,cr] at h;obtain ⟨cs,hr,h⟩:=h;split at h
      ·rename_i F;obtain ⟨rfl,a6,b4⟩:=F;simp only[aw,ba] at h;obtain ⟨rfl,rfl,rfl⟩:=h;exact .g rfl (λR=>aaa R E j W L q Q (λe=>A (.inl e)) b4 p O hr a6)
      simp_all
     simp_all
   |delete=>
    simp only[lj,Option.bind_eq_bind,cr] at g;obtain ⟨t,W,m,b5,k,b6,u,q,g⟩:=g;cases u <;> simp only[cr,reduceCtorEq] at g
    rename_i kt e;obtain ⟨kd,ak,g⟩:=g;split at g
    ·rename_i hs;simp only[cr,aw] at g;obtain ⟨om,hm,a7,hk,rfl⟩:=g;simp only[bg,Option.bind_eq_bind,cr] at h;obtain ⟨kv,av,h⟩:=h;split at h
     ·rename_i b O;split at h
      ·rename_i es a4 hb;simp only[cr] at h;obtain ⟨r,hr,h⟩:=h;have:=λR=>ZY (P:=P) (U:=U) (M:=M) (Fz:=Fz) (w:=w) R E j W b5 b6 q ak hs hm hk av O hb hr;split at h
       ·simp only[aw,ba] at h;obtain ⟨rfl,rfl,rfl⟩:=h;exact .g rfl this
       ·simp only[aw,ba] at h;obtain ⟨rfl,rfl,rfl⟩:=h;exact .g rfl this
      simp_all
     simp_all
    simp_all
   |min=>simp only[lj,aw] at g;subst g;simp only[bg,cu,ba] at h;obtain ⟨T,hd,rfl,rfl,rfl⟩:=h;exact .y rfl (kc E (by simp_all) (by simp_all))
   |max=>simp only[lj,aw] at g;subst g;simp only[bg,cu,ba] at h;obtain ⟨T,hd,rfl,rfl,rfl⟩:=h;exact .y rfl (kc E (by simp_all) (by simp_all))
   |complex=>simp only[lj,aw] at g;subst g;simp only[bg,cu,ba] at h;obtain ⟨T,hd,rfl,rfl,rfl⟩:=h;exact .y rfl (kc E (by simp_all) (by simp_all))
   |real=>simp only[lj,aw] at g;subst g;simp only[bg,cu,ba] at h;obtain ⟨T,hd,rfl,rfl,rfl⟩:=h;exact .y rfl (kc E (by simp_all) (by simp_all))
   |imag=>simp only[lj,aw] at g;subst g;simp only[bg,cu,ba] at h;obtain ⟨T,hd,rfl,rfl,rfl⟩:=h;exact .y rfl (kc E (by simp_all) (by simp_all))
   |_=>grind [lj]
 |_=>grind [lj]
theorem Wy(R:Rel U M Fz w)(E:dk U M Fz w env a.tmps){o:Oper}{ao:lg}{d:D}{wr:List Nat}(j:lj P o.op o.type=some ao)(f:DI ao=false)
  (h:bg P orc ao env U=some (d,U',wr)):dj P (execOp a.eval o) U M Fz w U' d:=by
 cases Ju (M:=M) (Fz:=Fz) (w:=w) R.gl E j f h with
 |y _ e=>exact e.Nk R
 |l _ i e=>rw[i];exact (e λb off sz c p _ k m=>R.row k m).Nk R
 |a _ e=>exact (e R.fz).Nk R
 |g _ e=>grind
theorem Cy{op:Op}{ty:TypeId}{ao:lg}(h:comp P op ty=some ao) :
  (∃f args b d os,op=.call { callee:=.value f,args:=args,argTypes:=b }/\bO f=some d/\Hc args=some os/\ao=.call d os)∨(lj P op ty=some ao/\DI ao=false/\Ui ao=false):=by
 unfold comp at h
 grind
end
end Go.Abs
end
section
namespace Go.Abs
variable[Gl]
structure aM where
 dst:Option Nat
 op:lg
 g:Option (Nat×Bool)
 deriving Inhabited
def mj(env:List D):Option Nat->D->List D
 |some t,d=>env.set t d
 |none,_=>env
def jh(env:List D):Option (Nat×Bool)->Option Bool
 |none=>some true
 |some (t, want)=>
  match env[t]? with
  |some (.c (.lit (.bool b)))=>some (b == want)
  |some (.aT [])=>some false
  |_=>none
def eB(P:Program)(orc:ig)(o:aM)(env:List D)(U:aq):Option (List D×aq×List Nat):=
 match jh env o.g with
 |some true=>(bg P (orc o.dst) o.op env U).map λr=>(mj env o.dst r.1,r.2.1,r.2.2)
 |some false=>some (mj env o.dst (.aT []),U,[])
 |none=>none
def sV(P:Program)(orc:ig):List aM->List D->aq->Option (List D×aq×List Nat)
 |[],env,U=>some (env,U,[])
 |o :: os, env, U=>
  match eB P orc o env U with
  |some (b, U1, w1)=>
   match sV P orc os b U1 with
   |some (d,U2,w2)=>some (d,U2,w1++w2)
   |none=>none
  |none=>none
def yL(ops:Array Oper):Option (Nat×Bool)->Option (Option (Nat×Bool))
 |none=>some none
 |some (j, want)=>
  match (ops[j]?).bind (·.dst) with
  |some t=>some (some (t,want))
  |none=>none
def cO(P:Program)(ops:Array Oper)(o:Oper):Option aM:=
 match yL ops o.guard,comp P o.op o.type with
 |some g,some b=>some ⟨o.dst,b,g⟩
 |_,_=>none
section
variable{P:Program}{U U':aq}{M M':Nat->Option Nat}{Fz Fz':Nat->Prop}{w w':World}{env env':List D}{a:Act}{orc:uE}
theorem dk.mono(E:dk U M Fz w env a.tmps)(j:bQ U M Fz w U' M' Fz' w'):dk U' M' Fz' w' env a.tmps:=
 ⟨E.1,λi d v o s=>(E.2 i d v o s).mono j⟩
theorem dk.put(E:dk U M Fz w env a.tmps){d:D}{v:Value}(j:Option Nat)(z:V U M Fz w d v):dk U M Fz w (mj env j d) (a.put j v).tmps:=by
 cases j with
 |none=>exact E
 |some t=>
  refine ⟨by simp[Act.put,mj,E.1],λi u x o s=>?_⟩;simp only[mj,yBu] at o;simp only[Act.put,yBa] at s;by_cases e:t=i
  ·simp_all
  ·rw[if_neg e] at o s;exact E.2 i u x o s
theorem V.undef:V U M Fz w (.aT []) undef:=.aT #[] rfl (λi d v h=>by simp at h)
theorem uM(E:dk U M Fz w env a.tmps){ops:Array Oper}{o:Oper}{g:Option (Nat×Bool)}{b:Bool}(f:yL ops o.guard=some g)(h:jh env g=some b) :
  Region.wanted o (yielded ops a.tmps)=b:=by
 unfold Region.wanted;cases k:o.guard with
 |none=>grind [yL,jh]
 |some p=>
  obtain ⟨j,l⟩:=p;rw[k] at f;simp only[yL] at f;split at f
  ·rename_i t q;simp only[aw] at f;subst f;simp only[jh] at h;simp only[yielded,q,Option.bind_some];split at h
   ·rename_i r i;have d:=(jy.1 i).1;have e:a.tmps[t]? = some (a.tmps[t]'(by rw[E.1];exact d)):=tc _;have:=(E.2 t _ _ i e).cC
    simp_all
   ·rename_i i;have d:=(jy.1 i).1;have e:a.tmps[t]? = some (a.tmps[t]'(by rw[E.1];exact d)):=tc _;have m:=E.2 t _ _ i e;generalize s:a.tmps[t]'(by grind)=x at m e;rw[e];simp only[aw] at h;subst h;cases m with
    |aT u=>simp_all
   simp_all
  simp_all
theorem VL(E:dk U M Fz w env a.tmps){o:Oper}{f:Operand}{args:Array Operand}{u:Array TypeId}{y:aP}{os:List aP}{g:FuncId}{ds:List D}
  (R:o.op=.call { callee:=.value f,args:=args,argTypes:=u }) (T:bO f=some y) (z:Hc args=some os)
  (A:(∃first b,y.ev env=.c (.fn (.func g) first b)/\ds=first.map .c++os.map (aP.ev env)++b.map .c)∨(∃first b,y.ev env=.fn (.func g) first b/\ds=first++os.map (aP.ev env)++b))
  (j:bq P g=true):∃e:Array Value,(execOp a.eval o).run P w=.ok (.enter g e) w/\e.size=ds.length/\∀(i:Nat) d v,ds[i]? = some d->e[i]? = some v->V U M Fz w d v:=by
 obtain ⟨X,Y⟩:=Hg E z;have q:=mf E T;have r:∀(first b:List D)(e k:Array Value),a.eval f=.func (.func g) e k->ds=first++os.map (aP.ev env)++b->e.size=first.length->k.size=b.length ->
   (∀(i:Nat) d v,first[i]? = some d->e[i]? = some v->V U M Fz w d v)->(∀(i:Nat) d v,b[i]? = some d->k[i]? = some v->V U M Fz w d v) ->
   ∃e:Array Value,(execOp a.eval o).run P w=.ok (.enter g e) w/\e.size=ds.length/\∀(i:Nat) d v,ds[i]? = some d->e[i]? = some v->V U M Fz w d v:=by
  intro first b e k h hd F G l m
  refine ⟨e++args.map a.eval++k,?_,by simp_all,λi d v p t=>?_⟩
  ·unfold bq at j;split at j
   ·rename_i fn K;simp only[bJ,Ak,ne_eq] at j;obtain ⟨Z,L⟩:=j;have N:fn.body.isNone=false:=by simp_all
    simp only[execOp,R,resolve,h,Deferred.ofValue,Sem.run_bind,Sem.run_pure,Result.andThen_ok,invoke,callFunc,run_program,K,lm,L,N,bn,a_]
   simp_all
  grind
 rcases A with ⟨first,b,O,hd⟩ | ⟨first,b,O,hd⟩
 ·rw[O] at q;have s:=q.Ao;generalize h:a.eval f=W at s;cases s with
  |fn e k F G l m=>
   refine r _ _ e k h hd (by grind) (by grind) (λi d v p t=>?_) (λi d v p t=>?_)
   ·simp only[jX,cu] at p;obtain ⟨x,Q,rfl⟩:=p;exact .c (l i x v Q t)
   ·simp only[jX,cu] at p;obtain ⟨x,Q,rfl⟩:=p;exact .c (m i x v Q t)
 ·rw[O] at q;generalize h:a.eval f=W at q;cases q with
  |fn e k F G l m=>exact r _ _ e k h hd F G l m
theorem Ix(O:tf P orc)(R:Rel U M Fz w)(E:dk U M Fz w env a.tmps){o:Oper}{ao:lg}{d:D}{wr:List Nat}{Q:Exit->Act->World->Prop}(L:comp P o.op o.type=some ao)
  (h:bg P orc ao env U=some (d,U',wr)) (K:Act->World->Prop)
  (x:∀v w' M' Fz',Rel U' M' Fz' w'->V U' M' Fz' w' d v->bQ U M Fz w U' M' Fz' w'->U.length<=U'.length->K (a.put o.dst v) w'):o.wp P a w K Q:=by
 rcases Cy L with ⟨f,args,N,y,os,k,T,l,rfl⟩ | ⟨m,j,_⟩
 ·simp only[bg] at h;have z:∀g ds,orc g ds U=some (d,U',wr) ->
    ((∃first b,y.ev env=.c (.fn (.func g) first b)/\ds=first.map .c++os.map (aP.ev env)++b.map .c)∨(∃first b,y.ev env=.fn (.func g) first b/\ds=first++os.map (aP.ev env)++b))->o.wp P a w K Q:=by
   intro g ds W p;obtain ⟨q,r,s,_⟩:=O g ds U d U' wr W;obtain ⟨X,i,hs,t⟩:=VL (P:=P) E k T l p q;unfold Oper.wp;rw[i];refine (r M Fz w X R hs t).mono λe w' Y=>?_
   grind
  grind
 ·obtain ⟨Z,v,w',M',i,u,A,F,G,s⟩:=Wy R E m j h;unfold Oper.wp;rw[i];rcases u with rfl | ⟨rfl,rfl⟩
  ·exact x v w' M' Fz A F G s
  ·exact x _ w' M' Fz A F G s
theorem Ol{orc:ig}(O:pC P orc)(R:Rel U M Fz w)(E:dk U M Fz w env a.tmps){ops:Array Oper}{i:Nat}{o:Oper}{ao:aM}{wr:List Nat}{Q:Exit->Act->World->Prop}(p:ops[i]? = some o)(f:cO P ops o=some ao)
  (h:eB P orc ao env U=some (env',U',wr)) (K:Act->World->Prop)
  (q:∀j w' M' Fz',j.defers=a.defers->Rel U' M' Fz' w'->dk U' M' Fz' w' env' j.tmps->bQ U M Fz w U' M' Fz' w'->U.length<=U'.length->K j w'):wpOp P ops Q i K a w:=by
 unfold cO at f;split at f
 ·rename_i g t r k;simp only[aw] at f;subst f;unfold eB at h;have e:∀v,(a.put o.dst v).defers=a.defers:=λv=>by cases o.dst <;> rfl
  split at h
  ·rename_i l;have b:=uM E r l;simp only[cu] at h;obtain ⟨⟨d,U1,bV⟩,m,h⟩:=h;simp only[ba] at h;obtain ⟨rfl,rfl,rfl⟩:=h;unfold wpOp;rw[p];simp only[b,if_true];exact .inl (Ix (O o.dst) R E k m K λv w' M' Fz' u x s y=>q _ w' M' Fz' (e v) u ((E.mono s).put o.dst x) s y)
  ·rename_i l;have b:=uM E r l;simp only[aw,ba] at h;obtain ⟨rfl,rfl,rfl⟩:=h;unfold wpOp;rw[p];simp only[b,a_,bn];exact q _ w M Fz (e _) R (E.put o.dst V.undef) (bQ.refl R) (cT _)
  simp_all
 simp_all
theorem ops_wp{orc:ig}(O:pC P orc){ops:Array Oper}{Q:Exit->Act->World->Prop}:∀(os:List aM)(k:Nat)(U U':aq)(M:Nat->Option Nat)(Fz:Nat->Prop)(w:World)(env env':List D)(a:Act)(wr:List Nat),
  (∀j ao,os[j]? = some ao->∃o,ops[k+j]? = some o/\cO P ops o=some ao)->Rel U M Fz w->dk U M Fz w env a.tmps->sV P orc os env U=some (env',U',wr) ->
  (∀g w' M' Fz',g.defers=a.defers->Rel U' M' Fz' w'->dk U' M' Fz' w' env' g.tmps->bQ U M Fz w U' M' Fz' w'->U.length<=U'.length->Q .normal g w') ->
  wpOps P ops Q (List.range' k os.length) a w:=by
 intro os;induction os with
 |nil=>intro k U U' M Fz w env env' a wr _ R E h i;simp only[sV,aw,ba] at h;obtain ⟨rfl,rfl,_⟩:=h;exact i a w M Fz rfl R E (bQ.refl R) (cT _)
 |cons ao os ih=>
  intro k U U' M Fz w env env' a wr b R E h i;simp only[sV] at h;split at h
  ·rename_i d U1 w1 v;split at h
   ·rename_i e U2 w2 x;simp only[aw,ba] at h;obtain ⟨rfl,rfl,_⟩:=h;obtain ⟨o,Y,l⟩:=b 0 ao (by simp);simp only[List.length_cons,List.range'_succ];rw[wpOps_cons];refine Ol O R E (by omega) l v _ λy w' z m hd A F p f=>?_;refine ih (k+1) U1 U2 z m w' d e y w2 (λj q Z=>?_) A F x λG r K s L N T t u=>?_
    ·obtain ⟨o',W,X⟩:=b (j+1) q (by simp_all)
     grind
    ·exact i G r K s (by simp_all) N T (p.trans t f) (mA f u)
   simp_all
  simp_all
end
end Go.Abs
end
section
namespace Go.Abs
variable[Gl]
def qR:lg->List aP
 |.DR x=>[x]
 |.pick c a b=>[c,a,b]
 |.gen op _=>op.operands.toList.filterMap bO
 |.box x=>[x]
 |.alloc _=>[]
 |.build _ e=>e.map (·.2.2)
 |.iV _ _ _ e=>e.map (·.2.2)
 |.load _ a=>[a]
 |.store _ a x=>[a,x]
 |.lD x=>[x]
 |.iy _ _ x=>[x]
 |.HE _ x=>[x]
 |.idx _ _ x i=>[x,i]
 |.Rh _ x g h=>x::(g.toList++h.toList)
 |.len x=>[x]
 |.Ti x=>[x]
 |.mk _ _ _ l c=>[l,c]
 |.sx=>[]
 |.lookup _ _ m k _=>[m,k]
 |.vD _ m k x=>[m,k,x]
 |.extract x _=>[x]
 |.CR _ f c=>f++c
 |.part _ _ x=>[x]
 |.AD _ _ _ x i=>[x,i]
 |.append _ _ s x=>[s,x]
 |.copy _ d s=>[d,s]
 |.del _ m k=>[m,k]
 |.Pf _ x g h j=>[x,g,h,j]
 |.clr _ _ x=>[x]
 |.call f as=>f::as
theorem zZ{env env':List D}:∀(b:List (Nat×Nat×aP))(cs:List D),(∀x∈b.map (·.2.2),x.ev env=x.ev env')->pz env cs b=pz env' cs b:=by
 intro b;induction b with
 |nil=>intro cs _;rfl
 |cons p b ih=>
  intro cs h;obtain ⟨o,n,x⟩:=p;simp only[pz,h x (by simp)]
  simp_all
theorem vV{env env':List D}(d m:Nat)(o:Option aP)(h:∀x∈o.toList,x.ev env=x.ev env'):m_ env d m o=m_ env' d m o:=by
 cases o with
 |none=>rfl
 |some x=>grind [m_]
theorem I_{P:Program}{op:Op}{ty:TypeId}{env env':List D}(d:∀cs b,op≠.select cs b)(h:∀x∈op.operands.toList.filterMap bO,x.ev env=x.ev env'):mL P op ty env=mL P op ty env':=by
 have e:∀x∈op.operands.toList,((bO x).map (aP.ev env))=((bO x).map (aP.ev env')):=by
  intro x e;cases f:bO x with
  |none=>rfl
  |some o=>grind
 unfold mL;have g:op.operands.toList.all (λx=>(((bO x).map (aP.ev env)).bind D.cD).isSome)=op.operands.toList.all (λx=>(((bO x).map (aP.ev env')).bind D.cD).isSome):=by grind
 grind [Go.execOp_congr]
def EO:lg->Prop
 |.gen op _=>∀d b,op≠.select d b
 |_=>True
theorem wY{P:Program}{orc:uE}{ao:lg}{env env':List D}{U:aq}(hs:EO ao)(h:∀x∈qR ao,x.ev env=x.ev env'):bg P orc ao env U=bg P orc ao env' U:=by
 cases ao with
 |gen op ty=>simp only[bg,I_ hs h]
 |build z g=>simp only[bg,zZ g z h]
 |iV n l z g=>simp only[bg,zZ g _ h]
 |Rh e x j p=>
  simp only[bg,h x (by simp[qR])];have r:∀d m,m_ env d m j=m_ env' d m j:=λd m=>vV d m j (λy q=>h y (by grind [qR]));have s:∀d m,m_ env d m p=m_ env' d m p:=λd m=>vV d m p (λy q=>h y (by grind [qR]))
  simp_all
 |CR f a b=>grind [List.map_congr_left,qR,bg]
 |call f a=>grind [List.map_congr_left,qR,bg]
 |idx e o x i=>cases o <;> simp only[bg,h x (by simp[qR]),h i (by simp[qR])]
 |DR x=>grind [bg,qR]
 |pick c a b=>grind [bg,qR]
 |box x=>grind [bg,qR]
 |alloc z=>rfl
 |load n x=>grind [bg,qR]
 |store n x y=>grind [bg,qR]
 |lD x=>grind [bg,qR]
 |iy k n x=>grind [bg,qR]
 |HE o x=>grind [bg,qR]
 |len x=>grind [bg,qR]
 |Ti x=>grind [bg,qR]
 |mk e b z x y=>grind [bg,qR]
 |sx=>rfl
 |lookup k z x y o=>grind [bg,qR]
 |vD k x y z=>simp only[bg,h x (by simp[qR]),h y (by simp[qR]),h z (by simp[qR])]
 |extract x i=>grind [bg,qR]
 |part o n x=>grind [bg,qR]
 |AD e l n x y=>grind [bg,qR]
 |append e b x y=>grind [bg,qR]
 |copy e x y=>simp only[bg,h x (by simp[qR]),h y (by simp[qR])]
 |del k x y=>grind [bg,qR]
 |Pf e x y z u=>simp only[bg,h x (by simp[qR]),h y (by simp[qR]),h z (by simp[qR]),h u (by simp[qR])]
 |clr e z x=>grind [bg,qR]
theorem lI{P:Program}{op:Op}{ty:TypeId}{ao:lg}(h:comp P op ty=some ao):EO ao:=by
 rcases Cy h with ⟨f,args,d,i,os,rfl,_,_,rfl⟩ | ⟨_,_,j⟩
 ·trivial
 ·cases ao with
  |gen e g=>
   intro k b l
   grind [Ui]
  |_=>trivial
theorem MO{P:Program}{orc:uE}(O:tf P orc){ao:lg}{env:List D}{U U':aq}{d:D}{wr:List Nat}(h:bg P orc ao env U=some (d,U',wr)) :
  U.length<=U'.length/\∀b,b<U.length->b∉wr->U'[b]? = U[b]?:=by
 have same:U'=U->U.length<=U'.length/\∀b,b<U.length->b∉wr->U'[b]? = U[b]?:=by simp_all
 have SD:∀g,U'=U++[g]->U.length<=U'.length/\∀b,b<U.length->b∉wr->U'[b]? = U[b]?:=by grind
 have set:∀b g,U'=U.set b g->wr=[b]->U.length<=U'.length/\∀b,b<U.length->b∉wr->U'[b]? = U[b]?:=by grind
 cases ao with
 |call f args=>
  simp only[bg] at h;split at h
  ·exact ⟨(O _ _ _ _ _ _ h).2.2.1,(O _ _ _ _ _ _ h).2.2.2⟩
  ·exact ⟨(O _ _ _ _ _ _ h).2.2.1,(O _ _ _ _ _ _ h).2.2.2⟩
  simp_all
 |DR x=>grind [bg]
 |pick c a b=>simp only[bg,cu,ba] at h;grind
 |gen op ty=>simp only[bg,cu,ba] at h;grind
 |box x=>simp only[bg,cu,ba] at h;grind
 |alloc z=>grind [bg]
 |build z j=>simp only[bg,cu,ba] at h;grind
 |iV n l z j=>simp only[bg,cu,ba] at h;grind
 |load n x=>
  simp only[bg] at h;split at h
  ·simp only[Option.bind_eq_bind,cr,aw,ba] at h;grind
  ·simp only[Option.bind_eq_bind,cr,aw,ba] at h;grind
  simp_all
 |store n x y=>grind [bg,Option.bind_eq_some_iff]
 |lD x=>grind [bg]
 |iy k n x=>simp only[bg,cu,ba] at h;grind
 |HE o x=>grind [bg]
 |idx e o x i=>
  cases o with
  |none=>
   simp only[bg,Option.bind_eq_bind,cr] at h
   grind [Option.bind_eq_some_iff]
  |some len=>
   simp only[bg,Option.bind_eq_bind,cr] at h;obtain ⟨_,_,_,_,h⟩:=h;split at h
   ·simp_all
   ·simp_all
   ·grind
   simp_all
 |Rh e x m p=>
  simp only[bg] at h;split at h
  ·simp only[Option.bind_eq_bind,cr,aw,ba] at h;grind
  ·grind [Option.bind_eq_some_iff]
  ·grind [Option.bind_eq_some_iff]
  simp_all
 |len x=>simp only[bg,cu,ba] at h;grind
 |Ti x=>simp only[bg,cu,ba] at h;grind
 |mk e b z x y=>grind [bg,Option.bind_eq_some_iff]
 |sx=>grind [bg]
 |lookup k z x y o=>
  simp only[bg,Option.bind_eq_bind,cr,aw,ba] at h
  grind
 |vD k x y z=>
  simp only[bg,Option.bind_eq_bind,cr] at h
  grind [Option.bind_eq_some_iff]
 |del k x y=>
  simp only[bg,Option.bind_eq_bind,cr] at h
  grind [Option.bind_eq_some_iff]
 |extract x i=>
  simp only[bg] at h
  grind
 |CR f a b=>grind [bg]
 |part o n x=>
  simp only[bg] at h;split at h
  ·simp only[cu,ba] at h;grind
  simp_all
 |AD e l n x y=>
  simp only[bg,Option.bind_eq_bind,cr] at h;obtain ⟨_,_,_,_,h⟩:=h;split at h
  ·simp only[cu,ba] at h;grind
  simp_all
 |append e b x y=>
  simp only[bg,Option.bind_eq_bind,cr] at h
  grind [Option.bind_eq_some_iff]
 |Pf e x y z u=>
  simp only[bg] at h;split at h
  ·simp only[Option.bind_eq_bind,cr] at h
   grind
  simp_all
 |clr e z x=>grind [bg,Option.bind_eq_some_iff]
 |copy e x y=>
  simp only[bg] at h;split at h
  ·grind [Option.bind_eq_some_iff]
  simp_all
end Go.Abs
end
section
namespace Go.Abs
variable[Gl]
structure dG where
 cat:Nat
 blk:Option Nat
 wr:List Nat
 dst:Option Nat
 Zl:List Nat
 lo:Nat
 hi:Nat
 deriving Inhabited
def wU(o:aM):List Nat:=(qR o.op).filterMap (λ| .t n=>some n | _=>none)++(match o.g with | some (t,_)=>[t] | none=>[])
def cQ (o:aM) (env:List D) (lo hi:Nat) (wr:List Nat):dG:=
  { cat := match jh env o.g with | some true => cat o.op | _ => 0,
    blk:=match TE o.op env with | .ptr b _ _=>some b | _=>none,
    wr:=wr,dst:=o.dst,Zl:=wU o,lo:=lo,hi:=hi }
def jZ(U U':aq)(wr:List Nat):Bool:=
 wr.all λb=>match U[b]?,U'[b]? with
  |some x,some y=>x.sz == y.sz
  |_,_=>false
def kH(P:Program)(orc:ig):Nat->List aM->List D->aq->Option (List D×aq×List dG)
 |_,[],env,U=>some (env,U,[])
 |n, o :: os, env, U=>
  match eB P orc o env U with
  |some (b, U1, w1)=>
   if n == 0 || jZ U U1 w1 then
    match kH P orc (n-1) os b U1 with
    |some (d,U2,is)=>some (d,U2,cQ o env U.length U1.length w1::is)
    |none=>none
   else none
  |none=>none
def WX(b:Option Nat)(l:List Nat):Bool:=
 match b with
 |some t=>!l.contains t
 |none=>true
def safe(i:dG)(wr:List Nat):Bool:=
 wr.isEmpty || i.cat == 0 || i.cat == 2 || (i.cat == 1&&(match i.blk with | some b=>!wr.contains b | none=>true))
def outside(i:dG)(wr:List Nat):Bool:=wr.all λb=>b<i.lo || i.hi<=b
def apart(x y:dG):Bool:=
 WX x.dst y.Zl&&WX y.dst x.Zl&&(match x.dst,y.dst with | some s,some t=>s != t | _,_=>true)&&(safe x y.wr&&safe y x.wr)&&(outside x y.wr&&outside y x.wr)
def dR(b:List Nat)(d:List dG):Bool:=
 (List.range d.length).all λj=>(List.range j).all λi=>(b.getD j 0).testBit i || apart (d.getD i default) (d.getD j default)
def nA(b:List Nat)(p n m:Nat):Bool:=
 (List.range m).all λj=>j<n || (List.range j).all λi=>Nat.blt i p || (b.getD j 0).testBit i
def isMv(o:Oper):Bool:=
 o.guard.isNone&&(match o.op with
  |.move _ | .assign _=>true
  |_=>false)
def IW(n:Nat):Nat->Array Bool
 |0=>Array.replicate n false
 |i+1=>(IW n i).setIfInBounds i true
def Cs(ops:Array Oper)(i:Nat):Bool:=
 ((ops[i]?).map isMv).getD false&&Region.free .any ops (IW ops.size i) i&&(Region.ready .any ops (IW ops.size i)).contains i
def leads(ops:Array Oper):Nat->Nat->Nat
 |0,_=>0
 |k+1,i=>if Cs ops i then leads ops k (i+1)+1 else 0
def lead(ops:Array Oper):Nat:=if Region.noSelect ops then leads ops ops.size 0 else 0
inductive br where
 |skip
 |MK (ops:List aM)
 |FA (ops:List aM) (bef:List Nat) (n p:Nat)
 |seq (a b:br)
 |cond (c:aP) (thn els:br)
 |block (id:Nat) (body:br)
 |loop (body:br)
 |exit (id:Nat)
 |ret
 |stuck
 |VF (l:Nat)
 |QY (l:Nat) (a r:br)
 deriving Inhabited
def lblA:br->Option Nat
 |.seq a b=>match lblA a with | some l=>some l | none=>lblA b
 |.VF l=>some l
 |_=>none
def MQ(l:Nat):br->Option br
 |.seq a b=>match MQ l a with | some r=>some (.seq r b) | none=>MQ l b
 |.VF d=>if (d == l)=true then some .skip else none
 |_=>none
def NP(a:br):br:=match lblA a with
 |some l=>match MQ l a with | some r=>.QY l a r | none=>.stuck
 |none=>.stuck
def Jz(acc:List Nat)(o:Oper):Nat:=
 o.after.toList.foldl (λs e=>if Region.binds .any e then s ||| 2 ^ e.on ||| acc.getD e.on 0 else s) 0
def LN(l:List Oper):List Nat:=l.foldl (λb o=>b++[Jz b o]) []
def jP:List aM->Nat
 |[]=>0
 |o :: os => match o.op with
  |.append ..=>0
  |_=>jP os+1
def yd(l:List Oper):Bool:=(List.range l.length).all λj=>((l.getD j default).after.toList.all λe=>!Region.binds .any e || e.on<j)
def cZ(P:Program):Code->Option br
 |.skip=>some .skip
 |.region _ ops d=>
  match ops.toList.mapM (cO P ops) with
  |some os=>if d then (if yd ops.toList then some (.FA os (LN ops.toList) (jP os) (lead ops)) else some .stuck) else some (.MK os)
  |none=>some .stuck
 |.seq a b => match cZ P a, cZ P b with
  |some x,some y=>some (.seq x y)
  |_,_=>none
 |.cond c a b => match bO c, cZ P a, cZ P b with
  |some o,some x,some y=>some (.cond o x y)
  |_,_,_=>some .stuck
 |.block id b=>(cZ P b).map (.block (2 * id))
 |.loop b=>(cZ P b).map .loop
 |.exit id=>some (.exit (2 * id))
 |.goto l=>some (.exit (2 * l+1))
 |.label l=>some (.VF l)
 |.scope b=>(cZ P b).map NP
 |.ret=>some .ret
 |_=>some .stuck
structure mR where
 nparams:Nat
 ntmps:Nat
 results:List (Nat×Option (Option Nat))
 body:br
 cU:Bool
 deriving Inhabited
def JY(P:Program):ResultVar->Option (Nat×Option (Option Nat))
 |.tmp t=>some (t,none)
 |.cell a t=>(Dk P t).map λn=>(a,some n)
def jI(P:Program)(f:Func)(cU:Bool):Option mR:=
 match f.body with
 |some b=>
  match cZ P b,f.results.toList.mapM (JY P) with
  |some c,some rs=>some ⟨f.params.size+f.nfree,f.ntmps,rs,c,cU⟩
  |_,_=>none
 |none=>none
inductive qd where
 |normal
 |exit (id:Nat)
 |ret
 deriving DecidableEq,Inhabited
def dH(os:List aM):Nat:=os.length-1-(os.reverse.takeWhile λo=>match o.op with | .call ..=>false | _=>true).length
def jL(P:Program)(orc:ig)(os:List aM)(b:List Nat)(p n:Nat)(env:List D)(U:aq):Option (List D×aq×List Nat):=
 match kH P orc n os env U with
 |some (env',U',is)=>if dR b is&&nA b p n os.length&&Nat.ble p n then some (env',U',is.flatMap (·.wr)) else none
 |none=>none
def kR(P:Program)(orc:ig):Nat->br->List D->aq->List Nat->Option (qd×List D×aq×List Nat)
 |0,_,_,_,_=>none
 |_+1,.skip,env,U,wr=>some (.normal,env,U,wr)
 |_+1,.MK os,env,U,wr=>(sV P orc os env U).map λr=>(.normal,r.1,r.2.1,r.2.2++wr)
 |_ + 1, .FA os e n p, env, U, wr=>
  match jL P orc os e p n env U with
  |some (env',U',w)=>some (.normal,env',U',w++wr)
  |none=>
   match jL P orc os e p (dH os) env U with
   |some (env',U',w)=>some (.normal,env',U',w++wr)
   |none=>
    match jL P orc os e p os.length env U with
    |some (env',U',w)=>some (.normal,env',U',w++wr)
    |none=>none
 |k + 1, .seq a b, env, U, wr=>
  match kR P orc k a env U wr with
  |some (.normal,d,U1,bV)=>kR P orc k b d U1 bV
  |r=>r
 |k + 1, .cond c a b, env, U, wr=>
  match gM (c.ev env) with
  |some true=>kR P orc k a env U wr
  |some false=>kR P orc k b env U wr
  |none=>none
 |k + 1, .block id b, env, U, wr=>
  match kR P orc k b env U wr with
  |some (.exit i,d,U1,bV)=>if i=id then some (.normal,d,U1,bV) else some (.exit i,d,U1,bV)
  |r=>r
 |k + 1, .loop b, env, U, wr=>
  match kR P orc k b env U wr with
  |some (.normal,d,U1,bV)=>kR P orc k (.loop b) d U1 bV
  |r=>r
 |_+1,.exit id,env,U,wr=>some (.exit id,env,U,wr)
 |_+1,.ret,env,U,wr=>some (.ret,env,U,wr)
 |_+1,.stuck,_,_,_=>none
 |_+1,.VF _,_,_,_=>none
 |_+1,.QY _ _ _,_,_,_=>none
theorem YP(a:br):(∃l r,MQ l a=some r/\NP a=.QY l a r)∨NP a=.stuck:=by
 unfold NP
 grind
def chunks(n:Nat):Nat->List C->List (List C)
 |0,_=>[]
 |k+1,l=>l.take n::chunks n k (l.drop n)
def fj(U:aq)(n:Nat):Nat->D->Option C
 |0,_=>none
 |k + 1, d=>
  match d with
  |.c x=>some x
  |.ptr b off sz=>
   if n<=b then
    match nl U b sz with
    |some g=>(g.mapM (fj U n k)).map λl=>.cA l off
    |none=>none
   else none
  |.sl b off len aA sz=>
   if n<=b/\0<aA/\off+len * aA<=sz then
    match nl U b sz with
    |some g=>(((g.drop off).take (len * aA)).mapM (fj U n k)).map λl=>.cU (Nat.blt 0 len) (chunks aA len l)
    |none=>none
   else none
  |.fn f first h=>
   match first.mapM (fj U n k),h.mapM (fj U n k) with
   |some a,some b=>some (.fn f a b)
   |_,_=>none
  |.mp b=>
   if n<=b then
    match U[b]? with
    |some (.map es _)=>(es.mapM λe=>(fj U n k e.2.1).map λx=>(e.1,x)).map .Kl
    |_=>none
   else none
  |_=>none
def mM(U:aq)(n k:Nat):D->Option D
 |.agg b=>(b.mapM (fj U n k)).map λl=>.agg (l.map .c)
 |d=>(fj U n k d).map .c
def vP(U:aq)(n k:Nat):D->Option D
 |.aT ds=>(ds.mapM (mM U n k)).map .aT
 |d=>mM U n k d
def JL(env:List D)(U:aq):Nat×Option (Option Nat)->Option D
 |(t,none)=>env[t]?
 |(t, some n)=>
  match env[t]? with
  |some (.ptr b off sz)=>(nl U b sz).bind λd=>xI n d off
  |_=>none
def one:List D->D
 |[d]=>d
 |ds=>.aT ds
def finish(f:mR)(U0:aq)(env:List D)(U:aq)(wr:List Nat):Option (D×aq×List Nat):=
 match f.results.mapM (JL env U) with
 |some ds=>
  let b:=wr.filter (·<U0.length)
  if f.cU&&b.isEmpty then
   match vP U U0.length 100 (one ds) with
   |some r=>some (r,U0,[])
   |none=>some (one ds,U,b)
  else some (one ds,U,b)
 |none=>none
def evF1(P:Program)(orc:uE)(k:Nat)(f:mR)(ds:List D)(U:aq):Option (D×aq×List Nat):=
 if ds.length=f.nparams then
  match kR P (λ_=>orc) k f.body (ds++List.replicate (f.ntmps-ds.length) (.aT [])) U [] with
  |some (.normal,env,U',wr)=>finish f U env U' wr
  |some (.ret,env,U',wr)=>finish f U env U' wr
  |_=>none
 else none
def evF(P:Program)(b:FuncId->Option mR)(prim:uE)(k:Nat):Nat->uE
 |0=>λ_ _ _=>none
 |n + 1 => λg ds U=>
  match prim g ds U with
  |some r=>some r
  |none=>
   match b g with
   |some f=>evF1 P (evF P b prim k n) k f ds U
   |none=>none
end Go.Abs
end
section
namespace Go.Abs
variable[Gl]
structure If (M:Nat->Option Nat) (Fz:Nat->Prop) (w:World) (M':Nat->Option Nat) (Fz':Nat->Prop) (w':World):Prop where
 size:w.heap.size<=w'.heap.size
 frame:∀c:Nat,c<w.heap.size->(∀b,M b≠some c)->w'.heap[c]? = w.heap[c]?
 ext:∀b c,M b=some c->M' b=some c
 oA:∀b c,M' b=some c->M b=some c∨w.heap.size<=c
 fz:∀c:Nat,Fz c->Fz' c/\w'.heap[c]? = w.heap[c]?
 rS:∀c,Fz' c->Fz c∨w.heap.size<=c
 sa:∀(c:Nat) arr T fr,w.heap[c]? = some (.cells arr T fr)->∃arr',w'.heap[c]? = some (.cells arr' T fr)/\arr'.size=arr.size
 out:w'.os=w.os/\w'.tape=w.tape/\w'.output=w.output
section
variable{U U':aq}{M M' M'':Nat->Option Nat}{Fz Fz' Fz'':Nat->Prop}{w w' w'':World}
theorem If.refl:If M Fz w M Fz w:={
 size:=cT _
 frame:=λ_ _ _=>rfl
 ext:=λ_ _ h=>h
 oA:=λ_ _ h=>.inl h
 fz:=λ_ h=>⟨h,rfl⟩
 rS:=λ_ h=>.inl h
 sa:=λc i T j h=>⟨i,h,rfl⟩
 out:=⟨rfl,rfl,rfl⟩ }
theorem If.trans(A:If M Fz w M' Fz' w')(B:If M' Fz' w' M'' Fz'' w''):If M Fz w M'' Fz'' w'':={
 size:=mA A.size B.size
 frame:=λc o u=>by
  rw[<-A.frame c o u];refine B.frame c (EM o A.size) (λb x=>?_);rcases A.oA b c x with i | i
  ·simp_all
  ·omega
 ext:=λb c h=>B.ext b c (A.ext b c h)
 oA:=λb c h=>by
  rcases B.oA b c h with i | i
  ·exact A.oA b c i
  ·exact .inr (mA A.size i)
 fz:=λc h=>⟨(B.fz c (A.fz c h).1).1,by rw[(B.fz c (A.fz c h).1).2,(A.fz c h).2]⟩
 rS:=λc h=>by
  rcases B.rS c h with i | i
  ·exact A.rS c i
  ·exact .inr (mA A.size i)
 sa:=λc j T s h=>by
  obtain ⟨z,h1,E⟩:=A.sa c j T s h;obtain ⟨F,h2,G⟩:=B.sa c z T s h1
  simp_all
 out:=⟨B.out.1.trans A.out.1,B.out.2.1.trans A.out.2.1,B.out.2.2.trans A.out.2.2⟩ }
def lu(U U':aq):Prop:=∀(b:Nat) ob,U[b]? = some ob->∃d,U'[b]? = some d/\d.sz=ob.sz
theorem lu.refl:lu U U:=λ_ i h=>⟨i,h,rfl⟩
theorem V.sub(s:lu U U')(z:∀b c,M b=some c->M' b=some c)(G:∀c:Nat,Fz c->Fz' c/\w'.heap[c]? = w.heap[c]?)
  (A:∀(c:Nat) arr T fr,w.heap[c]? = some (.cells arr T fr)->∃i,w'.heap[c]? = some (.cells i T fr)/\i.size=arr.size) {d:D} {v:Value} (h:V U M Fz w d v):V U' M' Fz' w' d v:=by
 induction h with
 |c h=>exact .c (h.mono G)
 |any v=>exact .any v
 |ptr a W h K u=>
  obtain ⟨j,E,hs⟩:=s _ _ h;refine .ptr a j E (by omega) (λX=>?_)
  grind
 |sl a n L O W h K u=>
  obtain ⟨j,E,hs⟩:=s _ _ h;refine .sl a n L O j E (by omega) (λX=>?_);rcases u (by omega) with x | ⟨c,o,arr,T,hM,ha,hn,hl,ho,Y,hb,hz⟩
  ·simp_all
  ·obtain ⟨i,Z,ad⟩:=A _ _ _ _ Y
   simp_all
 |mp c W h u=>obtain ⟨j,E,hs⟩:=s _ _ h;exact .mp c j E (λX=>z _ _ (u (by omega)))
 |fn F ws x h2 u hw Q R=>exact .fn F ws x h2 Q R
 |agg F x u ih=>exact .agg F x ih
 |aT F x u ih=>exact .aT F x ih
theorem V.ext(i:lu U U')(S:If M Fz w M' Fz' w'){d:D}{v:Value}(h:V U M Fz w d v):V U' M' Fz' w' d v:=h.sub i S.ext S.fz S.sa
theorem cf.sub(A:lu U U')(s:∀b c,M b=some c->M' b=some c){ob:Ob}{o:Obj}(h:cf U M Fz w ob o):cf U' M' Fz w ob o:=by
 have e:∀{d v},V U M Fz w d v->V U' M' Fz w d v:=λh=>h.sub A s (λc h=>⟨h,rfl⟩) (λc j T L h=>⟨j,h,rfl⟩);cases ob with
 |cells O=>obtain ⟨j,T,E,F,u⟩:=h;exact ⟨j,T,E,F,λi d v x z=>⟨e (u i d v x z).1,(u i d v x z).2⟩⟩
 |map Q G=>obtain ⟨j,E,F,u⟩:=h;exact ⟨j,E,F,λi k d n K x z=>let ⟨a,b,c⟩:=u i k d n K x z;⟨a,b,e c⟩⟩
 |gone n=>exact h.elim
theorem cf.ext(s:lu U U')(S:If M Fz w M' Fz' w'){ob:Ob}{o:Obj}(h:cf U M Fz w ob o):cf U' M' Fz' w' ob o:=by
 cases ob with
 |cells G=>obtain ⟨j,T,A,E,u⟩:=h;exact ⟨j,T,A,E,λi d v x z=>⟨(u i d v x z).1.ext s S,(u i d v x z).2⟩⟩
 |map K F=>obtain ⟨j,A,E,u⟩:=h;exact ⟨j,A,E,λi k d n e x z=>let ⟨a,b,c⟩:=u i k d n e x z;⟨a,b,c.ext s S⟩⟩
 |gone n=>exact h.elim
theorem V.down(z:lu U U'){d:D}{v:Value}(h:V U' M' Fz' w' d v):∀{A:Value},V U M Fz w d A->V U M' Fz' w' d v:=by
 induction h with
 |c h=>intro _ _;exact .c h
 |any v=>intro _ _;exact .any v
 |ptr a W h O x=>
  intro A o;cases o with
  |ptr a0 s j _ _=>obtain ⟨E,u,hs⟩:=z _ _ j;rw[h] at u;simp only[aw] at u;subst u;exact .ptr a s j (by omega) (λX=>x (by omega))
 |sl a n Q R W h O x=>
  intro A o;cases o with
  |sl a0 n0 Y _ s j _ _=>obtain ⟨E,u,hs⟩:=z _ _ j;rw[h] at u;simp only[aw] at u;subst u;exact .sl a n Q R s j (by omega) (λX=>x (by omega))
 |mp c W h x=>
  intro A o;cases o with
  |mp c0 s j _=>obtain ⟨E,u,hs⟩:=z _ _ j;rw[h] at u;simp only[aw] at u;subst u;exact .mp c s j (λX=>x (by omega))
 |fn F ws G h2 x hw ad af=>
  intro A o;cases o with
  |fn K ak Z k2 L av=>
   refine .fn F ws G h2 (λi d v a b=>?_) (λi d v a b=>?_)
   ·grind
   grind
 |agg F G x ih=>
  intro A o;cases o with
  |agg K Z L=>
   refine .agg F G (λi d v a b=>?_)
   grind
 |aT F G x ih=>
  intro A o;cases o with
  |aT K Z L=>
   refine .aT F G (λi d v a b=>?_)
   grind
theorem cf.down(x:lu U U'){ob:Ob}{o R:Obj}(h:cf U' M' Fz' w' ob o)(Q:cf U M Fz w ob R):cf U M' Fz' w' ob o:=by
 cases ob with
 |cells X=>obtain ⟨s,T,F,G,A⟩:=h;obtain ⟨z,Y,K,L,u⟩:=Q;refine ⟨s,T,F,G,λi d v j E=>⟨?_,(A i d v j E).2⟩⟩;have W:=(jy.1 j).1;exact (A i d v j E).1.down x (u i d _ j (tc (by omega))).1
 |map Z O=>obtain ⟨s,F,G,A⟩:=h;obtain ⟨z,K,L,u⟩:=Q;refine ⟨s,F,G,λi k d n e j E=>?_⟩;have W:=(jy.1 j).1;obtain ⟨a,b,c⟩:=A i k d n e j E;exact ⟨a,b,c.down x (u i k d n _ j (tc (by omega))).2.2⟩
 |gone n=>exact h.elim
def cG(M:Nat->Option Nat)(n:Nat):Nat->Option Nat:=λb=>if b<n then M b else none
theorem V.cut{d:D}{v:Value}(h:V U M Fz w d v):V U (cG M U.length) Fz w d v:=by
 induction h with
 |c h=>exact .c h
 |any v=>exact .any v
 |ptr a u h i j=>refine .ptr a u h i (λA=>?_);obtain ⟨c,O,Q⟩:=j A;exact ⟨c,by simp only[cG];grind,Q⟩
 |sl a n E F u h i j=>
  refine .sl a n E F u h i (λA=>?_);rcases j A with s | ⟨c,o,G,T,O,x⟩
  ·simp_all
  ·exact .inr ⟨c,o,G,T,by simp only[cG];grind,x⟩
 |mp c u h j=>exact .mp c u h (λA=>by simp only[cG];grind)
 |fn z R s W j X K L=>exact .fn z R s W K L
 |agg z s j ih=>exact .agg z s ih
 |aT z s j ih=>exact .aT z s ih
theorem cf.cut{ob:Ob}{o:Obj}(h:cf U M Fz w ob o):cf U (cG M U.length) Fz w ob o:=by
 cases ob with
 |cells F=>obtain ⟨j,T,z,A,s⟩:=h;exact ⟨j,T,z,A,λi d v u x=>⟨(s i d v u x).1.cut,(s i d v u x).2⟩⟩
 |map G E=>obtain ⟨j,z,A,s⟩:=h;exact ⟨j,z,A,λi k d n e u x=>let ⟨a,b,c⟩:=s i k d n e u x;⟨a,b,c.cut⟩⟩
 |gone n=>exact h.elim
end
inductive AR (ops:Array Oper):Nat->Nat->Prop where
 |one {i j:Nat} {o:Oper} {e:Edge} (ho:ops[j]? = some o) (he:e∈o.after) (hb:Region.binds .any e=true) (hi:e.on=i):AR ops i j
 |more {i j k:Nat} {o:Oper} {e:Edge} (ho:ops[j]? = some o) (he:e∈o.after) (hb:Region.binds .any e=true) (hk:e.on=k) (h:AR ops i k):AR ops i j
def fC(ops:Array Oper)(S:Nat->Prop):Prop:=∀(j:Nat) o e,S j->ops[j]? = some o->e∈o.after->Region.binds .any e=true->S e.on
theorem AR.in{ops:Array Oper}{S:Nat->Prop}(x:fC ops S){i j:Nat}(h:AR ops i j)(z:S j):S i:=by
 induction h with
 |one o s u A=>exact A▸x _ _ _ z o s u
 |more o s u hk h ih=>exact ih (hk▸x _ _ _ z o s u)
theorem AR.ready{ops:Array Oper}{S:Nat->Prop}(z:fC ops S){i j:Nat}(h:AR ops i j)(A:∀o e,ops[j]? = some o->e∈o.after->Region.binds .any e=true->S e.on):S i:=by
 cases h with
 |one s u x E=>grind
 |more s u x hk h=>exact h.in z (hk▸A _ _ s u x)
theorem Sv{ops:Array Oper}{j:Nat}{o:Oper}(m:ops[j]? = some o){acc:List Nat}(f:∀k i,(acc.getD k 0).testBit i=true->AR ops i k){i:Nat}(h:(Jz acc o).testBit i=true):AR ops i j:=by
 unfold Jz at h;have p:∀(l:List Edge)(s:Nat),(∀e∈l,e∈o.after)->(s.testBit i=true->AR ops i j) ->
   (l.foldl (λs e=>if Region.binds .any e then s ||| 2 ^ e.on ||| acc.getD e.on 0 else s) s).testBit i=true->AR ops i j:=by
  intro l;induction l with
  |nil=>simp_all
  |cons e l ih=>
   intro s g hs h;simp only[List.foldl_cons] at h;refine ih _ (λq r=>g q (by grind)) ?_ h;intro d;split at d
   ·rename_i b;simp only[Nat.testBit_or,dW,Nat.testBit_two_pow,bb] at d;rcases d with (d | d) | d
    ·simp_all
    ·exact .one m (g e (by simp)) b d
    ·exact .more m (g e (by simp)) b rfl (f _ _ d)
   simp_all
 grind
theorem Bn{ops:Array Oper}{i j:Nat}(h:((LN ops.toList).getD j 0).testBit i=true):AR ops i j:=by
 have m:∀(l pre:List Oper)(b:List Nat),ops.toList=pre++l->b.length=pre.length->(∀k i,(b.getD k 0).testBit i=true->AR ops i k) ->
   ∀k i,((l.foldl (λb o=>b++[Jz b o]) b).getD k 0).testBit i=true->AR ops i k:=by
  intro l;induction l with
  |nil=>simp_all
  |cons o l ih=>
   intro pre b d e f k i h;simp only[List.foldl_cons] at h;refine ih (pre++[o]) (b++[Jz b o]) (by simp_all) (by simp_all) ?_ k i h;intro k i g;rw[yBD,yBm] at g;split at g
   ·simp_all
   ·rename_i hk;by_cases p:k=b.length
    ·subst p;simp at g;refine Sv ?_ f g;rw[<-OY,d,e,Pv (cT _)];simp
    grind
 exact m ops.toList [] [] rfl rfl (by simp) j i h
end Go.Abs
end
section
namespace Go.Abs
variable[Gl]
structure Tr (P:Program) (orc:ig) (ops:Array Oper) (os:List aM) (p0 n0:Nat) (env:Nat->List D) (sg:Nat->aq) (wrs:Nat->List Nat):Prop where
 len:os.length=ops.size
 comp:∀(j:Nat) ao,os[j]? = some ao->∃o,ops[j]? = some o/\cO P ops o=some ao
 step:∀(i:Nat) ao,os[i]? = some ao->eB P orc ao (env i) (sg i)=some (env (i+1),sg (i+1),wrs i)
 wrk:∀i,i<n0->jZ (sg i) (sg (i+1)) (wrs i)=true
 le:n0<=os.length
 pair:∀(i j:Nat) x y,i<j->os[i]? = some x->os[j]? = some y->AR ops i j∨apart (cQ x (env i) (sg i).length (sg (i+1)).length (wrs i)) (cQ y (env j) (sg j).length (sg (j+1)).length (wrs j))=true
 lead:∀i,i<p0->sg (i+1)=sg i/\wrs i=[]
 ple:p0<=n0
section
variable{P:Program}{orc:ig}{ops:Array Oper}{os:List aM}{p0 n0:Nat}{env:Nat->List D}{sg:Nat->aq}{wrs:Nat->List Nat}
theorem gP(O:pC P orc){ao:aM}{e e':List D}{U U':aq}{wr:List Nat}(h:eB P orc ao e U=some (e',U',wr)) :
  U.length<=U'.length/\(∀b,b<U.length->b∉wr->U'[b]? = U[b]?)/\∃d,e'=mj e ao.dst d:=by
 unfold eB at h;split at h
 ·simp only[cu] at h;obtain ⟨⟨d,U1,bV⟩,f,h⟩:=h;simp only[ba] at h;obtain ⟨rfl,rfl,rfl⟩:=h;obtain ⟨g,i⟩:=MO (O _) f
  grind
 ·grind
 simp_all
theorem Tr.at(T:Tr P orc ops os p0 n0 env sg wrs){i:Nat}(h:i<os.length):∃ao,os[i]? = some ao:=⟨_,dB h⟩
theorem Tr.frame(T:Tr P orc ops os p0 n0 env sg wrs)(O:pC P orc){i:Nat}(h:i<os.length) :
  (sg i).length<=(sg (i+1)).length/\∀b,b<(sg i).length->b∉wrs i->(sg (i+1))[b]? = (sg i)[b]?:=by
 obtain ⟨o,j⟩:=T.at h;obtain ⟨s,u,_⟩:=gP O (T.step i o j)
 simp_all
theorem Tr.sz1(T:Tr P orc ops os p0 n0 env sg wrs)(O:pC P orc){i:Nat}(h:i<n0):lu (sg i) (sg (i+1)):=by
 intro b u o;have j:=(jy.1 o).1;by_cases s:b∈wrs i
 ·have:=gH.1 (T.wrk i h) b s
  grind
 ·exact ⟨u,by rw[(T.frame O (EM h T.le)).2 b j s];exact o,rfl⟩
theorem Tr.sz(T:Tr P orc ops os p0 n0 env sg wrs)(O:pC P orc){m m':Nat}(h:m<=m')(u:m'<=n0):lu (sg m) (sg m'):=by
 induction m' with
 |zero=>grind [lu.refl]
 |succ k ih=>
  by_cases e:m=k+1
  ·grind [lu.refl]
  ·intro b i j;obtain ⟨o,s,s1⟩:=ih (by omega) (by omega) b i j;obtain ⟨x,z,A⟩:=T.sz1 O (by omega) b o s
   simp_all
theorem Tr.cn(T:Tr P orc ops os p0 n0 env sg wrs)(O:pC P orc){m m':Nat}(h:m<=m')(i:m'<=os.length):(sg m).length<=(sg m').length:=by
 induction m' with
 |zero=>simp_all
 |succ k ih=>
  by_cases e:m=k+1
  ·simp_all
  ·exact mA (ih (by omega) (by omega)) (T.frame O (by omega)).1
theorem Tr.PX(T:Tr P orc ops os p0 n0 env sg wrs)(O:pC P orc){m m' b:Nat}(h:m<=m')(x:m'<=os.length)(o:b<(sg m).length)(j:∀i,m<=i->i<m'->b∉wrs i) :
  (sg m')[b]? = (sg m)[b]?:=by
 induction m' with
 |zero=>simp_all
 |succ k ih=>
  by_cases e:m=k+1
  ·simp_all
  ·have s:=ih (by omega) (by omega) (λi u hk=>j i u (by omega));rw[<-s];exact (T.frame O (by omega)).2 b (EM o (T.cn O (by omega) (by omega))) (j k (by omega) (by omega))
theorem Tr.zo(T:Tr P orc ops os p0 n0 env sg wrs)(O:pC P orc){m:Nat}(h:m<=os.length):(env m).length=(env 0).length:=by
 induction m with
 |zero=>rfl
 |succ k ih=>obtain ⟨o,j⟩:=T.at (i:=k) (by omega);obtain ⟨_,_,d,hd⟩:=gP O (T.step k o j);rw[hd,<-ih (by omega)];cases o.dst <;> simp[mj]
theorem Tr.yq(T:Tr P orc ops os p0 n0 env sg wrs)(O:pC P orc){m m' t:Nat}(h:m<=m')(z:m'<=os.length)(o:∀i ao,m<=i->i<m'->os[i]? = some ao->ao.dst≠some t) :
  (env m')[t]? = (env m)[t]?:=by
 induction m' with
 |zero=>simp_all
 |succ k ih=>
  by_cases e:m=k+1
  ·simp_all
  ·rw[<-ih (by omega) (by omega) (λi ao x hk=>o i ao x (by omega))];obtain ⟨ao,j⟩:=T.at (i:=k) (by omega);obtain ⟨_,_,d,hd⟩:=gP O (T.step k ao j);rw[hd];have:=o k ao (by omega) (by omega) j;cases u:ao.dst with
   |none=>rfl
   |some s=>grind [mj]
structure Inv (os:List aM) (n0:Nat) (env:Nat->List D) (sg:Nat->aq) (wrs:Nat->List Nat) (M0:Nat->Option Nat) (Fz0:Nat->Prop) (w0:World) (sf:List Deferred)
  (S:Nat->Prop) (M:Nat->Option Nat) (Fz:Nat->Prop) (w:World) (a:Act):Prop where
 Pd:a.tmps.size=(env 0).length
 sf:a.defers=sf
 tmp:∀(t m:Nat),m<=n0->(∀i o,i<n0->os[i]? = some o->o.dst=some t->(i<m↔S i))->∀d v,(env m)[t]? = some d->a.tmps[t]? = some v->V (sg m) M Fz w d v
 own:∀b c,M b=some c->¬Fz c/\c<w.heap.size/\((b<(sg 0).length/\M0 b=some c)∨∃j,j<n0/\S j/\(sg j).length<=b/\b<(sg (j+1)).length)
 blk:∀b c,M b=some c->∀m ob,m<=n0->(sg m)[b]? = some ob->(∀i,i<n0->b∈wrs i->(i<m↔S i))->∃o,w.heap[c]? = some o/\cf (sg m) M Fz w ob o
 inj:∀b b' c,M b=some c->M b'=some c->b=b'
 fz:∀c,Fz c->c<w.heap.size
 Co:If M0 Fz0 w0 M Fz w
 gl0:Gl.ok Fz0 w0
theorem Inv.start{U:aq}{M:Nat->Option Nat}{Fz:Nat->Prop}{w:World}{a:Act}(R:Rel U M Fz w)(j:sg 0=U)(E:dk U M Fz w (env p0) a.tmps){S:Nat->Prop}(L:∀i,i<os.length->(S i↔i<p0))
  (T:Tr P orc ops os p0 n0 env sg wrs) (O:pC P orc):Inv os n0 env sg wrs M Fz w a.defers S M Fz w a:={
 Pd:=by rw[E.1,T.zo O (mA T.ple T.le)]
 sf:=rfl
 tmp:=λt m x z d v h1 h2=>by
  have A:=T.le;have Q:=T.ple;have Z:(env m)[t]? = (env p0)[t]?:=by
   rcases Nat.le_total m p0 with h | h
   ·exact (T.yq O (m:=m) (m':=p0) (t:=t) h (by omega) (λi W F G s hd=>by have:=(z i W (by omega) s hd).2 ((L i (by omega)).2 G);omega)).symm
   ·exact T.yq O (m:=p0) (m':=m) (t:=t) h (by omega) (λi W F ad s hd=>by grind)
  rw[Z] at h1;have hv:V (sg 0) M Fz w d v:=j▸E.2 t d v h1 h2;exact hv.ext (T.sz O (OL m) x) If.refl
 own:=λb c h=>by have X:=R.lt h;exact ⟨(R.blk b c h).1,X.2,.inl ⟨by simp_all,h⟩⟩
 blk:=λb c h m ob x u z=>by
  have X:=R.lt h;have A:=T.le;have:=T.PX O (m:=0) (m':=m) (b:=b) (by omega) (mA x T.le) (by simp_all) (λi _ F Y=>by
   have K:=(L i (by omega)).1 ((z i (by omega) Y).1 F);rw[(T.lead i K).2] at Y
   grind)
  rw[this,j] at u;obtain ⟨_,af,o,h1,h2,K⟩:=R.blk b c h;rw[u] at h1;simp only[aw] at h1;subst h1;exact ⟨o,h2,(j▸K:cf (sg 0) M Fz w ob o).ext (T.sz O (by omega) x) If.refl⟩
 inj:=R.inj
 fz:=R.fz
 Co:=If.refl
 gl0:=R.gl }
theorem Inv.done{M0 M:Nat->Option Nat}{Fz0 Fz:Nat->Prop}{w0 w:World}{a:Act}{sf:List Deferred}{S:Nat->Prop}(I:Inv os n0 env sg wrs M0 Fz0 w0 sf S M Fz w a)(T:Tr P orc ops os p0 n0 env sg wrs)(O:pC P orc)
  (K:∀i,i<n0->S i) (L:∀b,M0 b≠none->b<(sg 0).length):Rel (sg n0) M Fz w/\dk (sg n0) M Fz w (env n0) a.tmps/\bQ (sg 0) M0 Fz0 w0 (sg n0) M Fz w:=by
 refine ⟨⟨λb c h=>?_,I.inj,I.fz,Gl.mono I.Co.fz I.gl0⟩,⟨by rw[I.Pd,T.zo O T.le],λt d v x A=>I.tmp t n0 (cT _) (λi _ u _ _=>⟨λ_=>K i u,λ_=>u⟩) d v x A⟩,?_⟩
 ·obtain ⟨x,A,s⟩:=I.own b c h;have z:b<(sg n0).length:=by
   rcases s with ⟨s,_⟩ | ⟨j,Q,_,_,s⟩
   ·exact EM s (T.cn O (by omega) T.le)
   ·exact EM s (T.cn O (by omega) T.le)
  have E:(sg n0)[b]? = some (sg n0)[b]:=dB z;obtain ⟨o,Y,Z⟩:=I.blk b c h n0 _ (cT _) E (λi u _=>⟨λ_=>K i u,λ_=>u⟩)
  simp_all
 ·refine ⟨I.Co.size,I.Co.frame,λb c h=>?_,I.Co.fz,λc h=>?_,I.Co.sa,λb R z=>?_,I.Co.out⟩
  ·rcases I.Co.oA b c h with h | h
   ·grind
   omega
  ·rcases I.Co.rS c h with h | h
   ·simp_all
   omega
  ·obtain ⟨F,x,A⟩:=T.sz O (by omega) (cT n0) b R z;refine ⟨F,x,by omega,λ_=>?_⟩;have W:=(jy.1 z).1;cases X:M0 b with
   |some c=>exact I.Co.ext b c X
   |none=>
    cases G:M b with
    |none=>rfl
    |some c=>
     obtain ⟨_,_,s⟩:=I.own b c G;rcases s with ⟨_,s⟩ | ⟨j,Q,_,s,_⟩
     ·simp_all
     ·have:=T.cn O (m:=0) (m':=j) (by omega) (by have:=T.le;omega);omega
end
end Go.Abs
end
section
namespace Go.Abs
variable[Gl]
section
variable{P:Program}{orc:ig}{ops:Array Oper}{os:List aM}{p0 n0:Nat}{env:Nat->List D}{sg:Nat->aq}{wrs:Nat->List Nat}
variable{M0 M M':Nat->Option Nat}{Fz0 Fz Fz':Nat->Prop}{w0 w w':World}{a:Act}{sf:List Deferred}{S S':Nat->Prop}
theorem Tr.wr_lt(T:Tr P orc ops os p0 n0 env sg wrs){i b:Nat}(h:i<n0)(j:b∈wrs i):b<(sg i).length:=by
 have:=gH.1 (T.wrk i h) b j
 grind
theorem fS {x y:dG} (h:apart x y=true) :
  (∀t,x.dst=some t→t∉y.Zl)∧(∀t,y.dst=some t→t∉x.Zl)∧(∀t,x.dst=some t→y.dst≠some t)∧safe x y.wr=true∧safe y x.wr=true ∧
   (∀b∈y.wr,¬(x.lo≤b∧b<x.hi))∧(∀b∈x.wr,¬(y.lo≤b∧b<y.hi)):=by
 simp only [apart,bJ] at h
 obtain ⟨⟨⟨⟨k,l⟩,m⟩,f,g⟩,i,j⟩:=h
 refine ⟨fun t e=>?_,fun t e=>?_,fun t e o=>?_,f,g,fun b d=>?_,fun b d=>?_⟩
 ·grind [WX]
 ·grind [WX]
 ·simp_all
 ·have:=gH.1 i b d
  grind
 ·have:=gH.1 j b d
  grind
theorem Tr.other (T:Tr P orc ops os p0 n0 env sg wrs) (K:fC ops S) {k i:Nat} {x y:aM} (L:os[k]? = some x) (O:os[i]? = some y) (s:i≠k) (u:¬S k)
    (z:∀o e,ops[k]? = some o→e∈o.after→Region.binds .any e=true→S e.on) :
    (i<k∧S i)∨(k<i∧¬S i) ∨
      ((∀t,y.dst=some t→t∉wU x)∧(∀t,x.dst=some t→y.dst≠some t) ∧
        safe (cQ x (env k) (sg k).length (sg (k+1)).length (wrs k)) (wrs i)=true∧safe (cQ y (env i) (sg i).length (sg (i+1)).length (wrs i)) (wrs k)=true ∧
        (∀b∈wrs i,¬((sg k).length≤b∧b<(sg (k+1)).length))):=by
  rcases Nat.lt_or_gt_of_ne s with h | h
  · rcases T.pair i k y x h O L with j | j
    · exact .inl ⟨h,j.ready K z⟩
    · obtain ⟨Q,_,A,E,F,_,R⟩:=fS j
      exact .inr (.inr ⟨Q,fun t W G=>A t G W,F,E,R⟩)
  · rcases T.pair k i x y h L O with j | j
    · exact .inr (.inl ⟨h,fun X=>u (j.in K X)⟩)
    · obtain ⟨_,Y,A,E,F,Z,_⟩:=fS j
      exact .inr (.inr ⟨Y,A,E,F,Z⟩)
theorem Inv.next(I:Inv os n0 env sg wrs M0 Fz0 w0 sf S M Fz w a)(T:Tr P orc ops os p0 n0 env sg wrs)(O:pC P orc)(hC:fC ops S){k:Nat}{ao:aM}{d:D}{v:Value}(hk:k<n0)(A:os[k]? = some ao)(R:¬S k)
  (W:∀o e,ops[k]? = some o->e∈o.after->Region.binds .any e=true->S e.on) (E:∀i,S' i↔S i∨i=k) (st:If M Fz w M' Fz' w') (F:env (k+1)=mj (env k) ao.dst d)
  (hv:V (sg (k+1)) M' Fz' w' d v) (G:∀b b' c,M' b=some c->M' b'=some c->b=b') (X:∀c,Fz' c->c<w'.heap.size)
  (K:∀b c,M' b=some c->¬Fz' c/\c<w'.heap.size/\(M b=some c∨((sg k).length<=b/\b<(sg (k+1)).length)))
  (L:∀b c,M' b=some c->∀m ob,m<=n0->(sg m)[b]? = some ob->(∀i,i<n0->b∈wrs i->(i<m↔S' i))->∃o,w'.heap[c]? = some o/\cf (sg m) M' Fz' w' ob o) :
  Inv os n0 env sg wrs M0 Fz0 w0 sf S' M' Fz' w' (a.put ao.dst v):={
 Pd:=by rw[<-I.Pd];cases ao.dst <;> simp[Act.put]
 sf:=by rw[<-I.sf];cases ao.dst <;> rfl
 tmp:=λt m Y hc d' v' u h2=>by
  by_cases Z:ao.dst=some t
  ·have av:k<m:=(hc k ao hk A Z).2 ((E k).2 (.inr rfl));have ad:=T.yq O (m:=k+1) (m':=m) (t:=t) (by omega) (mA Y T.le) (λi x hi af hx hd=>by
    have z:=(hc i x (by omega) hx hd).1 af;rcases (E i).1 z with z | z
    ·rcases T.other hC A hx (by omega) R W with ⟨h,_⟩ | ⟨_,h⟩ | ⟨_,h,_⟩
     ·omega
     ·grind
     grind
    ·omega)
   rw[ad,F,Z] at u;rw[Z] at h2;simp only[mj,yBu] at u;simp only[Act.put,yBa] at h2;simp only[if_true] at u h2;split at u
   ·rename_i ax;rw[if_pos (by grind)] at h2;simp only[aw] at u h2;subst u h2;exact hv.ext (T.sz O (by omega) Y) If.refl
   grind
  ·have ak:a.tmps[t]? = some v':=by
    cases hd:ao.dst with
    |none=>rw[hd] at h2;exact h2
    |some s=>
     rw[hd] at h2;simp only[Act.put,yBa] at h2
     grind
   refine (I.tmp t m Y (λi o hi ho hd=>?_) d' v' u ak).ext lu.refl st
   grind
 own:=λb c h=>by
  obtain ⟨u,h2,Q⟩:=K b c h;refine ⟨u,h2,?_⟩;rcases Q with Q | Q
  ·rcases (I.own b c Q).2.2 with h4 | ⟨j,hj,a0,h4⟩
   ·simp_all
   grind
  grind
 blk:=L
 inj:=G
 fz:=X
 Co:=I.Co.trans st
 gl0:=I.gl0 }
theorem Inv.Sa(I:Inv os n0 env sg wrs M0 Fz0 w0 sf S M Fz w a)(T:Tr P orc ops os p0 n0 env sg wrs)(O:pC P orc)(F:fC ops S){k:Nat}{ao:aM}{d:D}{v:Value}(hk:k<n0)(s:os[k]? = some ao)(u:¬S k)
  (x:∀o e,ops[k]? = some o->e∈o.after->Region.binds .any e=true->S e.on) (z:∀i,S' i↔S i∨i=k) (j:env (k+1)=mj (env k) ao.dst d)
  (A:sg (k+1)=sg k) (G:wrs k=[]) (K:V (sg k) M Fz w d v):Inv os n0 env sg wrs M0 Fz0 w0 sf S' M Fz w (a.put ao.dst v):=by
 refine I.next T O F hk s u x z If.refl j (A▸K) I.inj I.fz (λb c h=>⟨(I.own b c h).1,(I.own b c h).2.1,.inl h⟩) (λb c h m L Q E R=>?_);refine I.blk b c h m L Q E (λi W X=>?_)
 grind
theorem Inv.alloc(I:Inv os n0 env sg wrs M0 Fz0 w0 sf S M Fz w a)(T:Tr P orc ops os p0 n0 env sg wrs)(O:pC P orc)(hC:fC ops S){k:Nat}{ao:aM}{d:D}{v:Value}{ob:Ob}{o:Obj}(hk:k<n0)(F:os[k]? = some ao)(G:¬S k)
  (K:∀o e,ops[k]? = some o->e∈o.after->Region.binds .any e=true->S e.on) (L:∀i,S' i↔S i∨i=k) (Q:env (k+1)=mj (env k) ao.dst d)
  (z:sg (k+1)=sg k++[ob]) (av:wrs k=[]) (X:cf (sg k++[ob]) (vY M (sg k).length w.heap.size) Fz (w.alloc o) ob o)
  (hv:V (sg k++[ob]) (vY M (sg k).length w.heap.size) Fz (w.alloc o) d v):Inv os n0 env sg wrs M0 Fz0 w0 sf S' (vY M (sg k).length w.heap.size) Fz (w.alloc o) (a.put ao.dst v):=by
 have W:M (sg k).length=none:=by
  cases h:M (sg k).length with
  |none=>rfl
  |some c=>
   rcases (I.own _ c h).2.2 with ⟨x,_⟩ | ⟨j,hj,ax,x,A⟩
   ·have:=T.cn O (m:=0) (m':=k) (by omega) (by grind);omega
   ·have a0:=T.le;rcases yBv j k with R | R | R
    ·have:=T.cn O (m:=j+1) (m':=k) (by omega) (by omega);omega
    ·simp_all
    ·have:=T.cn O (m:=k+1) (m':=j) (by omega) (by omega)
     grind
 have st:If M Fz w (vY M (sg k).length w.heap.size) Fz (w.alloc o):=by
  refine ⟨by simp,λc Y _=>heap_alloc_old w o c Y,λb c h=>?_,λb c h=>?_,λc h=>⟨h,heap_alloc_old w o c (I.fz c h)⟩,λc h=>.inl h,
   λc Z T fr h=>⟨Z,by grind [Go.heap_alloc_old],rfl⟩,⟨rfl,rfl,rfl⟩⟩
  ·unfold vY
   grind
  grind [vY]
 have s:∀b c,vY M (sg k).length w.heap.size b=some c->(b=(sg k).length/\c=w.heap.size)∨M b=some c:=by
  intro b c h;unfold vY at h
  grind
 refine I.next T O hC hk F G K L st Q (z▸hv) (λb b' c h h'=>?_) (λc h=>by have:=I.fz c h;simp;omega) (λb c h=>?_) (λb c h m ad hm u Y=>?_)
 ·rcases s b c h with ⟨rfl,rfl⟩ | x <;> rcases s b' _ h' with ⟨rfl,A⟩ | A
  ·rfl
  ·have:=(I.own _ _ A).2.1;omega
  ·have:=(I.own _ _ x).2.1;omega
  ·exact I.inj b b' c x A
 ·rcases s b c h with ⟨rfl,rfl⟩ | x
  ·exact ⟨λhf=>by have:=I.fz _ hf;omega,by simp,.inr ⟨cT _,by simp_all⟩⟩
  ·obtain ⟨A,R,_⟩:=I.own b c x;exact ⟨A,by simp;omega,.inl x⟩
 ·rcases s b c h with ⟨rfl,rfl⟩ | x
  ·have a1:k<m:=by
    rcases uS k m with h | h
    ·exact h
    ·have x:=T.cn O h (by grind)
     simp_all
   have af:=T.PX O (m:=k+1) (m':=m) (b:=(sg k).length) (by omega) (mA hm T.le) (by simp_all) (λi hi ak hb=>by
    have E:=(Y i (by omega) hb).1 ak;rcases (L i).1 E with E | E
    ·obtain ⟨y,hy⟩:=T.at (i:=i) (by have:=T.le;omega);rcases T.other hC F hy (by omega) G K with ⟨h,_⟩ | ⟨_,h⟩ | ⟨_,_,_,_,h⟩
     ·omega
     ·simp_all
     grind
    ·omega)
   rw[af,z] at u;simp at u;subst u;refine ⟨o,heap_alloc_new w o,X.ext ?_ If.refl⟩;rw[<-z];exact T.sz O (by omega) hm
  ·obtain ⟨o',A,R⟩:=I.blk b c x m ad hm u (λi hi hb=>by
    grind)
   exact ⟨o',by grind [Go.heap_alloc_old],R.ext lu.refl st⟩
end
end Go.Abs
end
section
namespace Go.Abs
variable[Gl]
section
variable{P:Program}{orc:ig}{ops:Array Oper}{os:List aM}{p0 n0:Nat}{env:Nat->List D}{sg:Nat->aq}{wrs:Nat->List Nat}
variable{M0 M M':Nat->Option Nat}{Fz0 Fz Fz':Nat->Prop}{w0 w w':World}{a:Act}{sf:List Deferred}{S S':Nat->Prop}
theorem Tr.Fi(T:Tr P orc ops os p0 n0 env sg wrs)(A:fC ops S){k i:Nat}{x:aM}(hk:k<n0)(E:os[k]? = some x)(j:¬S k)
  (s:∀o e,ops[k]? = some o->e∈o.after->Region.binds .any e=true->S e.on) (z:(cQ x (env k) (sg k).length (sg (k+1)).length (wrs k)).cat=3) (G:i<n0) (K:wrs i≠[]) (u:i≠k) :
  (i<k/\S i)∨(k<i/\¬S i):=by
 obtain ⟨y,F⟩:=T.at (i:=i) (by have:=T.le;omega);rcases T.other A E F u j s with h | h | ⟨_,_,h,_⟩
 ·simp_all
 ·simp_all
 grind [safe]
theorem Inv.rel(I:Inv os n0 env sg wrs M0 Fz0 w0 sf S M Fz w a)(T:Tr P orc ops os p0 n0 env sg wrs)(G:fC ops S){k:Nat}{x:aM}(hk:k<n0)(K:os[k]? = some x)(u:¬S k)
  (z:∀o e,ops[k]? = some o->e∈o.after->Region.binds .any e=true->S e.on) (j:(cQ x (env k) (sg k).length (sg (k+1)).length (wrs k)).cat=3) :
  Rel (sg k) (cG M (sg k).length) Fz w:={
 blk:=λb c h=>by
  unfold cG at h;split at h
  ·rename_i L;have s:(sg k)[b]? = some (sg k)[b]:=dB L;obtain ⟨o,h1,A⟩:=I.blk b c h k _ (by omega) s (λi O Q=>by
    by_cases E:i=k
    ·simp_all
    ·rcases T.Fi G hk K u z j O (λW=>by simp_all) E with ⟨h1,A⟩ | ⟨h1,A⟩
     ·simp_all
     grind)
   exact ⟨(I.own b c h).1,_,o,s,h1,A.cut⟩
  simp_all
 inj:=λb R c h F=>by
  unfold cG at h F;split at h
  ·split at F
   ·exact I.inj b R c h F
   simp_all
  simp_all
 fz:=I.fz
 gl:=Gl.mono I.Co.fz I.gl0 }
theorem Inv.Fi(I:Inv os n0 env sg wrs M0 Fz0 w0 sf S M Fz w a)(T:Tr P orc ops os p0 n0 env sg wrs)(O:pC P orc)(hC:fC ops S){k:Nat}{ao:aM}{d:D}{v:Value}{W:Nat->Option Nat}{E:Nat->Prop}{w1:World}(hk:k<n0)(ak:os[k]? = some ao)(av:¬S k)
  (ax:∀o e,ops[k]? = some o->e∈o.after->Region.binds .any e=true->S e.on) (a0:∀i,S' i↔S i∨i=k) (a1:env (k+1)=mj (env k) ao.dst d)
  (a2:(cQ ao (env k) (sg k).length (sg (k+1)).length (wrs k)).cat=3) (X:Rel (sg (k+1)) W E w1) (hv:V (sg (k+1)) W E w1 d v) (Q:bQ (sg k) (cG M (sg k).length) Fz w (sg (k+1)) W E w1) :
  ∃M',Inv os n0 env sg wrs M0 Fz0 w0 sf S' M' E w1 (a.put ao.dst v):=by
 have bh:=T.le;have hL:=(T.frame O (i:=k) (by omega)).1;have f1:∀b,b<(sg k).length->W b=M b:=by intro b F;obtain ⟨bi,s,_,x⟩:=Q.cX b _ (dB F);obtain ⟨bt,u,R⟩:=T.sz1 O hk b _ (dB F);rw[s] at u;simp only[aw] at u;subst u;rw[x R];simp only[cG,if_pos F]
 have f2:∀b,(sg k).length<=b->b<(sg (k+1)).length->M b=none:=by
  intro b s x;cases h:M b with
  |none=>rfl
  |some c=>
   rcases (I.own b c h).2.2 with ⟨u,_⟩ | ⟨j,hj,bu,u,R⟩
   ·have:=T.cn O (m:=0) (m':=k) (by omega) (by omega);omega
   ·rcases yBv j k with Y | Y | Y
    ·have:=T.cn O (m:=j+1) (m':=k) (by omega) (by omega);omega
    ·simp_all
    ·have:=T.cn O (m:=k+1) (m':=j) (by omega) (by omega);omega
 have f3:∀b c,W b=some c->b<(sg k).length∨w.heap.size<=c:=by
  intro b c h;by_cases F:b<(sg k).length
  ·omega
  ·right;rcases Q.oA b c h with ⟨b0,Z⟩ | Z
   ·exfalso;unfold cG at Z;split at Z
    ·rename_i a6;have:=X.inj b b0 c h (by simp_all);omega
    simp_all
   omega
 let M':Nat->Option Nat:=λb=>if b<(sg (k+1)).length then W b else M b
 have G:∀b,b<(sg (k+1)).length->M' b=W b:=λb h=>by grind
 have K:∀b,¬b<(sg (k+1)).length->M' b=M b:=λb h=>by grind
 have L:∀b c,W b=some c->M' b=some c:=λb c h=>by rw[G b (X.lt h).1];exact h
 have rS:∀c,E c->Fz c∨w.heap.size<=c:=by
  intro c h;rcases Q.rS c h with h | ⟨b,s⟩ | h
  ·simp_all
  ·exfalso;unfold cG at s;split at s
   ·rename_i F;exact (X.blk b c (by simp_all)).1 h
   simp_all
  omega
 have st:If M Fz w M' E w1:=by
  refine ⟨Q.size,λc hc hn=>Q.frame c hc (λb F=>?_),λb c h=>?_,λb c h=>?_,Q.fz,rS,Q.sa,Q.out⟩
  ·grind [cG]
  ·grind
  grind
 refine ⟨M',I.next T O hC hk ak av ax a0 st a1 (hv.sub lu.refl L (λc h=>⟨h,rfl⟩) (λc a7 T fr h=>⟨a7,h,rfl⟩)) (λb A c h h'=>?_) X.fz (λb c h=>?_) (λb c h m ob hm z hc=>?_)⟩
 ·have a8:∀b A,b<(sg (k+1)).length->¬A<(sg (k+1)).length->M' b=some c->M' A=some c->b=A:=by
   intro b A s x u R;rw[G b s] at u;rw[K A x] at R;rcases f3 b c u with Y | Y
   ·rw[f1 b Y] at u;exact I.inj b A c u R
   ·have:=(I.own A c R).2.1;omega
  by_cases s:b<(sg (k+1)).length
  ·by_cases x:A<(sg (k+1)).length
   ·rw[G b s] at h;rw[G A x] at h';exact X.inj b A c h h'
   grind
  ·by_cases x:A<(sg (k+1)).length
   ·grind
   ·rw[K b s] at h;rw[K A x] at h';exact I.inj b A c h h'
 ·by_cases s:b<(sg (k+1)).length
  ·rw[G b s] at h;refine ⟨(X.blk b c h).1,(X.lt h).2,?_⟩
   grind
  ·rw[K b s] at h;obtain ⟨x,u,_⟩:=I.own b c h;refine ⟨λhf=>?_,EM u Q.size,.inl h⟩
   grind
 ·have a3:b∉wrs k->∀i,i<n0->b∈wrs i->(i<m↔S i):=by
   grind
  by_cases s:b<(sg (k+1)).length
  ·rw[G b s] at h;have a5:∀i,i<n0->b∈wrs i->i≠k->(i<k/\S i)∨(k<i/\¬S i):=λi hi F a9=>T.Fi hC hk ak av ax a2 hi (λhe=>by simp_all) a9;obtain ⟨_,bv,o1,x,u,R⟩:=X.blk b c h;by_cases bc:k<m
   ·have ad:=T.PX O (m:=k+1) (m':=m) (b:=b) (by omega) (mA hm T.le) s (λi hi bd F=>by
     grind)
    rw[ad,x] at z;simp only[aw] at z;subst z;exact ⟨o1,u,R.sub (T.sz O (by omega) hm) L⟩
   ·have a4:=(jy.1 z).1;have af:b∉wrs k:=λF=>bc ((hc k hk F).2 ((a0 k).2 (.inr rfl)));have ad:=T.PX O (m:=m) (m':=k+1) (b:=b) (by omega) (by omega) a4 (λi hi bd F=>by
     grind)
    rw[ad,z] at x;simp only[aw] at x;subst x;have be:b<(sg k).length:=EM a4 (T.cn O (by omega) (by omega));rw[f1 b be] at h;obtain ⟨o0,_,Y⟩:=I.blk b c h m ob hm z (a3 af);exact ⟨o1,u,(R.down (T.sz O (by omega) (by omega)) Y).sub lu.refl L⟩
  ·rw[K b s] at h;have af:b∉wrs k:=λF=>by have:=T.wr_lt hk F;omega
   obtain ⟨o,x,u⟩:=I.blk b c h m ob hm z (a3 af);refine ⟨o,?_,u.ext lu.refl st⟩;rw[Q.frame c (I.own b c h).2.1 (λb0 Z=>?_)]
   ·exact x
   ·unfold cG at Z;split at Z
    ·rename_i a6;have:=I.inj b0 b c Z h;omega
    simp_all
def jt(T:List Nat)(e:List D):List D:=e.mapIdx λi d=>if T.contains i then d else .any
theorem oR{T:List Nat}{e:List D}{i:Nat}:(jt T e)[i]? = (e[i]?).map λd=>if T.contains i then d else .any:=by simp[jt,List.getElem?_mapIdx]
theorem yF{T:List Nat}{e:List D}{x:aP}(h:∀n,x=.t n->n∈T):x.ev (jt T e)=x.ev e:=by
 cases x with
 |k d=>rfl
 |t n=>
  simp only[aP.ev,oR]
  simp_all
theorem Inv.step(I:Inv os n0 env sg wrs M0 Fz0 w0 sf S M Fz w a)(T:Tr P orc ops os p0 n0 env sg wrs)(O:pC P orc)(Y:fC ops S){k:Nat}{Q:Exit->Act->World->Prop}(hk:k<n0)(E:¬S k)
  (F:∀o e,ops[k]? = some o->e∈o.after->Region.binds .any e=true->S e.on) (W:∀i,S' i↔S i∨i=k) (K:Act->World->Prop)
  (hK:∀a' w' M' Fz',Inv os n0 env sg wrs M0 Fz0 w0 sf S' M' Fz' w' a'->K a' w'):wpOp P ops Q k K a w:=by
 have be:=T.le;obtain ⟨ao,z⟩:=T.at (i:=k) (by omega);obtain ⟨o,ho,X⟩:=T.comp k ao z;have u:=T.step k ao z;have hE:dk (sg k) M Fz w (jt (wU ao) (env k)) a.tmps:=by
  refine ⟨by rw[I.Pd,<-T.zo O (m:=k) (by omega)];simp[jt],λi d v Z h2=>?_⟩;rw[oR] at Z;simp only[cu] at Z;obtain ⟨d0,h3,h4⟩:=Z;by_cases ht:(wU ao).contains i=true
  ·rw[if_pos ht] at h4;subst h4;refine I.tmp i k (by omega) (λj x hj hx hd=>?_) d0 v h3 h2;by_cases a3:j=k
   ·simp_all
   ·rcases T.other Y z hx a3 E F with ⟨h5,h6⟩ | ⟨h5,h6⟩ | ⟨h5,_⟩
    ·simp_all
    ·grind
    simp_all
  ·rw[if_neg ht] at h4;subst h4;exact .any v
 have ad:jh (jt (wU ao) (env k)) ao.g=jh (env k) ao.g:=by
  cases hg:ao.g with
  |none=>rfl
  |some p=>
   obtain ⟨t,bc⟩:=p;have:(wU ao).contains t=true:=by grind [wU]
   simp only[jh,oR,this,if_true]
   simp_all
 unfold cO at X;split at X
 ·rename_i g s hg G;simp only[aw] at X;subst X;simp only at u ad hE;have af:bg P (orc o.dst) s (jt (wU ⟨o.dst,s,g⟩) (env k)) (sg k)=bg P (orc o.dst) s (env k) (sg k):=by
   refine wY (lI G) (λx hx=>yF (λn hn=>?_));subst hn;simp only[wU,zC,List.mem_filterMap]
   grind
  unfold eB at u;split at u
  ·rename_i hw;simp only at hw;have L:=uM (U:=sg k) (M:=M) (Fz:=Fz) (w:=w) (ops:=ops) (o:=o) hE hg (by rw[ad];exact hw);simp only[cu] at u;obtain ⟨⟨d,U1,bV⟩,a4,h⟩:=u;simp only[ba] at h;obtain ⟨A,ak,av⟩:=h;subst ak av;have a5:(cQ ⟨o.dst,s,g⟩ (env k) (sg k).length (sg (k+1)).length (wrs k)).cat=cat s:=by grind [cQ]
   unfold wpOp;rw[ho];simp only[L,if_true];left;have Fi:cat s=3->o.wp P a w K Q:=by
    intro a6;have R:=I.rel T Y hk z E F (by omega);have a7:dk (sg k) (cG M (sg k).length) Fz w (jt (wU ⟨o.dst,s,g⟩) (env k)) a.tmps:=⟨hE.1,λi d v Z h2=>(hE.2 i d v Z h2).cut⟩;refine Ix (O o.dst) R a7 G (by rw[af];exact a4) K λv w1 M1 bh R1 hv EV _=>?_;obtain ⟨M',hI⟩:=I.Fi (ao:=⟨o.dst,s,g⟩) T O Y hk z E F W A.symm (by omega) R1 hv EV
    grind
   rcases Cy G with ⟨f,args,bi,of,bt,_,_,_,rfl⟩ | ⟨a8,ax,_⟩
   ·exact Fi rfl
   ·have a1:bg P (orc o.dst) s (jt (wU ⟨o.dst,s,g⟩) (env k)) (sg k)=some (d,sg (k+1),wrs k):=by simp_all
    have out:=Ju (M:=M) (Fz:=Fz) (w:=w) (Gl.mono I.Co.fz I.gl0) hE a8 ax a1;generalize a2:sg (k+1)=s1 at out;generalize a0:wrs k=w1 at out;cases out with
    |y _ hy=>obtain ⟨v,hr,hv⟩:=hy;unfold Oper.wp;rw[hr];exact hK _ _ M Fz (I.Sa (ao:=⟨o.dst,s,g⟩) T O Y hk z E F W A.symm a2 a0 hv)
    |l bu bv hy=>
     obtain ⟨v,hr,hv⟩:=hy (λb off sz c cs bw hM hb=>by
      obtain ⟨o',Z,h2⟩:=I.blk b c hM k _ (by omega) hb (λi hi b0=>by
       by_cases a9:i=k
       ·simp_all
       ·obtain ⟨y,hy⟩:=T.at (i:=i) (by omega);rcases T.other Y z hy a9 E F with ⟨h5,h6⟩ | ⟨h5,h6⟩ | ⟨_,_,h5,_⟩
        ·simp_all
        ·grind
        ·exfalso;have bd:(cQ ⟨o.dst,s,g⟩ (env k) (sg k).length (sg (k+1)).length (wrs k)).blk=some b:=by
          have:TE s (env k)=TE s (jt (wU ⟨o.dst,s,g⟩) (env k)):=by
           cases s with
           |load n x=>grind [TE,yF,wU,qR]
           |_=>rfl
          grind [cQ]
         grind [safe])
      obtain ⟨b1,T',rfl,h3,h4⟩:=h2
      grind)
     unfold Oper.wp;rw[hr];exact hK _ _ M Fz (I.Sa (ao:=⟨o.dst,s,g⟩) T O Y hk z E F W A.symm (by simp_all) a0 hv)
    |a _ hy=>obtain ⟨b2,v,hr,Z,hv⟩:=hy I.fz;unfold Oper.wp;rw[hr];exact hK _ _ _ Fz (I.alloc (ao:=⟨o.dst,s,g⟩) T O Y hk z E F W A.symm a2 a0 Z hv)
    |g a6 _=>simp_all
  ·rename_i hw;simp only at hw;have L:=uM (U:=sg k) (M:=M) (Fz:=Fz) (w:=w) (ops:=ops) (o:=o) hE hg (by rw[ad];exact hw);simp only[aw,ba] at u;obtain ⟨A,ak,av⟩:=u;unfold wpOp;rw[ho];simp only[L,a_,bn];exact hK _ _ M Fz (I.Sa (ao:=⟨o.dst,s,g⟩) T O Y hk z E F W A.symm ak.symm av.symm V.undef)
  simp_all
 simp_all
end
end Go.Abs
end
section
namespace Go.Abs
variable[Gl]
section
variable{P:Program}{orc:ig}{ops:Array Oper}{os:List aM}{p0 n0:Nat}{env:Nat->List D}{sg:Nat->aq}{wrs:Nat->List Nat}
variable{M:Nat->Option Nat}{Fz:Nat->Prop}{w:World}{a:Act}
def PN(N:Nat)(listed:Array Bool):Nat:=((List.range N).filter λj=>!listed.getD j false).length
def fV(listed:Array Bool)(i:Nat):Prop:=listed.getD i false=true
theorem HD{listed:Array Bool}{k:Nat}(hk:k<listed.size)(i:Nat):fV (listed.setIfInBounds k true) i↔fV listed i∨i=k:=by
 unfold fV;by_cases h:k=i
 ·simp_all
 ·rw[getD_set_ne false h]
  grind
theorem Bh{N:Nat}{listed:Array Bool}{k:Nat}(hs:k<listed.size)(hk:k<N)(b:¬fV listed k):PN N (listed.setIfInBounds k true)<PN N listed:=by
 unfold PN;have e:(List.range N).filter (λj=>!(listed.setIfInBounds k true).getD j false)=((List.range N).filter λj=>!listed.getD j false).filter λj=>j != k:=by
  rw[List.filter_filter];apply List.filter_congr;intro j _;have:=HD hs (i:=j);unfold fV at this
  grind
 rw[e,List.length_filter_lt_length_iff_exists]
 grind [fV]
theorem tz{N:Nat}{listed:Array Bool}(h:PN N listed=0):∀i,i<N->fV listed i:=by grind [PN,List.filter_eq_nil_iff,fV]
theorem Qd{N:Nat}{listed:Array Bool}(h:∃i,i<N/\¬fV listed i):∃i,i<N/\¬fV listed i/\∀j,j<i->fV listed j:=by
 obtain ⟨i,b,d⟩:=h;induction i using Nat.strongRecOn with
 |_ i ih=>grind
theorem wu{listed:Array Bool}(g:listed.size=ops.size)(b:∀(j:Nat) o e,ops[j]? = some o->e∈o.after->Region.binds .any e=true->e.on<j)
  (h:Region.ready .any ops listed=[]):∀i,i<ops.size->fV listed i:=by
 intro i k;refine Classical.byContradiction λl=>?_;obtain ⟨j,m,p,d⟩:=Qd (N:=ops.size) ⟨i,k,l⟩;have f:ops[j]? = some ops[j]:=tc m;have:j∈Region.ready .any ops listed:=by
  rw[mem_ready];refine ⟨?_,ops[j],f,λe q r=>d e.on (b j _ e f q r)⟩
  grind [fV]
 simp_all
theorem cnt_ge(n0:Nat):∀m,((List.range (n0+m)).filter (λj=>decide (n0<=j))).length=m:=by
 intro m;induction m with
 |zero=>simp_all
 |succ m ih=>grind [List.range_succ]
theorem iG(m j:Nat):(Array.replicate m false).getD j false=false:=by
 simp only[Xz,yBK]
 grind
theorem ND(O:pC P orc)(T:Tr P orc ops os p0 n0 env sg wrs)(r:∀i j,p0<=i->i<j->n0<=j->j<os.length->AR ops i j)(g:∀(j:Nat) o e,ops[j]? = some o->e∈o.after->Region.binds .any e=true->e.on<j){Q:Exit->Act->World->Prop}
  (hQ:∀f w' M' Fz',f.defers=a.defers->Rel (sg os.length) M' Fz' w'->dk (sg os.length) M' Fz' w' (env os.length) f.tmps->bQ (sg 0) M Fz w (sg os.length) M' Fz' w'->Q .normal f w') :
  ∀ (b : Nat) (listed : Array Bool) (k : Nat) (M' : Nat -> Option Nat) (Fz' : Nat -> Prop) (w' : World) (f : Act), listed.size = ops.size -> n0 <= k -> k <= os.length -> (∀ i, i < ops.size -> (fV listed i ↔ i < k)) -> os.length - k <= b -> f.defers = a.defers ->
   Rel (sg k) M' Fz' w'->dk (sg k) M' Fz' w' (env k) f.tmps->bQ (sg 0) M Fz w (sg k) M' Fz' w'->wpAny P .any ops Q b listed f w':=by
 have F:=T.len;intro b;induction b with
 |zero=>
  intro listed k M' Fz' w' f m hk s hS hf hd R E t;have p:k=os.length:=by omega
  subst p;refine ⟨?_,hQ f w' M' Fz' hd R E t⟩;cases G:Region.ready .any ops listed with
  |nil=>rfl
  |cons j l=>
   have hm:j∈Region.ready .any ops listed:=by simp_all
   rw[mem_ready] at hm
   grind [fV]
 |succ b ih=>
  intro listed k M' Fz' w' f m hk s hS hf hd R E t;refine ⟨λG=>?_,λj K=>?_⟩
  ·have L:=wu m g G;have p:k=os.length:=by
    rcases uS k os.length with h | h
    ·grind
    ·omega
   grind
  ·rw[mem_ready] at K;obtain ⟨h1,o,N,u⟩:=K;have ad:j<ops.size:=(KR.1 N).1;have hC:fC ops (fV listed):=by
    intro i W e hi d X Y
    grind
   have af:¬fV listed j:=by grind [fV]
   have ak:k<=j:=by simp_all
   have v:j=k:=by
    rcases uS k j with h | h
    ·have Y:=r k j (by have:=T.ple;omega) h (by omega) (by omega);have:=Y.ready hC (λW e d X x=>by rw[N] at d;simp only[aw] at d;subst d;exact u e X x)
     grind
    ·omega
   subst v;obtain ⟨Z,q⟩:=T.at (i:=j) (by omega);obtain ⟨W,d,y⟩:=T.comp j Z q;refine Ol O R E d y (T.step j Z q) _ λa1 w1 M1 z av R1 E1 A ax=>?_;refine ih (listed.setIfInBounds j true) (j+1) M1 z w1 a1 (by grind) (by omega) (by omega) (λi hi=>?_) (by omega) (by simp_all) R1 E1 (t.trans A (T.cn O (by omega) (by omega)))
   grind [HD]
theorem UW(O:pC P orc)(T:Tr P orc ops os p0 n0 env sg wrs)(u:∀i j,p0<=i->i<j->n0<=j->j<os.length->AR ops i j)(l:∀(j:Nat) o e,ops[j]? = some o->e∈o.after->Region.binds .any e=true->e.on<j)(R:Rel (sg 0) M Fz w)(E:dk (sg 0) M Fz w (env p0) a.tmps){Q:Exit->Act->World->Prop}
  (hQ:∀q w' M' Fz',q.defers=a.defers->Rel (sg os.length) M' Fz' w'->dk (sg os.length) M' Fz' w' (env os.length) q.tmps->bQ (sg 0) M Fz w (sg os.length) M' Fz' w'->Q .normal q w') :
  wpAny P .any ops Q (ops.size-p0) (IW ops.size p0) a w:=by
 have a2:=T.ple;have a3:=T.len;have y:=T.le;have r:∀b,M b≠none->b<(sg 0).length:=λb h=>by
  cases hM:M b with
  |none=>simp_all
  |some c=>exact (R.lt hM).1
 have z:∀(d:Nat)(listed:Array Bool)(M':Nat->Option Nat)(Fz':Nat->Prop)(w':World)(q:Act),listed.size=ops.size->PN ops.size listed<=d->fC ops (fV listed)->(∀i,i<p0->fV listed i)->(∀i,fV listed i->i<n0) ->
   Inv os n0 env sg wrs M Fz w a.defers (fV listed) M' Fz' w' q->wpAny P .any ops Q d listed q w':=by
  intro d;induction d with
  |zero=>
   intro listed M' Fz' w' q m hu L A v I;have s:=tz (N:=ops.size) (listed:=listed) (by omega);have hn:n0=os.length:=by
    rcases uS n0 os.length with h | h
    ·grind
    ·omega
   obtain ⟨X,Y,x⟩:=I.done T O (λi f=>s i (by omega)) r;refine ND O T u l hQ 0 listed n0 M' Fz' w' q m (cT _) y (λi f=>⟨λh=>v i h,λ_=>s i f⟩) (by omega) I.sf X Y x
  |succ d ih=>
   intro listed M' Fz' w' q m hu L A v I;by_cases g:∀i,i<n0->fV listed i
   ·obtain ⟨X,Y,x⟩:=I.done T O g r;refine ND O T u l hQ (d+1) listed n0 M' Fz' w' q m (cT _) y (λi f=>⟨λh=>v i h,λh=>g i h⟩) ?_ I.sf X Y x;have:os.length-n0<=PN ops.size listed:=by
     unfold PN;have e:(List.range ops.size).filter (λj=>!listed.getD j false)=(List.range ops.size).filter (λj=>decide (n0<=j)):=by
      apply List.filter_congr
      grind [fV]
     rw[e,show ops.size=n0+(os.length-n0) from by omega,cnt_ge];omega
    omega
   ·refine ⟨λhr=>?_,λj Z=>?_⟩
    ·grind [wu]
    ·rw[mem_ready] at Z;obtain ⟨h1,o,ho,ad⟩:=Z;have af:j<ops.size:=(KR.1 ho).1;have F:¬fV listed j:=by
      grind [fV]
     have t:∀G e,ops[j]? = some G->e∈G.after->Region.binds .any e=true->fV listed e.on:=λG e p W ak=>by rw[ho] at p;simp only[aw] at p;subst p;exact ad e W ak
     have av:j<n0:=by
      rcases uS j n0 with h | h
      ·exact h
      ·refine absurd (λi f=>?_) g;rcases uS i p0 with K | K
       ·simp_all
       ·exact (u i j K (by omega) h (by omega)).ready L t
     refine I.step (S':=fV (listed.setIfInBounds j true)) T O L av F t (λi=>HD (by omega) i) _ λa1 w1 M1 ax I1=>?_;refine ih (listed.setIfInBounds j true) M1 ax w1 a1 (by grind) ?_ ?_ (λi f=>(HD (by omega) i).2 (.inl (A i f))) ?_ I1
     ·have:=Bh (N:=ops.size) (listed:=listed) (k:=j) (by omega) af F;omega
     ·intro i G e f p W hb;rw[HD (by omega)] at f ⊢;rcases f with f | rfl
      ·exact .inl (L i G e f p W hb)
      simp_all
     grind [HD]
 have m:∀k,(IW ops.size k).size=ops.size:=by
  intro k;induction k with
  |zero=>simp[IW]
  |succ k ih=>grind [IW]
 have hl:∀k i,i<ops.size->(fV (IW ops.size k) i↔i<k):=by
  intro k;induction k with
  |zero=>grind [IW,fV,iG]
  |succ k ih=>
   intro i f;by_cases hk:k<ops.size
   ·grind [IW,HD]
   grind [IW]
 have a4:∀i,fV (IW ops.size p0) i->i<ops.size:=by grind [fV]
 have a0:∀k,k<=ops.size->PN ops.size (IW ops.size k)<=ops.size-k:=by
  intro k;induction k with
  |zero=>grind [PN]
  |succ k ih=>
   intro hk;have:=Bh (N:=ops.size) (listed:=IW ops.size k) (k:=k) (by grind) (by omega) (λh=>by grind)
   grind [IW]
 refine z (ops.size-p0) _ M Fz w a (m _) (a0 p0 (by omega)) ?_ (λi f=>(hl p0 i (by omega)).2 f) (λi f=>?_) (Inv.start R rfl E (λi f=>hl p0 i (by omega)) T O)
 ·intro j o e Z ho W hb
  grind
 grind
end
end Go.Abs
end
section
namespace Go.Abs
variable[Gl]
def Ic:qd->Exit
 |.normal=>.normal
 |.exit i=>if i % 2=0 then .exit (i / 2) else .goto (i / 2)
 |.ret=>.ret
theorem Ir(i:Nat):Ic (.exit (2 * i))=.exit i:=by
 show (if 2 * i % 2=0 then Exit.exit (2 * i / 2) else Exit.goto (2 * i / 2))=_
 simp_all
theorem II(i:Nat):Ic (.exit (2 * i+1))=.goto i:=by
 show (if (2 * i+1) % 2=0 then Exit.exit ((2 * i+1) / 2) else Exit.goto ((2 * i+1) / 2))=_
 grind
theorem zu{i:Nat}(h:i % 2=0):Ic (.exit i)=.exit (i / 2):=if_pos h
theorem NT{i:Nat}(h:¬i % 2=0):Ic (.exit i)=.goto (i / 2):=if_neg h
theorem oW{i:Nat}{R:Act->World->Prop}{Q:Exit->Act->World->Prop}{a:Act}{w:World}(h:Q (Ic (.exit i)) a w):Exit.then R Q (Ic (.exit i)) a w:=by
 by_cases b:i % 2=0
 ·rw[zu b] at h ⊢;exact h
 ·rw[NT b] at h ⊢;exact h
theorem DE{id:Nat}{Q:Exit->Act->World->Prop}{a:Act}{w:World}(h:Q .normal a w):Exit.inBlock id Q (Ic (.exit (2 * id))) a w:=by rw[Ir];simp only[Exit.inBlock,if_true];exact h
theorem Ai{i id:Nat}{Q:Exit->Act->World->Prop}{a:Act}{w:World}(d:i≠2 * id)(h:Q (Ic (.exit i)) a w):Exit.inBlock id Q (Ic (.exit i)) a w:=by
 by_cases b:i % 2=0
 ·rw[zu b] at h ⊢;simp only[Exit.inBlock]
  grind
 ·rw[NT b] at h ⊢;exact h
section
variable{P:Program}{orc:ig}
theorem NA{n:Nat}:∀(os:List aM)(n:Nat)(e e':List D)(U U':aq)(b:List dG),kH P orc n os e U=some (e',U',b) ->
  ∃ (env : Nat -> List D) (sg : Nat -> aq) (wrs : Nat -> List Nat), env 0 = e /\ sg 0 = U /\ env os.length = e' /\ sg os.length = U' /\ b.length = os.length /\
   (∀(i:Nat) ao,os[i]? = some ao->eB P orc ao (env i) (sg i)=some (env (i+1),sg (i+1),wrs i)/\b[i]? = some (cQ ao (env i) (sg i).length (sg (i+1)).length (wrs i))) /\
   (∀i,i<os.length->i<n->jZ (sg i) (sg (i+1)) (wrs i)=true):=by
 intro os;induction os with
 |nil=>intro n e e' U U' b h;simp only[kH,aw,ba] at h;obtain ⟨rfl,rfl,rfl⟩:=h;exact ⟨λ_=>e,λ_=>U,λ_=>[],rfl,rfl,rfl,rfl,rfl,λi ao h=>by simp at h,λi h=>by simp at h⟩
 |cons o os ih=>
  intro n e e' U U' b h;simp only[kH] at h;split at h
  ·rename_i f U1 w1 q;split at h
   ·rename_i r;split at h
    ·rename_i g U2 d j;simp only[aw,ba] at h;obtain ⟨rfl,rfl,rfl⟩:=h;obtain ⟨env,sg,wrs,s,t,k,l,m,u,v⟩:=ih (n-1) f g U1 U2 d j;refine ⟨λi=>match i with | 0=>e | i+1=>env i,λi=>match i with | 0=>U | i+1=>sg i,λi=>match i with | 0=>w1 | i+1=>wrs i,rfl,rfl,k,l,by simp[m],λi ao p=>?_,λi p x=>?_⟩
     ·grind
     grind
    simp_all
   simp_all
  simp_all
theorem tO{ops:Array Oper}(h:yd ops.toList=true)(j:Nat)(o:Oper)(e:Edge)(b:ops[j]? = some o)(d:e∈o.after)(f:Region.binds .any e=true):e.on<j:=by
 have g:j<ops.size:=(KR.1 b).1;have i:=gH.1 h j (by simp_all)
 grind
theorem Oo{α d:Type}{f:α->Option d}:∀{l:List α}{r:List d},l.mapM f=some r->r.length=l.length/\∀(i:Nat) b,r[i]? = some b->∃a,l[i]? = some a/\f a=some b:=by
 intro l;induction l with
 |nil=>simp_all
 |cons a l ih=>grind [Option.bind_eq_some_iff]
theorem Iy(O:pC P orc):∀(os:List aM)(e e':List D)(U U':aq)(wr:List Nat),sV P orc os e U=some (e',U',wr)->U.length<=U'.length/\∀b,b<U.length->b∉wr->U'[b]? = U[b]?:=by
 intro os;induction os with
 |nil=>
  intro e e' U U' wr h;simp only[sV,aw,ba] at h
  simp_all
 |cons o os ih=>
  intro e e' U U' wr h;simp only[sV] at h;split at h
  ·rename_i f U1 w1 d;split at h
   ·rename_i g U2 w2 i;simp only[aw,ba] at h;obtain ⟨rfl,rfl,rfl⟩:=h;obtain ⟨j,k,_⟩:=gP O d
    grind
   simp_all
  simp_all
theorem Cm(O:pC P orc):∀(os:List aM)(n:Nat)(e e':List D)(U U':aq)(d:List dG),kH P orc n os e U=some (e',U',d) ->
  U.length<=U'.length/\∀b,b<U.length->b∉d.flatMap (·.wr)->U'[b]? = U[b]?:=by
 intro os;induction os with
 |nil=>
  intro n e e' U U' d h;simp only[kH,aw,ba] at h
  simp_all
 |cons o os ih=>
  intro n e e' U U' d h;simp only[kH] at h;split at h
  ·rename_i i U1 w1 j;split at h
   ·split at h
    ·rename_i k U2 f l;simp only[aw,ba] at h;obtain ⟨rfl,rfl,rfl⟩:=h;obtain ⟨m,p,_⟩:=gP O j;obtain ⟨q,r⟩:=ih _ i k U1 U2 f l;refine ⟨mA m q,λb s g=>?_⟩;simp only[YA,zC,not_or] at g;rw[r b (by omega) g.2,p b s g.1]
    simp_all
   simp_all
  simp_all
theorem uD(O:pC P orc):∀(k:Nat)(c:br)(e e':List D)(U U':aq)(wr wr':List Nat)(x:qd),kR P orc k c e U wr=some (x,e',U',wr') ->
  U.length<=U'.length/\(∀b∈wr,b∈wr')/\∀b,b<U.length->b∉wr'->U'[b]? = U[b]?:=by
 intro k;induction k with
 |zero=>grind [kR]
 |succ k ih=>
  intro c e e' U U' wr wr' x h;cases c with
  |skip=>simp only[kR,aw,ba] at h;simp_all
  |exit id=>simp only[kR,aw,ba] at h;simp_all
  |ret=>simp only[kR,aw,ba] at h;simp_all
  |stuck=>grind [kR]
  |VF l=>grind [kR]
  |QY l a r=>grind [kR]
  |MK os=>
   simp only[kR,cu,ba] at h;obtain ⟨⟨f,U1,w1⟩,d,_,_,rfl,rfl⟩:=h;obtain ⟨j,m⟩:=Iy O os _ _ _ _ _ d
   simp_all
  |FA os g n p=>
   have one:∀n f U1 w1,jL P orc os g p n e U=some (f,U1,w1)->U.length<=U1.length/\∀b,b<U.length->b∉w1->U1[b]? = U[b]?:=by
    intro n f U1 w1 d;unfold jL at d;split at d
    ·rename_i q U2 s i;split at d
     ·simp only[aw,ba] at d;obtain ⟨_,rfl,rfl⟩:=d;exact Cm O os _ _ _ _ _ _ i
     simp_all
    simp_all
   grind [kR]
  |seq a b=>grind [kR]
  |cond o a b=>grind [kR]
  |block id b=>grind [kR]
  |loop b=>grind [kR]
theorem Pz(O:pC P orc){id:Nat}{ops:Array Oper}{os:List aM}{U U':aq}{M:Nat->Option Nat}{Fz:Nat->Prop}{w:World}{e e':List D}{a:Act}{wr:List Nat}{Q:Exit->Act->World->Prop}
  (d:ops.toList.mapM (cO P ops)=some os) (R:Rel U M Fz w) (E:dk U M Fz w e a.tmps) (h:sV P orc os e U=some (e',U',wr))
  (f:∀b w' M' Fz',b.defers=a.defers->Rel U' M' Fz' w'->dk U' M' Fz' w' e' b.tmps->bQ U M Fz w U' M' Fz' w'->Q .normal b w'):(Code.region id ops false).wp P Q a w:=by
 obtain ⟨g,i⟩:=Oo d
 grind [Go.wp_region,ops_wp,List.range_eq_range']
theorem ME{ops:Array Oper}:∀(k i j:Nat),i<=j->j<i+leads ops k i->Cs ops j=true:=by
 intro k;induction k with
 |zero=>grind [leads]
 |succ k ih=>
  intro i j d b;simp only[leads] at b;split at b
  ·rename_i h;by_cases e:i=j
   ·simp_all
   ·exact ih (i+1) j (by omega) (by omega)
  ·omega
theorem Fg{ops:Array Oper}{i:Nat}(h:i<lead ops):Region.noSelect ops=true/\Cs ops i=true:=by
 unfold lead at h;split at h
 ·rename_i b;exact ⟨b,ME ops.size 0 i (by omega) (by omega)⟩
 ·omega
def NQ(Q:Exit->Act->World->Prop):Exit->Act->World->Prop:=λx a w=>x=.normal/\Q .normal a w
theorem MW{ops:Array Oper}{Q:Exit->Act->World->Prop}{i:Nat}{a:Act}{w:World}{K:Act->World->Prop}(h:wpOp P ops (NQ Q) i K a w):wpOp P ops Q i K a w:=by
 unfold wpOp at *;split
 ·simp_all
 ·rename_i o d;simp only[d] at h;split
  ·rename_i f;simp only[f,if_true] at h;rcases h with h | ⟨_,g,w',h,_⟩
   ·left;unfold Oper.wp at *;generalize (execOp a.eval o).run P w=r at *;cases r with
    |ok n w'=>
     cases n <;> simp only[Oper.upon] at h ⊢ <;>
      first
       |exact h
       |exact Calls.mono h (λe w'' b=>by
         cases e with
         |returned v=>exact b
         |panicked c=>exact absurd b.1 (by simp)
         |outgrown=>obtain ⟨g,w',j,_⟩:=b;simp_all)
    |halt x w'=>
     cases x <;> simp only[Oper.upon] at h ⊢
     exact absurd h.1 (by simp)
   simp_all
  simp_all
theorem IH{ops:Array Oper}{Q:Exit->Act->World->Prop}{md:Region.Mode}:∀(b:Nat)(listed:Array Bool)(a:Act)(w:World),wpAny P md ops (NQ Q) b listed a w->wpAny P md ops Q b listed a w:=by
 intro b;induction b with
 |zero=>intro listed a w h;exact ⟨h.1,h.2.2⟩
 |succ b ih=>intro listed a w h;exact ⟨λd=>(h.1 d).2,λi e=>MW (wpOp_mono (λf w' g=>ih _ f w' g) (h.2 i e))⟩
theorem Yk{ops:Array Oper}{Q:Exit->Act->World->Prop}{p:Nat}{w:World}(z:p<=lead ops)(l:p<=ops.size)(J:Nat->Act->Prop)
  (A:∀i o x a,i<p->ops[i]? = some o->(o.op=.move x∨o.op=.assign x)->o.guard=none->J i a->J (i+1) (a.put o.dst (a.eval x)))
  (g:∀a,J p a->wpAny P .any ops (NQ Q) (ops.size-p) (IW ops.size p) a w):∀k a,k<=p->J (p-k) a->wpAny P .any ops (NQ Q) (ops.size-(p-k)) (IW ops.size (p-k)) a w:=by
 intro k;induction k with
 |zero=>simp_all
 |succ k ih=>
  intro a hk h;obtain ⟨i,rfl⟩:∃i,p=i+(k+1):=⟨p-(k+1),by omega⟩;have m:i+(k+1)-(k+1)=i:=by omega
  have q:i+(k+1)-k=i+1:=by omega
  rw[m] at h ⊢;obtain ⟨e,d⟩:=Fg (ops:=ops) (i:=i) (by omega);simp only[Cs,bJ] at d;obtain ⟨⟨f,r⟩,s⟩:=d;cases j:ops[i]? with
  |none=>simp_all
  |some o=>
   rw[j] at f;simp only[Option.map_some,Option.getD_some,isMv,bJ,Option.isNone_iff_eq_none] at f;obtain ⟨t,u⟩:=f;have b:∃x,o.op=.move x∨o.op=.assign x:=by grind
   obtain ⟨x,b⟩:=b;have v:Go.Yields P ops o (a.eval x) a:=by left;refine ⟨by simp[Region.wanted,t],λw=>?_⟩;rcases b with b | b <;> simp[execOp,b]
   have y:ops.size-i=(ops.size-(i+1))+1:=by omega
   rw[y];refine wpAny_take j e r s (λc a w h=>absurd h.1 (by simp)) v ?_;have:=ih (a.put o.dst (a.eval x)) (by omega) (by simp_all);rw[q] at this;exact this
theorem VQ (r:P.follows .mixedOrders=true) (O:pC P orc) {id n:Nat} {ops:Array Oper} {os:List aM} {U U':aq} {M:Nat→Option Nat} {Fz:Nat→Prop} {w:World} {e e':List D} {a:Act} {X:List dG} {Q:Exit→Act→World→Prop}
  (hc:ops.toList.mapM (cO P ops)=some os) (l:yd ops.toList=true) (R:Rel U M Fz w) (E:dk U M Fz w e a.tmps) (h:kH P orc n os e U=some (e',U',X)) (hn:n≤os.length)
  (hp:dR (LN ops.toList) X=true) (ht:nA (LN ops.toList) (lead ops) n os.length=true) (Y:lead ops≤n)
  (hQ:∀s w' M' Fz',s.defers=a.defers→Rel U' M' Fz' w'→dk U' M' Fz' w' e' s.tmps→bQ U M Fz w U' M' Fz' w'→Q .normal s w'):(Code.region id ops true).wp P Q a w:=by
 obtain ⟨L,h2⟩:=Oo hc
 obtain ⟨env,sg,wrs,k1,k2,k3,k4,k5,k6,k7⟩:=NA (n:=n) os n e e' U U' X h
 subst k1 k2 k3 k4
 have t:os.length=ops.size:=by omega
 have mv:∀i o x,i<lead ops→ops[i]? = some o→(o.op=.move x∨o.op=.assign x)→o.guard=none→∃u,bO x=some u∧env (i+1)=mj (env i) o.dst (u.ev (env i))∧sg (i+1)=sg i∧wrs i=[]:=by
  intro i o x g v q N
  have z:i<os.length:=by omega
  obtain ⟨o',m,d⟩:=h2 i _ (dB z)
  rw [OY,v] at m
  simp only [aw] at m
  subst m
  have A:=(k6 i _ (dB z)).1
  unfold cO at d
  rw [N] at d
  simp only [yL] at d
  cases F:bO x with
  | none=>grind [comp,lj]
  | some u =>
   have Z:comp P o.op o.type=some (.DR u):=by
    grind [comp,lj]
   rw [Z] at d
   simp only [aw] at d
   rw [←d] at A
   simp only [eB,jh,bg,Option.map_some,aw,ba] at A
   simp_all
 have ad:∀i j,lead ops≤i→i<j→n≤j→j<os.length→AR ops i j:=fun i j ak af av hj=>by
  have f:=gH.1 ht j (by simp_all)
  simp only [dW,bb] at f
  rcases f with f | f
  ·omega
  ·have W:=gH.1 f i (by simp_all)
   simp only [dW] at W
   grind [Nat.blt_eq,Bn]
 have T:Tr P orc ops os (lead ops) n env sg wrs:={
  len:=t
  comp:=fun j ao hj=>by simp_all
  step:=fun i ao g=>(k6 i ao g).1
  wrk:=fun i g=>k7 i (by omega) g
  le:=hn
  pair:=fun i j x y af q hy=>by
   have hj:=(jy.1 hy).1
   have f:=gH.1 hp j (by simp_all)
   have W:=gH.1 f i (by simp_all)
   simp only [dW] at W
   grind [Bn]
  lead:=fun i g=>by
   obtain ⟨_,G⟩:=Fg g
   simp only [Cs,bJ] at G
   cases v:ops[i]? with
   | none=>simp_all
   | some o =>
    have L:=G.1.1
    rw [v] at L
    simp only [Option.map_some,Option.getD_some,isMv,bJ,Option.isNone_iff_eq_none] at L
    obtain ⟨N,ax⟩:=L
    have q:∃x,o.op=.move x∨o.op=.assign x:=by
     grind
    obtain ⟨x,q⟩:=q
    grind
  ple:=Y }
 refine wp_region_any r ?_
 have R1:Rel (sg 0) M Fz { w with drawn:=w.drawn+1 }:=R.heap rfl ⟨rfl,rfl,rfl⟩
 have EH:bQ (sg 0) M Fz w (sg 0) M Fz { w with drawn:=w.drawn+1 }:=bQ.heap R rfl ⟨rfl,rfl,rfl⟩
 refine IH _ _ _ _ ?_
 have k:=Yk (P:=P) (ops:=ops) (Q:=Q) (p:=lead ops) (w:={ w with drawn:=w.drawn+1 }) (cT _) (by omega)
  (fun i b=>dk (sg 0) M Fz { w with drawn:=w.drawn+1 } (env i) b.tmps∧b.defers=a.defers)
  (fun i o x b g v q N K=>by
   obtain ⟨u,F,f,W,_⟩:=mv i o x g v q N
   refine ⟨?_,by rw [←K.2]; cases o.dst <;> rfl⟩
   rw [f]
   exact K.1.put o.dst (mf K.1 F))
  (fun b K=>by
   refine UW O T ad (tO l) R1 K.1 fun s w' M' Fz' hd R' E' EV=>⟨rfl,?_⟩
   exact hQ s w' M' Fz' (by simp_all) R' E' (EH.trans EV (cT _)))
  (lead ops) a (cT _) (by rw [Nat.sub_self]; exact ⟨E.mono EH,rfl⟩)
 rw [Nat.sub_self,Nat.sub_zero] at k
 exact k
theorem IQ(os:List aM):dH os<=os.length:=by grind [dH]
theorem DJ(os:List aM):jP os<=os.length:=by
 induction os with
 |nil=>simp[jP]
 |cons o os ih=>grind [jP]
theorem Ht (N:P.follows .mixedOrders=true) (O:pC P orc):∀(k:Nat),
  (∀(c:Code) (ac:br) (U U':aq) (M:Nat→Option Nat) (Fz:Nat→Prop) (w:World) (e e':List D) (a:Act) (wr wr':List Nat) (x:qd) (Q:Exit→Act→World→Prop),cZ P c=some ac→Rel U M Fz w→dk U M Fz w e a.tmps →
   kR P orc k ac e U wr=some (x,e',U',wr')→(∀u w' M' Fz',u.defers=a.defers→Rel U' M' Fz' w'→dk U' M' Fz' w' e' u.tmps→bQ U M Fz w U' M' Fz' w'→Q (Ic x) u w')→c.wp P Q a w) ∧
  (∀(c:Code) (ac:br) (U U':aq) (M:Nat→Option Nat) (Fz:Nat→Prop) (w:World) (e e':List D) (a:Act) (wr wr':List Nat) (x:qd) (Q:Exit→Act→World→Prop),cZ P c=some ac→Rel U M Fz w→dk U M Fz w e a.tmps →
   kR P orc k (.loop ac) e U wr=some (x,e',U',wr')→(∀u w' M' Fz',u.defers=a.defers→Rel U' M' Fz' w'→dk U' M' Fz' w' e' u.tmps→bQ U M Fz w U' M' Fz' w'→Q (Ic x) u w')→Code.rounds P c Q k a w):=by
 intro k
 induction k with
 | zero=>grind [kR]
 | succ k ih =>
  obtain ⟨m,ad⟩:=ih
  have F:∀(c:Code) (ac:br) (U U':aq) (M:Nat→Option Nat) (Fz:Nat→Prop) (w:World) (e e':List D) (a:Act) (wr wr':List Nat) (x:qd) (Q:Exit→Act→World→Prop),cZ P c=some ac→Rel U M Fz w→dk U M Fz w e a.tmps →
   kR P orc (k+1) (.loop ac) e U wr=some (x,e',U',wr')→(∀u w' M' Fz',u.defers=a.defers→Rel U' M' Fz' w'→dk U' M' Fz' w' e' u.tmps→bQ U M Fz w U' M' Fz' w'→Q (Ic x) u w')→Code.rounds P c Q (k+1) a w:=by
   intro c ac U U' M Fz w e e' a wr wr' x Q d R E h r
   rw [rounds_succ]
   simp only [kR] at h
   split at h
   ·rename_i s U1 bV j
    have hl:=(uD O _ _ _ _ _ _ _ _ _ j).1
    refine m c ac U U1 M Fz w e s a wr bV .normal _ d R E j fun t w1 v f hd y z g=>?_
    exact ad c ac U1 U' v f w1 s e' t bV wr' x Q d y z h fun Z w2 M2 G af R2 E2 K=>r Z w2 M2 G (by simp_all) R2 E2 (g.trans K hl)
   ·rename_i T
    have W:x≠.normal:=fun W=>by simp_all
    refine m c ac U U' M Fz w e e' a wr wr' x _ d R E h fun t w1 v f hd y z g=>?_
    have:=r t w1 v f hd y z g
    cases x with
    | normal=>simp_all
    | exit i=>grind [oW]
    | ret=>exact this
  refine ⟨?_,F⟩
  intro c ac U U' M Fz w e e' a wr wr' x Q d R E h r
  cases c with
  | skip =>
   simp only [cZ,aw] at d
   subst d
   simp only [kR,aw,ba] at h
   obtain ⟨rfl,rfl,rfl,_⟩:=h
   exact wp_skip (r a w M Fz rfl R E (bQ.refl R))
  | exit id =>
   simp only [cZ,aw] at d
   subst d
   simp only [kR,aw,ba] at h
   grind [bQ.refl,Ir,Go.wp_exit]
  | goto l =>
   simp only [cZ,aw] at d
   subst d
   simp only [kR,aw,ba] at h
   grind [bQ.refl,II,Go.wp_goto]
  | scope b =>
   grind [cZ,Option.map_eq_some_iff,YP,kR]
  | ret =>
   simp only [cZ,aw] at d
   subst d
   simp only [kR,aw,ba] at h
   obtain ⟨rfl,rfl,rfl,_⟩:=h
   exact wp_ret (r a w M Fz rfl R E (bQ.refl R))
  | region id ops X =>
   simp only [cZ] at d
   split at d
   ·rename_i os Y
    cases X with
    | false =>
     simp only [a_,bn,aw] at d
     subst d
     simp only [kR,cu,ba] at h
     obtain ⟨⟨s,U1,w1⟩,j,rfl,rfl,rfl,_⟩:=h
     exact Pz O Y R E j r
    | true =>
     simp only [if_true] at d
     split at d
     ·rename_i L
      simp only [aw] at d
      subst d
      have one:∀n s U1 w1,n≤os.length→jL P orc os (LN ops.toList) (lead ops) n e U=some (s,U1,w1)→x=.normal→s=e'→U1=U'→(Code.region id ops true).wp P Q a w:=by
       intro n s U1 w1 hn j W he hs
       unfold jL at j
       split at j
       ·rename_i e2 U2 is h2
        split at j
        ·rename_i q
         simp only [bJ] at q
         simp only [aw,ba] at j
         obtain ⟨rfl,rfl,rfl⟩:=j
         subst W he hs
         exact VQ N O Y L R E h2 hn q.1.1 q.1.2 (DM q.2) r
        simp_all
       simp_all
      simp only [kR] at h
      split at h
      ·grind [DJ]
      ·split at h
       ·grind [IQ]
       grind
     grind [kR]
   grind [kR]
  | seq c1 c2 =>
   simp only [cZ] at d
   split at d
   ·rename_i t Z j h2
    simp only [aw] at d
    subst d
    simp only [kR] at h
    split at h
    ·rename_i s U1 bV A
     have hl:=(uD O _ _ _ _ _ _ _ _ _ A).1
     refine wp_seq (m c1 t U U1 M Fz w e s a wr bV .normal _ j R E A fun p w1 v f hd y z g=>?_)
     exact m c2 Z U1 U' v f w1 s e' p bV wr' x Q h2 y z h fun ak w2 M2 G af R2 E2 K=>r ak w2 M2 G (by simp_all) R2 E2 (g.trans K hl)
    ·rename_i T
     have W:x≠.normal:=fun W=>by simp_all
     refine wp_seq (m c1 t U U' M Fz w e e' a wr wr' x _ j R E h fun p w1 v f hd y z g=>?_)
     have:=r p w1 v f hd y z g
     cases x with
     | normal=>simp_all
     | exit i=>grind [oW]
     | ret=>exact this
   simp_all
  | cond o c1 c2 =>
   simp only [cZ] at d
   split at d
   ·rename_i oo t Z h0 j h2
    simp only [aw] at d
    subst d
    simp only [kR] at h
    have hv:=mf E h0
    grind [Go.wp_cond_true,mS,Go.wp_cond_false]
   grind [kR]
  | block id c1 =>
   simp only [cZ,cu] at d
   obtain ⟨t,j,rfl⟩:=d
   simp only [kR] at h
   refine wp_block ?_
   split at h
   ·rename_i i s U1 bV A
    split at h
    ·rename_i av
     simp only [aw,ba] at h
     obtain ⟨rfl,rfl,rfl,_⟩:=h
     refine m c1 t U U1 M Fz w e s a wr bV (.exit i) _ j R E A fun p w1 v f hd y z g=>?_
     have:=r p w1 v f hd y z g
     rw [av]
     exact DE this
    grind [Ai]
   ·rename_i T
    refine m c1 t U U' M Fz w e e' a wr wr' x _ j R E h fun p w1 v f hd y z g=>?_
    have:=r p w1 v f hd y z g
    cases x with
    | normal=>exact this
    | exit i=>grind
    | ret=>exact this
  | loop c1 =>
   simp only [cZ,cu] at d
   obtain ⟨t,j,rfl⟩:=d
   exact wp_loop_rounds (k+1) (F c1 t U U' M Fz w e e' a wr wr' x Q j R E h r)
  | _=>grind [cZ,kR]
end
end Go.Abs
end
section
namespace Go.Abs
variable[Gl]
section
variable{P:Program}{U U0:aq}{M M0:Nat->Option Nat}{Fz Fz0:Nat->Prop}{w w0:World}
def DW(M:Nat->Option Nat)(Fz:Nat->Prop)(n:Nat):Nat->Prop:=λc=>Fz c∨∃b,n<=b/\M b=some c
theorem wL(n:Nat):∀(k:Nat)(l:List C),(chunks n k l).length=k:=by
 intro k;induction k with
 |zero=>intro l;rfl
 |succ k ih=>grind [chunks]
theorem BD{n:Nat}:∀(k:Nat)(l:List C),l.length=k * n->∀(i:Nat) e,(chunks n k l)[i]? = some e->e.length=n/\∀(j:Nat),j<n->e[j]? = l[i * n+j]?:=by
 intro k;induction k with
 |zero=>grind [chunks]
 |succ k ih=>
  intro l b i e h;rw[Nat.succ_mul] at b;cases i with
  |zero=>grind [chunks]
  |succ i=>grind [chunks]
theorem zl{α d:Type}{f:α->Option d}:∀{l:List α}{r:List d},l.mapM f=some r->∀(i:Nat) a,l[i]? = some a->∃b,r[i]? = some b/\f a=some b:=by
 intro l;induction l with
 |nil=>simp_all
 |cons a l ih=>grind [Option.bind_eq_some_iff]
theorem GL(R:Rel U M Fz w){n:Nat}:∀(k:Nat)(d:D)(x:C)(v:Value),fj U n k d=some x->V U M Fz w d v->VC (DW M Fz n) w x v:=by
 intro k;induction k with
 |zero=>grind [fj]
 |succ k ih=>
  intro d x v h u;cases d with
  |c y=>simp only[fj,aw] at h;subst h;exact u.Ao.mono (λc hc=>⟨.inl hc,rfl⟩)
  |ptr b off sz=>
   simp only[fj] at h;split at h
   ·rename_i A;split at h
    ·rename_i cs E;simp only[cu] at h;obtain ⟨l,F,rfl⟩:=h;obtain ⟨c,s,rfl⟩:=u.ya E;obtain ⟨m,_⟩:=KI E;obtain ⟨g,T,W,Y,Z⟩:=R.row s m;obtain ⟨m1,G⟩:=Oo F;have:=VC.cA (Fz:=DW M Fz n) (w:=w) (cs:=l) (off:=off) c 0 (λj=>g[j]!) (.inr ⟨b,A,s⟩) (λj d K=>?_) (λj d K=>?_)
     ·simp_all
     ·obtain ⟨a,r,_⟩:=G j d K;have q:=(jy.1 r).1;have e:g[j]? = some (g[j]'(by omega)):=tc _;have X:g[j]! = g[j]'(by omega):=getElem!_pos g j (by omega);rw[N_,cell_of_row w c j g T (0,0) W,e,X]
      grind
     ·obtain ⟨a,r,L⟩:=G j d K;have q:=(jy.1 r).1;have e:g[j]? = some (g[j]'(by omega)):=tc _
      grind
    simp_all
   simp_all
  |sl b off len aA sz=>
   simp only[fj] at h;split at h
   ·rename_i N;obtain ⟨A,av,a3⟩:=N;split at h
    ·rename_i cs E;simp only[cu] at h;obtain ⟨l,F,rfl⟩:=h;rcases u.oj E with ⟨rfl,X,_,_,_⟩ | ⟨c,o,O,ax,T0,s,rfl,a4,a0,a5,a1,_⟩
     ·subst X;exact VC.cU (nn:=Nat.blt 0 0) (es:=[]) aA none 0 (λh=>by cases h) (λ_=>rfl) (λ_ _=>undef) (λ_ h=>by simp at h) (cT _) (λi j e d h=>by simp at h) (λi j e d h=>by simp at h)
     obtain ⟨m,ad⟩:=KI E;obtain ⟨g,T,W,Y,Z⟩:=R.row s m;obtain ⟨m1,G⟩:=Oo F;have af:l.length=len * aA:=by grind
     have Q:∀(i j:Nat)(e:List C)(d:C),(chunks aA len l)[i]? = some e->e[j]? = some d->j<aA/\i<len/\o=off/\∃a,cs[off+(i * aA+j)]? = some a/\fj U n k a=some d:=by
      intro i j e d t z;obtain ⟨h3,h4⟩:=BD len l af i e t
      grind [wL]
     have:=VC.cU (Fz:=DW M Fz n) (w:=w) (nn:=Nat.blt 0 len) (es:=chunks aA len l) aA (some ⟨c,o,none⟩) O (λ_=>rfl) (λh=>by cases h) (λi j=>g[o+i * aA+j]!) (λe he=>?_) (by grind [wL]) (λi j e d t z=>?_) (λi j e d t z=>?_)
     ·grind [wL]
     ·grind [List.mem_iff_getElem?,BD]
     ·obtain ⟨K,hi,rfl,a,r,L⟩:=Q i j e d t z;have q:=(jy.1 r).1;rw[<-Nat.add_assoc] at r q;have e1:g[o+i * aA+j]? = some (g[o+i * aA+j]'(by omega)):=tc _;have X:g[o+i * aA+j]! = g[o+i * aA+j]'(by omega):=getElem!_pos g _ (by omega);refine ⟨c,o,rfl,.inr ⟨b,A,s⟩,?_,?_⟩
      ·grind [Go.cell_of_row]
      grind
     ·obtain ⟨K,hi,rfl,a,r,L⟩:=Q i j e d t z;have q:=(jy.1 r).1;rw[<-Nat.add_assoc] at r q;have e1:g[o+i * aA+j]? = some (g[o+i * aA+j]'(by omega)):=tc _
      grind
    simp_all
   simp_all
  |fn f first O=>
   simp only[fj] at h;split at h
   ·rename_i l1 l2 t z;simp only[aw] at h;subst h;obtain ⟨m1,G⟩:=Oo t;obtain ⟨m3,m4⟩:=Oo z;cases u with
    |fn vs ws k1 k2 u hw=>
     refine .fn vs ws (by omega) (by omega) (λi d v a b=>?_) (λi d v a b=>?_)
     ·grind
     grind
   simp_all
  |mp b=>
   simp only[fj] at h;split at h
   ·rename_i A;split at h
    ·rename_i es ak m;simp only[cu] at h;obtain ⟨l,F,rfl⟩:=h;obtain ⟨c,rfl,s⟩:=u.BM m;obtain ⟨g,ck,W,⟨ad,_⟩,a2⟩:=R.IL m s;obtain ⟨m1,G⟩:=Oo F;refine .Kl c ck g (.inr ⟨b,A,s⟩) W (by omega) (λi p e hi he=>?_) (λi p e hi he=>?_)
     ·grind [Option.map_eq_some_iff]
     grind [Option.map_eq_some_iff]
    simp_all
   simp_all
  |agg cs=>grind [fj]
  |aT vs=>grind [fj]
  |any=>grind [fj]
theorem JG(R:Rel U M Fz w){n k:Nat}{d r:D}{v:Value}(h:mM U n k d=some r)(e:V U M Fz w d v)(U':aq)(M':Nat->Option Nat):V U' M' (DW M Fz n) w r v:=by
 have plain:∀d,(fj U n k d).map D.c=some r->V U M Fz w d v->V U' M' (DW M Fz n) w r v:=by intro d h e;simp only[cu] at h;obtain ⟨x,f,rfl⟩:=h;exact .c (GL R k d x v f e)
 cases d with
 |agg q=>
  simp only[mM,cu] at h;obtain ⟨l,j,rfl⟩:=h;obtain ⟨m1,m⟩:=Oo j;cases e with
  |agg o s e=>refine .agg o (by simp_all) (λi d v a b=>?_);simp only[jX,cu] at a;obtain ⟨x,f,rfl⟩:=a;obtain ⟨y,p,g⟩:=m i x f;exact .c (GL R k y x v g (e i y v p b))
 |_=>exact plain _ h e
theorem Gq(R:Rel U M Fz w){n k:Nat}{d r:D}{v:Value}(h:vP U n k d=some r)(e:V U M Fz w d v)(U':aq)(M':Nat->Option Nat):V U' M' (DW M Fz n) w r v:=by
 cases d with
 |aT ds=>
  simp only[vP,cu] at h;obtain ⟨l,f,rfl⟩:=h;obtain ⟨m1,j⟩:=Oo f;cases e with
  |aT g m e=>
   refine .aT g (by omega) (λi d v a b=>?_)
   grind [JG]
 |_=>grind [vP,JG]
theorem Rel.forget(R0:Rel U0 M0 Fz0 w0)(R:Rel U M Fz w)(s:bQ U0 M0 Fz0 w0 U M Fz w)(G:∀b,b<U0.length->U[b]? = U0[b]?) :
  Rel U0 (cG M U0.length) (DW M Fz U0.length) w/\bQ U0 M0 Fz0 w0 U0 (cG M U0.length) (DW M Fz U0.length) w:=by
 have K:lu U0 U:=λb A z=>⟨A,by grind,rfl⟩;have L:∀b,b<U0.length->M b=M0 b:=λb z=>by
  obtain ⟨af,h1,_,h2⟩:=s.cX b _ (dB z)
  simp_all
 refine ⟨⟨λb c h=>?_,λb O c h Q=>?_,λc h=>?_,Gl.mono (λc h=>⟨.inl h,rfl⟩) R.gl⟩,⟨s.size,s.frame,λb c h=>?_,λc h=>⟨.inl (s.fz c h).1,(s.fz c h).2⟩,λc h=>?_,s.sa,λb A z=>⟨A,z,cT _,λ_=>?_⟩,s.out⟩⟩
 ·unfold cG at h;split at h
  ·rename_i z;obtain ⟨h1,A,o,h2,h3,h4⟩:=R.blk b c h;have W:M0 b=some c:=by simp_all
   obtain ⟨_,u,o0,h5,_,h6⟩:=R0.blk b c W;have:u=A:=by simp_all
   subst this;refine ⟨λhf=>?_,u,o,h5,h3,?_⟩
   ·rcases hf with hf | ⟨O,E,X⟩
    ·simp_all
    ·have:=R.inj b O c h X;omega
   ·have Y:=(h4.down K h6).cut;have e:∀{d v},V U0 (cG M U0.length) Fz w d v->V U0 (cG M U0.length) (DW M Fz U0.length) w d v:=λh=>h.sub lu.refl (λ_ _ h=>h) (λc h=>⟨.inl h,rfl⟩) (λc j T fr h=>⟨j,h,rfl⟩);cases u with
    |cells cs=>obtain ⟨j,T,Z,hl,F⟩:=Y;exact ⟨j,T,Z,hl,λi d v x y=>⟨e (F i d v x y).1,(F i d v x y).2⟩⟩
    |map es ad=>obtain ⟨j,Z,hl,F⟩:=Y;exact ⟨j,Z,hl,λi k d n e' x y=>let ⟨a,b,c⟩:=F i k d n e' x y;⟨a,b,e c⟩⟩
    |gone n=>exact Y.elim
  simp_all
 ·unfold cG at h Q;split at h
  ·split at Q
   ·exact R.inj b O c h Q
   simp_all
  simp_all
 ·rcases h with h | ⟨b,_,h⟩
  ·exact R.fz c h
  ·exact (R.lt h).2
 ·grind [cG]
 ·rcases h with h | ⟨b,_,h⟩
  ·exact s.rS c h
  ·rcases s.oA b c h with h | h
   ·simp_all
   omega
 ·have E:=(jy.1 z).1;simp only[cG,if_pos E]
  simp_all
theorem one_ok{ds:List D}{vs:Array Value}(hs:vs.size=ds.length)(e:∀(i:Nat) d v,ds[i]? = some d->vs[i]? = some v->V U M Fz w d v) :
  V U M Fz w (one ds) (if h:vs.size=1 then vs[0] else .tuple vs):=by
 match ds,hs,e with
 |[d], hs, e=>
  have f:vs.size=1:=by omega
  rw[dif_pos f];exact e 0 d _ (by simp) (tc (by omega))
 |[], hs, e=>rw[dif_neg (by grind)];exact .aT vs hs e
 |a :: b :: l, hs, e=>rw[dif_neg (by grind)];exact .aT vs hs e
def Mf(b:Array Value):ResultVar->Sem Value
 |.tmp t=>pure (b.getD t undef)
 |.cell x t=>do loadVar t (<-asAddr (b.getD x undef))
theorem Nj(fn:Func)(b:Array Value):results fn b=(do
  let vs <-fn.results.mapM (Mf b)
  pure (if h:vs.size=1 then vs[0] else .tuple vs)):=by
 unfold results;congr 2
theorem lB(R:Rel U M Fz w){env:List D}{a:Act}(E:dk U M Fz w env a.tmps){fn:Func}{rs:List (Nat×Option (Option Nat))}{ds:List D}(k:fn.results.toList.mapM (JY P)=some rs)(hd:rs.mapM (JL env U)=some ds) :
  ∃v,(results fn a.tmps).run P w=.ok v w/\V U M Fz w (one ds) v:=by
 have p:∀(l:List ResultVar)(rs:List (Nat×Option (Option Nat)))(ds:List D),l.mapM (JY P)=some rs->rs.mapM (JL env U)=some ds ->
   ∃vs:List Value,(l.mapM (Mf a.tmps)).run P w=.ok vs w/\vs.length=ds.length/\∀(i:Nat) d v,ds[i]? = some d->vs[i]? = some v->V U M Fz w d v:=by
  intro l;induction l with
  |nil=>simp_all
  |cons x l ih=>
   intro rs ds q s;simp only[Qf,Option.pure_def,Option.bind_eq_bind,cr,aw] at q;obtain ⟨r,k,z,A,rfl⟩:=q;simp only[Qf,Option.pure_def,Option.bind_eq_bind,cr,aw] at s;obtain ⟨d,hd,F,G,rfl⟩:=s;obtain ⟨vs,O,W,h5⟩:=ih z F A G;have X:∃v,(Mf a.tmps x).run P w=.ok v w/\V U M Fz w d v:=by
    cases x with
    |tmp t=>simp only[JY,aw] at k;subst k;simp only[JL] at hd;have g:=(jy.1 hd).1;have e:a.tmps[t]? = some (a.tmps[t]'(by rw[E.1];exact g)):=tc _;refine ⟨_,rfl,?_⟩;rw[Xz,e];exact E.2 t _ _ hd e
    |cell y t=>
     simp only[JY,cu] at k;obtain ⟨n,Y,rfl⟩:=k;simp only[JL] at hd;split at hd
     ·rename_i b off sz Q;simp only[cr] at hd;obtain ⟨Z,f,hg⟩:=hd;have g:=(jy.1 Q).1;have e:a.tmps[y]? = some (a.tmps[y]'(by rw[E.1];exact g)):=tc _;have hv:=E.2 y _ _ Q e;obtain ⟨c,hM,ad⟩:=hv.ya f;obtain ⟨K,_⟩:=KI f;obtain ⟨h,T,hh,af,L⟩:=R.row hM K;have j:∀(i:Nat) x,Z[i]? = some x->∃u,w.cell? ⟨c,0+i,none⟩=some u/\V U M Fz w x u:=by
       intro i x m;have hi:=(jy.1 m).1;have e:h[i]? = some (h[i]'(by omega)):=tc _;exact ⟨_,by rw[N_,cell_of_row w c i h T (0,0) hh];exact e,(L i _ _ m e).1⟩
      obtain ⟨v,o,N⟩:=wZ (P:=P) Y hg j;refine ⟨v,?_,N⟩;rw[N_] at o;have eg:a.tmps.getD y undef=.pointer (some ⟨c,off,none⟩):=by simp_all
      show (do loadVar t (<-asAddr (a.tmps.getD y undef)):Sem Value).run P w=_
      grind [Go.asAddr]
     simp_all
   obtain ⟨v,ak,av⟩:=X;refine ⟨v::vs,?_,by simp[W],λi d' v' hi ax=>?_⟩
   ·simp_all
   grind
 obtain ⟨vs,q,s,O⟩:=p _ _ _ k hd;refine ⟨_,?_,one_ok (vs:=vs.toArray) (by omega) (λi d v a b=>O i d v a (by simp_all))⟩
 grind [Nj,Go.Sem.run_bind,Array.mapM_eq_mapM_toList,Go.Sem.run_map,Go.Result.andThen_ok,Go.Sem.run_pure]
end
theorem WF{P:Program}(j:P.follows .mixedOrders=true){orc:uE}(O:tf P orc){g:FuncId}{fn:Func}{T:mR}{W:Bool}{k:Nat}{ds:List D}{U U':aq}{r:D}{wr:List Nat}
  (X:P.funcs[g]? = some fn) (t:jI P fn W=some T) (h:evF1 P orc k T ds U=some (r,U',wr)) :
  Ok P g ds U r U'/\U.length<=U'.length/\∀b,b<U.length->b∉wr->U'[b]? = U[b]?:=by
 unfold jI at t;split at t
 ·rename_i c E;split at t
  ·rename_i ac rs Y Z;simp only[aw] at t;subst t;unfold evF1 at h;split at h
   ·rename_i ad;have ak:∀env U1 bV x,(x=.normal∨x=.ret)->kR P (λ_=>orc) k ac (ds++List.replicate (fn.ntmps-ds.length) (.aT [])) U []=some (x,env,U1,bV) ->
      finish ⟨fn.params.size+fn.nfree,fn.ntmps,rs,ac,W⟩ U env U1 bV=some (r,U',wr)->Ok P g ds U r U'/\U.length<=U'.length/\∀b,b<U.length->b∉wr->U'[b]? = U[b]?:=by
     intro env U1 bV x hx l e;obtain ⟨k1,_,k3⟩:=uD (orc:=λ_=>orc) (λ_=>O) _ _ _ _ _ _ _ _ _ l;unfold finish at e;split at e
     ·rename_i u m;dsimp only at m e;have av:some (one u,U1,bV.filter (·<U.length))=some (r,U',wr)->Ok P g ds U r U'/\U.length<=U'.length/\∀b,b<U.length->b∉wr->U'[b]? = U[b]?:=by
       intro he;simp only[aw,ba] at he;obtain ⟨rfl,rfl,rfl⟩:=he;refine ⟨λM Fz w f R hs F=>?_,k1,λb E hn=>k3 b E (λhw=>hn (by simp_all))⟩;refine calls_of_wp X E ?_;have G:dk U M Fz w (ds++List.replicate (fn.ntmps-ds.length) (.aT [])) (f++Array.replicate (fn.ntmps-f.size) undef):=by
        refine ⟨by simp[hs],λi d v a b=>?_⟩;rw[yBm] at a;rw[Array.getElem?_append] at b;split at a
        ·grind
        ·rename_i hi;rw[if_neg (by omega)] at b
         grind [V.undef]
       refine (Ht j (orc:=λ_=>orc) (λ_=>O) k).1 c ac U U1 M Fz w _ env { tmps:=f++Array.replicate (fn.ntmps-f.size) undef,defers:=[] } [] bV x _ Y R G l λy w' M' Fz' hd s K L=>?_;obtain ⟨v,o,p⟩:=lB (P:=P) s K Z m;have post:y.defers=[]/\∃v,(results fn y.tmps).run P w'=.ok v w'/\∃z M'' Fz'',Ending.returned v=.returned z/\Rel U1 M'' Fz'' w'/\V U1 M'' Fz'' w' (one u) z/\bQ U M Fz w U1 M'' Fz'' w':=
        ⟨hd,v,o,v,M',Fz',rfl,s,p,L⟩
       rcases hx with rfl | rfl
       ·exact post
       ·exact post
      split at e
      ·rename_i A;simp only[bJ] at A;split at e
       ·rename_i r' N;simp only[aw,ba] at e;obtain ⟨rfl,rfl,rfl⟩:=e;have q:∀b,b<U.length->U1[b]? = U[b]?:=by
         grind
        refine ⟨λM Fz w f R hs F=>?_,cT _,λ_ _ _=>rfl⟩;refine calls_of_wp X E ?_;have G:dk U M Fz w (ds++List.replicate (fn.ntmps-ds.length) (.aT [])) (f++Array.replicate (fn.ntmps-f.size) undef):=by
         refine ⟨by simp[hs],λi d v a b=>?_⟩;rw[yBm] at a;rw[Array.getElem?_append] at b;split at a
         ·grind
         ·rename_i hi;rw[if_neg (by omega)] at b
          grind [V.undef]
        refine (Ht j (orc:=λ_=>orc) (λ_=>O) k).1 c ac U U1 M Fz w _ env { tmps:=f++Array.replicate (fn.ntmps-f.size) undef,defers:=[] } [] bV x _ Y R G l λy w' M' Fz' hd s K L=>?_;obtain ⟨v,o,p⟩:=lB (P:=P) s K Z m;obtain ⟨R2,Q⟩:=Rel.forget R s L q;have post:y.defers=[]/\∃v,(results fn y.tmps).run P w'=.ok v w'/\∃z M'' Fz'',Ending.returned v=.returned z/\Rel U M'' Fz'' w'/\V U M'' Fz'' w' r' z/\bQ U M Fz w U M'' Fz'' w':=
         ⟨hd,v,o,v,_,_,rfl,R2,Gq s N p _ _,Q⟩
        rcases hx with rfl | rfl
        ·exact post
        ·exact post
       simp_all
      simp_all
     simp_all
    grind
   simp_all
  simp_all
 simp_all
def ZI(P:Program)(b:FuncId->Option mR):Prop:=∀g d,b g=some d->bq P g=true/\∃fn e,P.funcs[g]? = some fn/\jI P fn e=some d
theorem evF_ok{P:Program}(f:P.follows .mixedOrders=true){b:FuncId->Option mR}(i:ZI P b){prim:uE}(j:tf P prim)(k:Nat):∀n,tf P (evF P b prim k n):=by
 intro n;induction n with
 |zero=>intro g ds U r U' wr h;grind [evF]
 |succ n ih=>
  intro g ds U r U' wr h;simp only[evF] at h;split at h
  ·rename_i QQ d;simp only[aw] at h;subst h;exact j g ds U r U' wr d
  ·split at h
   ·rename_i l e;obtain ⟨m,fn,o,p,q⟩:=i g l e
    grind [WF]
   simp_all
end Go.Abs
end
section
namespace Go.Abs
variable[Gl]
inductive Sh where
 |int (k:IntKind)
 |bool
 |str
 |sl (e:List Sh)
 |no
 deriving Inhabited
inductive Shaped:Sh->C->Prop where
 |int {k:IntKind} {n:Int} (h:(Lit.int k n).wf=true):Shaped (.int k) (.lit (.int k n))
 |bool (b:Bool):Shaped .bool (.lit (.bool b))
 |str {s:ByteArray} (h:s.size<=maxLen):Shaped .str (.lit (.string s))
 |sl {e:List Sh} {es:List (List C)} (hl:es.length<=maxLen) (hn:∀x∈es,x.length=e.length) (h:∀(x:List C),x∈es->∀(j:Nat) s c,e[j]? = some s->x[j]? = some c->Shaped s c):Shaped (.sl e) (.cU false es)
def dM(P:Program):Nat->TypeId->Option (List Sh)
 |0,_=>none
 |f + 1, t=>
  match P.underlying t with
  |some .bool=>some [.bool]
  |some (.int k)=>some [.int k]
  |some .string=>some [.str]
  |some (.slice e)=>
   match dM P f e with
   |some s=>if s.length=P.cellsOf e/\s≠[] then some [.sl s] else none
   |none=>none
  |some (.struct g)=>
   match g.toList.foldl (λb d=>match b,dM P f d.type with
    |some l,some s=>if d.offset=l.length/\s.length=P.cellsOf d.type then some (l++s) else none
    |_,_=>none) (some []) with
   |some l=>if l.length=P.cellsOf t then some l else none
   |none=>none
  |some (.array n e)=>
   match dM P f e with
   |some s=>if s.length=P.cellsOf e/\n * s.length=P.cellsOf t then some (List.replicate n s).flatten else none
   |none=>none
  |_=>none
def Bv(w:World)(b:List Sh)(d:List C)(cs:List Value):Prop:=
 d.length=b.length/\cs.length=b.length/\(∀(i:Nat) s x,b[i]? = some s->d[i]? = some x->Shaped s x) /\
  ∀(i:Nat) x v,d[i]? = some x->cs[i]? = some v->VC (λc=>c<w.heap.size) w x v/\v.oneCell'=true
theorem Bv.append{w:World}{s1 s2:List Sh}{j o:List C}{c1 u:List Value}(z:Bv w s1 j c1)(A:Bv w s2 o u):Bv w (s1++s2) (j++o) (c1++u):=by
 obtain ⟨F,G,K,L⟩:=z;obtain ⟨O,Q,R,W⟩:=A;refine ⟨by simp_all,by simp_all,λi s x hs E=>?_,λi x v E X=>?_⟩
 ·grind
 grind
theorem Bv.nil{w:World}:Bv w [] [] []:=⟨rfl,rfl,λi s x h=>by simp at h,λi x v h=>by simp at h⟩
theorem Bv.one{w:World}{s:Sh}{x:C}{v:Value}(u:Shaped s x)(z:VC (λc=>c<w.heap.size) w x v)(A:v.oneCell'=true):Bv w [s] [x] [v]:=by
 refine ⟨rfl,rfl,λi E j hs o=>?_,λi j F o G=>?_⟩
 ·grind
 grind
theorem FP{w:World}{b:Nat}{a:Addr}{n:Nat}{cs:List Value}(h:w.cells? b a n=some cs):cs.length=n/\∀(j:Nat) v,cs[j]? = some v->w.cell? (a.add j)=some v:=by
 unfold World.cells? at h;split at h
 ·obtain ⟨d,e⟩:=Oo h
  grind
 simp_all
theorem Pp{α:Type}{n:Nat}{p:Nat->α->Prop}(h:∀i,i<n->∃a,p i a):∃l:List α,l.length=n/\∀(i:Nat) a,l[i]? = some a->p i a:=by
 induction n with
 |zero=>simp_all
 |succ n ih=>
  obtain ⟨l,d,e⟩:=ih (λi f=>h i (by omega));obtain ⟨a,g⟩:=h n (by omega);refine ⟨l++[a],by simp[d],λi b j=>?_⟩
  grind
theorem Ck{H:Type}{enc:TypeId×Value->H}{P:Program}{w:World}{b:Nat->Bool}{g:Bool}{f:Nat}{t e:TypeId}{cs:List Value}{d:DataW H}{r:List MemPlace}
  (s:P.underlying t=some (.slice e)) (h:DataW.trod enc P w 0 b g (f+1) t cs=some (d,r)) :
  cs=[.slice none 0 0]∨∃a len cap,cs=[.slice (some a) len cap]/\len<=cap/\cap<=maxLen/\∀i,i<len->∃ci l m,w.cells? 0 (a.add (i * P.cellsOf e)) (P.cellsOf e)=some ci/\DataW.trod enc P w 0 b g f e ci=some (l,m):=by
 unfold DataW.trod at h;rw[s] at h;split at h <;> rename_i j <;> first
  |(simp only[aw,reduceCtorEq] at j;done)
  |skip
 ·exact .inl rfl
 ·rename_i y a len cap;simp only[aw,TypeDesc.slice.injEq] at j;subst j;simp only at h;split at h
  ·rename_i q;simp only[cr] at h;obtain ⟨o,p,_⟩:=h;refine .inr ⟨a,len,cap,rfl,q.2.1,q.2.2,λi u=>?_⟩;obtain ⟨⟨l,m⟩,_,k⟩:=zl p i i (List.getElem?_range u);simp only[cr] at k;obtain ⟨ci,v,x⟩:=k;exact ⟨ci,l,m,v,x⟩
  ·simp at h
 ·simp at h
theorem AV{H:Type}{enc:TypeId×Value->H}{P:Program}{w:World}{b:Nat->Bool}{e:Bool}{f:Nat}{t:TypeId}{l:Array Field}{cs:List Value}{d:DataW H}{r:List MemPlace}
  (s:P.underlying t=some (.struct l)) (h:DataW.trod enc P w 0 b e (f+1) t cs=some (d,r)) :
  cs.length=P.cellsOf t/\∀j∈l.toList,∃m o,DataW.trod enc P w 0 b e f j.type ((cs.drop j.offset).take (P.cellsOf j.type))=some (m,o):=by
 unfold DataW.trod at h;rw[s] at h;split at h <;> rename_i g <;> first
  |(simp only[aw,reduceCtorEq] at g;done)
  |skip
 ·simp only[aw,TypeDesc.struct.injEq] at g;subst g;split at h
  ·rename_i u;simp only[cu] at h;obtain ⟨y,p,_⟩:=h;refine ⟨u,λj q=>?_⟩;obtain ⟨i,v⟩:=yB1.1 q;obtain ⟨⟨m,o⟩,_,x⟩:=zl p i j v;exact ⟨m,o,x⟩
  ·simp at h
 ·exact absurd rfl (‹∀(k:Array Field),some (TypeDesc.struct l)=some (TypeDesc.struct k)->False› l)
theorem BJ{H:Type}{enc:TypeId×Value->H}{P:Program}{w:World}{b:Nat->Bool}{g:Bool}{f n:Nat}{t e:TypeId}{cs:List Value}{d:DataW H}{q:List MemPlace}
  (r:P.underlying t=some (.array n e)) (h:DataW.trod enc P w 0 b g (f+1) t cs=some (d,q)) :
  cs.length=P.cellsOf t/\∀i,i<n->∃k l,DataW.trod enc P w 0 b g f e ((cs.drop (i * P.cellsOf e)).take (P.cellsOf e))=some (k,l):=by
 unfold DataW.trod at h;rw[r] at h;split at h <;> rename_i j <;> first
  |(simp only[aw,reduceCtorEq] at j;done)
  |skip
 ·simp only[aw,TypeDesc.array.injEq] at j;obtain ⟨rfl,rfl⟩:=j;split at h
  ·rename_i s;simp only[cu] at h;obtain ⟨x,m,_⟩:=h;refine ⟨s,λi u=>?_⟩;obtain ⟨⟨k,l⟩,_,v⟩:=zl m i i (List.getElem?_range u);exact ⟨k,l,v⟩
  ·simp at h
 ·exact absurd rfl (‹∀(o:Nat)(p:TypeId),some (TypeDesc.array n e)=some (TypeDesc.array o p)->False› n e)
theorem Cr{H:Type}{enc:TypeId×Value->H}{P:Program}{w:World}{O:Nat->Bool}{ak:Bool}:∀(f:Nat)(Q:Nat)(t:TypeId)(cs:List Value)(d:DataW H)(ps:List MemPlace)(R:List Sh),
  DataW.trod enc P w 0 O ak Q t cs=some (d,ps)->dM P f t=some R->∃y,Bv w R y cs:=by
 intro f;induction f with
 |zero=>grind [dM]
 |succ f ih=>
  intro Q t cs d ps R v hs;cases Q with
  |zero=>simp[DataW.trod] at v
  |succ Q=>
   simp only[dM] at hs;split at hs
   ·
    rename_i E;simp only[aw] at hs;subst hs;unfold DataW.trod at v;rw[E] at v;split at v <;> simp_all
    subst_vars
    exact ⟨_,Bv.one (.bool _) (.lit _) rfl⟩
   ·
    rename_i k E;simp only[aw] at hs;subst hs;unfold DataW.trod at v;rw[E] at v;split at v <;> simp_all
    obtain ⟨⟨rfl,a1⟩,_⟩:=v;exact ⟨_,Bv.one (.int a1) (.lit _) rfl⟩
   ·
    rename_i E;simp only[aw] at hs;subst hs;unfold DataW.trod at v;rw[E] at v;split at v <;> simp_all
    exact ⟨_,Bv.one (.str v.1) (.lit _) rfl⟩
   ·
    rename_i e E;split at hs
    ·rename_i s T;split at hs
     ·rename_i o;obtain ⟨o,av⟩:=o;simp only[aw] at hs;subst hs;have bd:0<s.length:=List.length_pos_iff.2 av;rcases Ck E v with rfl | ⟨r,len,a2,rfl,bt,bu,W⟩
      ·refine ⟨[.cU false []],Bv.one (.sl (by simp) (λx h=>by simp at h) (λx h=>by simp at h)) ?_ rfl⟩;exact .cU 0 none 0 (by simp) (λ_=>rfl) (λ_ _=>undef) (λe h=>by simp at h) (by simp) (λi j e d h=>by simp at h) (λi j e d h=>by simp at h)
      ·rw[<-o] at W;have a3:∀i,i<len->∃(p:List C×List Value),w.cells? 0 (r.add (i * s.length)) s.length=some p.2/\Bv w s p.1 p.2:=by
        intro i L;obtain ⟨ci,di,pi,F,A⟩:=W i L;obtain ⟨y,q⟩:=ih Q e ci di pi s A T;exact ⟨(y,ci),F,q⟩
       obtain ⟨l,bv,K⟩:=Pp a3;have X:0<len->r.spot=none/\r.block<w.heap.size:=by
        intro h0;obtain ⟨ci,di,pi,F,_⟩:=W 0 h0;obtain ⟨h3,h4⟩:=FP F;have hc:=h4 0 _ (dB (by omega));have e0:(r.add (0 * s.length)).add 0=r:=by simp[Addr.add]
        rw[e0] at hc;exact ⟨World.cell?_spot hc,block_lt_of_cell hc⟩
       let g:Nat->Nat->Value:=λi j=>(((l[i]?).map (·.2)).bind (·[j]?)).getD undef
       have G:∀(i j:Nat)(x:List C)(c:C),(l.map (·.1))[i]? = some x->x[j]? = some c->r=⟨r.block,r.off,none⟩/\r.block<w.heap.size/\w.cell? ⟨r.block,r.off+i * s.length+j,none⟩=some (g i j) /\
         VC (λc=>c<w.heap.size) w c (g i j)/\(g i j).oneCell'=true:=by
        intro i j x c z hc;simp only[jX,cu] at z;obtain ⟨p,Y,rfl⟩:=z;obtain ⟨F,A,h3,h4,h5⟩:=K i p Y;have L:i<len:=by grind
        obtain ⟨bw,b0⟩:=X (by omega);have b1:r=⟨r.block,r.off,none⟩:=by cases r;simp_all
        grind [FP,dP]
       have be:(l.map (·.1)).length=len:=by grind
       refine ⟨[.cU false (l.map (·.1))],Bv.one (.sl (by omega) (λx z=>?_) (λx z j sj c F A=>?_)) ?_ rfl⟩
       ·simp only[jJ] at z;obtain ⟨p,Y,rfl⟩:=z;obtain ⟨i,L⟩:=yB1.1 Y;exact (K i p L).2.1
       ·simp only[jJ] at z;obtain ⟨p,Y,rfl⟩:=z;obtain ⟨i,L⟩:=yB1.1 Y;exact (K i p L).2.2.2.1 j sj c F A
       ·have:=VC.cU (Fz:=λc=>c<w.heap.size) (w:=w) (nn:=false) (es:=l.map (·.1)) s.length (some r) a2 (by simp) (λh=>by cases h) g (λx z=>?_) (by omega) (λi j x c F A=>?_) (λi j x c F A=>(G i j x c F A).2.2.2.1)
        ·grind
        ·simp only[jJ] at z;obtain ⟨p,Y,rfl⟩:=z;obtain ⟨i,L⟩:=yB1.1 Y;exact (K i p L).2.1
        grind
     simp_all
    simp_all
   ·
    rename_i fs E;split at hs
    ·rename_i l hl;split at hs
     ·rename_i b2;simp only[aw] at hs;subst hs;obtain ⟨F,A⟩:=AV E v;have Z:∀(fl:List Field)(b:List Sh)(ax:List C),(∀u∈fl,u∈fs.toList)->b.length<=cs.length->Bv w b ax (cs.take b.length) ->
        fl.foldl (λb u=>match b,dM P f u.type with
         |some l,some s=>if u.offset=l.length/\s.length=P.cellsOf u.type then some (l++s) else none
         |_,_=>none) (some b)=some l->l.length<=cs.length->∃y,Bv w l y (cs.take l.length):=by
       intro fl;induction fl with
       |nil=>grind
       |cons u fl a4=>
        intro b ax N bh a5 he a6;simp only[List.foldl_cons] at he;have a7:∀(gl:List Field),gl.foldl (λb u=>match b,dM P f u.type with
         |some l,some s=>if u.offset=l.length/\s.length=P.cellsOf u.type then some (l++s) else none
         |_,_=>none) none=none:=by
         intro gl;induction gl with
         |nil=>rfl
         |cons _ _ ih=>simp_all
        cases a0:dM P f u.type with
        |none=>simp_all
        |some s=>
         rw[a0] at he;simp only at he;split at he
         ·rename_i hc;obtain ⟨bi,o⟩:=hc;obtain ⟨di,pi,hd⟩:=A u (N u (by simp));obtain ⟨y,q⟩:=ih Q u.type _ di pi s hd a0;have a8:b.length+s.length<=cs.length:=by
           have:=q.2.1
           grind
          refine a4 (b++s) (ax++y) (λx z=>N x (by simp[z])) (by simp_all) ?_ he a6;have af:cs.take (b++s).length=cs.take b.length++(cs.drop u.offset).take (P.cellsOf u.type):=by grind
          rw[af];exact a5.append q
         simp_all
      obtain ⟨y,q⟩:=Z fs.toList [] [] (λ_ h=>h) (by simp) (by grind [Bv.nil]) hl (by omega)
      grind
     simp_all
    simp_all
   ·
    rename_i n e E;split at hs
    ·rename_i s T;split at hs
     ·rename_i o;obtain ⟨o,b3⟩:=o;simp only[aw] at hs;subst hs;obtain ⟨F,A⟩:=BJ E v;rw[<-o] at A;have Z:∀m,m<=n->∃y,Bv w (List.replicate m s).flatten y (cs.take (m * s.length)):=by
       intro m;induction m with
       |zero=>intro _;exact ⟨[],by grind [Bv.nil]⟩
       |succ m a9=>
        intro hm;obtain ⟨y,q⟩:=a9 (by omega);obtain ⟨di,pi,hd⟩:=A m (by omega);obtain ⟨ys,bc⟩:=ih Q e _ di pi s hd T;refine ⟨y++ys,?_⟩;have e1:(List.replicate (m+1) s).flatten=(List.replicate m s).flatten++s:=by grind [List.replicate_succ']
        rw[e1,Nat.succ_mul,List.take_add];exact q.append bc
      obtain ⟨y,q⟩:=Z n (cT _)
      grind
     simp_all
    simp_all
   simp_all
end Go.Abs
end
section
namespace Go.Abs
variable[Gl]
open Go.RowKit
theorem Rel.start(w:World)(i:Gl.ok (λc=>c<w.heap.size) w):Rel [] (λ_=>none) (λc=>c<w.heap.size) w:={
 blk:=λb c h=>by simp at h
 inj:=λb j c h=>by simp at h
 fz:=λc h=>h
 gl:=i }
theorem V.Qz{w:World}{j:List Sh}{o:List C}{vs:Array Value}(h:Bv w j o vs.toList){U:aq}{M:Nat->Option Nat}:V U M (λc=>c<w.heap.size) w (.agg (o.map .c)) (.agg vs):=by obtain ⟨z,A,_,s⟩:=h;refine .agg vs (by simp_all) (λi d v a b=>?_);simp only[jX,cu] at a;obtain ⟨x,u,rfl⟩:=a;exact .c (s i x v u (by simp_all)).1
theorem V.PL{w:World}{s:Sh}{i:List C}{v:Value}(h:Bv w [s] i [v]){U:aq}{M:Nat->Option Nat}:∃x,i=[x]/\Shaped s x/\V U M (λc=>c<w.heap.size) w (.c x) v:=by
 obtain ⟨u,_,j,o⟩:=h
 match i,u,j,o with
 |[x],_,j,o=>exact ⟨x,rfl,j 0 s x rfl rfl,.c (o 0 x v rfl rfl).1⟩
theorem bQ.below{U:aq}{M:Nat->Option Nat}{Fz:Nat->Prop}{w w':World}(R:Rel U M Fz w)(i:Below w.heap.size w w'):bQ U M Fz w U M Fz w':={
 size:=i.size
 frame:=λc o _=>i.block c o
 oA:=λb c h=>.inl ⟨b,h⟩
 fz:=λc h=>⟨h,i.block c (R.fz c h)⟩
 rS:=λc h=>.inl h
 sa:=λc j T u h=>⟨j,by rw[i.block c (KR.1 h).1];exact h,rfl⟩
 cX:=λb s h=>⟨s,h,cT _,λ_=>rfl⟩
 out:=⟨i.os,i.tape,i.output⟩ }
theorem Rel.below{U:aq}{M:Nat->Option Nat}{Fz:Nat->Prop}{w w':World}(R:Rel U M Fz w)(i:Below w.heap.size w w'):Rel U M Fz w':={
 blk:=λb c h=>by obtain ⟨j,ob,o,h2,h3,s⟩:=R.blk b c h;exact ⟨j,ob,o,h2,by rw[i.block c (R.lt h).2];exact h3,s.mono (bQ.below R i)⟩
 inj:=R.inj
 fz:=λc h=>EM (R.fz c h) i.size
 gl:=Gl.mono (bQ.below R i).fz R.gl }
noncomputable def NW(P:Program)(b:List Nat)(g:FuncId):Option mR:=
 match P.funcs[g]? with
 |some fn=>if bq P g then jI P fn (!b.contains g) else none
 |none=>none
theorem Sb(P:Program)(b:List Nat):ZI P (NW P b):=by
 intro g d h
 grind [NW]
end Go.Abs
end
section
namespace Go.Abs
variable[Gl]
abbrev AL:=List (Nat×D)
def lk(t:Nat):AL->Option D
 |[]=>none
 |(s,d)::al=>match Nat.beq s t with | true=>some d | false=>lk t al
def xq(n:Nat)(al:AL):List D:=(List.range n).map λt=>(lk t al).getD .any
def Env(n:Nat)(al:AL)(e:List D):Prop:=e.length=n/\∀t d,lk t al=some d->e[t]? = some d
def fU(n:Nat)(U:aq)(M:Nat->Option Nat)(Fz:Nat->Prop)(w:World)(al:AL)(b:Array Value):Prop:=
 b.size=n/\∀t d,lk t al=some d->∃v,b[t]? = some v/\V U M Fz w d v
section
variable{P:Program}{orc:uE}{U U' U1 U2:aq}{M M':Nat->Option Nat}{Fz Fz':Nat->Prop}{w w':World}{n:Nat}{al al1 al2:AL}
theorem fU.eE{o:Array Value}(h:fU n U M Fz w al o):dk U M Fz w (xq n al) o/\Env n al (xq n al):=by
 refine ⟨⟨by simp[xq,h.1],λi d v a b=>?_⟩,by simp[xq],λt d u=>?_⟩
 ·simp only[xq,jX,cu] at a;obtain ⟨j,A,rfl⟩:=a;have:j=i:=by
   grind
  subst this;cases x:lk j al with
  |none=>exact .any v
  |some d=>
   obtain ⟨E,s,F⟩:=h.2 j d x
   simp_all
 ·obtain ⟨v,s,_⟩:=h.2 t d u;have z:t<n:=by have:=(KR.1 s).1;rw[h.1] at this;omega
  grind [xq]
theorem fU.Zc{i:Array Value}{e:List D}(h:dk U M Fz w e i)(j:Env n al e):fU n U M Fz w al i:=by
 refine ⟨by rw[h.1,j.1],λt d s=>?_⟩;have u:=j.2 t d s;have o:t<i.size:=by rw[h.1];grind
 exact ⟨i[t],tc o,h.2 t d _ u (tc o)⟩
def Sem(P:Program)(ac:br)(n:Nat)(al:AL)(U:aq)(Q:qd->AL->aq->Prop):Prop:=
 ∀ (c : Code), cZ P c = some ac -> ∀ (M : Nat -> Option Nat) (Fz : Nat -> Prop) (w : World) (a : Act) (K : Exit -> Act -> World -> Prop), Rel U M Fz w -> fU n U M Fz w al a.tmps ->
  (∀x b U' d w' M' Fz',Q x b U'->d.defers=a.defers->Rel U' M' Fz' w'->fU n U' M' Fz' w' b d.tmps->bQ U M Fz w U' M' Fz' w'->U.length<=U'.length->K (Ic x) d w')->c.wp P K a w
def kS(P:Program)(ac:br)(k:Nat)(n:Nat)(al:AL)(U:aq)(Q:qd->AL->aq->Prop):Prop:=
 ∀ (c : Code), cZ P c = some ac -> ∀ (M : Nat -> Option Nat) (Fz : Nat -> Prop) (w : World) (a : Act) (K : Exit -> Act -> World -> Prop), Rel U M Fz w -> fU n U M Fz w al a.tmps ->
  (∀x b U' d w' M' Fz',Q x b U'->d.defers=a.defers->Rel U' M' Fz' w'->fU n U' M' Fz' w' b d.tmps->bQ U M Fz w U' M' Fz' w'->U.length<=U'.length->K (Ic x) d w')->Code.rounds P c K k a w
def Dw(d b:D):Prop:=∀U M Fz w v,V U M Fz w d v->V U M Fz w b v
theorem Dw.refl(d:D):Dw d d:=λ_ _ _ _ _ h=>h
def Sub(al1:AL):AL->Prop
 |[]=>True
 |(t,d)::al2=>(∃b,lk t al1=some b/\Dw b d)/\Sub al1 al2
theorem Sub.get{al1 al2:AL}(h:Sub al1 al2){t:Nat}{d:D}(i:lk t al2=some d):∃j,lk t al1=some j/\Dw j d:=by
 induction al2 with
 |nil=>grind [lk]
 |cons p al2 ih=>
  obtain ⟨s,u⟩:=p;simp only[lk] at i;split at i
  ·rename_i o;have:=cY o;simp only[aw] at i;subst this i;exact h.1
  ·exact ih h.2 i
theorem Sub.one{al1 al2:AL}{t:Nat}{d i:D}(h:lk t al1=some i)(hd:Dw i d)(r:Sub al1 al2):Sub al1 ((t,d)::al2):=⟨⟨i,h,hd⟩,r⟩
theorem Sub.same{al1 al2:AL}{t:Nat}{d:D}(h:lk t al1=some d)(r:Sub al1 al2):Sub al1 ((t,d)::al2):=⟨⟨d,h,Dw.refl d⟩,r⟩
theorem fU.sub {i:Array Value} (h:fU n U M Fz w al1 i) (hs:Sub al1 al2):fU n U M Fz w al2 i:=
 ⟨h.1,fun t d j=>by
  obtain ⟨o,s,u⟩:=hs.get j
  obtain ⟨v,x,z⟩:=h.2 t o s
  exact ⟨v,x,u _ _ _ _ _ z⟩⟩
def D.low(m:Nat):D->Bool
 |.c _=>true
 |.any=>true
 |.ptr b _ _=>b<m
 |.sl b _ _ _ _=>b<m
 |.mp b=>b<m
 |.fn _ a b=>cF m a&&cF m b
 |.agg ds=>cF m ds
 |.aT ds=>cF m ds
where cF (m:Nat):List D->Bool
 |[]=>true
 |d::ds=>d.low m&&cF m ds
theorem D.aV{m:Nat}:∀{ds:List D},D.low.cF m ds=true->∀(i:Nat) d,ds[i]? = some d->d.low m=true:=by
 intro ds;induction ds with
 |nil=>simp_all
 |cons x ds ih=>
  intro h i d j;simp only[D.low.cF,bJ] at h
  grind
def Ob.low(m:Nat):Ob->Bool
 |.cells i=>D.low.cF m i
 |.map j _=>j.all λe=>e.2.1.low m
 |.gone _=>true
theorem V.CU{m:Nat}{d:D}{v:Value}(h:V U M Fz w d v)(j:d.low m=true):V (U.take m) (cG M m) Fz w d v:=by
 induction h with
 |c h=>exact .c h
 |any v=>exact .any v
 |ptr a u h o s=>simp only[D.low,bb] at j;exact .ptr a u (by simp_all) o (λA=>by grind [cG])
 |sl a n E F u h o s=>simp only[D.low,bb] at j;exact .sl a n E F u (by simp_all) o (λA=>by simpa[cG,j] using s A)
 |mp c u h s=>simp only[D.low,bb] at j;exact .mp c u (by simp_all) (λA=>by grind [cG])
 |fn x L z O s Q G K=>simp only[D.low,bJ] at j;exact .fn x L z O (λi d v a b=>G i d v a b (D.aV j.1 i d a)) (λi d v a b=>K i d v a b (D.aV j.2 i d a))
 |agg x z s ih=>simp only[D.low] at j;exact .agg x z (λi d v a b=>ih i d v a b (D.aV j i d a))
 |aT x z s ih=>simp only[D.low] at j;exact .aT x z (λi d v a b=>ih i d v a b (D.aV j i d a))
theorem Rel.CU{m:Nat}(R:Rel U M Fz w)(O:(U.take m).all (Ob.low m)=true):Rel (U.take m) (cG M m) Fz w:=by
 refine ⟨λb c h=>?_,λb Q c h F=>?_,R.fz,R.gl⟩
 ·unfold cG at h;split at h
  ·rename_i Y;obtain ⟨W,z,o,Z,X,G⟩:=R.blk b c h;have A:(U.take m)[b]? = some z:=by simp_all
   have j:z.low m=true:=gH.1 O z (yl A);refine ⟨W,z,o,A,X,?_⟩;cases z with
   |cells cs=>obtain ⟨s,T,K,u,E⟩:=G;exact ⟨s,T,K,u,λi d v x y=>⟨(E i d v x y).1.CU (D.aV j i d x),(E i d v x y).2⟩⟩
   |map es L=>obtain ⟨s,K,u,E⟩:=G;refine ⟨s,K,u,λi k d n e x y=>?_⟩;obtain ⟨p,q,r⟩:=E i k d n e x y;simp only[Ob.low,gH] at j;exact ⟨p,q,r.CU (j (k,d,n) (yl x))⟩
   |gone n=>exact G.elim
  simp_all
 ·unfold cG at h F;split at h
  ·split at F
   ·exact R.inj b Q c h F
   simp_all
  simp_all
theorem bQ.CU{m:Nat}(E:bQ U M Fz w U1 M' Fz' w')(j:U.length<=m):bQ U M Fz w (U1.take m) (cG M' m) Fz' w':=by
 refine ⟨E.size,E.frame,λb c h=>?_,E.fz,E.rS,E.sa,λb o h=>?_,E.out⟩
 ·unfold cG at h;split at h
  ·exact E.oA b c h
  simp_all
 ·obtain ⟨i,x,s,z⟩:=E.cX b o h;have u:b<m:=EM (jy.1 h).1 j;exact ⟨i,by simp_all,s,λA=>by simp only[cG,if_pos u];simp_all⟩
inductive Wk (k:Nat) (al1:AL) (U1:aq):AL->aq->Prop where
 |refl:Wk k al1 U1 al1 U1
 |same {al2:AL} (h:Sub al1 al2):Wk k al1 U1 al2 U1
 |cut {al2:AL} (m:Nat) (hm:k<=m) (hs:m<=U1.length) (h:Sub al1 al2) (hd:al2.all (λp=>p.2.low m)=true) (hl:(U1.take m).all (Ob.low m)=true):Wk k al1 U1 al2 (U1.take m)
theorem lk_mem{t:Nat}{d:D}:∀{al:AL},lk t al=some d->(t,d)∈al:=by
 intro al;induction al with
 |nil=>grind [lk]
 |cons p al ih=>grind [lk,Nat.eq_of_beq_eq_true]
theorem Wk.use{U2:aq}(h:Wk U.length al1 U1 al2 U2){i:Array Value}(R:Rel U1 M' Fz' w')(A:fU n U1 M' Fz' w' al1 i)(E:bQ U M Fz w U1 M' Fz' w')(u:U.length<=U1.length) :
  ∃j,Rel U2 j Fz' w'/\fU n U2 j Fz' w' al2 i/\bQ U M Fz w U2 j Fz' w'/\U.length<=U2.length:=by
 cases h with
 |refl=>grind
 |same h=>exact ⟨M',R,A.sub h,E,u⟩
 |cut m x hs h hd o=>refine ⟨cG M' m,R.CU o,⟨A.1,λt d s=>?_⟩,E.CU x,by simp_all⟩;obtain ⟨v,z,F⟩:=(A.sub h).2 t d s;exact ⟨v,z,F.CU (gH.1 hd (t,d) (lk_mem s))⟩
end
end Go.Abs
end
