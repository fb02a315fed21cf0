/- DfwJ, DfwK, DfwL, DfwM, DfwWq, DfwMk, DfwN, DfwO, DfwQ, DfwR, DfwS, DfwT, DfwU -/
import Derived.Test.YtdfbphphacpkdaaGreatFwA
import Derived.LoopN
import Derived.LoopNIn
import Derived.Orders
import Derived.OrdersIn
import Derived.RangeFuncCalls
import Derived.RangeFuncLeaves
set_option linter.all false
section
namespace Go.Abs
variable[Gl]
def Ok(P:Program)(g:FuncId)(ds:List D)(σ:ae)(r:D)(σ':ae):Prop:=
 ∀ (M : Nat -> Option Nat) (Fz : Nat -> Prop) (w : World) (b : Array Value), Rel σ M Fz w -> b.size = ds.length -> (∀ (i : Nat) d v, ds[i]? = some d -> b[i]? = some v -> V σ M Fz w d v) ->
  Calls P g b w λe w'=>∃v M' Fz',e=.returned v/\Rel σ' M' Fz' w'/\V σ' M' Fz' w' r v/\ba σ M Fz w σ' M' Fz' w'
def aN(P:Program)(g:FuncId):Bool:=
 match P.funcs[g]? with
 |some fn=>fn.body.isSome&&fn.name != "runtime.NumGoroutine"
 |none=>false
def si(P:Program)(orc:ta):Prop:=
 ∀g ds σ r σ' wr,orc g ds σ=some (r,σ',wr)->aN P g=true/\Ok P g ds σ r σ'/\σ.length<=σ'.length/\∀b,b<σ.length->b∉wr->σ'[b]? = σ[b]?
abbrev fA:=Option Nat->ta
def lP(P:Program)(orc:fA):Prop:=∀t,si P (orc t)
section
variable{P:Program}{σ σ':ae}{M M':Nat->Option Nat}{Fz:Nat->Prop}{w w':World}{env:List D}{a:Act}{orc:ta}
theorem DC{d:D}{es:List (Value×D×Nat)}(h:Ev σ d=some es):(d=.c (.lit (.map none))/\es=[])∨(∃b e,d=.mp b/\σ[b]? = some (.map es e))∨∃f,d=.c (.Ib f)/\es=f.map λp=>(p.1,.c p.2,0):=by
 unfold Ev at h;split at h
 ·simp_all
 ·simp_all
 ·grind
 simp_all
def Pu(ao:jB)(env:List D):D:=
 match ao with
 |.load _ x=>x.ev env
 |_=>.any
inductive Out (P:Program) (s:Sem Next) (σ:ae) (M:Nat->Option Nat) (Fz:Nat->Prop) (w:World) (at_:D):jB->ae->D->List Nat->Prop where
 |y {ao:jB} {d:D} (hc:cat ao=0) (h:Yields P s σ M Fz w d):Out P s σ M Fz w at_ ao σ d []
 |l {ao:jB} {d:D} {σ':ae} (hc:cat ao=1) (hσ:σ'=σ) (h:(∀b off sz c cs,at_=.ptr b off sz->M b=some c->σ[b]? = some (.cells cs)->∃arr T,w.heap[c]? = some (.cells arr T (0,0))/\cs.length<=arr.size/\∀(i:Nat) d v,cs[i]? = some d->arr[i]? = some v->V σ M Fz w d v/\v.oneCell'=true)->Yields P s σ M Fz w d):Out P s σ M Fz w at_ ao σ' d []
 |a {ao:jB} {d:D} {ob:Ob} (hc:cat ao=2) (h:(∀c,Fz c->c<w.heap.size)->ai P s σ M Fz w ob d):Out P s σ M Fz w at_ ao (σ++[ob]) d []
 |g {ao:jB} {d:D} {σ':ae} {wr:List Nat} (hc:cat ao=3) (h:Rel σ M Fz w->c_ P s σ M Fz w σ' d):Out P s σ M Fz w at_ ao σ' d wr
theorem BD(bb:Gl.ok Fz w)(E:cR σ M Fz w env a.tmps){o:Oper}{ao:jB}{d:D}{wr:List Nat}(g:jG P o.op o.type=some ao)(b4:xY ao=false)
  (h:aR P orc ao env σ=some (d,σ',wr)):Out P (execOp a.eval o) σ M Fz w (Pu ao env) ao σ' d wr:=by
 cases j:o.op with
 |move x=>rw[j] at g;simp only[jG,bU] at g;obtain ⟨G,p,rfl⟩:=g;simp only[aR,aj,aM] at h;obtain ⟨rfl,rfl,rfl⟩:=h;exact .y rfl (Vw E (.inl j) p)
 |assign x=>rw[j] at g;simp only[jG,bU] at g;obtain ⟨G,p,rfl⟩:=g;simp only[aR,aj,aM] at h;obtain ⟨rfl,rfl,rfl⟩:=h;exact .y rfl (Vw E (.inr j) p)
 |pick c x y=>rw[j] at g;simp only[jG,Option.bind_eq_bind,b_,aj] at g;obtain ⟨oc,bc,G,p,oy,hy,rfl⟩:=g;simp only[aR,bU,aM] at h;obtain ⟨t,W,rfl,rfl,rfl⟩:=h;exact .y rfl (Zq E j bc p hy W)
 |alloc t=>rw[j] at g;simp only[jG,bU] at g;obtain ⟨z,T,rfl⟩:=g;simp only[aR,aj,aM] at h;obtain ⟨rfl,rfl,rfl⟩:=h;exact .a rfl (λO=>SH O j T)
 |box t x=>rw[j] at g;simp only[jG,bU] at g;obtain ⟨G,p,rfl⟩:=g;simp only[aR,bU,aM] at h;obtain ⟨cs,K,rfl,rfl,rfl⟩:=h;exact .a rfl (λO=>box_ok O E j p K)
 |build t ax=>
  rw[j] at g;simp only[jG,Option.bind_eq_bind,b_] at g;obtain ⟨z,T,u,q,g⟩:=g;cases u <;> simp only[b_,aj,reduceCtorEq] at g
  ·rename_i len e;obtain ⟨n,v,qs,Y,rfl⟩:=g;simp only[aR,bU,aM] at h;obtain ⟨cs,K,rfl,rfl,rfl⟩:=h;exact .y rfl (HZ E j T (.inr ⟨len,e,n,q,v,rfl⟩) Y K)
  ·rename_i fs;obtain ⟨ps,bd,qs,Y,rfl⟩:=g;simp only[aR,bU,aM] at h;obtain ⟨cs,K,rfl,rfl,rfl⟩:=h;exact .y rfl (HZ E j T (.inl ⟨fs,ps,q,bd,rfl⟩) Y K)
 |buildSlice t len ax=>
  rw[j] at g;simp only[jG,Option.bind_eq_bind,b_] at g;obtain ⟨u,q,g⟩:=g;cases u <;> simp only[b_,reduceCtorEq] at g
  obtain ⟨n,v,z,T,g⟩:=g;split at g
  ·grind
  ·rename_i A;simp only[b_,aj] at g;obtain ⟨qs,Y,rfl⟩:=g;simp only[aR,bU,aM] at h;obtain ⟨cs,K,rfl,rfl,rfl⟩:=h;exact .a rfl (λO=>Pw O E j q v T A Y K)
 |load t x=>
  rw[j] at g;simp only[jG,Option.bind_eq_bind,b_,aj] at g;obtain ⟨n,v,G,p,rfl⟩:=g;simp only[aR] at h;have Z:wr=[]:=by
   split at h
   ·simp only[Option.bind_eq_bind,b_,aj,aM] at h;grind
   ·simp only[Option.bind_eq_bind,b_,aj,aM] at h;grind
   simp_all
  subst Z;refine .l rfl ?_ (λhR=>(Xh E j p v hR h).2);revert h;split
  ·simp only[Option.bind_eq_bind,b_,aj,aM];simp_all
  ·simp only[Option.bind_eq_bind,b_,aj,aM];simp_all
  ·simp
 |store t x y=>
  rw[j] at g;simp only[jG,Option.bind_eq_bind,b_,aj] at g;obtain ⟨n,v,G,p,oy,hy,rfl⟩:=g;simp only[aR] at h;split at h
  ·rename_i b off sz L;simp only[Option.bind_eq_bind,b_] at h;obtain ⟨cs,K,xs,be,h⟩:=h;split at h
   ·rename_i F;simp only[aj,aM] at h;obtain ⟨rfl,rfl,rfl⟩:=h;exact .g rfl (λR=>Ur R E j p hy v L K be F)
   simp_all
  simp_all
 |nilCheck x=>
  rw[j] at g;simp only[jG,bU] at g;obtain ⟨G,p,rfl⟩:=g;simp only[aR] at h;have Z:wr=[]:=by grind
  subst Z;obtain ⟨rfl,hg⟩:=VH (P:=P) E j p h;exact .y rfl hg
 |binOp op t x y t2=>
  rw[j] at g;simp only[jG] at g;cases q:P.underlying t with
  |none=>rw[q] at g;simp only[Option.bind_none,aj] at g;subst g;simp only[aR,bU,aM] at h;obtain ⟨U,hd,rfl,rfl,rfl⟩:=h;exact .y rfl (ju E (by simp_all) (by simp_all))
  |some u=>
   rw[q] at g;simp only[Option.bind_some] at g;cases hk:xg u with
   |none=>rw[hk] at g;simp only[aj] at g;subst g;simp only[aR,bU,aM] at h;obtain ⟨U,hd,rfl,rfl,rfl⟩:=h;exact .y rfl (ju E (by simp_all) (by simp_all))
   |some k=>
    rw[hk] at g;have aa:∀neg,tH k neg x y=some ao->∃k' ab G,ao=.gY k' ab G:=by
     intro neg bh;unfold tH at bh
     grind [Option.map_eq_some_iff]
    cases op <;> simp only[reduceCtorEq] at g
    ·obtain ⟨k',ab,G,rfl⟩:=aa false g;simp only[aR,bU,aM] at h;obtain ⟨b,hb,rfl,rfl,rfl⟩:=h;exact .y rfl (Kg (neg:=false) E (by simpa using j) q hk g hb)
    ·obtain ⟨k',ab,G,rfl⟩:=aa true g;simp only[aR,bU,aM] at h;obtain ⟨b,hb,rfl,rfl,rfl⟩:=h;exact .y rfl (Kg (neg:=true) E (by simpa using j) q hk g hb)
 |unOp op t x=>rw[j] at g;simp only[jG,aj] at g;subst g;simp only[aR,bU,aM] at h;obtain ⟨U,hd,rfl,rfl,rfl⟩:=h;exact .y rfl (ju E (by simp_all) (by simp_all))
 |convert s t x=>rw[j] at g;simp only[jG,aj] at g;subst g;simp only[aR,bU,aM] at h;obtain ⟨U,hd,rfl,rfl,rfl⟩:=h;exact .y rfl (ju E (by simp_all) (by simp_all))
 |makeFunc f first cap=>rw[j] at g;simp only[jG,Option.bind_eq_bind,b_,aj] at g;obtain ⟨o1,h1,o2,h2,rfl⟩:=g;simp only[aR,aj,aM] at h;obtain ⟨rfl,rfl,rfl⟩:=h;exact .y rfl (Y_ E j h1 h2)
 |makeMap t r=>
  rw[j] at g;cases r with
  |some _=>grind [jG]
  |none=>simp only[jG,aj] at g;subst g;simp only[aR,aj,aM] at h;obtain ⟨rfl,rfl,rfl⟩:=h;exact .a rfl (λO=>Sa j)
 |makeSlice t x y=>
  rw[j] at g;simp only[jG,Option.bind_eq_bind,b_] at g;obtain ⟨u,q,g⟩:=g;cases u <;> simp only[b_,reduceCtorEq] at g
  obtain ⟨n,v,z,T,i,X,g⟩:=g;split at g
  ·grind
  ·rename_i A;simp only[b_,aj] at g;obtain ⟨G,p,oy,hy,rfl⟩:=g;simp only[aR,Option.bind_eq_bind,b_] at h;obtain ⟨l,hl,c,bi,h⟩:=h;split at h
   ·rename_i F;simp only[aj,aM] at h;obtain ⟨rfl,rfl,rfl⟩:=h;exact .a rfl (λO=>mk_ok O E j q v T X A p hy hl bi F)
   simp_all
 |slice t x lo X mx=>
  rw[j] at g;cases mx with
  |some mx=>
   cases lo with
   |none=>grind [jG]
   |some lo => cases X with
    |none=>grind [jG]
    |some X=>
     simp only[jG,Option.bind_eq_bind,b_] at g;obtain ⟨u,q,g⟩:=g;cases u <;> simp only[b_,aj,reduceCtorEq] at g
     obtain ⟨n,v,G,p,bk,a0,bl,a1,b5,bt,rfl⟩:=g;simp only[aR] at h;split at h
     ·rename_i b off len es sz L;simp only[Option.bind_eq_bind,b_] at h;obtain ⟨cs,hr,m,h0,h',h1,l,h2,h⟩:=h;split at h
      ·rename_i F;obtain ⟨rfl,rfl⟩:=F;simp only[aj,aM] at h;obtain ⟨rfl,rfl,rfl⟩:=h;exact .y rfl (Xf (P:=P) E j p a0 a1 bt q v L hr (b_.2 h0) (b_.2 h1) (b_.2 h2))
      simp_all
     simp_all
  |none=>
   simp only[jG,Option.bind_eq_bind,b_] at g;obtain ⟨u,q,g⟩:=g;cases u <;> simp only[b_,aj,reduceCtorEq] at g
   ·subst g;simp only[aR,bU,aM] at h;obtain ⟨U,hd,rfl,rfl,rfl⟩:=h;exact .y rfl (ju E (by simp_all) (by simp_all))
   rotate_left
   ·rename_i m e;split at g
    ·simp only[b_] at g;obtain ⟨k,hk,G,p,g⟩:=g;split at g
     ·rename_i h1;subst h1;simp only[aj] at g;subst g;simp only[aR] at h;split at h
      ·rename_i cs off L;split at h
       ·rename_i ad;simp only[aj,aM] at h;obtain ⟨rfl,rfl,rfl⟩:=h;exact .y rfl (Xo (P:=P) E j p q hk L ad)
       ·simp at h
      ·simp at h
     ·simp at g
    ·simp at g
   ·obtain ⟨n,v,G,p,bk,a0,bl,a1,rfl⟩:=g;simp only[aR] at h;have Z:wr=[]:=by
     split at h
     ·simp only[Option.bind_eq_bind,b_,aj,aM] at h;grind
     ·grind [Option.bind_eq_some_iff]
     ·grind [Option.bind_eq_some_iff]
     simp_all
    subst Z;obtain ⟨rfl,hg⟩:=slc_ok (P:=P) E j p a0 a1 q v h;exact .y rfl hg
 |fieldAddr s x f=>
  rw[j] at g;simp only[jG,Option.bind_eq_bind,b_] at g;obtain ⟨u,q,g⟩:=g;cases u <;> simp only[b_,reduceCtorEq] at g
  obtain ⟨fd,a2,n,v,g⟩:=g;split at g
  ·grind
  ·rename_i A;simp only[b_,aj] at g;obtain ⟨G,p,rfl⟩:=g;simp only[aR] at h;have Z:wr=[]:=by
    grind
   subst Z;obtain ⟨rfl,hg⟩:=fld_ok (P:=P) E j p q a2 v A h;exact .y rfl hg
 |field t x f=>
  rw[j] at g;simp only[jG,Option.bind_eq_bind,b_] at g;obtain ⟨u,q,g⟩:=g;cases u <;> simp only[b_,aj,reduceCtorEq] at g
  obtain ⟨fd,a2,n,v,G,p,rfl⟩:=g;simp only[aR] at h;split at h
  ·rename_i cs L;simp only[bU,aM] at h;obtain ⟨U,hd,rfl,rfl,rfl⟩:=h;exact .y rfl (X_ E j p q a2 v L hd)
  simp_all
 |indexAddr t x i=>
  rw[j] at g;simp only[jG,Option.bind_eq_bind,b_] at g;obtain ⟨u,q,g⟩:=g;cases u <;> simp only[b_,reduceCtorEq] at g
  ·rename_i e;obtain ⟨n,v,g⟩:=g;split at g
   ·grind
   ·rename_i A;simp only[b_,aj] at g;obtain ⟨G,p,oi,X,rfl⟩:=g;simp only[aR] at h;have Z:wr=[]:=by
     grind [Option.bind_eq_some_iff]
    subst Z;obtain ⟨rfl,hg⟩:=idx_ok (P:=P) E j p X q v A h;exact .y rfl hg
  ·rename_i len e;obtain ⟨n,v,g⟩:=g;split at g
   ·grind
   ·rename_i A;simp only[b_,aj] at g;obtain ⟨G,p,oi,X,rfl⟩:=g;simp only[aR] at h;have Z:wr=[]:=by
     simp only[Option.bind_eq_bind,b_] at h;obtain ⟨_,_,_,_,h⟩:=h;split at h
     ·simp_all
     ·simp_all
     ·grind
     simp_all
    subst Z;obtain ⟨rfl,hg⟩:=ID (P:=P) bb E j p X q v h;exact .y rfl hg
 |index t x i=>
  rw[j] at g;simp only[jG,Option.bind_eq_bind,b_] at g;obtain ⟨u,q,g⟩:=g;cases u <;> simp only[b_,aj,reduceCtorEq] at g
  ·subst g;simp only[aR,bU,aM] at h;obtain ⟨U,hd,rfl,rfl,rfl⟩:=h;exact .y rfl (ju E (by simp_all) (by simp_all))
  ·rename_i len e;obtain ⟨sz,bu,n,v,G,p,oi,X,rfl⟩:=g;simp only[aR,Option.bind_eq_bind,b_] at h;obtain ⟨z,T,k,hk,h⟩:=h;split at h
   ·rename_i cs L;simp only[bU,aM] at h;obtain ⟨U,hd,rfl,rfl,rfl⟩:=h;exact .y rfl (Zw E j p X q bu v L T hk hd)
   simp_all
 |lookup t m k ok=>
  rw[j] at g;simp only[jG,Option.bind_eq_bind,b_] at g;obtain ⟨u,q,g⟩:=g;cases u <;> simp only[b_,reduceCtorEq] at g
  rename_i kt e;obtain ⟨kd,af,g⟩:=g;split at g
  ·rename_i hs;simp only[b_,aj] at g;obtain ⟨zero,T,om,hm,a7,hk,rfl⟩:=g;simp only[aR,Option.bind_eq_bind,b_,aj,aM] at h;obtain ⟨kv,ak,es,a8,r,hr,rfl,rfl,rfl⟩:=h;exact .g rfl (λR=>PO R E j q af hs T hm hk ak (DC a8) hr rfl)
  ·simp at g
 |mapUpdate t m k x | insert t m k x=>
  rw[j] at g;simp only[jG,Option.bind_eq_bind,b_] at g;obtain ⟨u,q,g⟩:=g;cases u <;> simp only[b_,reduceCtorEq] at g
  rename_i kt e;obtain ⟨kd,af,g⟩:=g;split at g
  ·rename_i hs;simp only[b_,aj] at g;obtain ⟨om,hm,a7,hk,G,p,rfl⟩:=g;simp only[aR,Option.bind_eq_bind,b_] at h;obtain ⟨kv,ak,h⟩:=h;split at h
   ·rename_i b L;split at h
    ·rename_i es a5 hb;simp only[b_] at h;obtain ⟨r,hr,h⟩:=h;have:=λR=>upd_ok (P:=P) (σ:=σ) (M:=M) (Fz:=Fz) (w:=w) R E (by first | exact .inl j | exact .inr j) q af hs hm hk p ak L hb hr;split at h
     ·simp only[aj,aM] at h;obtain ⟨rfl,rfl,rfl⟩:=h;exact .g rfl this
     ·simp only[aj,aM] at h;obtain ⟨rfl,rfl,rfl⟩:=h;exact .g rfl this
    simp_all
   simp_all
  simp_all
 |extract x i=>
  rw[j] at g;simp only[jG,Option.bind_eq_bind,b_,aj] at g;obtain ⟨G,p,rfl⟩:=g;simp only[aR] at h;split at h
  ·rename_i ds L;simp only[bU,aM] at h;obtain ⟨U,hd,rfl,rfl,rfl⟩:=h;exact .y rfl (LQ E j p L hd)
  simp_all
 |call c=>
  obtain ⟨an,args,b6⟩:=c;rw[j] at g;cases an with
  |value f=>grind [jG,Option.bind_eq_some_iff,xY]
  |invoke r m=>grind [jG]
  |builtin b=>
   cases b with
   |len=>
    simp only[jG,Option.bind_eq_bind,b_] at g;obtain ⟨t,W,x,N,g⟩:=g;split at g
    ·grind
    ·rename_i hs;simp only[ne_eq,Pt] at hs;simp only[b_] at g;obtain ⟨u,q,g⟩:=g;cases u <;> simp only[bU,aj,reduceCtorEq] at g
     ·subst g;simp only[aR,bU,aM] at h;obtain ⟨U,hd,rfl,rfl,rfl⟩:=h;exact .y rfl (ju E (by simp_all) (by simp_all))
     ·obtain ⟨G,p,rfl⟩:=g;simp only[aR,bU,aM] at h;obtain ⟨n,v,rfl,rfl,rfl⟩:=h;exact .y rfl (len_ok E j W N hs p q v)
     ·rename_i n e;subst g;simp only[aR,aG.ev,aj,aM] at h;obtain ⟨rfl,rfl,rfl⟩:=h;exact .y rfl (QT j W N hs q)
     ·obtain ⟨G,p,rfl⟩:=g;simp only[aR,bU,aM] at h;obtain ⟨es,a8,rfl,rfl,rfl⟩:=h;refine .g rfl (λR=>PF R E j W N hs p q ?_)
      grind [DC]
   |append=>
    simp only[jG,Option.bind_eq_bind,b_] at g;obtain ⟨t,W,t1,bv,s,a6,x,N,u,q,bw,b0,g⟩:=g;cases u <;> cases bw <;> simp only[b_,reduceCtorEq] at g
    obtain ⟨n,v,i,X,z,T,g⟩:=g;split at g
    ·grind
    ·rename_i A;simp only[b_,aj] at g;obtain ⟨os,hs,G,p,rfl⟩:=g;simp only[aR] at h;exact .g rfl (λR=>Qr R E j W bv a6 N q b0 v X T A hs p h)
   |copy=>
    simp only[jG,Option.bind_eq_bind,b_] at g;obtain ⟨t,W,s,a6,x,N,u,q,g⟩:=g;cases u <;> simp only[b_,reduceCtorEq] at g
    obtain ⟨n,v,g⟩:=g;split at g
    ·grind
    ·rename_i A;simp only[b_,aj] at g;obtain ⟨os,hs,G,p,rfl⟩:=g;simp only[aR] at h;split at h
     ·rename_i b off len es sz L;simp only[Option.bind_eq_bind,b_,bU] at h;obtain ⟨cs,hr,k,⟨m,hm,hk⟩,new,a9,h⟩:=h;split at h
      ·rename_i F;obtain ⟨rfl,ad⟩:=F;simp only[aj,aM] at h;obtain ⟨rfl,rfl,rfl⟩:=h;exact .g rfl (λR=>zQ R E j W a6 N q v A hs p L hr hm hk.symm a9 ad)
      simp_all
     simp_all
   |clear=>
    simp only[jG,Option.bind_eq_bind,b_] at g;obtain ⟨t,W,x,N,u,q,g⟩:=g;cases u <;> simp only[b_,reduceCtorEq] at g
    obtain ⟨n,v,z,T,g⟩:=g;split at g
    ·grind
    ·rename_i A;simp only[b_,aj] at g;obtain ⟨G,p,rfl⟩:=g;simp only[aR] at h;split at h
     ·rename_i b off len es sz L;simp only[Option.bind_eq_bind,b_] at h;obtain ⟨cs,hr,h⟩:=h;split at h
      ·rename_i F;obtain ⟨rfl,ad,b1⟩:=F;simp only[aj,aM] at h;obtain ⟨rfl,rfl,rfl⟩:=h;exact .g rfl (λR=>clr_ok R E j W N q T (λe=>A (.inl e)) b1 p L hr ad)
      simp_all
     simp_all
   |delete=>
    simp only[jG,Option.bind_eq_bind,b_] at g;obtain ⟨t,W,m,b2,k,b3,u,q,g⟩:=g;cases u <;> simp only[b_,reduceCtorEq] at g
    rename_i kt e;obtain ⟨kd,af,g⟩:=g;split at g
    ·rename_i hs;simp only[b_,aj] at g;obtain ⟨om,hm,a7,hk,rfl⟩:=g;simp only[aR,Option.bind_eq_bind,b_] at h;obtain ⟨kv,ak,h⟩:=h;split at h
     ·rename_i b L;split at h
      ·rename_i es a5 hb;simp only[b_] at h;obtain ⟨r,hr,h⟩:=h;have:=λR=>del_ok (P:=P) (σ:=σ) (M:=M) (Fz:=Fz) (w:=w) R E j W b2 b3 q af hs hm hk ak L hb hr;split at h
       ·simp only[aj,aM] at h;obtain ⟨rfl,rfl,rfl⟩:=h;exact .g rfl this
       ·simp only[aj,aM] at h;obtain ⟨rfl,rfl,rfl⟩:=h;exact .g rfl this
      simp_all
     simp_all
    simp_all
   |min=>simp only[jG,aj] at g;subst g;simp only[aR,bU,aM] at h;obtain ⟨U,hd,rfl,rfl,rfl⟩:=h;exact .y rfl (ju E (by simp_all) (by simp_all))
   |max=>simp only[jG,aj] at g;subst g;simp only[aR,bU,aM] at h;obtain ⟨U,hd,rfl,rfl,rfl⟩:=h;exact .y rfl (ju E (by simp_all) (by simp_all))
   |complex=>simp only[jG,aj] at g;subst g;simp only[aR,bU,aM] at h;obtain ⟨U,hd,rfl,rfl,rfl⟩:=h;exact .y rfl (ju E (by simp_all) (by simp_all))
   |real=>simp only[jG,aj] at g;subst g;simp only[aR,bU,aM] at h;obtain ⟨U,hd,rfl,rfl,rfl⟩:=h;exact .y rfl (ju E (by simp_all) (by simp_all))
   |imag=>simp only[jG,aj] at g;subst g;simp only[aR,bU,aM] at h;obtain ⟨U,hd,rfl,rfl,rfl⟩:=h;exact .y rfl (ju E (by simp_all) (by simp_all))
   |_=>grind [jG]
 |_=>grind [jG]
theorem Xa(R:Rel σ M Fz w)(E:cR σ M Fz w env a.tmps){o:Oper}{ao:jB}{d:D}{wr:List Nat}(j:jG P o.op o.type=some ao)(f:xY ao=false)
  (h:aR P orc ao env σ=some (d,σ',wr)):c_ P (execOp a.eval o) σ M Fz w σ' d:=by
 cases BD (M:=M) (Fz:=Fz) (w:=w) R.gl E j f h with
 |y _ e=>exact e.gives R
 |l _ i e=>rw[i];exact (e λb off sz c n _ k m=>R.row k m).gives R
 |a _ e=>exact (e R.fz).gives R
 |g _ e=>grind
theorem rA{op:Op}{ty:TypeId}{ao:jB}(h:comp P op ty=some ao) :
  (∃f args b d os,op=.call { callee:=.value f,args:=args,argTypes:=b }/\bB f=some d/\EQ args=some os/\ao=.call d os)∨(jG P op ty=some ao/\xY ao=false/\SZ ao=false):=by
 unfold comp at h
 grind
end
end Go.Abs
end
section
namespace Go.Abs
variable[Gl]
structure aD where
 dst:Option Nat
 op:jB
 g:Option (Nat×Bool)
 deriving Inhabited
def lT(env:List D):Option Nat->D->List D
 |some t,d=>env.set t d
 |none,_=>env
def fN(env:List D):Option (Nat×Bool)->Option Bool
 |none=>some true
 |some (t, want)=>
  match env[t]? with
  |some (.c (.lit (.bool b)))=>some (b == want)
  |some (.aI [])=>some false
  |_=>none
def dU(P:Program)(orc:fA)(o:aD)(env:List D)(σ:ae):Option (List D×ae×List Nat):=
 match fN env o.g with
 |some true=>(aR P (orc o.dst) o.op env σ).map λr=>(lT env o.dst r.1,r.2.1,r.2.2)
 |some false=>some (lT env o.dst (.aI []),σ,[])
 |none=>none
def lY(P:Program)(orc:fA):List aD->List D->ae->Option (List D×ae×List Nat)
 |[],env,σ=>some (env,σ,[])
 |o :: os, env, σ=>
  match dU P orc o env σ with
  |some (b, e, w1)=>
   match lY P orc os b e with
   |some (d,au,w2)=>some (d,au,w1++w2)
   |none=>none
  |none=>none
def vZ(ops:Array Oper):Option (Nat×Bool)->Option (Option (Nat×Bool))
 |none=>some none
 |some (j, want)=>
  match (ops[j]?).bind (·.dst) with
  |some t=>some (some (t,want))
  |none=>none
def aT(P:Program)(ops:Array Oper)(o:Oper):Option aD:=
 match vZ ops o.guard,comp P o.op o.type with
 |some g,some b=>some ⟨o.dst,b,g⟩
 |_,_=>none
section
variable{P:Program}{σ σ':ae}{M M':Nat->Option Nat}{Fz Fz':Nat->Prop}{w w':World}{env env':List D}{a:Act}{orc:ta}
theorem cR.mono(E:cR σ M Fz w env a.tmps)(j:ba σ M Fz w σ' M' Fz' w'):cR σ' M' Fz' w' env a.tmps:=
 ⟨E.1,λi d v o s=>(E.2 i d v o s).mono j⟩
theorem cR.put(E:cR σ M Fz w env a.tmps){d:D}{v:Value}(j:Option Nat)(z:V σ M Fz w d v):cR σ M Fz w (lT env j d) (a.put j v).tmps:=by
 cases j with
 |none=>exact E
 |some t=>
  refine ⟨by simp[Act.put,lT,E.1],λi u x o s=>?_⟩;simp only[lT,yB2] at o;simp only[Act.put,Rk] at s;by_cases e:t=i
  ·simp_all
  ·rw[if_neg e] at o s;exact E.2 i u x o s
theorem V.undef:V σ M Fz w (.aI []) undef:=.aI #[] rfl (λi d v h=>by simp at h)
theorem mc(E:cR σ M Fz w env a.tmps){ops:Array Oper}{o:Oper}{g:Option (Nat×Bool)}{b:Bool}(f:vZ ops o.guard=some g)(h:fN env g=some b) :
  Region.wanted o (yielded ops a.tmps)=b:=by
 unfold Region.wanted;cases k:o.guard with
 |none=>grind [vZ,fN]
 |some p=>
  obtain ⟨j,l⟩:=p;rw[k] at f;simp only[vZ] at f;split at f
  ·rename_i t n;simp only[aj] at f;subst f;simp only[fN] at h;simp only[yielded,n,Option.bind_some];split at h
   ·rename_i q i;have d:=(d_.1 i).1;have e:a.tmps[t]? = some (a.tmps[t]'(by rw[E.1];exact d)):=oF _;have:=(E.2 t _ _ i e).bI
    simp_all
   ·rename_i i;have d:=(d_.1 i).1;have e:a.tmps[t]? = some (a.tmps[t]'(by rw[E.1];exact d)):=oF _;have m:=E.2 t _ _ i e;generalize r:a.tmps[t]'(by grind)=x at m e;rw[e];simp only[aj] at h;subst h;cases m with
    |aI s=>simp_all
   simp_all
  simp_all
theorem Xg(E:cR σ M Fz w env a.tmps){o:Oper}{f:Operand}{args:Array Operand}{s:Array TypeId}{t:aG}{os:List aG}{g:FuncId}{ds:List D}
  (O:o.op=.call { callee:=.value f,args:=args,argTypes:=s }) (R:bB f=some t) (u:EQ args=some os)
  (y:(∃first cap,t.ev env=.c (.fn (.func g) first cap)/\ds=first.map .c++os.map (aG.ev env)++cap.map .c)∨(∃first cap,t.ev env=.fn (.func g) first cap/\ds=first++os.map (aG.ev env)++cap))
  (h:aN P g=true):∃b:Array Value,(execOp a.eval o).run P w=.ok (.enter g b) w/\b.size=ds.length/\∀(i:Nat) d v,ds[i]? = some d->b[i]? = some v->V σ M Fz w d v:=by
 obtain ⟨U,W⟩:=Fk E u;have n:=ki E R;have p:∀(first cap:List D)(b j:Array Value),a.eval f=.func (.func g) b j->ds=first++os.map (aG.ev env)++cap->b.size=first.length->j.size=cap.length ->
   (∀(i:Nat) d v,first[i]? = some d->b[i]? = some v->V σ M Fz w d v)->(∀(i:Nat) d v,cap[i]? = some d->j[i]? = some v->V σ M Fz w d v) ->
   ∃b:Array Value,(execOp a.eval o).run P w=.ok (.enter g b) w/\b.size=ds.length/\∀(i:Nat) d v,ds[i]? = some d->b[i]? = some v->V σ M Fz w d v:=by
  intro first cap b j e hd z A k l
  refine ⟨b++args.map a.eval++j,?_,by simp_all,λi d v m r=>?_⟩
  ·unfold aN at h;split at h
   ·rename_i fn F;simp only[bp,EE,ne_eq] at h;obtain ⟨X,G⟩:=h;have K:fn.body.isNone=false:=by simp_all
    simp only[execOp,O,resolve,e,Deferred.ofValue,Sem.run_bind,Sem.run_pure,Result.andThen_ok,invoke,callFunc,run_program,F,lO,G,K,bT,bA]
   simp_all
  grind
 rcases y with ⟨first,cap,L,hd⟩ | ⟨first,cap,L,hd⟩
 ·rw[L] at n;have q:=n.oe;generalize e:a.eval f=T at q;cases q with
  |fn b j z A k l=>
   refine p _ _ b j e hd (by grind) (by grind) (λi d v m r=>?_) (λi d v m r=>?_)
   ·simp only[gP,bU] at m;obtain ⟨x,N,rfl⟩:=m;exact .c (k i x v N r)
   ·simp only[gP,bU] at m;obtain ⟨x,N,rfl⟩:=m;exact .c (l i x v N r)
 ·rw[L] at n;generalize e:a.eval f=T at n;cases n with
  |fn b j z A k l=>exact p _ _ b j e hd z A k l
theorem Hz(O:si P orc)(R:Rel σ M Fz w)(E:cR σ M Fz w env a.tmps){o:Oper}{ao:jB}{d:D}{wr:List Nat}{Q:Exit->Act->World->Prop}(F:comp P o.op o.type=some ao)
  (h:aR P orc ao env σ=some (d,σ',wr)) (K:Act->World->Prop)
  (t:∀v w' M' Fz',Rel σ' M' Fz' w'->V σ' M' Fz' w' d v->ba σ M Fz w σ' M' Fz' w'->σ.length<=σ'.length->K (a.put o.dst v) w'):o.wp P a w K Q:=by
 rcases rA F with ⟨f,args,G,u,os,j,L,k,rfl⟩ | ⟨l,i,_⟩
 ·simp only[aR] at h;have x:∀g ds,orc g ds σ=some (d,σ',wr) ->
    ((∃first cap,u.ev env=.c (.fn (.func g) first cap)/\ds=first.map .c++os.map (aG.ev env)++cap.map .c)∨(∃first cap,u.ev env=.fn (.func g) first cap/\ds=first++os.map (aG.ev env)++cap))->o.wp P a w K Q:=by
   intro g ds N m;obtain ⟨n,p,q,_⟩:=O g ds σ d σ' wr N;obtain ⟨T,b,hs,r⟩:=Xg (P:=P) E j L k m n;unfold Oper.wp;rw[b];refine (p M Fz w T R hs r).mono λe w' U=>?_
   grind
  grind
 ·obtain ⟨W,v,w',M',b,s,y,z,A,q⟩:=Xa R E l i h;unfold Oper.wp;rw[b];rcases s with rfl | ⟨rfl,rfl⟩
  ·exact t v w' M' Fz y z A q
  ·exact t _ w' M' Fz y z A q
theorem Gu{orc:fA}(O:lP P orc)(R:Rel σ M Fz w)(E:cR σ M Fz w env a.tmps){ops:Array Oper}{i:Nat}{o:Oper}{ao:aD}{wr:List Nat}{Q:Exit->Act->World->Prop}(n:ops[i]? = some o)(f:aT P ops o=some ao)
  (h:dU P orc ao env σ=some (env',σ',wr)) (K:Act->World->Prop)
  (p:∀j w' M' Fz',j.defers=a.defers->Rel σ' M' Fz' w'->cR σ' M' Fz' w' env' j.tmps->ba σ M Fz w σ' M' Fz' w'->σ.length<=σ'.length->K j w'):wpOp P ops Q i K a w:=by
 unfold aT at f;split at f
 ·rename_i g s q k;simp only[aj] at f;subst f;unfold dU at h;have e:∀v,(a.put o.dst v).defers=a.defers:=λv=>by cases o.dst <;> rfl
  split at h
  ·rename_i l;have b:=mc E q l;simp only[bU] at h;obtain ⟨⟨d,t,bJ⟩,m,h⟩:=h;simp only[aM] at h;obtain ⟨rfl,rfl,rfl⟩:=h;unfold wpOp;rw[n];simp only[b,if_true];exact .inl (Hz (O o.dst) R E k m K λv w' M' Fz' u x r y=>p _ w' M' Fz' (e v) u ((E.mono r).put o.dst x) r y)
  ·rename_i l;have b:=mc E q l;simp only[aj,aM] at h;obtain ⟨rfl,rfl,rfl⟩:=h;unfold wpOp;rw[n];simp only[b,bA,bT];exact p _ w M Fz (e _) R (E.put o.dst V.undef) (ba.refl R) (cn _)
  simp_all
 simp_all
theorem ops_wp{orc:fA}(O:lP P orc){ops:Array Oper}{Q:Exit->Act->World->Prop}:∀(os:List aD)(k:Nat)(σ σ':ae)(M:Nat->Option Nat)(Fz:Nat->Prop)(w:World)(env env':List D)(a:Act)(wr:List Nat),
  (∀j ao,os[j]? = some ao->∃o,ops[k+j]? = some o/\aT P ops o=some ao)->Rel σ M Fz w->cR σ M Fz w env a.tmps->lY P orc os env σ=some (env',σ',wr) ->
  (∀g w' M' Fz',g.defers=a.defers->Rel σ' M' Fz' w'->cR σ' M' Fz' w' env' g.tmps->ba σ M Fz w σ' M' Fz' w'->σ.length<=σ'.length->Q .normal g w') ->
  wpOps P ops Q (List.range' k os.length) a w:=by
 intro os;induction os with
 |nil=>intro k σ σ' M Fz w env env' a wr _ R E h i;simp only[lY,aj,aM] at h;obtain ⟨rfl,rfl,_⟩:=h;exact i a w M Fz rfl R E (ba.refl R) (cn _)
 |cons ao os ih=>
  intro k σ σ' M Fz w env env' a wr b R E h i;simp only[lY] at h;split at h
  ·rename_i d l w1 v;split at h
   ·rename_i e x w2 y;simp only[aj,aM] at h;obtain ⟨rfl,rfl,_⟩:=h;obtain ⟨o,Y,m⟩:=b 0 ao (by simp);simp only[List.length_cons,List.range'_succ];rw[wpOps_cons];refine Gu O R E (by omega) m v _ λz w' A n hd F G p f=>?_;refine ih (k+1) l x A n w' d e z w2 (λj q Z=>?_) F G y λK r L s N T U t u=>?_
    ·obtain ⟨o',W,X⟩:=b (j+1) q (by simp_all)
     grind
    ·exact i K r L s (by simp_all) T U (p.trans t f) (jz f u)
   simp_all
  simp_all
end
end Go.Abs
end
section
namespace Go.Abs
variable[Gl]
def pC:jB->List aG
 |.xQ x=>[x]
 |.pick c a b=>[c,a,b]
 |.gen op _=>op.operands.toList.filterMap bB
 |.box x=>[x]
 |.alloc _=>[]
 |.build _ e=>e.map (·.2.2)
 |.ic _ _ _ e=>e.map (·.2.2)
 |.load _ a=>[a]
 |.store _ a x=>[a,x]
 |.kQ x=>[x]
 |.gY _ _ x=>[x]
 |.Dw _ x=>[x]
 |.idx _ _ x i=>[x,i]
 |.Rq _ x g h=>x::(g.toList++h.toList)
 |.len x=>[x]
 |.TJ x=>[x]
 |.mk _ _ _ l c=>[l,c]
 |.rT=>[]
 |.lookup _ _ m k _=>[m,k]
 |.qp _ m k x=>[m,k,x]
 |.extract x _=>[x]
 |.Cg _ f c=>f++c
 |.part _ _ x=>[x]
 |.zg _ _ _ x i=>[x,i]
 |.append _ _ s x=>[s,x]
 |.copy _ d s=>[d,s]
 |.del _ m k=>[m,k]
 |.QK _ x g h j=>[x,g,h,j]
 |.BI _ x=>[x]
 |.clr _ _ x=>[x]
 |.call f as=>f::as
theorem y_{env env':List D}:∀(ps:List (Nat×Nat×aG))(cs:List D),(∀x∈ps.map (·.2.2),x.ev env=x.ev env')->nK env cs ps=nK env' cs ps:=by
 intro ps;induction ps with
 |nil=>intro cs _;rfl
 |cons p ps ih=>
  intro cs h;obtain ⟨o,n,x⟩:=p;simp only[nK,h x (by simp)]
  simp_all
theorem uF{env env':List D}(d m:Nat)(o:Option aG)(h:∀x∈o.toList,x.ev env=x.ev env'):lX env d m o=lX env' d m o:=by
 cases o with
 |none=>rfl
 |some x=>grind [lX]
theorem JD{P:Program}{op:Op}{ty:TypeId}{env env':List D}(d:∀cs b,op≠.select cs b)(h:∀x∈op.operands.toList.filterMap bB,x.ev env=x.ev env'):mJ P op ty env=mJ P op ty env':=by
 have e:∀x∈op.operands.toList,((bB x).map (aG.ev env))=((bB x).map (aG.ev env')):=by
  intro x e;cases f:bB x with
  |none=>rfl
  |some o=>grind
 unfold mJ;have g:op.operands.toList.all (λx=>(((bB x).map (aG.ev env)).bind D.cy).isSome)=op.operands.toList.all (λx=>(((bB x).map (aG.ev env')).bind D.cy).isSome):=by grind
 grind [Go.execOp_congr]
def Dr:jB->Prop
 |.gen op _=>∀d b,op≠.select d b
 |_=>True
theorem uS{P:Program}{orc:ta}{ao:jB}{env env':List D}{σ:ae}(hs:Dr ao)(h:∀x∈pC ao,x.ev env=x.ev env'):aR P orc ao env σ=aR P orc ao env' σ:=by
 cases ao with
 |gen op ty=>simp only[aR,JD hs h]
 |build z g=>simp only[aR,y_ g z h]
 |ic n l z g=>simp only[aR,y_ g _ h]
 |Rq e x j p=>
  simp only[aR,h x (by simp[pC])];have r:∀d m,lX env d m j=lX env' d m j:=λd m=>uF d m j (λy q=>h y (by grind [pC]));have s:∀d m,lX env d m p=lX env' d m p:=λd m=>uF d m p (λy q=>h y (by grind [pC]))
  simp_all
 |Cg f a b=>grind [List.map_congr_left,pC,aR]
 |call f a=>grind [List.map_congr_left,pC,aR]
 |idx e o x i=>cases o <;> simp only[aR,h x (by simp[pC]),h i (by simp[pC])]
 |xQ x=>grind [aR,pC]
 |pick c a b=>grind [aR,pC]
 |box x=>grind [aR,pC]
 |alloc z=>rfl
 |load n x=>grind [aR,pC]
 |store n x y=>grind [aR,pC]
 |kQ x=>grind [aR,pC]
 |gY k n x=>grind [aR,pC]
 |Dw o x=>grind [aR,pC]
 |len x=>grind [aR,pC]
 |TJ x=>grind [aR,pC]
 |mk e b z x y=>grind [aR,pC]
 |rT=>rfl
 |lookup k z x y o=>grind [aR,pC]
 |qp k x y z=>simp only[aR,h x (by simp[pC]),h y (by simp[pC]),h z (by simp[pC])]
 |extract x i=>grind [aR,pC]
 |part o n x=>grind [aR,pC]
 |zg e l n x y=>grind [aR,pC]
 |append e b x y=>grind [aR,pC]
 |copy e x y=>simp only[aR,h x (by simp[pC]),h y (by simp[pC])]
 |del k x y=>grind [aR,pC]
 |QK e x y z u=>simp only[aR,h x (by simp[pC]),h y (by simp[pC]),h z (by simp[pC]),h u (by simp[pC])]
 |BI m x=>grind [aR,pC]
 |clr e z x=>grind [aR,pC]
theorem kA{P:Program}{op:Op}{ty:TypeId}{ao:jB}(h:comp P op ty=some ao):Dr ao:=by
 rcases rA h with ⟨f,args,d,i,os,rfl,_,_,rfl⟩ | ⟨_,_,j⟩
 ·trivial
 ·cases ao with
  |gen e g=>
   intro k b l
   grind [SZ]
  |_=>trivial
theorem KL{P:Program}{orc:ta}(O:si P orc){ao:jB}{env:List D}{σ σ':ae}{d:D}{wr:List Nat}(h:aR P orc ao env σ=some (d,σ',wr)) :
  σ.length<=σ'.length/\∀b,b<σ.length->b∉wr->σ'[b]? = σ[b]?:=by
 have same:σ'=σ->σ.length<=σ'.length/\∀b,b<σ.length->b∉wr->σ'[b]? = σ[b]?:=by simp_all
 have TS:∀g,σ'=σ++[g]->σ.length<=σ'.length/\∀b,b<σ.length->b∉wr->σ'[b]? = σ[b]?:=by grind
 have set:∀b g,σ'=σ.set b g->wr=[b]->σ.length<=σ'.length/\∀b,b<σ.length->b∉wr->σ'[b]? = σ[b]?:=by grind
 cases ao with
 |call f args=>
  simp only[aR] at h;split at h
  ·exact ⟨(O _ _ _ _ _ _ h).2.2.1,(O _ _ _ _ _ _ h).2.2.2⟩
  ·exact ⟨(O _ _ _ _ _ _ h).2.2.1,(O _ _ _ _ _ _ h).2.2.2⟩
  simp_all
 |xQ x=>grind [aR]
 |pick c a b=>simp only[aR,bU,aM] at h;grind
 |gen op ty=>simp only[aR,bU,aM] at h;grind
 |box x=>simp only[aR,bU,aM] at h;grind
 |alloc z=>grind [aR]
 |build z j=>simp only[aR,bU,aM] at h;grind
 |ic n l z j=>simp only[aR,bU,aM] at h;grind
 |load n x=>
  simp only[aR] at h;split at h
  ·simp only[Option.bind_eq_bind,b_,aj,aM] at h;grind
  ·simp only[Option.bind_eq_bind,b_,aj,aM] at h;grind
  simp_all
 |store n x y=>grind [aR,Option.bind_eq_some_iff]
 |kQ x=>grind [aR]
 |gY k n x=>simp only[aR,bU,aM] at h;grind
 |Dw o x=>grind [aR]
 |idx e o x i=>
  cases o with
  |none=>
   simp only[aR,Option.bind_eq_bind,b_] at h
   grind [Option.bind_eq_some_iff]
  |some len=>
   simp only[aR,Option.bind_eq_bind,b_] at h;obtain ⟨_,_,_,_,h⟩:=h;split at h
   ·simp_all
   ·simp_all
   ·grind
   simp_all
 |Rq e x p q=>
  simp only[aR] at h;split at h
  ·simp only[Option.bind_eq_bind,b_,aj,aM] at h;grind
  ·grind [Option.bind_eq_some_iff]
  ·grind [Option.bind_eq_some_iff]
  simp_all
 |len x=>simp only[aR,bU,aM] at h;grind
 |TJ x=>simp only[aR,bU,aM] at h;grind
 |mk e b z x y=>grind [aR,Option.bind_eq_some_iff]
 |rT=>grind [aR]
 |lookup k z x y o=>
  simp only[aR,Option.bind_eq_bind,b_,aj,aM] at h
  grind
 |qp k x y z=>
  simp only[aR,Option.bind_eq_bind,b_] at h
  grind [Option.bind_eq_some_iff]
 |del k x y=>
  simp only[aR,Option.bind_eq_bind,b_] at h
  grind [Option.bind_eq_some_iff]
 |extract x i=>
  simp only[aR] at h
  grind
 |Cg f a b=>grind [aR]
 |part o n x=>
  simp only[aR] at h;split at h
  ·simp only[bU,aM] at h;grind
  simp_all
 |zg e l n x y=>
  simp only[aR,Option.bind_eq_bind,b_] at h;obtain ⟨_,_,_,_,h⟩:=h;split at h
  ·simp only[bU,aM] at h;grind
  simp_all
 |append e b x y=>
  simp only[aR,Option.bind_eq_bind,b_] at h
  grind [Option.bind_eq_some_iff]
 |BI m x=>
  simp only[aR] at h;split at h
  ·split at h
   ·simp only[aj,aM] at h;exact same h.2.1.symm
   ·simp at h
  ·simp at h
 |QK e x y z u=>
  simp only[aR] at h;split at h
  ·simp only[Option.bind_eq_bind,b_] at h
   grind
  simp_all
 |clr e z x=>grind [aR,Option.bind_eq_some_iff]
 |copy e x y=>
  simp only[aR] at h;split at h
  ·grind [Option.bind_eq_some_iff]
  simp_all
end Go.Abs
end
section
namespace Go
def Code.calm:Code->Bool
 |.seq x y=>x.calm&&y.calm
 |.cond _ x y=>x.calm&&y.calm
 |.block _ c=>c.calm
 |.loop c=>c.calm
 |.region _ _ _=>true
 |.ret=>true
 |.exit _=>true
 |.goto _=>true
 |.label _=>true
 |.skip=>true
 |_=>false
end Go
namespace Go.Abs
variable[Gl]
structure dz where
 cat:Nat
 blk:Option Nat
 wr:List Nat
 dst:Option Nat
 ZR:List Nat
 lo:Nat
 hi:Nat
 deriving Inhabited
def uQ(o:aD):List Nat:=(pC o.op).filterMap (λ| .t n=>some n | _=>none)++(match o.g with | some (t,_)=>[t] | none=>[])
def cQ (o:aD) (env:List D) (lo hi:Nat) (wr:List Nat):dz:=
  { cat := match fN env o.g with | some true => cat o.op | _ => 0,
    blk:=match Pu o.op env with | .ptr b _ _=>some b | _=>none,
    wr:=wr,dst:=o.dst,ZR:=uQ o,lo:=lo,hi:=hi }
def jm(σ σ':ae)(wr:List Nat):Bool:=
 wr.all λb=>match σ[b]?,σ'[b]? with
  |some x,some y=>x.sz == y.sz
  |_,_=>false
def jR(P:Program)(orc:fA):Nat->List aD->List D->ae->Option (List D×ae×List dz)
 |_,[],env,σ=>some (env,σ,[])
 |n, o :: os, env, σ=>
  match dU P orc o env σ with
  |some (d, b, w1)=>
   if n == 0 || jm σ b w1 then
    match jR P orc (n-1) os d b with
    |some (e,au,is)=>some (e,au,cQ o env σ.length b.length w1::is)
    |none=>none
   else none
  |none=>none
def Zi(b:Option Nat)(l:List Nat):Bool:=
 match b with
 |some t=>!l.contains t
 |none=>true
def safe(i:dz)(wr:List Nat):Bool:=
 wr.isEmpty || i.cat == 0 || i.cat == 2 || (i.cat == 1&&(match i.blk with | some b=>!wr.contains b | none=>true))
def outside(i:dz)(wr:List Nat):Bool:=wr.all λb=>b<i.lo || i.hi<=b
def apart(x y:dz):Bool:=
 Zi x.dst y.ZR&&Zi y.dst x.ZR&&(match x.dst,y.dst with | some s,some t=>s != t | _,_=>true)&&(safe x y.wr&&safe y x.wr)&&(outside x y.wr&&outside y x.wr)
def dQ(b:List Nat)(d:List dz):Bool:=
 (List.range d.length).all λj=>(List.range j).all λi=>(b.getD j 0).testBit i || apart (d.getD i default) (d.getD j default)
def mS(b:List Nat)(p n m:Nat):Bool:=
 (List.range m).all λj=>j<n || (List.range j).all λi=>Nat.blt i p || (b.getD j 0).testBit i
def isMv(o:Oper):Bool:=
 o.guard.isNone&&(match o.op with
  |.move _ | .assign _=>true
  |_=>false)
def IQ(n:Nat):Nat->Array Bool
 |0=>Array.replicate n false
 |i+1=>(IQ n i).setIfInBounds i true
def AF(ops:Array Oper)(i:Nat):Bool:=
 ((ops[i]?).map isMv).getD false&&Region.free .any ops (IQ ops.size i) i&&(Region.ready .any ops (IQ ops.size i)).contains i
def leads(ops:Array Oper):Nat->Nat->Nat
 |0,_=>0
 |k+1,i=>if AF ops i then leads ops k (i+1)+1 else 0
def lead(ops:Array Oper):Nat:=if Region.noSelect ops then leads ops ops.size 0 else 0
inductive aH where
 |skip
 |zI (ops:List aD)
 |D_ (ops:List aD) (bef:List Nat) (n p:Nat)
 |seq (a b:aH)
 |cond (c:aG) (thn els:aH)
 |block (id:Nat) (body:aH)
 |loop (body:aH)
 |exit (id:Nat)
 |ret
 |stuck
 |Wi (l:Nat)
 |Rl (l:Nat) (a r:aH)
 |QY (o:aG) (ps:List Nat) (a b:aH)
 deriving Inhabited
def lblA:aH->Option Nat
 |.seq a b=>match lblA a with | some l=>some l | none=>lblA b
 |.Wi l=>some l
 |_=>none
def Mw(l:Nat):aH->Option aH
 |.seq a b=>match Mw l a with | some r=>some (.seq r b) | none=>Mw l b
 |.Wi d=>if (d == l)=true then some .skip else none
 |_=>none
def NW(a:aH):aH:=match lblA a with
 |some l=>match Mw l a with | some r=>.Rl l a r | none=>.stuck
 |none=>.stuck
def Od(o:Option aG)(ps:List Nat)(a b:Option aH)(calm:Bool):aH:=match o,a,b,calm with
 |some o,some a,some b,true=>.QY o ps a b
 |_,_,_,_=>.stuck
theorem zb(o:Option aG)(ps:List Nat)(a b:Option aH)(calm:Bool):(∃o' d e,o=some o'/\a=some d/\b=some e/\calm=true/\Od o ps a b calm=.QY o' ps d e)∨Od o ps a b calm=.stuck:=by
 unfold Od
 grind
def Hu(acc:List Nat)(o:Oper):Nat:=
 o.after.toList.foldl (λs e=>if Region.binds .any e then s ||| 2 ^ e.on ||| acc.getD e.on 0 else s) 0
def MU(l:List Oper):List Nat:=l.foldl (λb o=>b++[Hu b o]) []
def iW:List aD->Nat
 |[]=>0
 |o :: os => match o.op with
  |.append ..=>0
  |_=>iW os+1
def wm(l:List Oper):Bool:=(List.range l.length).all λj=>((l.getD j default).after.toList.all λe=>!Region.binds .any e || e.on<j)
def bg(P:Program):Code->Option aH
 |.skip=>some .skip
 |.region _ ops d=>
  match ops.toList.mapM (aT P ops) with
  |some os=>if d then (if wm ops.toList then some (.D_ os (MU ops.toList) (iW os) (lead ops)) else some .stuck) else some (.zI os)
  |none=>some .stuck
 |.seq a b => match bg P a, bg P b with
  |some x,some y=>some (.seq x y)
  |_,_=>none
 |.cond c a b => match bB c, bg P a, bg P b with
  |some o,some x,some y=>some (.cond o x y)
  |_,_,_=>some .stuck
 |.block id b=>(bg P b).map (.block (2 * id))
 |.loop b=>(bg P b).map .loop
 |.exit id=>some (.exit (2 * id))
 |.goto l=>some (.exit (2 * l+1))
 |.label l=>some (.Wi l)
 |.scope b=>(bg P b).map NW
 |.rangeFunc g e x y=>some (Od (bB g) e.toList (bg P x) (bg P y) (x.calm&&y.calm))
 |.ret=>some .ret
 |_=>some .stuck
theorem dC{P:Program}{g:Operand}{ps:Array Tmp}{x y:Code}{ac:aH}(h:bg P (.rangeFunc g ps x y)=some ac):(∃o a b,bB g=some o/\bg P x=some a/\bg P y=some b/\(x.calm&&y.calm)=true/\ac=.QY o ps.toList a b)∨ac=.stuck:=by simp only[bg,aj] at h;subst h;exact zb _ _ _ _ _
structure jE where
 nparams:Nat
 ntmps:Nat
 results:List (Nat×Option (Option Nat))
 body:aH
 ca:Bool
 deriving Inhabited
def JL(P:Program):ResultVar->Option (Nat×Option (Option Nat))
 |.tmp t=>some (t,none)
 |.cell a t=>(BM P t).map λn=>(a,some n)
def fX(P:Program)(f:Func)(ca:Bool):Option jE:=
 match f.body with
 |some b=>
  match bg P b,f.results.toList.mapM (JL P) with
  |some c,some rs=>some ⟨f.params.size+f.nfree,f.ntmps,rs,c,ca⟩
  |_,_=>none
 |none=>none
inductive kT where
 |normal
 |exit (id:Nat)
 |ret
 deriving DecidableEq,Inhabited
def dJ(os:List aD):Nat:=os.length-1-(os.reverse.takeWhile λo=>match o.op with | .call ..=>false | _=>true).length
def iV(P:Program)(orc:fA)(os:List aD)(b:List Nat)(p n:Nat)(env:List D)(σ:ae):Option (List D×ae×List Nat):=
 match jR P orc n os env σ with
 |some (env',σ',is)=>if dQ b is&&mS b p n os.length&&Nat.ble p n then some (env',σ',is.flatMap (·.wr)) else none
 |none=>none
def je(P:Program)(orc:fA):Nat->aH->List D->ae->List Nat->Option (kT×List D×ae×List Nat)
 |0,_,_,_,_=>none
 |_+1,.skip,env,σ,wr=>some (.normal,env,σ,wr)
 |_+1,.zI os,env,σ,wr=>(lY P orc os env σ).map λr=>(.normal,r.1,r.2.1,r.2.2++wr)
 |_ + 1, .D_ os f n p, env, σ, wr=>
  match iV P orc os f p n env σ with
  |some (env',σ',w)=>some (.normal,env',σ',w++wr)
  |none=>
   match iV P orc os f p (dJ os) env σ with
   |some (env',σ',w)=>some (.normal,env',σ',w++wr)
   |none=>
    match iV P orc os f p os.length env σ with
    |some (env',σ',w)=>some (.normal,env',σ',w++wr)
    |none=>none
 |k + 1, .seq a b, env, σ, wr=>
  match je P orc k a env σ wr with
  |some (.normal,d,e,bJ)=>je P orc k b d e bJ
  |r=>r
 |k + 1, .cond c a b, env, σ, wr=>
  match fO (c.ev env) with
  |some true=>je P orc k a env σ wr
  |some false=>je P orc k b env σ wr
  |none=>none
 |k + 1, .block id b, env, σ, wr=>
  match je P orc k b env σ wr with
  |some (.exit i,d,e,bJ)=>if i=id then some (.normal,d,e,bJ) else some (.exit i,d,e,bJ)
  |r=>r
 |k + 1, .loop b, env, σ, wr=>
  match je P orc k b env σ wr with
  |some (.normal,d,e,bJ)=>je P orc k (.loop b) d e bJ
  |r=>r
 |_+1,.exit id,env,σ,wr=>some (.exit id,env,σ,wr)
 |_+1,.ret,env,σ,wr=>some (.ret,env,σ,wr)
 |_+1,.stuck,_,_,_=>none
 |_+1,.Wi _,_,_,_=>none
 |_+1,.Rl _ _ _,_,_,_=>none
 |_+1,.QY _ _ _ _,_,_,_=>none
theorem Hn(a:aH):(∃l r,Mw l a=some r/\NW a=.Rl l a r)∨NW a=.stuck:=by
 unfold NW
 grind
def chunks(n:Nat):Nat->List C->List (List C)
 |0,_=>[]
 |k+1,l=>l.take n::chunks n k (l.drop n)
def eY(σ:ae)(n:Nat):Nat->D->Option C
 |0,_=>none
 |k + 1, d=>
  match d with
  |.c x=>some x
  |.ptr b off sz=>
   if n<=b then
    match lu σ b sz with
    |some g=>(g.mapM (eY σ n k)).map λl=>.bZ l off
    |none=>none
   else none
  |.sl b off len ar sz=>
   if n<=b/\0<ar/\off+len * ar<=sz then
    match lu σ b sz with
    |some g=>(((g.drop off).take (len * ar)).mapM (eY σ n k)).map λl=>.ca (Nat.blt 0 len) (chunks ar len l)
    |none=>none
   else none
  |.fn f first cap=>
   match first.mapM (eY σ n k),cap.mapM (eY σ n k) with
   |some a,some b=>some (.fn f a b)
   |_,_=>none
  |.mp b=>
   if n<=b then
    match σ[b]? with
    |some (.map es _)=>(es.mapM λe=>(eY σ n k e.2.1).map λx=>(e.1,x)).map .Ib
    |_=>none
   else none
  |_=>none
def mI(σ:ae)(n k:Nat):D->Option D
 |.agg b=>(b.mapM (eY σ n k)).map λl=>.agg (l.map .c)
 |d=>(eY σ n k d).map .c
def ue(σ:ae)(n k:Nat):D->Option D
 |.aI ds=>(ds.mapM (mI σ n k)).map .aI
 |d=>mI σ n k d
def IW(env:List D)(σ:ae):Nat×Option (Option Nat)->Option D
 |(t,none)=>env[t]?
 |(t, some n)=>
  match env[t]? with
  |some (.ptr b off sz)=>(lu σ b sz).bind λd=>rD n d off
  |_=>none
def one:List D->D
 |[d]=>d
 |ds=>.aI ds
def finish(f:jE)(σ0:ae)(env:List D)(σ:ae)(wr:List Nat):Option (D×ae×List Nat):=
 match f.results.mapM (IW env σ) with
 |some ds=>
  let b:=wr.filter (·<σ0.length)
  if f.ca&&b.isEmpty then
   match ue σ σ0.length 100 (one ds) with
   |some r=>some (r,σ0,[])
   |none=>some (one ds,σ,b)
  else some (one ds,σ,b)
 |none=>none
def evF1(P:Program)(orc:ta)(k:Nat)(f:jE)(ds:List D)(σ:ae):Option (D×ae×List Nat):=
 if ds.length=f.nparams then
  match je P (λ_=>orc) k f.body (ds++List.replicate (f.ntmps-ds.length) (.aI [])) σ [] with
  |some (.normal,env,σ',wr)=>finish f σ env σ' wr
  |some (.ret,env,σ',wr)=>finish f σ env σ' wr
  |_=>none
 else none
def evF(P:Program)(b:FuncId->Option jE)(prim:ta)(k:Nat):Nat->ta
 |0=>λ_ _ _=>none
 |n + 1 => λg ds σ=>
  match prim g ds σ with
  |some r=>some r
  |none=>
   match b g with
   |some f=>evF1 P (evF P b prim k n) k f ds σ
   |none=>none
end Go.Abs
end
section
namespace Go
def Code.wq(P:Program)(c:Code)(Q:Exit->Act->World->Prop)(a:Act)(w:World):Prop:=
 c.wp P Q a w/\(c.calm=true->∀l n,c.wpIn (Fence.wide.inRound l) n P Q a w)
def lw(Q:Exit->Act->World->Prop):Exit->Act->World->Prop:=λe a w=>Q e a w/\e≠.outgrown
section
variable{P:Program}{ops:Array Oper}{Q:Exit->Act->World->Prop}{a:Act}{w:World}
theorem JR{c:Code}(h:c.wq P Q a w):c.wp P Q a w:=h.1
theorem PW:¬LetsOut (lw Q):=λ⟨_,_,h⟩=>h.2 rfl
theorem SU(l n:Nat){o:Oper}{K:Act->World->Prop}(hd:∀c,o.op≠.defer c)(h:o.wp P a w K Q):o.wpIn (Fence.wide.inRound l) n P a w K Q:=by
 refine ⟨λf _=>trivial,?_⟩;rw[Oper.semAt_eq _ _ _ hd];unfold Oper.wp at h;generalize (execOp a.eval o).run P w=r at *;cases r with
 |ok e w'=>
  cases e with
  |value v=>exact h
  |skip=>exact h
  |defer d=>exact h
  |enter f args=>exact ⟨λb=>by simp[Fence.wide] at b,CallsIn.inRound l (callsIn_wide.2 h)⟩
  |row row args=>exact ⟨λb=>by simp[Fence.wide] at b,λc g _=>let ⟨v,w',r,s⟩:=h c g;⟨v,w',r,stepsIn_wide.2 s⟩⟩
  |_=>exact h.elim
 |halt b w'=>cases b <;> first | exact h | exact h.elim
theorem Bt(l n:Nat){i:Nat}{a:Act}{w:World}{K:Act->World->Prop}(hd:∀(i:Nat) o c,ops[i]? = some o->o.op≠.defer c)(e:¬LetsOut Q)(h:wpOp P ops Q i K a w):wpOpIn (Fence.wide.inRound l) n P ops Q i K a w:=by
 unfold wpOp at h;unfold wpOpIn;split at h
 ·rename_i b;simp only[b];exact h
 ·rename_i o b;simp only[b];split at h
  ·rename_i d;simp only[d,if_true];rcases h with h | h
   ·exact SU l n (λc=>hd i o c b) h
   ·exact absurd h.2 e
  ·rename_i d;simp only[d,bA,bT];exact ⟨λf _=>trivial,h⟩
theorem xr{F:Fence}{n:Nat}{i:Nat}{a:Act}{w:World}{K b:Act->World->Prop}(hk:∀a w,K a w->b a w)(h:wpOpIn F n P ops Q i K a w):wpOpIn F n P ops Q i b a w:=by
 cases d:ops[i]? with
 |none=>simp only[wpOpIn,d] at h ⊢;exact hk _ _ h
 |some o=>
  simp only[wpOpIn,d] at h ⊢;cases e:Region.wanted o (yielded ops a.tmps) with
  |true=>simp only[e,if_true] at h ⊢;exact Oper.wpIn_mono hk h
  |false=>simp only[e,bA,bT] at h ⊢;exact ⟨h.1,hk _ _ h.2⟩
theorem QB(l n:Nat)(hd:∀(i:Nat) o c,ops[i]? = some o->o.op≠.defer c)(d:¬LetsOut Q):∀(b:List Nat)(a:Act)(w:World),wpOps P ops Q b a w->wpOpsIn (Fence.wide.inRound l) n P ops Q b a w:=by
 intro b;induction b with
 |nil=>intro a w h;exact h
 |cons i b ih=>intro a w h;rw[wpOps_cons] at h;rw[wpOpsIn_cons];exact xr (λa w=>ih a w) (Bt l n hd d h)
theorem OV(l n:Nat){md:Region.Mode}(hd:∀(i:Nat) o c,ops[i]? = some o->o.op≠.defer c)(d:¬LetsOut Q):∀(b:Nat)(listed:Array Bool)(a:Act)(w:World),wpAny P md ops Q b listed a w->wpAnyIn (Fence.wide.inRound l) n P md ops Q b listed a w:=by
 intro b;induction b with
 |zero=>intro listed a w h;exact h
 |succ b ih=>intro listed a w h;exact ⟨h.1,λi e=>xr (λa w=>ih _ a w) (Bt l n hd d (h.2 i e))⟩
theorem NZ{c:Code}{Q':Exit->Act->World->Prop}(h:c.wq P Q a w)(b:∀e a w,Q e a w->Q' e a w):c.wq P Q' a w:=
 ⟨wp_mono h.1 b,λd l n=>wpIn_mono (h.2 d l n) b⟩
theorem QI{id:Nat}(hd:∀(i:Nat) o c,ops[i]? = some o->o.op≠.defer c)(h:wpOps P ops (lw Q) (List.range ops.size) a w):(Code.region id ops false).wq P Q a w:=
 NZ (Q:=lw Q) ⟨wp_region h,λ_ l n=>wpIn_region (QB l n hd PW _ _ _ h)⟩ λ_ _ _ h=>h.1
theorem uL{id:Nat}(hm:P.follows .mixedOrders=true)(hd:∀(i:Nat) o c,ops[i]? = some o->o.op≠.defer c)
  (h:wpAny P .any ops (lw Q) ops.size (Array.replicate ops.size false) a { w with drawn:=w.drawn+1 }):(Code.region id ops true).wq P Q a w:=
 NZ (Q:=lw Q) ⟨wp_region_any hm h,λ_ l n=>wpIn_region_any hm (OV l n hd PW _ _ _ _ h)⟩ λ_ _ _ h=>h.1
theorem Xk(h:Q .normal a w):Code.skip.wq P Q a w:=⟨wp_skip h,λ_ _ _=>wpIn_skip h⟩
theorem Su{l:Nat}(h:Q .normal a w):(Code.label l).wq P Q a w:=⟨wp_label h,λ_ _ _=>wpIn_label h⟩
theorem Wu{i:Nat}(h:Q (.exit i) a w):(Code.exit i).wq P Q a w:=⟨wp_exit h,λ_ _ _=>wpIn_exit h⟩
theorem Yp{i:Nat}(h:Q (.goto i) a w):(Code.goto i).wq P Q a w:=⟨wp_goto h,λ_ _ _=>wpIn_goto h⟩
theorem wq_ret(h:Q .ret a w):Code.ret.wq P Q a w:=⟨wp_ret h,λ_ _ _=>wpIn_ret h⟩
theorem th{K b:Act->World->Prop}(hk:∀a w,K a w->b a w):∀e a w,Exit.then K Q e a w->Exit.then b Q e a w:=by intro e a w h;cases e <;> first | exact hk _ _ h | exact h
theorem Mx {x y:Code} (h:x.wq P (Exit.then (y.wq P Q) Q) a w):(Code.seq x y).wq P Q a w:=
 ⟨wp_seq (wp_mono h.1 (th fun _ _ h=>h.1)),fun b l n=>by
  simp only [Code.calm,bp] at b
  exact wpIn_seq (wpIn_mono (h.2 b.1 l n) (th fun _ _ h=>h.2 b.2 l n))⟩
theorem wo {c:Operand} {x y:Code} (b:a.eval c=.bool true) (h:x.wq P Q a w):(Code.cond c x y).wq P Q a w:=
 ⟨wp_cond_true b h.1,fun d l n=>by
  simp only [Code.calm,bp] at d
  exact wpIn_cond_true b (h.2 d.1 l n)⟩
theorem ux {c:Operand} {x y:Code} (b:a.eval c=.bool false) (h:y.wq P Q a w):(Code.cond c x y).wq P Q a w:=
 ⟨wp_cond_false b h.1,fun d l n=>by
  simp only [Code.calm,bp] at d
  exact wpIn_cond_false b (h.2 d.2 l n)⟩
theorem Js{id:Nat}{c:Code}(h:c.wq P (Exit.inBlock id Q) a w):(Code.block id c).wq P Q a w:=
 ⟨wp_block h.1,λb l n=>wpIn_block (h.2 b l n)⟩
def Code.rq(P:Program)(c:Code)(Q:Exit->Act->World->Prop):Nat->Act->World->Prop
 |0,_,_=>False
 |n+1,a,w=>c.wq P (Exit.then (Code.rq P c Q n) Q) a w
theorem Fv{c:Code}{n:Nat}:Code.rq P c Q (n+1) a w=c.wq P (Exit.then (Code.rq P c Q n) Q) a w:=rfl
theorem QF{c:Code}:∀(k:Nat)(a:Act)(w:World),Code.rq P c Q k a w->Code.rounds P c Q k a w:=by
 intro k;induction k with
 |zero=>intro a w h;exact h
 |succ k ih=>intro a w h;exact wp_mono h.1 (th λa w=>ih a w)
theorem Hq{c:Code}(b:c.calm=true)(l n:Nat):∀(k:Nat)(a:Act)(w:World),Code.rq P c Q k a w->Code.roundsIn (Fence.wide.inRound l) n P c Q k a w:=by
 intro k;induction k with
 |zero=>intro a w h;exact h
 |succ k ih=>intro a w h;exact wpIn_mono (h.2 b l n) (th λa w=>ih a w)
theorem rN{c:Code}(k:Nat)(h:Code.rq P c Q k a w):(Code.loop c).wq P Q a w:=
 ⟨wp_loop_rounds k (QF k a w h),λb l n=>wpIn_loop_rounds k (Hq (c:=c) (show c.calm=true from b) l n k a w h)⟩
end
end Go
namespace Go.Abs
theorem xu{P:Program}{op:Op}{t:TypeId}{ao:jB}(h:comp P op t=some ao):∀c,op≠.defer c:=by rintro c rfl;simp[comp,jG] at h
theorem nG{P:Program}{ops:Array Oper}{o:Oper}{ao:aD}(h:aT P ops o=some ao):∀c,o.op≠.defer c:=by
 unfold aT at h;split at h
 ·rename_i b;exact xu b
 ·cases h
end Go.Abs
end
section
namespace Go.Abs
variable{σ σ':ae}{M M':Nat->Option Nat}{Fz Fz':Nat->Prop}{w w':World}{P:Program}
theorem fM{D c:Nat}{o:Obj}(h:c≠D):(w.putObj D o).heap[c]? = w.heap[c]?:=World.putObj_heap_other h
theorem V.off{B:Nat}{x:Option (List Deferred)}{o:Obj}(O:¬Fz B)(hD:w.heap[B]? = some (.deferred x)){d:D}{v:Value}(h:V σ M Fz w d v):V σ M Fz (w.putObj B o) d v:=by
 induction h with
 |c h=>exact .c (h.mono λc K=>⟨K,fM (λe=>O (by rw[<-e];exact K))⟩)
 |any v=>exact .any v
 |ptr a u h j i=>exact .ptr a u h j i
 |sl a n cap A u h j i=>
  refine .sl a n cap A u h j (λR=>?_);rcases i R with s | ⟨c,o,E,T,U,W,X,Y,hh,hb⟩
  ·exact .inl s
  ·exact .inr ⟨c,o,E,T,U,W,X,Y,by grind [fM]⟩
 |mp c u h i=>exact .mp c u h i
 |fn z Z s h2 i hw F G=>exact .fn z Z s h2 F G
 |agg z s i ih=>exact .agg z s ih
 |aI z s i ih=>exact .aI z s ih
theorem bE.off{D:Nat}{x:Option (List Deferred)}{o':Obj}(G:¬Fz D)(K:w.heap[D]? = some (.deferred x)){ob:Ob}{o:Obj}(h:bE σ M Fz w ob o):bE σ M Fz (w.putObj D o') ob o:=by
 cases ob with
 |cells O=>obtain ⟨j,T,A,E,s⟩:=h;exact ⟨j,T,A,E,λi d v u z=>⟨(s i d v u z).1.off G K,(s i d v u z).2⟩⟩
 |map R F=>obtain ⟨j,A,E,s⟩:=h;exact ⟨j,A,E,λi k d n e u z=>let ⟨a,b,c⟩:=s i k d n e u z;⟨a,b,c.off G K⟩⟩
 |gone n=>exact h.elim
variable[Gl]
theorem Rel.off{D:Nat}{x:Option (List Deferred)}{o':Obj}(R:Rel σ M Fz w)(hm:∀b,M b≠some D)(i:¬Fz D)(s:w.heap[D]? = some (.deferred x)):Rel σ M Fz (w.putObj D o'):={
 blk:=λb c h=>by obtain ⟨u,ob,o,h1,h2,z⟩:=R.blk b c h;exact ⟨u,ob,o,h1,by rw[fM (λe=>hm b (by rw[<-e];exact h))];exact h2,z.off i s⟩
 inj:=R.inj
 fz:=λc h=>by simpa using R.fz c h
 gl:=Gl.mono (λc j=>⟨j,fM (λe=>i (by rw[<-e];exact j))⟩) R.gl }
def mark(D:Nat):Deferred:={ target:=.collected D,args:=#[] }
def MkD(n:Nat)(M:Nat->Option Nat)(Fz:Nat->Prop)(w:World)(D:Nat):Prop:=
 n<=D/\D<w.heap.size/\(∀b,M b≠some D)/\¬Fz D/\w.heap[D]? = some (.deferred (some []))
theorem MkD.mono{n D:Nat}(E:ba σ M Fz w σ' M' Fz' w')(h:MkD n M Fz w D):MkD n M' Fz' w' D:=by
 obtain ⟨a,b,c,d,e⟩:=h;refine ⟨a,By b E.size,λs j=>?_,λu=>?_,by rw[E.frame D b c];exact e⟩
 ·rcases E.ja s D j with ⟨o,i⟩ | i
  ·exact c o i
  ·omega
 ·rcases E.lD D u with i | ⟨o,i⟩ | i
  ·exact d i
  ·exact c o i
  ·omega
def Mk(n:Nat)(M:Nat->Option Nat)(Fz:Nat->Prop)(w:World)(ds b:List Deferred):Prop:=
 ∃d:List Nat,ds=d.map mark++b/\d.Nodup/\∀D∈d,MkD n M Fz w D
theorem Mk.refl(n:Nat)(ds:List Deferred):Mk n M Fz w ds ds:=⟨[],rfl,List.nodup_nil,λ_ h=>by cases h⟩
theorem Mk.of_eq{n:Nat}{ds i:List Deferred}(h:ds=i):Mk n M Fz w ds i:=h▸Mk.refl n ds
theorem Mk.mono{n:Nat}{ds i:List Deferred}(E:ba σ M Fz w σ' M' Fz' w')(h:Mk n M Fz w ds i):Mk n M' Fz' w' ds i:=
 let ⟨j,h1,h2,h3⟩:=h
 ⟨j,h1,h2,λD o=>(h3 D o).mono E⟩
theorem Mk.trans{n:Nat}{ds i j:List Deferred}(E:ba σ M Fz w σ' M' Fz' w')(W:n<=w.heap.size)(h:Mk n M Fz w i j)(F:Mk w.heap.size M' Fz' w' ds i):Mk n M' Fz' w' ds j:=by
 obtain ⟨G,K,O,A⟩:=h;obtain ⟨u,x,z,o⟩:=F;refine ⟨u++G,by rw[x,K];simp,?_,λD s=>?_⟩
 ·rw[List.nodup_append];refine ⟨z,O,λa R b U e=>?_⟩;have:=(o a R).1;have:=(A b U).2.1;omega
 ·rcases mw.1 s with s | s
  ·obtain ⟨a,b⟩:=o D s;exact ⟨by omega,b⟩
  ·exact (A D s).mono E
def Dl(M:Nat->Option Nat)(Fz:Nat->Prop)(f:Nat->Option Nat)(e:Nat->Prop):Prop:=(∀b c,f b=some c->∃d,M d=some c)/\(∀c,e c->Fz c∨∃d,M d=some c)/\∀c,Fz c->e c
theorem Dl.refl:Dl M Fz M Fz:=⟨λb c h=>⟨b,h⟩,λc h=>.inl h,λc h=>h⟩
theorem Dl.trans {s u:Nat→Option Nat} {x z:Nat→Prop} (h:Dl M Fz s x) (i:Dl s x u z):Dl M Fz u z:=
 ⟨fun b c e=>let ⟨j,o⟩:=i.1 b c e; h.1 j c o,fun c e=>by
  rcases i.2.1 c e with e | ⟨j,o⟩
  ·exact h.2.1 c e
  ·exact .inr (h.1 j c o),fun c e=>i.2.2 c (h.2.2 c e)⟩
theorem Mk.Zc{n:Nat}{ds i:List Deferred}{u:Nat->Option Nat}{x:Nat->Prop}(h:Mk n M Fz w ds i)(W:Dl M Fz u x):Mk n u x w ds i:=by
 obtain ⟨z,A,E,F⟩:=h;refine ⟨z,A,E,λD G=>?_⟩;obtain ⟨a,b,c,d,e⟩:=F D G;refine ⟨a,b,λK o=>?_,λO=>?_,e⟩
 ·obtain ⟨s,j⟩:=W.1 K D o;exact c s j
 ·rcases W.2.1 D O with j | ⟨s,j⟩
  ·exact d j
  ·exact c s j
theorem Mk.RG {n k:Nat} {fn:Func} {i:Array Value} {R:Ending→World→Prop}:∀(o:List Nat) (w:World),Rel σ M Fz w→o.Nodup →
  (∀D∈o,n≤D∧(∀b,M b≠some D)∧¬Fz D∧w.heap[D]? = some (.deferred (some []))) →
  (∀w',Rel σ M Fz w'→w'.heap.size=w.heap.size→(w'.os=w.os∧w'.tape=w.tape∧w'.output=w.output)→(∀c:Nat,c<n→w'.heap[c]? = w.heap[c]?)→(∀(c:Nat) arr T u,w.heap[c]? = some (Obj.cells arr T u)→w'.heap[c]? = w.heap[c]?)→(∀c:Nat,Fz c→w'.heap[c]? = w.heap[c]?)→(∀d v,V σ M Fz w d v→V σ M Fz w' d v) →
   ∃v,(results fn i).run P w'=.ok v w'∧R (.returned v) w') →
  LeavesInM Fence.wide k P fn i R (o.map mark) .returning w:=by
 intro o
 induction o with
 | nil =>
  intro w R _ _ h
  exact h w R rfl ⟨rfl,rfl,rfl⟩ (fun _ _=>rfl) (fun _ _ _ _ _=>rfl) (fun _ _=>rfl) (fun _ _ h=>h)
 | cons D o ih =>
  intro w R x E h
  obtain ⟨a,b,c,d⟩:=E D (by simp)
  simp only [List.nodup_cons] at x
  refine ⟨by simp,.inl ⟨D,_,rfl,run_takeDeferred d,?_⟩⟩
  refine ih _ (R.off b c d) x.2 (fun F s=>?_) fun w' G K z O U W X=>?_
  ·obtain ⟨Y,Z,c',A⟩:=E F (by simp [s])
   exact ⟨Y,Z,c',by rw [fM (fun e=>x.1 (by rw [←e]; exact s))]; exact A⟩
  ·refine h w' G (by rw [K]; simp) ⟨z.1,z.2.1,z.2.2⟩ (fun q j=>?_) (fun q arr T u j=>?_) (fun q j=>?_) (fun A v hv=>X A v (hv.off c d))
   ·rw [O q j,fM (by omega)]
   ·have:q≠D:=fun e=>by rw [e,d] at j; cases j
    rw [U q arr T u (by rw [fM this]; exact j),fM this]
   ·rw [W q j,fM (fun e=>c (by rw [←e]; exact j))]
theorem ba.RG{w'':World}(E:ba σ M Fz w σ' M' Fz' w')(u:w''.heap.size=w'.heap.size)(s:w''.os=w'.os/\w''.tape=w'.tape/\w''.output=w'.output)(x:∀c:Nat,c<w.heap.size->w''.heap[c]? = w'.heap[c]?)
  (z:∀(c:Nat) arr T o,w'.heap[c]? = some (Obj.cells arr T o)->w''.heap[c]? = w'.heap[c]?) (A:∀c:Nat,Fz' c->w''.heap[c]? = w'.heap[c]?):ba σ M Fz w σ' M' Fz' w'':={
 size:=by rw[u];exact E.size
 frame:=λc i F=>by rw[x c i];exact E.frame c i F
 ja:=E.ja
 fz:=λc i=>⟨(E.fz c i).1,by rw[A c (E.fz c i).1];exact (E.fz c i).2⟩
 lD:=E.lD
 nF:=λc arr T o i=>by obtain ⟨j,h,hs⟩:=E.nF c arr T o i;exact ⟨j,by rw[z c j T o h];exact h,hs⟩
 keep:=E.keep
 out:=⟨s.1.trans E.out.1,s.2.1.trans E.out.2.1,s.2.2.trans E.out.2.2⟩ }
theorem Mk.end{k:Nat}{fn:Func}{i:Array Value}{ds:List Deferred}{Q:Ending->World->Prop}(hd:Mk w.heap.size M' Fz' w' ds [])(R:Rel σ' M' Fz' w')(E:ba σ M Fz w σ' M' Fz' w')
  (h:∀w'',Rel σ' M' Fz' w''->ba σ M Fz w σ' M' Fz' w''->(∀d v,V σ' M' Fz' w' d v->V σ' M' Fz' w'' d v)->∃v,(results fn i).run P w''=.ok v w''/\Q (.returned v) w''):LeavesInM Fence.wide k P fn i Q ds .returning w':=by
 obtain ⟨o,s,u,x⟩:=hd;rw[s,Kp];refine Mk.RG (n:=w.heap.size) o w' R u (λD z=>?_) λw'' j A F G K O U=>h w'' j (E.RG A F G K O) U;obtain ⟨a,b,c,d,e⟩:=x D z;exact ⟨a,c,d,e⟩
omit [Gl] in
theorem k_{f:FuncId}{fn:Func}{c:Code}{args:Array Value}{R:Ending->World->Prop}(d:P.funcs[f]? = some fn)(g:fn.body=some c)
  (h:c.wp P (λe a w'=>(e=.normal∨e=.ret)/\LeavesInM Fence.wide 0 P fn a.tmps R a.defers .returning w') { tmps:=args++Array.replicate (fn.ntmps-args.size) undef,defers:=[] } w):Calls P f args w R:=
 callsIn_wide.1 (callsIn_of_wp_marks (F:=Fence.wide) (n:=0) d g trivial (wpIn_wide.2 (wp_mono h λe a w' b=>by
  rcases b with ⟨rfl | rfl,b⟩
  ·exact b
  ·exact b)) rfl)
end Go.Abs
end
section
namespace Go.Abs
variable[Gl]
structure Hi (M:Nat->Option Nat) (Fz:Nat->Prop) (w:World) (M':Nat->Option Nat) (Fz':Nat->Prop) (w':World):Prop where
 size:w.heap.size<=w'.heap.size
 frame:∀c:Nat,c<w.heap.size->(∀b,M b≠some c)->w'.heap[c]? = w.heap[c]?
 ext:∀b c,M b=some c->M' b=some c
 ja:∀b c,M' b=some c->M b=some c∨w.heap.size<=c
 fz:∀c:Nat,Fz c->Fz' c/\w'.heap[c]? = w.heap[c]?
 lD:∀c,Fz' c->Fz c∨w.heap.size<=c
 nF:∀(c:Nat) arr T fr,w.heap[c]? = some (.cells arr T fr)->∃arr',w'.heap[c]? = some (.cells arr' T fr)/\arr'.size=arr.size
 out:w'.os=w.os/\w'.tape=w.tape/\w'.output=w.output
section
variable{σ σ':ae}{M M' M'':Nat->Option Nat}{Fz Fz' Fz'':Nat->Prop}{w w' w'':World}
theorem Hi.refl:Hi M Fz w M Fz w:={
 size:=cn _
 frame:=λ_ _ _=>rfl
 ext:=λ_ _ h=>h
 ja:=λ_ _ h=>.inl h
 fz:=λ_ h=>⟨h,rfl⟩
 lD:=λ_ h=>.inl h
 nF:=λc i T j h=>⟨i,h,rfl⟩
 out:=⟨rfl,rfl,rfl⟩ }
theorem Hi.trans(A:Hi M Fz w M' Fz' w')(B:Hi M' Fz' w' M'' Fz'' w''):Hi M Fz w M'' Fz'' w'':={
 size:=jz A.size B.size
 frame:=λc o u=>by
  rw[<-A.frame c o u];refine B.frame c (By o A.size) (λb x=>?_);rcases A.ja b c x with i | i
  ·simp_all
  ·omega
 ext:=λb c h=>B.ext b c (A.ext b c h)
 ja:=λb c h=>by
  rcases B.ja b c h with i | i
  ·exact A.ja b c i
  ·exact .inr (jz A.size i)
 fz:=λc h=>⟨(B.fz c (A.fz c h).1).1,by rw[(B.fz c (A.fz c h).1).2,(A.fz c h).2]⟩
 lD:=λc h=>by
  rcases B.lD c h with i | i
  ·exact A.lD c i
  ·exact .inr (jz A.size i)
 nF:=λc j T s h=>by
  obtain ⟨z,h1,E⟩:=A.nF c j T s h;obtain ⟨F,h2,G⟩:=B.nF c z T s h1
  simp_all
 out:=⟨B.out.1.trans A.out.1,B.out.2.1.trans A.out.2.1,B.out.2.2.trans A.out.2.2⟩ }
def kz(σ σ':ae):Prop:=∀(b:Nat) ob,σ[b]? = some ob->∃d,σ'[b]? = some d/\d.sz=ob.sz
theorem kz.refl:kz σ σ:=λ_ i h=>⟨i,h,rfl⟩
theorem V.sub(s:kz σ σ')(z:∀b c,M b=some c->M' b=some c)(G:∀c:Nat,Fz c->Fz' c/\w'.heap[c]? = w.heap[c]?)
  (A:∀(c:Nat) arr T fr,w.heap[c]? = some (.cells arr T fr)->∃i,w'.heap[c]? = some (.cells i T fr)/\i.size=arr.size) {d:D} {v:Value} (h:V σ M Fz w d v):V σ' M' Fz' w' d v:=by
 induction h with
 |c h=>exact .c (h.mono G)
 |any v=>exact .any v
 |ptr a W h K u=>
  obtain ⟨j,E,hs⟩:=s _ _ h;refine .ptr a j E (by omega) (λX=>?_)
  grind
 |sl a n cap O W h K u=>
  obtain ⟨j,E,hs⟩:=s _ _ h;refine .sl a n cap O j E (by omega) (λX=>?_);rcases u (by omega) with x | ⟨c,o,arr,T,hM,ha,hn,hl,ho,Y,hb,hz⟩
  ·simp_all
  ·obtain ⟨i,Z,aa⟩:=A _ _ _ _ Y
   simp_all
 |mp c W h u=>obtain ⟨j,E,hs⟩:=s _ _ h;exact .mp c j E (λX=>z _ _ (u (by omega)))
 |fn F ws x h2 u hw R U=>exact .fn F ws x h2 R U
 |agg F x u ih=>exact .agg F x ih
 |aI F x u ih=>exact .aI F x ih
theorem V.ext(i:kz σ σ')(S:Hi M Fz w M' Fz' w'){d:D}{v:Value}(h:V σ M Fz w d v):V σ' M' Fz' w' d v:=h.sub i S.ext S.fz S.nF
theorem bE.sub(A:kz σ σ')(s:∀b c,M b=some c->M' b=some c){ob:Ob}{o:Obj}(h:bE σ M Fz w ob o):bE σ' M' Fz w ob o:=by
 have e:∀{d v},V σ M Fz w d v->V σ' M' Fz w d v:=λh=>h.sub A s (λc h=>⟨h,rfl⟩) (λc j T O h=>⟨j,h,rfl⟩);cases ob with
 |cells R=>obtain ⟨j,T,E,F,u⟩:=h;exact ⟨j,T,E,F,λi d v x z=>⟨e (u i d v x z).1,(u i d v x z).2⟩⟩
 |map U G=>obtain ⟨j,E,F,u⟩:=h;exact ⟨j,E,F,λi k d n K x z=>let ⟨a,b,c⟩:=u i k d n K x z;⟨a,b,e c⟩⟩
 |gone n=>exact h.elim
theorem bE.ext(s:kz σ σ')(S:Hi M Fz w M' Fz' w'){ob:Ob}{o:Obj}(h:bE σ M Fz w ob o):bE σ' M' Fz' w' ob o:=by
 cases ob with
 |cells G=>obtain ⟨j,T,A,E,u⟩:=h;exact ⟨j,T,A,E,λi d v x z=>⟨(u i d v x z).1.ext s S,(u i d v x z).2⟩⟩
 |map K F=>obtain ⟨j,A,E,u⟩:=h;exact ⟨j,A,E,λi k d n e x z=>let ⟨a,b,c⟩:=u i k d n e x z;⟨a,b,c.ext s S⟩⟩
 |gone n=>exact h.elim
theorem V.down(z:kz σ σ'){d:D}{v:Value}(h:V σ' M' Fz' w' d v):∀{A:Value},V σ M Fz w d A->V σ M' Fz' w' d v:=by
 induction h with
 |c h=>intro _ _;exact .c h
 |any v=>intro _ _;exact .any v
 |ptr a W h R x=>
  intro A o;cases o with
  |ptr a0 s j _ _=>obtain ⟨E,u,hs⟩:=z _ _ j;rw[h] at u;simp only[aj] at u;subst u;exact .ptr a s j (by omega) (λX=>x (by omega))
 |sl a n cap U W h R x=>
  intro A o;cases o with
  |sl a0 n0 Y _ s j _ _=>obtain ⟨E,u,hs⟩:=z _ _ j;rw[h] at u;simp only[aj] at u;subst u;exact .sl a n cap U s j (by omega) (λX=>x (by omega))
 |mp c W h x=>
  intro A o;cases o with
  |mp c0 s j _=>obtain ⟨E,u,hs⟩:=z _ _ j;rw[h] at u;simp only[aj] at u;subst u;exact .mp c s j (λX=>x (by omega))
 |fn F ws G h2 x hw aa ab=>
  intro A o;cases o with
  |fn K ad Z k2 O af=>
   refine .fn F ws G h2 (λi d v a b=>?_) (λi d v a b=>?_)
   ·grind
   grind
 |agg F G x ih=>
  intro A o;cases o with
  |agg K Z O=>
   refine .agg F G (λi d v a b=>?_)
   grind
 |aI F G x ih=>
  intro A o;cases o with
  |aI K Z O=>
   refine .aI F G (λi d v a b=>?_)
   grind
theorem bE.down(x:kz σ σ'){ob:Ob}{o W:Obj}(h:bE σ' M' Fz' w' ob o)(U:bE σ M Fz w ob W):bE σ M' Fz' w' ob o:=by
 cases ob with
 |cells Y=>obtain ⟨s,T,F,G,A⟩:=h;obtain ⟨z,Z,K,O,u⟩:=U;refine ⟨s,T,F,G,λi d v j E=>⟨?_,(A i d v j E).2⟩⟩;have X:=(d_.1 j).1;exact (A i d v j E).1.down x (u i d _ j (oF (by omega))).1
 |map es R=>obtain ⟨s,F,G,A⟩:=h;obtain ⟨z,K,O,u⟩:=U;refine ⟨s,F,G,λi k d n e j E=>?_⟩;have X:=(d_.1 j).1;obtain ⟨a,b,c⟩:=A i k d n e j E;exact ⟨a,b,c.down x (u i k d n _ j (oF (by omega))).2.2⟩
 |gone n=>exact h.elim
def cz(M:Nat->Option Nat)(n:Nat):Nat->Option Nat:=λb=>if b<n then M b else none
theorem V.cut{d:D}{v:Value}(h:V σ M Fz w d v):V σ (cz M σ.length) Fz w d v:=by
 induction h with
 |c h=>exact .c h
 |any v=>exact .any v
 |ptr a u h i j=>refine .ptr a u h i (λA=>?_);obtain ⟨c,O,R⟩:=j A;exact ⟨c,by simp only[cz];grind,R⟩
 |sl a n cap E u h i j=>
  refine .sl a n cap E u h i (λA=>?_);rcases j A with s | ⟨c,o,F,T,O,x⟩
  ·simp_all
  ·exact .inr ⟨c,o,F,T,by simp only[cz];grind,x⟩
 |mp c u h j=>exact .mp c u h (λA=>by simp only[cz];grind)
 |fn z U s W j X G K=>exact .fn z U s W G K
 |agg z s j ih=>exact .agg z s ih
 |aI z s j ih=>exact .aI z s ih
theorem bE.cut{ob:Ob}{o:Obj}(h:bE σ M Fz w ob o):bE σ (cz M σ.length) Fz w ob o:=by
 cases ob with
 |cells F=>obtain ⟨j,T,z,A,s⟩:=h;exact ⟨j,T,z,A,λi d v u x=>⟨(s i d v u x).1.cut,(s i d v u x).2⟩⟩
 |map G E=>obtain ⟨j,z,A,s⟩:=h;exact ⟨j,z,A,λi k d n e u x=>let ⟨a,b,c⟩:=s i k d n e u x;⟨a,b,c.cut⟩⟩
 |gone n=>exact h.elim
end
inductive zB (ops:Array Oper):Nat->Nat->Prop where
 |one {i j:Nat} {o:Oper} {e:Edge} (ho:ops[j]? = some o) (he:e∈o.after) (hb:Region.binds .any e=true) (hi:e.on=i):zB ops i j
 |more {i j k:Nat} {o:Oper} {e:Edge} (ho:ops[j]? = some o) (he:e∈o.after) (hb:Region.binds .any e=true) (hk:e.on=k) (h:zB ops i k):zB ops i j
def eQ(ops:Array Oper)(S:Nat->Prop):Prop:=∀(j:Nat) o e,S j->ops[j]? = some o->e∈o.after->Region.binds .any e=true->S e.on
theorem zB.in{ops:Array Oper}{S:Nat->Prop}(x:eQ ops S){i j:Nat}(h:zB ops i j)(z:S j):S i:=by
 induction h with
 |one o s u A=>exact A▸x _ _ _ z o s u
 |more o s u hk h ih=>exact ih (hk▸x _ _ _ z o s u)
theorem zB.ready{ops:Array Oper}{S:Nat->Prop}(z:eQ ops S){i j:Nat}(h:zB ops i j)(A:∀o e,ops[j]? = some o->e∈o.after->Region.binds .any e=true->S e.on):S i:=by
 cases h with
 |one s u x E=>grind
 |more s u x hk h=>exact h.in z (hk▸A _ _ s u x)
theorem Ry{ops:Array Oper}{j:Nat}{o:Oper}(m:ops[j]? = some o){acc:List Nat}(f:∀k i,(acc.getD k 0).testBit i=true->zB ops i k){i:Nat}(h:(Hu acc o).testBit i=true):zB ops i j:=by
 unfold Hu at h;have n:∀(l:List Edge)(s:Nat),(∀e∈l,e∈o.after)->(s.testBit i=true->zB ops i j) ->
   (l.foldl (λs e=>if Region.binds .any e then s ||| 2 ^ e.on ||| acc.getD e.on 0 else s) s).testBit i=true->zB ops i j:=by
  intro l;induction l with
  |nil=>simp_all
  |cons e l ih=>
   intro s g hs h;simp only[List.foldl_cons] at h;refine ih _ (λp q=>g p (by grind)) ?_ h;intro d;split at d
   ·rename_i b;simp only[Nat.testBit_or,dZ,Nat.testBit_two_pow,aQ] at d;rcases d with (d | d) | d
    ·simp_all
    ·exact .one m (g e (by simp)) b d
    ·exact .more m (g e (by simp)) b rfl (f _ _ d)
   simp_all
 grind
theorem Ac{ops:Array Oper}{i j:Nat}(h:((MU ops.toList).getD j 0).testBit i=true):zB ops i j:=by
 have m:∀(l pre:List Oper)(b:List Nat),ops.toList=pre++l->b.length=pre.length->(∀k i,(b.getD k 0).testBit i=true->zB ops i k) ->
   ∀k i,((l.foldl (λb o=>b++[Hu b o]) b).getD k 0).testBit i=true->zB ops i k:=by
  intro l;induction l with
  |nil=>simp_all
  |cons o l ih=>
   intro pre b d e f k i h;simp only[List.foldl_cons] at h;refine ih (pre++[o]) (b++[Hu b o]) (by simp_all) (by simp_all) ?_ k i h;intro k i g;rw[yBW,yBz] at g;split at g
   ·simp_all
   ·rename_i hk;by_cases n:k=b.length
    ·subst n;simp at g;refine Ry ?_ f g;rw[<-Kr,d,e,KE (cn _)];simp
    grind
 exact m ops.toList [] [] rfl rfl (by simp) j i h
end Go.Abs
end
section
namespace Go.Abs
variable[Gl]
structure Tr (P:Program) (orc:fA) (ops:Array Oper) (os:List aD) (p0 n0:Nat) (env:Nat->List D) (sg:Nat->ae) (wrs:Nat->List Nat):Prop where
 len:os.length=ops.size
 comp:∀(j:Nat) ao,os[j]? = some ao->∃o,ops[j]? = some o/\aT P ops o=some ao
 step:∀(i:Nat) ao,os[i]? = some ao->dU P orc ao (env i) (sg i)=some (env (i+1),sg (i+1),wrs i)
 wrk:∀i,i<n0->jm (sg i) (sg (i+1)) (wrs i)=true
 le:n0<=os.length
 pair:∀(i j:Nat) x y,i<j->os[i]? = some x->os[j]? = some y->zB ops i j∨apart (cQ x (env i) (sg i).length (sg (i+1)).length (wrs i)) (cQ y (env j) (sg j).length (sg (j+1)).length (wrs j))=true
 lead:∀i,i<p0->sg (i+1)=sg i/\wrs i=[]
 ple:p0<=n0
section
variable{P:Program}{orc:fA}{ops:Array Oper}{os:List aD}{p0 n0:Nat}{env:Nat->List D}{sg:Nat->ae}{wrs:Nat->List Nat}
theorem fS(O:lP P orc){ao:aD}{e e':List D}{σ σ':ae}{wr:List Nat}(h:dU P orc ao e σ=some (e',σ',wr)) :
  σ.length<=σ'.length/\(∀b,b<σ.length->b∉wr->σ'[b]? = σ[b]?)/\∃d,e'=lT e ao.dst d:=by
 unfold dU at h;split at h
 ·simp only[bU] at h;obtain ⟨⟨d,g,bJ⟩,f,h⟩:=h;simp only[aM] at h;obtain ⟨rfl,rfl,rfl⟩:=h;obtain ⟨i,j⟩:=KL (O _) f
  grind
 ·grind
 simp_all
theorem Tr.at(T:Tr P orc ops os p0 n0 env sg wrs){i:Nat}(h:i<os.length):∃ao,os[i]? = some ao:=⟨_,cT h⟩
theorem Tr.frame(T:Tr P orc ops os p0 n0 env sg wrs)(O:lP P orc){i:Nat}(h:i<os.length) :
  (sg i).length<=(sg (i+1)).length/\∀b,b<(sg i).length->b∉wrs i->(sg (i+1))[b]? = (sg i)[b]?:=by
 obtain ⟨o,j⟩:=T.at h;obtain ⟨s,u,_⟩:=fS O (T.step i o j)
 simp_all
theorem Tr.sz1(T:Tr P orc ops os p0 n0 env sg wrs)(O:lP P orc){i:Nat}(h:i<n0):kz (sg i) (sg (i+1)):=by
 intro b u o;have j:=(d_.1 o).1;by_cases s:b∈wrs i
 ·have:=fE.1 (T.wrk i h) b s
  grind
 ·exact ⟨u,by rw[(T.frame O (By h T.le)).2 b j s];exact o,rfl⟩
theorem Tr.sz(T:Tr P orc ops os p0 n0 env sg wrs)(O:lP P orc){m m':Nat}(h:m<=m')(u:m'<=n0):kz (sg m) (sg m'):=by
 induction m' with
 |zero=>grind [kz.refl]
 |succ k ih=>
  by_cases e:m=k+1
  ·grind [kz.refl]
  ·intro b i j;obtain ⟨o,s,s1⟩:=ih (by omega) (by omega) b i j;obtain ⟨x,z,A⟩:=T.sz1 O (by omega) b o s
   simp_all
theorem Tr.cd(T:Tr P orc ops os p0 n0 env sg wrs)(O:lP P orc){m m':Nat}(h:m<=m')(i:m'<=os.length):(sg m).length<=(sg m').length:=by
 induction m' with
 |zero=>simp_all
 |succ k ih=>
  by_cases e:m=k+1
  ·simp_all
  ·exact jz (ih (by omega) (by omega)) (T.frame O (by omega)).1
theorem Tr.QQ(T:Tr P orc ops os p0 n0 env sg wrs)(O:lP P orc){m m' b:Nat}(h:m<=m')(x:m'<=os.length)(o:b<(sg m).length)(j:∀i,m<=i->i<m'->b∉wrs i) :
  (sg m')[b]? = (sg m)[b]?:=by
 induction m' with
 |zero=>simp_all
 |succ k ih=>
  by_cases e:m=k+1
  ·simp_all
  ·have s:=ih (by omega) (by omega) (λi u hk=>j i u (by omega));rw[<-s];exact (T.frame O (by omega)).2 b (By o (T.cd O (by omega) (by omega))) (j k (by omega) (by omega))
theorem Tr.xV(T:Tr P orc ops os p0 n0 env sg wrs)(O:lP P orc){m:Nat}(h:m<=os.length):(env m).length=(env 0).length:=by
 induction m with
 |zero=>rfl
 |succ k ih=>obtain ⟨o,j⟩:=T.at (i:=k) (by omega);obtain ⟨_,_,d,hd⟩:=fS O (T.step k o j);rw[hd,<-ih (by omega)];cases o.dst <;> simp[lT]
theorem Tr.wO(T:Tr P orc ops os p0 n0 env sg wrs)(O:lP P orc){m m' t:Nat}(h:m<=m')(z:m'<=os.length)(o:∀i ao,m<=i->i<m'->os[i]? = some ao->ao.dst≠some t) :
  (env m')[t]? = (env m)[t]?:=by
 induction m' with
 |zero=>simp_all
 |succ k ih=>
  by_cases e:m=k+1
  ·simp_all
  ·rw[<-ih (by omega) (by omega) (λi ao x hk=>o i ao x (by omega))];obtain ⟨ao,j⟩:=T.at (i:=k) (by omega);obtain ⟨_,_,d,hd⟩:=fS O (T.step k ao j);rw[hd];have:=o k ao (by omega) (by omega) j;cases u:ao.dst with
   |none=>rfl
   |some s=>grind [lT]
structure Inv (os:List aD) (n0:Nat) (env:Nat->List D) (sg:Nat->ae) (wrs:Nat->List Nat) (M0:Nat->Option Nat) (Fz0:Nat->Prop) (w0:World) (qL:List Deferred)
  (S:Nat->Prop) (M:Nat->Option Nat) (Fz:Nat->Prop) (w:World) (a:Act):Prop where
 Pp:a.tmps.size=(env 0).length
 qL:a.defers=qL
 tmp:∀(t m:Nat),m<=n0->(∀i o,i<n0->os[i]? = some o->o.dst=some t->(i<m↔S i))->∀d v,(env m)[t]? = some d->a.tmps[t]? = some v->V (sg m) M Fz w d v
 own:∀b c,M b=some c->¬Fz c/\c<w.heap.size/\((b<(sg 0).length/\M0 b=some c)∨∃j,j<n0/\S j/\(sg j).length<=b/\b<(sg (j+1)).length)
 blk:∀b c,M b=some c->∀m ob,m<=n0->(sg m)[b]? = some ob->(∀i,i<n0->b∈wrs i->(i<m↔S i))->∃o,w.heap[c]? = some o/\bE (sg m) M Fz w ob o
 inj:∀b b' c,M b=some c->M b'=some c->b=b'
 fz:∀c,Fz c->c<w.heap.size
 AB:Hi M0 Fz0 w0 M Fz w
 gl0:Gl.ok Fz0 w0
theorem Inv.start{σ:ae}{M:Nat->Option Nat}{Fz:Nat->Prop}{w:World}{a:Act}(R:Rel σ M Fz w)(j:sg 0=σ)(E:cR σ M Fz w (env p0) a.tmps){S:Nat->Prop}(U:∀i,i<os.length->(S i↔i<p0))
  (T:Tr P orc ops os p0 n0 env sg wrs) (O:lP P orc):Inv os n0 env sg wrs M Fz w a.defers S M Fz w a:={
 Pp:=by rw[E.1,T.xV O (jz T.ple T.le)]
 qL:=rfl
 tmp:=λt m x z d v h1 h2=>by
  have A:=T.le;have W:=T.ple;have he:(env m)[t]? = (env p0)[t]?:=by
   rcases Nat.le_total m p0 with h | h
   ·exact (T.wO O (m:=m) (m':=p0) (t:=t) h (by omega) (λi X F G s hd=>by have:=(z i X (by omega) s hd).2 ((U i (by omega)).2 G);omega)).symm
   ·exact T.wO O (m:=p0) (m':=m) (t:=t) h (by omega) (λi X F aa s hd=>by grind)
  rw[he] at h1;have hv:V (sg 0) M Fz w d v:=j▸E.2 t d v h1 h2;exact hv.ext (T.sz O (KZ m) x) Hi.refl
 own:=λb c h=>by have Y:=R.lt h;exact ⟨(R.blk b c h).1,Y.2,.inl ⟨by simp_all,h⟩⟩
 blk:=λb c h m ob x u z=>by
  have Y:=R.lt h;have A:=T.le;have:=T.QQ O (m:=0) (m':=m) (b:=b) (by omega) (jz x T.le) (by simp_all) (λi _ F Z=>by
   have K:=(U i (by omega)).1 ((z i (by omega) Z).1 F);rw[(T.lead i K).2] at Z
   grind)
  rw[this,j] at u;obtain ⟨_,ab,o,h1,h2,K⟩:=R.blk b c h;rw[u] at h1;simp only[aj] at h1;subst h1;exact ⟨o,h2,(j▸K:bE (sg 0) M Fz w ob o).ext (T.sz O (by omega) x) Hi.refl⟩
 inj:=R.inj
 fz:=R.fz
 AB:=Hi.refl
 gl0:=R.gl }
theorem Inv.done{M0 M:Nat->Option Nat}{Fz0 Fz:Nat->Prop}{w0 w:World}{a:Act}{qL:List Deferred}{S:Nat->Prop}(I:Inv os n0 env sg wrs M0 Fz0 w0 qL S M Fz w a)(T:Tr P orc ops os p0 n0 env sg wrs)(O:lP P orc)
  (K:∀i,i<n0->S i) (R:∀b,M0 b≠none->b<(sg 0).length):Rel (sg n0) M Fz w/\cR (sg n0) M Fz w (env n0) a.tmps/\ba (sg 0) M0 Fz0 w0 (sg n0) M Fz w:=by
 refine ⟨⟨λb c h=>?_,I.inj,I.fz,Gl.mono I.AB.fz I.gl0⟩,⟨by rw[I.Pp,T.xV O T.le],λt d v x A=>I.tmp t n0 (cn _) (λi _ u _ _=>⟨λ_=>K i u,λ_=>u⟩) d v x A⟩,?_⟩
 ·obtain ⟨x,A,s⟩:=I.own b c h;have z:b<(sg n0).length:=by
   rcases s with ⟨s,_⟩ | ⟨j,U,_,_,s⟩
   ·exact By s (T.cd O (by omega) T.le)
   ·exact By s (T.cd O (by omega) T.le)
  have E:(sg n0)[b]? = some (sg n0)[b]:=cT z;obtain ⟨o,Z,h5⟩:=I.blk b c h n0 _ (cn _) E (λi u _=>⟨λ_=>K i u,λ_=>u⟩)
  simp_all
 ·refine ⟨I.AB.size,I.AB.frame,λb c h=>?_,I.AB.fz,λc h=>?_,I.AB.nF,λb W z=>?_,I.AB.out⟩
  ·rcases I.AB.ja b c h with h | h
   ·grind
   omega
  ·rcases I.AB.lD c h with h | h
   ·simp_all
   omega
  ·obtain ⟨F,x,A⟩:=T.sz O (by omega) (cn n0) b W z;refine ⟨F,x,by omega,λ_=>?_⟩;have X:=(d_.1 z).1;cases Y:M0 b with
   |some c=>exact I.AB.ext b c Y
   |none=>
    cases G:M b with
    |none=>rfl
    |some c=>
     obtain ⟨_,_,s⟩:=I.own b c G;rcases s with ⟨_,s⟩ | ⟨j,U,_,s,_⟩
     ·simp_all
     ·have:=T.cd O (m:=0) (m':=j) (by omega) (by have:=T.le;omega);omega
end
end Go.Abs
end
section
namespace Go.Abs
variable[Gl]
section
variable{P:Program}{orc:fA}{ops:Array Oper}{os:List aD}{p0 n0:Nat}{env:Nat->List D}{sg:Nat->ae}{wrs:Nat->List Nat}
variable{M0 M M':Nat->Option Nat}{Fz0 Fz Fz':Nat->Prop}{w0 w w':World}{a:Act}{qL:List Deferred}{S S':Nat->Prop}
theorem Tr.wr_lt(T:Tr P orc ops os p0 n0 env sg wrs){i b:Nat}(h:i<n0)(j:b∈wrs i):b<(sg i).length:=by
 have:=fE.1 (T.wrk i h) b j
 grind
theorem fi {x y:dz} (h:apart x y=true) :
  (∀t,x.dst=some t→t∉y.ZR)∧(∀t,y.dst=some t→t∉x.ZR)∧(∀t,x.dst=some t→y.dst≠some t)∧safe x y.wr=true∧safe y x.wr=true ∧
   (∀b∈y.wr,¬(x.lo≤b∧b<x.hi))∧(∀b∈x.wr,¬(y.lo≤b∧b<y.hi)):=by
 simp only [apart,bp] at h
 obtain ⟨⟨⟨⟨k,l⟩,m⟩,f,g⟩,i,j⟩:=h
 refine ⟨fun t e=>?_,fun t e=>?_,fun t e n=>?_,f,g,fun b d=>?_,fun b d=>?_⟩
 ·grind [Zi]
 ·grind [Zi]
 ·simp_all
 ·have:=fE.1 i b d
  grind
 ·have:=fE.1 j b d
  grind
theorem Tr.other (T:Tr P orc ops os p0 n0 env sg wrs) (K:eQ ops S) {k i:Nat} {x y:aD} (O:os[k]? = some x) (R:os[i]? = some y) (s:i≠k) (u:¬S k)
    (z:∀o e,ops[k]? = some o→e∈o.after→Region.binds .any e=true→S e.on) :
    (i<k∧S i)∨(k<i∧¬S i) ∨
      ((∀t,y.dst=some t→t∉uQ x)∧(∀t,x.dst=some t→y.dst≠some t) ∧
        safe (cQ x (env k) (sg k).length (sg (k+1)).length (wrs k)) (wrs i)=true∧safe (cQ y (env i) (sg i).length (sg (i+1)).length (wrs i)) (wrs k)=true ∧
        (∀b∈wrs i,¬((sg k).length≤b∧b<(sg (k+1)).length))):=by
  rcases Nat.lt_or_gt_of_ne s with h | h
  · rcases T.pair i k y x h R O with j | j
    · exact .inl ⟨h,j.ready K z⟩
    · obtain ⟨U,_,A,E,F,_,W⟩:=fi j
      exact .inr (.inr ⟨U,fun t X G=>A t G X,F,E,W⟩)
  · rcases T.pair k i x y h O R with j | j
    · exact .inr (.inl ⟨h,fun Y=>u (j.in K Y)⟩)
    · obtain ⟨_,Z,A,E,F,h6,_⟩:=fi j
      exact .inr (.inr ⟨Z,A,E,F,h6⟩)
theorem Inv.next(I:Inv os n0 env sg wrs M0 Fz0 w0 qL S M Fz w a)(T:Tr P orc ops os p0 n0 env sg wrs)(O:lP P orc)(hC:eQ ops S){k:Nat}{ao:aD}{d:D}{v:Value}(hk:k<n0)(A:os[k]? = some ao)(W:¬S k)
  (X:∀o e,ops[k]? = some o->e∈o.after->Region.binds .any e=true->S e.on) (E:∀i,S' i↔S i∨i=k) (st:Hi M Fz w M' Fz' w') (F:env (k+1)=lT (env k) ao.dst d)
  (hv:V (sg (k+1)) M' Fz' w' d v) (G:∀b b' c,M' b=some c->M' b'=some c->b=b') (Y:∀c,Fz' c->c<w'.heap.size)
  (K:∀b c,M' b=some c->¬Fz' c/\c<w'.heap.size/\(M b=some c∨((sg k).length<=b/\b<(sg (k+1)).length)))
  (R:∀b c,M' b=some c->∀m ob,m<=n0->(sg m)[b]? = some ob->(∀i,i<n0->b∈wrs i->(i<m↔S' i))->∃o,w'.heap[c]? = some o/\bE (sg m) M' Fz' w' ob o) :
  Inv os n0 env sg wrs M0 Fz0 w0 qL S' M' Fz' w' (a.put ao.dst v):={
 Pp:=by rw[<-I.Pp];cases ao.dst <;> simp[Act.put]
 qL:=by rw[<-I.qL];cases ao.dst <;> rfl
 tmp:=λt m Z hc d' v' u h2=>by
  by_cases ht:ao.dst=some t
  ·have af:k<m:=(hc k ao hk A ht).2 ((E k).2 (.inr rfl));have aa:=T.wO O (m:=k+1) (m':=m) (t:=t) (by omega) (jz Z T.le) (λi x hi ab hx hd=>by
    have z:=(hc i x (by omega) hx hd).1 ab;rcases (E i).1 z with z | z
    ·rcases T.other hC A hx (by omega) W X with ⟨h,_⟩ | ⟨_,h⟩ | ⟨_,h,_⟩
     ·omega
     ·grind
     grind
    ·omega)
   rw[aa,F,ht] at u;rw[ht] at h2;simp only[lT,yB2] at u;simp only[Act.put,Rk] at h2;simp only[if_true] at u h2;split at u
   ·rename_i ak;rw[if_pos (by grind)] at h2;simp only[aj] at u h2;subst u h2;exact hv.ext (T.sz O (by omega) Z) Hi.refl
   grind
  ·have ad:a.tmps[t]? = some v':=by
    cases hd:ao.dst with
    |none=>rw[hd] at h2;exact h2
    |some s=>
     rw[hd] at h2;simp only[Act.put,Rk] at h2
     grind
   refine (I.tmp t m Z (λi o hi ho hd=>?_) d' v' u ad).ext kz.refl st
   grind
 own:=λb c h=>by
  obtain ⟨u,h2,U⟩:=K b c h;refine ⟨u,h2,?_⟩;rcases U with U | U
  ·rcases (I.own b c U).2.2 with h4 | ⟨j,hj,an,h4⟩
   ·simp_all
   grind
  grind
 blk:=R
 inj:=G
 fz:=Y
 AB:=I.AB.trans st
 gl0:=I.gl0 }
theorem Inv.Us(I:Inv os n0 env sg wrs M0 Fz0 w0 qL S M Fz w a)(T:Tr P orc ops os p0 n0 env sg wrs)(O:lP P orc)(F:eQ ops S){k:Nat}{ao:aD}{d:D}{v:Value}(hk:k<n0)(s:os[k]? = some ao)(u:¬S k)
  (x:∀o e,ops[k]? = some o->e∈o.after->Region.binds .any e=true->S e.on) (z:∀i,S' i↔S i∨i=k) (j:env (k+1)=lT (env k) ao.dst d)
  (A:sg (k+1)=sg k) (G:wrs k=[]) (K:V (sg k) M Fz w d v):Inv os n0 env sg wrs M0 Fz0 w0 qL S' M Fz w (a.put ao.dst v):=by
 refine I.next T O F hk s u x z Hi.refl j (A▸K) I.inj I.fz (λb c h=>⟨(I.own b c h).1,(I.own b c h).2.1,.inl h⟩) (λb c h m R U E W=>?_);refine I.blk b c h m R U E (λi X Y=>?_)
 grind
theorem Inv.alloc(I:Inv os n0 env sg wrs M0 Fz0 w0 qL S M Fz w a)(T:Tr P orc ops os p0 n0 env sg wrs)(O:lP P orc)(hC:eQ ops S){k:Nat}{ao:aD}{d:D}{v:Value}{ob:Ob}{o:Obj}(hk:k<n0)(F:os[k]? = some ao)(G:¬S k)
  (K:∀o e,ops[k]? = some o->e∈o.after->Region.binds .any e=true->S e.on) (R:∀i,S' i↔S i∨i=k) (U:env (k+1)=lT (env k) ao.dst d)
  (z:sg (k+1)=sg k++[ob]) (ak:wrs k=[]) (Y:bE (sg k++[ob]) (ut M (sg k).length w.heap.size) Fz (w.alloc o) ob o)
  (hv:V (sg k++[ob]) (ut M (sg k).length w.heap.size) Fz (w.alloc o) d v):Inv os n0 env sg wrs M0 Fz0 w0 qL S' (ut M (sg k).length w.heap.size) Fz (w.alloc o) (a.put ao.dst v):=by
 have X:M (sg k).length=none:=by
  cases h:M (sg k).length with
  |none=>rfl
  |some c=>
   rcases (I.own _ c h).2.2 with ⟨x,_⟩ | ⟨j,hj,an,x,A⟩
   ·have:=T.cd O (m:=0) (m':=k) (by omega) (by grind);omega
   ·have ax:=T.le;rcases Qc j k with W | W | W
    ·have:=T.cd O (m:=j+1) (m':=k) (by omega) (by omega);omega
    ·simp_all
    ·have:=T.cd O (m:=k+1) (m':=j) (by omega) (by omega)
     grind
 have st:Hi M Fz w (ut M (sg k).length w.heap.size) Fz (w.alloc o):=by
  refine ⟨by simp,λc Z _=>yBI w o c Z,λb c h=>?_,λb c h=>?_,λc h=>⟨h,yBI w o c (I.fz c h)⟩,λc h=>.inl h,
   λc aa T fr h=>⟨aa,by grind [Go.heap_alloc_old],rfl⟩,⟨rfl,rfl,rfl⟩⟩
  ·unfold ut
   grind
  grind [ut]
 have s:∀b c,ut M (sg k).length w.heap.size b=some c->(b=(sg k).length/\c=w.heap.size)∨M b=some c:=by
  intro b c h;unfold ut at h
  grind
 refine I.next T O hC hk F G K R st U (z▸hv) (λb b' c h h'=>?_) (λc h=>by have:=I.fz c h;simp;omega) (λb c h=>?_) (λb c h m ab hm u Z=>?_)
 ·rcases s b c h with ⟨rfl,rfl⟩ | x <;> rcases s b' _ h' with ⟨rfl,A⟩ | A
  ·rfl
  ·have:=(I.own _ _ A).2.1;omega
  ·have:=(I.own _ _ x).2.1;omega
  ·exact I.inj b b' c x A
 ·rcases s b c h with ⟨rfl,rfl⟩ | x
  ·exact ⟨λhf=>by have:=I.fz _ hf;omega,by simp,.inr ⟨cn _,by simp_all⟩⟩
  ·obtain ⟨A,W,_⟩:=I.own b c x;exact ⟨A,by simp;omega,.inl x⟩
 ·rcases s b c h with ⟨rfl,rfl⟩ | x
  ·have a0:k<m:=by
    rcases qG k m with h | h
    ·exact h
    ·have x:=T.cd O h (by grind)
     simp_all
   have ad:=T.QQ O (m:=k+1) (m':=m) (b:=(sg k).length) (by omega) (jz hm T.le) (by simp_all) (λi hi af hb=>by
    have E:=(Z i (by omega) hb).1 af;rcases (R i).1 E with E | E
    ·obtain ⟨y,hy⟩:=T.at (i:=i) (by have:=T.le;omega);rcases T.other hC F hy (by omega) G K with ⟨h,_⟩ | ⟨_,h⟩ | ⟨_,_,_,_,h⟩
     ·omega
     ·simp_all
     grind
    ·omega)
   rw[ad,z] at u;simp at u;subst u;refine ⟨o,heap_alloc_new w o,Y.ext ?_ Hi.refl⟩;rw[<-z];exact T.sz O (by omega) hm
  ·obtain ⟨o',A,W⟩:=I.blk b c x m ab hm u (λi hi hb=>by
    grind)
   exact ⟨o',by grind [Go.heap_alloc_old],W.ext kz.refl st⟩
end
end Go.Abs
end
section
namespace Go.Abs
variable[Gl]
section
variable{P:Program}{orc:fA}{ops:Array Oper}{os:List aD}{p0 n0:Nat}{env:Nat->List D}{sg:Nat->ae}{wrs:Nat->List Nat}
variable{M0 M M':Nat->Option Nat}{Fz0 Fz Fz':Nat->Prop}{w0 w w':World}{a:Act}{qL:List Deferred}{S S':Nat->Prop}
theorem Tr.Ez(T:Tr P orc ops os p0 n0 env sg wrs)(A:eQ ops S){k i:Nat}{x:aD}(hk:k<n0)(E:os[k]? = some x)(j:¬S k)
  (s:∀o e,ops[k]? = some o->e∈o.after->Region.binds .any e=true->S e.on) (z:(cQ x (env k) (sg k).length (sg (k+1)).length (wrs k)).cat=3) (G:i<n0) (K:wrs i≠[]) (u:i≠k) :
  (i<k/\S i)∨(k<i/\¬S i):=by
 obtain ⟨y,F⟩:=T.at (i:=i) (by have:=T.le;omega);rcases T.other A E F u j s with h | h | ⟨_,_,h,_⟩
 ·simp_all
 ·simp_all
 grind [safe]
theorem Inv.rel(I:Inv os n0 env sg wrs M0 Fz0 w0 qL S M Fz w a)(T:Tr P orc ops os p0 n0 env sg wrs)(G:eQ ops S){k:Nat}{x:aD}(hk:k<n0)(K:os[k]? = some x)(u:¬S k)
  (z:∀o e,ops[k]? = some o->e∈o.after->Region.binds .any e=true->S e.on) (j:(cQ x (env k) (sg k).length (sg (k+1)).length (wrs k)).cat=3) :
  Rel (sg k) (cz M (sg k).length) Fz w:={
 blk:=λb c h=>by
  unfold cz at h;split at h
  ·rename_i O;have s:(sg k)[b]? = some (sg k)[b]:=cT O;obtain ⟨o,h1,A⟩:=I.blk b c h k _ (by omega) s (λi R U=>by
    by_cases E:i=k
    ·simp_all
    ·rcases T.Ez G hk K u z j R (λX=>by simp_all) E with ⟨h1,A⟩ | ⟨h1,A⟩
     ·simp_all
     grind)
   exact ⟨(I.own b c h).1,_,o,s,h1,A.cut⟩
  simp_all
 inj:=λb W c h F=>by
  unfold cz at h F;split at h
  ·split at F
   ·exact I.inj b W c h F
   simp_all
  simp_all
 fz:=I.fz
 gl:=Gl.mono I.AB.fz I.gl0 }
theorem Inv.Ez(I:Inv os n0 env sg wrs M0 Fz0 w0 qL S M Fz w a)(T:Tr P orc ops os p0 n0 env sg wrs)(O:lP P orc)(hC:eQ ops S){k:Nat}{ao:aD}{d:D}{v:Value}{X:Nat->Option Nat}{E:Nat->Prop}{w1:World}(hk:k<n0)(ad:os[k]? = some ao)(af:¬S k)
  (ak:∀o e,ops[k]? = some o->e∈o.after->Region.binds .any e=true->S e.on) (an:∀i,S' i↔S i∨i=k) (ax:env (k+1)=lT (env k) ao.dst d)
  (a0:(cQ ao (env k) (sg k).length (sg (k+1)).length (wrs k)).cat=3) (Y:Rel (sg (k+1)) X E w1) (hv:V (sg (k+1)) X E w1 d v) (U:ba (sg k) (cz M (sg k).length) Fz w (sg (k+1)) X E w1) :
  ∃M',Inv os n0 env sg wrs M0 Fz0 w0 qL S' M' E w1 (a.put ao.dst v):=by
 have be:=T.le;have hL:=(T.frame O (i:=k) (by omega)).1;have f1:∀b,b<(sg k).length->X b=M b:=by intro b F;obtain ⟨bh,s,_,x⟩:=U.keep b _ (cT F);obtain ⟨bi,u,W⟩:=T.sz1 O hk b _ (cT F);rw[s] at u;simp only[aj] at u;subst u;rw[x W];simp only[cz,if_pos F]
 have f2:∀b,(sg k).length<=b->b<(sg (k+1)).length->M b=none:=by
  intro b s x;cases h:M b with
  |none=>rfl
  |some c=>
   rcases (I.own b c h).2.2 with ⟨u,_⟩ | ⟨j,hj,bk,u,W⟩
   ·have:=T.cd O (m:=0) (m':=k) (by omega) (by omega);omega
   ·rcases Qc j k with Z | Z | Z
    ·have:=T.cd O (m:=j+1) (m':=k) (by omega) (by omega);omega
    ·simp_all
    ·have:=T.cd O (m:=k+1) (m':=j) (by omega) (by omega);omega
 have f3:∀b c,X b=some c->b<(sg k).length∨w.heap.size<=c:=by
  intro b c h;by_cases F:b<(sg k).length
  ·omega
  ·right;rcases U.ja b c h with ⟨b0,h0⟩ | h0
   ·exfalso;unfold cz at h0;split at h0
    ·rename_i a6;have:=Y.inj b b0 c h (by simp_all);omega
    simp_all
   omega
 let M':Nat->Option Nat:=λb=>if b<(sg (k+1)).length then X b else M b
 have G:∀b,b<(sg (k+1)).length->M' b=X b:=λb h=>by grind
 have K:∀b,¬b<(sg (k+1)).length->M' b=M b:=λb h=>by grind
 have R:∀b c,X b=some c->M' b=some c:=λb c h=>by rw[G b (Y.lt h).1];exact h
 have lD:∀c,E c->Fz c∨w.heap.size<=c:=by
  intro c h;rcases U.lD c h with h | ⟨b,s⟩ | h
  ·simp_all
  ·exfalso;unfold cz at s;split at s
   ·rename_i F;exact (Y.blk b c (by simp_all)).1 h
   simp_all
  omega
 have st:Hi M Fz w M' E w1:=by
  refine ⟨U.size,λc hc hn=>U.frame c hc (λb F=>?_),λb c h=>?_,λb c h=>?_,U.fz,lD,U.nF,U.out⟩
  ·grind [cz]
  ·grind
  grind
 refine ⟨M',I.next T O hC hk ad af ak an st ax (hv.sub kz.refl R (λc h=>⟨h,rfl⟩) (λc a7 T fr h=>⟨a7,h,rfl⟩)) (λb A c h h'=>?_) Y.fz (λb c h=>?_) (λb c h m ob hm z hc=>?_)⟩
 ·have a8:∀b A,b<(sg (k+1)).length->¬A<(sg (k+1)).length->M' b=some c->M' A=some c->b=A:=by
   intro b A s x u W;rw[G b s] at u;rw[K A x] at W;rcases f3 b c u with Z | Z
   ·rw[f1 b Z] at u;exact I.inj b A c u W
   ·have:=(I.own A c W).2.1;omega
  by_cases s:b<(sg (k+1)).length
  ·by_cases x:A<(sg (k+1)).length
   ·rw[G b s] at h;rw[G A x] at h';exact Y.inj b A c h h'
   grind
  ·by_cases x:A<(sg (k+1)).length
   ·grind
   ·rw[K b s] at h;rw[K A x] at h';exact I.inj b A c h h'
 ·by_cases s:b<(sg (k+1)).length
  ·rw[G b s] at h;refine ⟨(Y.blk b c h).1,(Y.lt h).2,?_⟩
   grind
  ·rw[K b s] at h;obtain ⟨x,u,_⟩:=I.own b c h;refine ⟨λhf=>?_,By u U.size,.inl h⟩
   grind
 ·have a1:b∉wrs k->∀i,i<n0->b∈wrs i->(i<m↔S i):=by
   grind
  by_cases s:b<(sg (k+1)).length
  ·rw[G b s] at h;have a5:∀i,i<n0->b∈wrs i->i≠k->(i<k/\S i)∨(k<i/\¬S i):=λi hi F a9=>T.Ez hC hk ad af ak a0 hi (λhe=>by simp_all) a9;obtain ⟨_,bl,o1,x,u,W⟩:=Y.blk b c h;by_cases bb:k<m
   ·have aa:=T.QQ O (m:=k+1) (m':=m) (b:=b) (by omega) (jz hm T.le) s (λi hi bc F=>by
     grind)
    rw[aa,x] at z;simp only[aj] at z;subst z;exact ⟨o1,u,W.sub (T.sz O (by omega) hm) R⟩
   ·have a2:=(d_.1 z).1;have ab:b∉wrs k:=λF=>bb ((hc k hk F).2 ((an k).2 (.inr rfl)));have aa:=T.QQ O (m:=m) (m':=k+1) (b:=b) (by omega) (by omega) a2 (λi hi bc F=>by
     grind)
    rw[aa,z] at x;simp only[aj] at x;subst x;have bd:b<(sg k).length:=By a2 (T.cd O (by omega) (by omega));rw[f1 b bd] at h;obtain ⟨o0,_,Z⟩:=I.blk b c h m ob hm z (a1 ab);exact ⟨o1,u,(W.down (T.sz O (by omega) (by omega)) Z).sub kz.refl R⟩
  ·rw[K b s] at h;have ab:b∉wrs k:=λF=>by have:=T.wr_lt hk F;omega
   obtain ⟨o,x,u⟩:=I.blk b c h m ob hm z (a1 ab);refine ⟨o,?_,u.ext kz.refl st⟩;rw[U.frame c (I.own b c h).2.1 (λb0 h0=>?_)]
   ·exact x
   ·unfold cz at h0;split at h0
    ·rename_i a6;have:=I.inj b0 b c h0 h;omega
    simp_all
def iK(T:List Nat)(e:List D):List D:=e.mapIdx λi d=>if T.contains i then d else .any
theorem nI{T:List Nat}{e:List D}{i:Nat}:(iK T e)[i]? = (e[i]?).map λd=>if T.contains i then d else .any:=by simp[iK,List.getElem?_mapIdx]
theorem wY{T:List Nat}{e:List D}{x:aG}(h:∀n,x=.t n->n∈T):x.ev (iK T e)=x.ev e:=by
 cases x with
 |k d=>rfl
 |t n=>
  simp only[aG.ev,nI]
  simp_all
theorem Inv.step(I:Inv os n0 env sg wrs M0 Fz0 w0 qL S M Fz w a)(T:Tr P orc ops os p0 n0 env sg wrs)(O:lP P orc)(Y:eQ ops S){k:Nat}{Q:Exit->Act->World->Prop}(hk:k<n0)(E:¬S k)
  (F:∀o e,ops[k]? = some o->e∈o.after->Region.binds .any e=true->S e.on) (W:∀i,S' i↔S i∨i=k) (K:Act->World->Prop)
  (hK:∀a' w' M' Fz',Inv os n0 env sg wrs M0 Fz0 w0 qL S' M' Fz' w' a'->K a' w'):wpOp P ops Q k K a w:=by
 have bd:=T.le;obtain ⟨ao,z⟩:=T.at (i:=k) (by omega);obtain ⟨o,ho,X⟩:=T.comp k ao z;have u:=T.step k ao z;have hE:cR (sg k) M Fz w (iK (uQ ao) (env k)) a.tmps:=by
  refine ⟨by rw[I.Pp,<-T.xV O (m:=k) (by omega)];simp[iK],λi d v Z h2=>?_⟩;rw[nI] at Z;simp only[bU] at Z;obtain ⟨d0,h3,h4⟩:=Z;by_cases ht:(uQ ao).contains i=true
  ·rw[if_pos ht] at h4;subst h4;refine I.tmp i k (by omega) (λj x hj hx hd=>?_) d0 v h3 h2;by_cases a1:j=k
   ·simp_all
   ·rcases T.other Y z hx a1 E F with ⟨h5,h6⟩ | ⟨h5,h6⟩ | ⟨h5,_⟩
    ·simp_all
    ·grind
    simp_all
  ·rw[if_neg ht] at h4;subst h4;exact .any v
 have aa:fN (iK (uQ ao) (env k)) ao.g=fN (env k) ao.g:=by
  cases hg:ao.g with
  |none=>rfl
  |some p=>
   obtain ⟨t,bb⟩:=p;have:(uQ ao).contains t=true:=by grind [uQ]
   simp only[fN,nI,this,if_true]
   simp_all
 unfold aT at X;split at X
 ·rename_i g s hg G;simp only[aj] at X;subst X;simp only at u aa hE;have ab:aR P (orc o.dst) s (iK (uQ ⟨o.dst,s,g⟩) (env k)) (sg k)=aR P (orc o.dst) s (env k) (sg k):=by
   refine uS (kA G) (λx hx=>wY (λn hn=>?_));subst hn;simp only[uQ,mw,List.mem_filterMap]
   grind
  unfold dU at u;split at u
  ·rename_i hw;simp only at hw;have U:=mc (σ:=sg k) (M:=M) (Fz:=Fz) (w:=w) (ops:=ops) (o:=o) hE hg (by rw[aa];exact hw);simp only[bU] at u;obtain ⟨⟨d,be,bJ⟩,a2,h⟩:=u;simp only[aM] at h;obtain ⟨A,ad,af⟩:=h;subst ad af;have a5:(cQ ⟨o.dst,s,g⟩ (env k) (sg k).length (sg (k+1)).length (wrs k)).cat=cat s:=by grind [cQ]
   unfold wpOp;rw[ho];simp only[U,if_true];left;have Ez:cat s=3->o.wp P a w K Q:=by
    intro a6;have R:=I.rel T Y hk z E F (by omega);have a7:cR (sg k) (cz M (sg k).length) Fz w (iK (uQ ⟨o.dst,s,g⟩) (env k)) a.tmps:=⟨hE.1,λi d v Z h2=>(hE.2 i d v Z h2).cut⟩;refine Hz (O o.dst) R a7 G (by rw[ab];exact a2) K λv w1 M1 bh R1 hv EV _=>?_;obtain ⟨M',hI⟩:=I.Ez (ao:=⟨o.dst,s,g⟩) T O Y hk z E F W A.symm (by omega) R1 hv EV
    grind
   rcases rA G with ⟨f,args,bi,of,bk,_,_,_,rfl⟩ | ⟨a8,ak,_⟩
   ·exact Ez rfl
   ·have ax:aR P (orc o.dst) s (iK (uQ ⟨o.dst,s,g⟩) (env k)) (sg k)=some (d,sg (k+1),wrs k):=by simp_all
    have out:=BD (M:=M) (Fz:=Fz) (w:=w) (Gl.mono I.AB.fz I.gl0) hE a8 ak ax;generalize a0:sg (k+1)=s1 at out;generalize an:wrs k=w1 at out;cases out with
    |y _ hy=>obtain ⟨v,hr,hv⟩:=hy;unfold Oper.wp;rw[hr];exact hK _ _ M Fz (I.Us (ao:=⟨o.dst,s,g⟩) T O Y hk z E F W A.symm a0 an hv)
    |l bl bt hy=>
     obtain ⟨v,hr,hv⟩:=hy (λb off sz c cs bu hM hb=>by
      obtain ⟨o',Z,h2⟩:=I.blk b c hM k _ (by omega) hb (λi hi bv=>by
       by_cases a9:i=k
       ·simp_all
       ·obtain ⟨y,hy⟩:=T.at (i:=i) (by omega);rcases T.other Y z hy a9 E F with ⟨h5,h6⟩ | ⟨h5,h6⟩ | ⟨_,_,h5,_⟩
        ·simp_all
        ·grind
        ·exfalso;have bc:(cQ ⟨o.dst,s,g⟩ (env k) (sg k).length (sg (k+1)).length (wrs k)).blk=some b:=by
          have:Pu s (env k)=Pu s (iK (uQ ⟨o.dst,s,g⟩) (env k)):=by
           cases s with
           |load n x=>grind [Pu,wY,uQ,pC]
           |_=>rfl
          grind [cQ]
         grind [safe])
      obtain ⟨bw,T',rfl,h3,h4⟩:=h2
      grind)
     unfold Oper.wp;rw[hr];exact hK _ _ M Fz (I.Us (ao:=⟨o.dst,s,g⟩) T O Y hk z E F W A.symm (by simp_all) an hv)
    |a _ hy=>obtain ⟨b0,v,hr,Z,hv⟩:=hy I.fz;unfold Oper.wp;rw[hr];exact hK _ _ _ Fz (I.alloc (ao:=⟨o.dst,s,g⟩) T O Y hk z E F W A.symm a0 an Z hv)
    |g a6 _=>simp_all
  ·rename_i hw;simp only at hw;have U:=mc (σ:=sg k) (M:=M) (Fz:=Fz) (w:=w) (ops:=ops) (o:=o) hE hg (by rw[aa];exact hw);simp only[aj,aM] at u;obtain ⟨A,ad,af⟩:=u;unfold wpOp;rw[ho];simp only[U,bA,bT];exact hK _ _ M Fz (I.Us (ao:=⟨o.dst,s,g⟩) T O Y hk z E F W A.symm ad.symm af.symm V.undef)
  simp_all
 simp_all
end
end Go.Abs
end
section
namespace Go.Abs
variable[Gl]
section
variable{P:Program}{orc:fA}{ops:Array Oper}{os:List aD}{p0 n0:Nat}{env:Nat->List D}{sg:Nat->ae}{wrs:Nat->List Nat}
variable{M:Nat->Option Nat}{Fz:Nat->Prop}{w:World}{a:Act}
def PY(N:Nat)(listed:Array Bool):Nat:=((List.range N).filter λj=>!listed.getD j false).length
def fD(listed:Array Bool)(i:Nat):Prop:=listed.getD i false=true
theorem FY{listed:Array Bool}{k:Nat}(hk:k<listed.size)(i:Nat):fD (listed.setIfInBounds k true) i↔fD listed i∨i=k:=by
 unfold fD;by_cases h:k=i
 ·simp_all
 ·rw[getD_set_ne false h]
  grind
theorem Ae{N:Nat}{listed:Array Bool}{k:Nat}(hs:k<listed.size)(hk:k<N)(b:¬fD listed k):PY N (listed.setIfInBounds k true)<PY N listed:=by
 unfold PY;have e:(List.range N).filter (λj=>!(listed.setIfInBounds k true).getD j false)=((List.range N).filter λj=>!listed.getD j false).filter λj=>j != k:=by
  rw[List.filter_filter];apply List.filter_congr;intro j _;have:=FY hs (i:=j);unfold fD at this
  grind
 rw[e,List.length_filter_lt_length_iff_exists]
 grind [fD]
theorem qV{N:Nat}{listed:Array Bool}(h:PY N listed=0):∀i,i<N->fD listed i:=by grind [PY,List.filter_eq_nil_iff,fD]
theorem PL{N:Nat}{listed:Array Bool}(h:∃i,i<N/\¬fD listed i):∃i,i<N/\¬fD listed i/\∀j,j<i->fD listed j:=by
 obtain ⟨i,b,d⟩:=h;induction i using Nat.strongRecOn with
 |_ i ih=>grind
theorem ve{listed:Array Bool}(g:listed.size=ops.size)(b:∀(j:Nat) o e,ops[j]? = some o->e∈o.after->Region.binds .any e=true->e.on<j)
  (h:Region.ready .any ops listed=[]):∀i,i<ops.size->fD listed i:=by
 intro i k;refine Classical.byContradiction λl=>?_;obtain ⟨j,m,n,d⟩:=PL (N:=ops.size) ⟨i,k,l⟩;have f:ops[j]? = some ops[j]:=oF m;have:j∈Region.ready .any ops listed:=by
  rw[mem_ready];refine ⟨?_,ops[j],f,λe p q=>d e.on (b j _ e f p q)⟩
  grind [fD]
 simp_all
theorem cnt_ge(n0:Nat):∀m,((List.range (n0+m)).filter (λj=>decide (n0<=j))).length=m:=by
 intro m;induction m with
 |zero=>simp_all
 |succ m ih=>grind [List.range_succ]
theorem gW(m j:Nat):(Array.replicate m false).getD j false=false:=by
 simp only[YO,yCd]
 grind
theorem Oh(O:lP P orc)(T:Tr P orc ops os p0 n0 env sg wrs)(q:∀i j,p0<=i->i<j->n0<=j->j<os.length->zB ops i j)(g:∀(j:Nat) o e,ops[j]? = some o->e∈o.after->Region.binds .any e=true->e.on<j){Q:Exit->Act->World->Prop}
  (Y:∀f w' M' Fz',f.defers=a.defers->Rel (sg os.length) M' Fz' w'->cR (sg os.length) M' Fz' w' (env os.length) f.tmps->ba (sg 0) M Fz w (sg os.length) M' Fz' w'->Q .normal f w') :
  ∀ (b : Nat) (listed : Array Bool) (k : Nat) (M' : Nat -> Option Nat) (Fz' : Nat -> Prop) (w' : World) (f : Act), listed.size = ops.size -> n0 <= k -> k <= os.length -> (∀ i, i < ops.size -> (fD listed i ↔ i < k)) -> os.length - k <= b -> f.defers = a.defers ->
   Rel (sg k) M' Fz' w'->cR (sg k) M' Fz' w' (env k) f.tmps->ba (sg 0) M Fz w (sg k) M' Fz' w'->wpAny P .any ops Q b listed f w':=by
 have A:=T.len;intro b;induction b with
 |zero=>
  intro listed k M' Fz' w' f m hk r Z hf hd R E s;have n:k=os.length:=by omega
  subst n;refine ⟨?_,Y f w' M' Fz' hd R E s⟩;cases F:Region.ready .any ops listed with
  |nil=>rfl
  |cons j l=>
   have hm:j∈Region.ready .any ops listed:=by simp_all
   rw[mem_ready] at hm
   grind [fD]
 |succ b ih=>
  intro listed k M' Fz' w' f m hk r Z hf hd R E s;refine ⟨λF=>?_,λj G=>?_⟩
  ·have K:=ve m g F;have n:k=os.length:=by
    rcases qG k os.length with h | h
    ·grind
    ·omega
   grind
  ·rw[mem_ready] at G;obtain ⟨h1,o,L,t⟩:=G;have aa:j<ops.size:=(xR.1 L).1;have hC:eQ ops (fD listed):=by
    intro i N e hi d U W
    grind
   have ab:¬fD listed j:=by grind [fD]
   have ad:k<=j:=by simp_all
   have u:j=k:=by
    rcases qG k j with h | h
    ·have W:=q k j (by have:=T.ple;omega) h (by omega) (by omega);have:=W.ready hC (λN e d U v=>by rw[L] at d;simp only[aj] at d;subst d;exact t e U v)
     grind
    ·omega
   subst u;obtain ⟨X,p⟩:=T.at (i:=j) (by omega);obtain ⟨N,d,x⟩:=T.comp j X p;refine Gu O R E d x (T.step j X p) _ λa1 w1 M1 y af R1 E1 z ak=>?_;refine ih (listed.setIfInBounds j true) (j+1) M1 y w1 a1 (by grind) (by omega) (by omega) (λi hi=>?_) (by omega) (by simp_all) R1 E1 (s.trans z (T.cd O (by omega) (by omega)))
   grind [FY]
theorem TD(O:lP P orc)(T:Tr P orc ops os p0 n0 env sg wrs)(t:∀i j,p0<=i->i<j->n0<=j->j<os.length->zB ops i j)(l:∀(j:Nat) o e,ops[j]? = some o->e∈o.after->Region.binds .any e=true->e.on<j)(R:Rel (sg 0) M Fz w)(E:cR (sg 0) M Fz w (env p0) a.tmps){Q:Exit->Act->World->Prop}
  (hQ:∀p w' M' Fz',p.defers=a.defers->Rel (sg os.length) M' Fz' w'->cR (sg os.length) M' Fz' w' (env os.length) p.tmps->ba (sg 0) M Fz w (sg os.length) M' Fz' w'->Q .normal p w') :
  wpAny P .any ops Q (ops.size-p0) (IQ ops.size p0) a w:=by
 have an:=T.ple;have ax:=T.len;have x:=T.le;have q:∀b,M b≠none->b<(sg 0).length:=λb h=>by
  cases hM:M b with
  |none=>simp_all
  |some c=>exact (R.lt hM).1
 have y:∀(d:Nat)(listed:Array Bool)(M':Nat->Option Nat)(Fz':Nat->Prop)(w':World)(p:Act),listed.size=ops.size->PY ops.size listed<=d->eQ ops (fD listed)->(∀i,i<p0->fD listed i)->(∀i,fD listed i->i<n0) ->
   Inv os n0 env sg wrs M Fz w a.defers (fD listed) M' Fz' w' p->wpAny P .any ops Q d listed p w':=by
  intro d;induction d with
  |zero=>
   intro listed M' Fz' w' p m hu K z u I;have r:=qV (N:=ops.size) (listed:=listed) (by omega);have hn:n0=os.length:=by
    rcases qG n0 os.length with h | h
    ·grind
    ·omega
   obtain ⟨U,W,v⟩:=I.done T O (λi f=>r i (by omega)) q;refine Oh O T t l hQ 0 listed n0 M' Fz' w' p m (cn _) x (λi f=>⟨λh=>u i h,λ_=>r i f⟩) (by omega) I.qL U W v
  |succ d ih=>
   intro listed M' Fz' w' p m hu K z u I;by_cases g:∀i,i<n0->fD listed i
   ·obtain ⟨U,W,v⟩:=I.done T O g q;refine Oh O T t l hQ (d+1) listed n0 M' Fz' w' p m (cn _) x (λi f=>⟨λh=>u i h,λh=>g i h⟩) ?_ I.qL U W v;have:os.length-n0<=PY ops.size listed:=by
     unfold PY;have e:(List.range ops.size).filter (λj=>!listed.getD j false)=(List.range ops.size).filter (λj=>decide (n0<=j)):=by
      apply List.filter_congr
      grind [fD]
     rw[e,show ops.size=n0+(os.length-n0) from by omega,cnt_ge];omega
    omega
   ·refine ⟨λhr=>?_,λj X=>?_⟩
    ·grind [ve]
    ·rw[mem_ready] at X;obtain ⟨h1,o,Y,Z⟩:=X;have aa:j<ops.size:=(xR.1 Y).1;have A:¬fD listed j:=by
      grind [fD]
     have s:∀F e,ops[j]? = some F->e∈F.after->Region.binds .any e=true->fD listed e.on:=λF e n L ab=>by rw[Y] at n;simp only[aj] at n;subst n;exact Z e L ab
     have ad:j<n0:=by
      rcases qG j n0 with h | h
      ·exact h
      ·refine absurd (λi f=>?_) g;rcases qG i p0 with G | G
       ·simp_all
       ·exact (t i j G (by omega) h (by omega)).ready K s
     refine I.step (S':=fD (listed.setIfInBounds j true)) T O K ad A s (λi=>FY (by omega) i) _ λa1 w1 M1 af I1=>?_;refine ih (listed.setIfInBounds j true) M1 af w1 a1 (by grind) ?_ ?_ (λi f=>(FY (by omega) i).2 (.inl (z i f))) ?_ I1
     ·have:=Ae (N:=ops.size) (listed:=listed) (k:=j) (by omega) aa A;omega
     ·intro i F e f n L hb;rw[FY (by omega)] at f ⊢;rcases f with f | rfl
      ·exact .inl (K i F e f n L hb)
      simp_all
     grind [FY]
 have m:∀k,(IQ ops.size k).size=ops.size:=by
  intro k;induction k with
  |zero=>simp[IQ]
  |succ k ih=>grind [IQ]
 have hl:∀k i,i<ops.size->(fD (IQ ops.size k) i↔i<k):=by
  intro k;induction k with
  |zero=>grind [IQ,fD,gW]
  |succ k ih=>
   intro i f;by_cases hk:k<ops.size
   ·grind [IQ,FY]
   grind [IQ]
 have a0:∀i,fD (IQ ops.size p0) i->i<ops.size:=by grind [fD]
 have ak:∀k,k<=ops.size->PY ops.size (IQ ops.size k)<=ops.size-k:=by
  intro k;induction k with
  |zero=>grind [PY]
  |succ k ih=>
   intro hk;have:=Ae (N:=ops.size) (listed:=IQ ops.size k) (k:=k) (by grind) (by omega) (λh=>by grind)
   grind [IQ]
 refine y (ops.size-p0) _ M Fz w a (m _) (ak p0 (by omega)) ?_ (λi f=>(hl p0 i (by omega)).2 f) (λi f=>?_) (Inv.start R rfl E (λi f=>hl p0 i (by omega)) T O)
 ·intro j o e X Y L hb
  grind
 grind
end
end Go.Abs
end
section
namespace Go.Abs
variable[Gl]
def vD:kT->Exit
 |.normal=>.normal
 |.exit i=>if i % 2=0 then .exit (i / 2) else .goto (i / 2)
 |.ret=>.ret
theorem Kc(i:Nat):vD (.exit (2 * i))=.exit i:=by
 show (if 2 * i % 2=0 then Exit.exit (2 * i / 2) else Exit.goto (2 * i / 2))=_
 simp_all
theorem IG(i:Nat):vD (.exit (2 * i+1))=.goto i:=by
 show (if (2 * i+1) % 2=0 then Exit.exit ((2 * i+1) / 2) else Exit.goto ((2 * i+1) / 2))=_
 grind
theorem yt{i:Nat}(h:i % 2=0):vD (.exit i)=.exit (i / 2):=if_pos h
theorem NR{i:Nat}(h:¬i % 2=0):vD (.exit i)=.goto (i / 2):=if_neg h
theorem nS{i:Nat}{R:Act->World->Prop}{Q:Exit->Act->World->Prop}{a:Act}{w:World}(h:Q (vD (.exit i)) a w):Exit.then R Q (vD (.exit i)) a w:=by
 by_cases b:i % 2=0
 ·rw[yt b] at h ⊢;exact h
 ·rw[NR b] at h ⊢;exact h
theorem AI{id:Nat}{Q:Exit->Act->World->Prop}{a:Act}{w:World}(h:Q .normal a w):Exit.inBlock id Q (vD (.exit (2 * id))) a w:=by rw[Kc];simp only[Exit.inBlock,if_true];exact h
theorem yZ{i id:Nat}{Q:Exit->Act->World->Prop}{a:Act}{w:World}(d:i≠2 * id)(h:Q (vD (.exit i)) a w):Exit.inBlock id Q (vD (.exit i)) a w:=by
 by_cases b:i % 2=0
 ·rw[yt b] at h ⊢;simp only[Exit.inBlock]
  grind
 ·rw[NR b] at h ⊢;exact h
section
variable{P:Program}{orc:fA}
theorem Nq{n:Nat}:∀(os:List aD)(n:Nat)(e e':List D)(σ σ':ae)(b:List dz),jR P orc n os e σ=some (e',σ',b) ->
  ∃ (env : Nat -> List D) (sg : Nat -> ae) (wrs : Nat -> List Nat), env 0 = e /\ sg 0 = σ /\ env os.length = e' /\ sg os.length = σ' /\ b.length = os.length /\
   (∀(i:Nat) ao,os[i]? = some ao->dU P orc ao (env i) (sg i)=some (env (i+1),sg (i+1),wrs i)/\b[i]? = some (cQ ao (env i) (sg i).length (sg (i+1)).length (wrs i))) /\
   (∀i,i<os.length->i<n->jm (sg i) (sg (i+1)) (wrs i)=true):=by
 intro os;induction os with
 |nil=>intro n e e' σ σ' b h;simp only[jR,aj,aM] at h;obtain ⟨rfl,rfl,rfl⟩:=h;exact ⟨λ_=>e,λ_=>σ,λ_=>[],rfl,rfl,rfl,rfl,rfl,λi ao h=>by simp at h,λi h=>by simp at h⟩
 |cons o os ih=>
  intro n e e' σ σ' b h;simp only[jR] at h;split at h
  ·rename_i g d w1 s;split at h
   ·rename_i t;split at h
    ·rename_i j k f l;simp only[aj,aM] at h;obtain ⟨rfl,rfl,rfl⟩:=h;obtain ⟨env,sg,wrs,u,v,m,p,q,x,y⟩:=ih (n-1) g j d k f l;refine ⟨λi=>match i with | 0=>e | i+1=>env i,λi=>match i with | 0=>σ | i+1=>sg i,λi=>match i with | 0=>w1 | i+1=>wrs i,rfl,rfl,m,p,by simp[q],λi ao r=>?_,λi r z=>?_⟩
     ·grind
     grind
    simp_all
   simp_all
  simp_all
theorem sP{ops:Array Oper}(h:wm ops.toList=true)(j:Nat)(o:Oper)(e:Edge)(b:ops[j]? = some o)(d:e∈o.after)(f:Region.binds .any e=true):e.on<j:=by
 have g:j<ops.size:=(xR.1 b).1;have i:=fE.1 h j (by simp_all)
 grind
theorem Jf{α d:Type}{f:α->Option d}:∀{l:List α}{r:List d},l.mapM f=some r->r.length=l.length/\∀(i:Nat) b,r[i]? = some b->∃a,l[i]? = some a/\f a=some b:=by
 intro l;induction l with
 |nil=>simp_all
 |cons a l ih=>grind [Option.bind_eq_some_iff]
theorem JC(O:lP P orc):∀(os:List aD)(e e':List D)(σ σ':ae)(wr:List Nat),lY P orc os e σ=some (e',σ',wr)->σ.length<=σ'.length/\∀b,b<σ.length->b∉wr->σ'[b]? = σ[b]?:=by
 intro os;induction os with
 |nil=>
  intro e e' σ σ' wr h;simp only[lY,aj,aM] at h
  simp_all
 |cons o os ih=>
  intro e e' σ σ' wr h;simp only[lY] at h;split at h
  ·rename_i g d w1 f;split at h
   ·rename_i i j w2 k;simp only[aj,aM] at h;obtain ⟨rfl,rfl,rfl⟩:=h;obtain ⟨l,m,_⟩:=fS O f
    grind
   simp_all
  simp_all
theorem Br(O:lP P orc):∀(os:List aD)(n:Nat)(e e':List D)(σ σ':ae)(d:List dz),jR P orc n os e σ=some (e',σ',d) ->
  σ.length<=σ'.length/\∀b,b<σ.length->b∉d.flatMap (·.wr)->σ'[b]? = σ[b]?:=by
 intro os;induction os with
 |nil=>
  intro n e e' σ σ' d h;simp only[jR,aj,aM] at h
  simp_all
 |cons o os ih=>
  intro n e e' σ σ' d h;simp only[jR] at h;split at h
  ·rename_i j f w1 k;split at h
   ·split at h
    ·rename_i l m g p;simp only[aj,aM] at h;obtain ⟨rfl,rfl,rfl⟩:=h;obtain ⟨q,r,_⟩:=fS O k;obtain ⟨s,t⟩:=ih _ j l f m g p;refine ⟨jz q s,λb u i=>?_⟩;simp only[VZ,mw,not_or] at i;rw[t b (by omega) i.2,r b u i.1]
    simp_all
   simp_all
  simp_all
theorem tE(O:lP P orc):∀(k:Nat)(c:aH)(e e':List D)(σ σ':ae)(wr wr':List Nat)(x:kT),je P orc k c e σ wr=some (x,e',σ',wr') ->
  σ.length<=σ'.length/\(∀b∈wr,b∈wr')/\∀b,b<σ.length->b∉wr'->σ'[b]? = σ[b]?:=by
 intro k;induction k with
 |zero=>grind [je]
 |succ k ih=>
  intro c e e' σ σ' wr wr' x h;cases c with
  |skip=>simp only[je,aj,aM] at h;simp_all
  |exit id=>simp only[je,aj,aM] at h;simp_all
  |ret=>simp only[je,aj,aM] at h;simp_all
  |stuck=>grind [je]
  |Wi l=>grind [je]
  |Rl l a r=>grind [je]
  |QY o m a b=>grind [je]
  |zI os=>
   simp only[je,bU,aM] at h;obtain ⟨⟨g,d,w1⟩,f,_,_,rfl,rfl⟩:=h;obtain ⟨q,s⟩:=JC O os _ _ _ _ _ f
   simp_all
  |D_ os i n p=>
   have one:∀n g d w1,iV P orc os i p n e σ=some (g,d,w1)->σ.length<=d.length/\∀b,b<σ.length->b∉w1->d[b]? = σ[b]?:=by
    intro n g d w1 f;unfold iV at f;split at f
    ·rename_i t u v j;split at f
     ·simp only[aj,aM] at f;obtain ⟨_,rfl,rfl⟩:=f;exact Br O os _ _ _ _ _ _ j
     simp_all
    simp_all
   grind [je]
  |seq a b=>grind [je]
  |cond o a b=>grind [je]
  |block id b=>grind [je]
  |loop b=>grind [je]
theorem sV{ops:Array Oper}{os:List aD}(g:ops.toList.mapM (aT P ops)=some os):∀(i:Nat) o c,ops[i]? = some o->o.op≠.defer c:=by intro i o c e;obtain ⟨k,h⟩:=Jf g;rw[<-Kr] at e;have l:=(d_.1 e).1;obtain ⟨b,j⟩:∃b,os[i]? = some b:=⟨_,cT (by omega)⟩;obtain ⟨m,d,f⟩:=h i b j;rw[e] at d;cases d;exact nG f c
theorem QA(O:lP P orc){id:Nat}{ops:Array Oper}{os:List aD}{σ σ':ae}{M:Nat->Option Nat}{Fz:Nat->Prop}{w:World}{e e':List D}{a:Act}{wr:List Nat}{Q:Exit->Act->World->Prop}
  (k:ops.toList.mapM (aT P ops)=some os) (R:Rel σ M Fz w) (E:cR σ M Fz w e a.tmps) (h:lY P orc os e σ=some (e',σ',wr))
  (l:∀b w' M' Fz',b.defers=a.defers->Rel σ' M' Fz' w'->cR σ' M' Fz' w' e' b.tmps->ba σ M Fz w σ' M' Fz' w'->Q .normal b w'):(Code.region id ops false).wq P Q a w:=by
 obtain ⟨d,f⟩:=Jf k;refine QI (sV k) ?_;have g:ops.size=os.length:=by rw[d,Array.length_toList]
 rw[List.range_eq_range',g];exact ops_wp O os 0 σ σ' M Fz w e e' a wr (λj m n=>by obtain ⟨o,p,i⟩:=f j m n;exact ⟨o,by rw[GA,<-Kr];exact p,i⟩) R E h λb w' M' Fz' d f q r _=>⟨l b w' M' Fz' d f q r,by simp⟩
theorem Mv{ops:Array Oper}:∀(k i j:Nat),i<=j->j<i+leads ops k i->AF ops j=true:=by
 intro k;induction k with
 |zero=>grind [leads]
 |succ k ih=>
  intro i j d b;simp only[leads] at b;split at b
  ·rename_i h;by_cases e:i=j
   ·simp_all
   ·exact ih (i+1) j (by omega) (by omega)
  ·omega
theorem Ec{ops:Array Oper}{i:Nat}(h:i<lead ops):Region.noSelect ops=true/\AF ops i=true:=by
 unfold lead at h;split at h
 ·rename_i b;exact ⟨b,Mv ops.size 0 i (by omega) (by omega)⟩
 ·omega
def NL(Q:Exit->Act->World->Prop):Exit->Act->World->Prop:=λx a w=>x=.normal/\Q .normal a w
theorem MR{ops:Array Oper}{Q:Exit->Act->World->Prop}{i:Nat}{a:Act}{w:World}{K:Act->World->Prop}(h:wpOp P ops (NL Q) i K a w):wpOp P ops Q i K a w:=by
 unfold wpOp at *;split
 ·simp_all
 ·rename_i o d;simp only[d] at h;split
  ·rename_i f;simp only[f,if_true] at h;rcases h with h | ⟨_,g,w',h,_⟩
   ·left;unfold Oper.wp at *;generalize (execOp a.eval o).run P w=r at *;cases r with
    |ok n w'=>
     cases n <;> simp only[Oper.upon] at h ⊢ <;>
      first
       |exact h
       |exact Calls.mono h (λe w'' b=>by
         cases e with
         |returned v=>exact b
         |panicked c=>exact absurd b.1 (by simp)
         |outgrown=>obtain ⟨g,w',j,_⟩:=b;simp_all)
    |halt x w'=>
     cases x <;> simp only[Oper.upon] at h ⊢
     exact absurd h.1 (by simp)
   simp_all
  simp_all
theorem Ho{ops:Array Oper}{Q:Exit->Act->World->Prop}{md:Region.Mode}:∀(b:Nat)(listed:Array Bool)(a:Act)(w:World),wpAny P md ops (NL Q) b listed a w->wpAny P md ops Q b listed a w:=by
 intro b;induction b with
 |zero=>intro listed a w h;exact ⟨h.1,h.2.2⟩
 |succ b ih=>intro listed a w h;exact ⟨λd=>(h.1 d).2,λi e=>MR (wpOp_mono (λf w' g=>ih _ f w' g) (h.2 i e))⟩
theorem Ye{ops:Array Oper}{Q:Exit->Act->World->Prop}{p:Nat}{w:World}(y:p<=lead ops)(l:p<=ops.size)(J:Nat->Act->Prop)
  (z:∀i o x a,i<p->ops[i]? = some o->(o.op=.move x∨o.op=.assign x)->o.guard=none->J i a->J (i+1) (a.put o.dst (a.eval x)))
  (g:∀a,J p a->wpAny P .any ops (NL Q) (ops.size-p) (IQ ops.size p) a w):∀k a,k<=p->J (p-k) a->wpAny P .any ops (NL Q) (ops.size-(p-k)) (IQ ops.size (p-k)) a w:=by
 intro k;induction k with
 |zero=>simp_all
 |succ k ih=>
  intro a hk h;obtain ⟨i,rfl⟩:∃i,p=i+(k+1):=⟨p-(k+1),by omega⟩;have m:i+(k+1)-(k+1)=i:=by omega
  have n:i+(k+1)-k=i+1:=by omega
  rw[m] at h ⊢;obtain ⟨e,d⟩:=Ec (ops:=ops) (i:=i) (by omega);simp only[AF,bp] at d;obtain ⟨⟨f,q⟩,r⟩:=d;cases j:ops[i]? with
  |none=>simp_all
  |some o=>
   rw[j] at f;simp only[Option.map_some,Option.getD_some,isMv,bp,Option.isNone_iff_eq_none] at f;obtain ⟨s,t⟩:=f;have b:∃x,o.op=.move x∨o.op=.assign x:=by grind
   obtain ⟨x,b⟩:=b;have u:Go.Yields P ops o (a.eval x) a:=by left;refine ⟨by simp[Region.wanted,s],λw=>?_⟩;rcases b with b | b <;> simp[execOp,b]
   have v:ops.size-i=(ops.size-(i+1))+1:=by omega
   rw[v];refine wpAny_take j e q r (λc a w h=>absurd h.1 (by simp)) u ?_;have:=ih (a.put o.dst (a.eval x)) (by omega) (by simp_all);rw[n] at this;exact this
theorem Wl (u:P.follows .mixedOrders=true) (O:lP P orc) {id n:Nat} {ops:Array Oper} {os:List aD} {σ σ':ae} {M:Nat→Option Nat} {Fz:Nat→Prop} {w:World} {e e':List D} {a:Act} {W:List dz} {Q:Exit→Act→World→Prop}
  (hc:ops.toList.mapM (aT P ops)=some os) (m:wm ops.toList=true) (R:Rel σ M Fz w) (E:cR σ M Fz w e a.tmps) (h:jR P orc n os e σ=some (e',σ',W)) (hn:n≤os.length)
  (hp:dQ (MU ops.toList) W=true) (ht:mS (MU ops.toList) (lead ops) n os.length=true) (X:lead ops≤n)
  (Y:∀g w' M' Fz',g.defers=a.defers→Rel σ' M' Fz' w'→cR σ' M' Fz' w' e' g.tmps→ba σ M Fz w σ' M' Fz' w'→Q .normal g w'):(Code.region id ops true).wq P Q a w:=by
 obtain ⟨r,Z⟩:=Jf hc
 obtain ⟨env,sg,wrs,k1,k2,k3,k4,k5,k6,k7⟩:=Nq (n:=n) os n e e' σ σ' W h
 subst k1 k2 k3 k4
 have v:os.length=ops.size:=by omega
 have mv:∀i o x,i<lead ops→ops[i]? = some o→(o.op=.move x∨o.op=.assign x)→o.guard=none→∃z,bB x=some z∧env (i+1)=lT (env i) o.dst (z.ev (env i))∧sg (i+1)=sg i∧wrs i=[]:=by
  intro i o x k A s U
  have F:i<os.length:=by omega
  obtain ⟨o',q,d⟩:=Z i _ (cT F)
  rw [Kr,A] at q
  simp only [aj] at q
  subst q
  have G:=(k6 i _ (cT F)).1
  unfold aT at d
  rw [U] at d
  simp only [vZ] at d
  cases K:bB x with
  | none=>grind [comp,jG]
  | some z =>
   have aa:comp P o.op o.type=some (.xQ z):=by
    grind [comp,jG]
   rw [aa] at d
   simp only [aj] at d
   rw [←d] at G
   simp only [dU,fN,aR,Option.map_some,aj,aM] at G
   simp_all
 have ab:∀i j,lead ops≤i→i<j→n≤j→j<os.length→zB ops i j:=fun i j af ad ak hj=>by
  have f:=fE.1 ht j (by simp_all)
  simp only [dZ,aQ] at f
  rcases f with f | f
  ·omega
  ·have t:=fE.1 f i (by simp_all)
   simp only [dZ] at t
   grind [Nat.blt_eq,Ac]
 have T:Tr P orc ops os (lead ops) n env sg wrs:={
  len:=v
  comp:=fun j ao hj=>by simp_all
  step:=fun i ao k=>(k6 i ao k).1
  wrk:=fun i k=>k7 i (by omega) k
  le:=hn
  pair:=fun i j x y ad s hy=>by
   have hj:=(d_.1 hy).1
   have f:=fE.1 hp j (by simp_all)
   have t:=fE.1 f i (by simp_all)
   simp only [dZ] at t
   grind [Ac]
  lead:=fun i k=>by
   obtain ⟨_,L⟩:=Ec k
   simp only [AF,bp] at L
   cases A:ops[i]? with
   | none=>simp_all
   | some o =>
    have r:=L.1.1
    rw [A] at r
    simp only [Option.map_some,Option.getD_some,isMv,bp,Option.isNone_iff_eq_none] at r
    obtain ⟨U,an⟩:=r
    have s:∃x,o.op=.move x∨o.op=.assign x:=by
     grind
    obtain ⟨x,s⟩:=s
    grind
  ple:=X }
 refine uL u (sV hc) ?_
 replace Y:=fun g w' M' Fz' r Z f t=>(⟨Y g w' M' Fz' r Z f t,by simp⟩:lw Q .normal g w')
 have R1:Rel (sg 0) M Fz { w with drawn:=w.drawn+1 }:=R.heap rfl ⟨rfl,rfl,rfl⟩
 have EH:ba (sg 0) M Fz w (sg 0) M Fz { w with drawn:=w.drawn+1 }:=ba.heap R rfl ⟨rfl,rfl,rfl⟩
 refine Ho _ _ _ _ ?_
 have l:=Ye (P:=P) (ops:=ops) (Q:=lw Q) (p:=lead ops) (w:={ w with drawn:=w.drawn+1 }) (cn _) (by omega)
  (fun i b=>cR (sg 0) M Fz { w with drawn:=w.drawn+1 } (env i) b.tmps∧b.defers=a.defers)
  (fun i o x b k A s U N=>by
   obtain ⟨z,K,f,t,_⟩:=mv i o x k A s U
   refine ⟨?_,by rw [←N.2]; cases o.dst <;> rfl⟩
   rw [f]
   exact N.1.put o.dst (ki N.1 K))
  (fun b N=>by
   refine TD O T ab (sP m) R1 N.1 fun g w' M' Fz' hd R' E' EV=>⟨rfl,?_⟩
   exact Y g w' M' Fz' (by simp_all) R' E' (EH.trans EV (cn _)))
  (lead ops) a (cn _) (by rw [Nat.sub_self]; exact ⟨E.mono EH,rfl⟩)
 rw [Nat.sub_self,Nat.sub_zero] at l
 exact l
theorem JE(os:List aD):dJ os<=os.length:=by grind [dJ]
theorem BL(os:List aD):iW os<=os.length:=by
 induction os with
 |nil=>simp[iW]
 |cons o os ih=>grind [iW]
theorem FB (W:P.follows .mixedOrders=true) (O:lP P orc):∀(k:Nat),
  (∀(c:Code) (ac:aH) (σ σ':ae) (M:Nat→Option Nat) (Fz:Nat→Prop) (w:World) (e e':List D) (a:Act) (wr wr':List Nat) (x:kT) (Q:Exit→Act→World→Prop),bg P c=some ac→Rel σ M Fz w→cR σ M Fz w e a.tmps →
   je P orc k ac e σ wr=some (x,e',σ',wr')→(∀z w' M' Fz',z.defers=a.defers→Rel σ' M' Fz' w'→cR σ' M' Fz' w' e' z.tmps→ba σ M Fz w σ' M' Fz' w'→Q (vD x) z w')→c.wq P Q a w) ∧
  (∀(c:Code) (ac:aH) (σ σ':ae) (M:Nat→Option Nat) (Fz:Nat→Prop) (w:World) (e e':List D) (a:Act) (wr wr':List Nat) (x:kT) (Q:Exit→Act→World→Prop),bg P c=some ac→Rel σ M Fz w→cR σ M Fz w e a.tmps →
   je P orc k (.loop ac) e σ wr=some (x,e',σ',wr')→(∀z w' M' Fz',z.defers=a.defers→Rel σ' M' Fz' w'→cR σ' M' Fz' w' e' z.tmps→ba σ M Fz w σ' M' Fz' w'→Q (vD x) z w')→Code.rq P c Q k a w):=by
 intro k
 induction k with
 | zero=>grind [je]
 | succ k ih =>
  obtain ⟨q,ab⟩:=ih
  have L:∀(c:Code) (ac:aH) (σ σ':ae) (M:Nat→Option Nat) (Fz:Nat→Prop) (w:World) (e e':List D) (a:Act) (wr wr':List Nat) (x:kT) (Q:Exit→Act→World→Prop),bg P c=some ac→Rel σ M Fz w→cR σ M Fz w e a.tmps →
   je P orc (k+1) (.loop ac) e σ wr=some (x,e',σ',wr')→(∀z w' M' Fz',z.defers=a.defers→Rel σ' M' Fz' w'→cR σ' M' Fz' w' e' z.tmps→ba σ M Fz w σ' M' Fz' w'→Q (vD x) z w')→Code.rq P c Q (k+1) a w:=by
   intro c ac σ σ' M Fz w e e' a wr wr' x Q d R E h t
   rw [Fv]
   simp only [je] at h
   split at h
   ·rename_i u f bJ p
    have hl:=(tE O _ _ _ _ _ _ _ _ _ p).1
    refine q c ac σ f M Fz w e u a wr bJ .normal _ d R E p fun v w1 A j hd F G m=>?_
    exact ab c ac f σ' A j w1 u e' v bJ wr' x Q d F G h fun a2 w2 M2 N ad R2 E2 T=>t a2 w2 M2 N (by simp_all) R2 E2 (m.trans T hl)
   ·rename_i X
    have Y:x≠.normal:=fun Y=>by simp_all
    refine q c ac σ σ' M Fz w e e' a wr wr' x _ d R E h fun v w1 A j hd F G m=>?_
    have:=t v w1 A j hd F G m
    cases x with
    | normal=>simp_all
    | exit i=>grind [nS]
    | ret=>exact this
  refine ⟨?_,L⟩
  intro c ac σ σ' M Fz w e e' a wr wr' x Q d R E h t
  cases c with
  | skip =>
   simp only [bg,aj] at d
   subst d
   simp only [je,aj,aM] at h
   obtain ⟨rfl,rfl,rfl,_⟩:=h
   exact Xk (t a w M Fz rfl R E (ba.refl R))
  | exit id =>
   simp only [bg,aj] at d
   subst d
   simp only [je,aj,aM] at h
   grind [ba.refl,Kc,Go.Wu]
  | goto l =>
   simp only [bg,aj] at d
   subst d
   simp only [je,aj,aM] at h
   grind [ba.refl,IG,Go.Yp]
  | scope b =>
   grind [bg,Option.map_eq_some_iff,Hn,je]
  | rangeFunc g ps x y =>
   simp only [bg,aj] at d
   subst d
   rcases zb (bB g) ps.toList (bg P x) (bg P y) (x.calm&&y.calm) with ⟨_,_,_,_,_,_,_,e⟩ | e <;> rw [e] at h <;> simp [je] at h
  | ret =>
   simp only [bg,aj] at d
   subst d
   simp only [je,aj,aM] at h
   obtain ⟨rfl,rfl,rfl,_⟩:=h
   exact wq_ret (t a w M Fz rfl R E (ba.refl R))
  | region id ops Z =>
   simp only [bg] at d
   split at d
   ·rename_i os aa
    cases Z with
    | false =>
     simp only [bA,bT,aj] at d
     subst d
     simp only [je,bU,aM] at h
     obtain ⟨⟨u,f,w1⟩,p,rfl,rfl,rfl,_⟩:=h
     exact QA O aa R E p t
    | true =>
     simp only [if_true] at d
     split at d
     ·rename_i U
      simp only [aj] at d
      subst d
      have one:∀n u f w1,n≤os.length→iV P orc os (MU ops.toList) (lead ops) n e σ=some (u,f,w1)→x=.normal→u=e'→f=σ'→(Code.region id ops true).wq P Q a w:=by
       intro n u f w1 hn p Y he hs
       unfold iV at p
       split at p
       ·rename_i e2 au is h2
        split at p
        ·rename_i s
         simp only [bp] at s
         simp only [aj,aM] at p
         obtain ⟨rfl,rfl,rfl⟩:=p
         subst Y he hs
         exact Wl W O aa U R E h2 hn s.1.1 s.1.2 (zE s.2) t
        simp_all
       simp_all
      simp only [je] at h
      split at h
      ·grind [BL]
      ·split at h
       ·grind [JE]
       grind
     grind [je]
   grind [je]
  | seq c1 c2 =>
   simp only [bg] at d
   split at d
   ·rename_i v a2 p h2
    simp only [aj] at d
    subst d
    simp only [je] at h
    split at h
    ·rename_i u f bJ K
     have hl:=(tE O _ _ _ _ _ _ _ _ _ K).1
     refine Mx (q c1 v σ f M Fz w e u a wr bJ .normal _ p R E K fun r w1 A j hd F G m=>?_)
     exact q c2 a2 f σ' A j w1 u e' r bJ wr' x Q h2 F G h fun af w2 M2 N ad R2 E2 T=>t af w2 M2 N (by simp_all) R2 E2 (m.trans T hl)
    ·rename_i X
     have Y:x≠.normal:=fun Y=>by simp_all
     refine Mx (q c1 v σ σ' M Fz w e e' a wr wr' x _ p R E h fun r w1 A j hd F G m=>?_)
     have:=t r w1 A j hd F G m
     cases x with
     | normal=>simp_all
     | exit i=>grind [nS]
     | ret=>exact this
   simp_all
  | cond o c1 c2 =>
   simp only [bg] at d
   split at d
   ·rename_i oo v a2 h0 p h2
    simp only [aj] at d
    subst d
    simp only [je] at h
    have hv:=ki E h0
    grind [Go.wo,mo,Go.ux]
   grind [je]
  | block id c1 =>
   simp only [bg,bU] at d
   obtain ⟨v,p,rfl⟩:=d
   simp only [je] at h
   refine Js ?_
   split at h
   ·rename_i i u f bJ K
    split at h
    ·rename_i ak
     simp only [aj,aM] at h
     obtain ⟨rfl,rfl,rfl,_⟩:=h
     refine q c1 v σ f M Fz w e u a wr bJ (.exit i) _ p R E K fun r w1 A j hd F G m=>?_
     have:=t r w1 A j hd F G m
     rw [ak]
     exact AI this
    grind [yZ]
   ·rename_i X
    refine q c1 v σ σ' M Fz w e e' a wr wr' x _ p R E h fun r w1 A j hd F G m=>?_
    have:=t r w1 A j hd F G m
    cases x with
    | normal=>exact this
    | exit i=>grind
    | ret=>exact this
  | loop c1 =>
   simp only [bg,bU] at d
   obtain ⟨v,p,rfl⟩:=d
   exact rN (k+1) (L c1 v σ σ' M Fz w e e' a wr wr' x Q p R E h t)
  | _=>grind [bg,je]
end
end Go.Abs
end
section
namespace Go.Abs
variable[Gl]
section
variable{P:Program}{σ σ0:ae}{M M0:Nat->Option Nat}{Fz Fz0:Nat->Prop}{w w0:World}
def Dg(M:Nat->Option Nat)(Fz:Nat->Prop)(n:Nat):Nat->Prop:=λc=>Fz c∨∃b,n<=b/\M b=some c
theorem vo(n:Nat):∀(k:Nat)(l:List C),(chunks n k l).length=k:=by
 intro k;induction k with
 |zero=>intro l;rfl
 |succ k ih=>grind [chunks]
theorem Ao{n:Nat}:∀(k:Nat)(l:List C),l.length=k * n->∀(i:Nat) e,(chunks n k l)[i]? = some e->e.length=n/\∀(j:Nat),j<n->e[j]? = l[i * n+j]?:=by
 intro k;induction k with
 |zero=>grind [chunks]
 |succ k ih=>
  intro l b i e h;rw[Nat.succ_mul] at b;cases i with
  |zero=>grind [chunks]
  |succ i=>grind [chunks]
theorem yl{α d:Type}{f:α->Option d}:∀{l:List α}{r:List d},l.mapM f=some r->∀(i:Nat) a,l[i]? = some a->∃b,r[i]? = some b/\f a=some b:=by
 intro l;induction l with
 |nil=>simp_all
 |cons a l ih=>grind [Option.bind_eq_some_iff]
theorem FH(R:Rel σ M Fz w){n:Nat}:∀(k:Nat)(d:D)(x:C)(v:Value),eY σ n k d=some x->V σ M Fz w d v->VC (Dg M Fz n) w x v:=by
 intro k;induction k with
 |zero=>grind [eY]
 |succ k ih=>
  intro d x v h u;cases d with
  |c y=>simp only[eY,aj] at h;subst h;exact u.oe.mono (λc hc=>⟨.inl hc,rfl⟩)
  |ptr b off sz=>
   simp only[eY] at h;split at h
   ·rename_i A;split at h
    ·rename_i cs E;simp only[bU] at h;obtain ⟨l,F,rfl⟩:=h;obtain ⟨c,s,rfl⟩:=u.tc E;obtain ⟨m,_⟩:=Kk E;obtain ⟨g,T,U,X,Y⟩:=R.row s m;obtain ⟨m1,G⟩:=Jf F;have:=VC.bZ (Fz:=Dg M Fz n) (w:=w) (cs:=l) (off:=off) c 0 (λj=>g[j]!) (.inr ⟨b,A,s⟩) (λj d K=>?_) (λj d K=>?_)
     ·simp_all
     ·obtain ⟨a,r,_⟩:=G j d K;have q:=(d_.1 r).1;have e:g[j]? = some (g[j]'(by omega)):=oF _;have W:g[j]! = g[j]'(by omega):=yCe g j (by omega);rw[GA,cell_of_row w c j g T (0,0) U,e,W]
      grind
     ·obtain ⟨a,r,L⟩:=G j d K;have q:=(d_.1 r).1;have e:g[j]? = some (g[j]'(by omega)):=oF _
      grind
    simp_all
   simp_all
  |sl b off len ar sz=>
   simp only[eY] at h;split at h
   ·rename_i N;obtain ⟨A,ad,a0⟩:=N;split at h
    ·rename_i cs E;simp only[bU] at h;obtain ⟨l,F,rfl⟩:=h;rcases u.dV E with ⟨rfl,W,_,_,_⟩ | ⟨c,o,cap,af,T0,s,rfl,a1,ak,a2,an,_⟩
     ·subst W;exact VC.ca (nn:=Nat.blt 0 0) (es:=[]) ar none 0 (λh=>by cases h) (λ_=>rfl) (λ_ _=>undef) (λ_ h=>by simp at h) (cn _) (λi j e d h=>by simp at h) (λi j e d h=>by simp at h)
     obtain ⟨m,Z⟩:=Kk E;obtain ⟨g,T,U,X,Y⟩:=R.row s m;obtain ⟨m1,G⟩:=Jf F;have aa:l.length=len * ar:=by grind
     have O:∀(i j:Nat)(e:List C)(d:C),(chunks ar len l)[i]? = some e->e[j]? = some d->j<ar/\i<len/\o=off/\∃a,cs[off+(i * ar+j)]? = some a/\eY σ n k a=some d:=by
      intro i j e d t z;obtain ⟨h3,h4⟩:=Ao len l aa i e t
      grind [vo]
     have:=VC.ca (Fz:=Dg M Fz n) (w:=w) (nn:=Nat.blt 0 len) (es:=chunks ar len l) ar (some ⟨c,o,none⟩) cap (λ_=>rfl) (λh=>by cases h) (λi j=>g[o+i * ar+j]!) (λe he=>?_) (by grind [vo]) (λi j e d t z=>?_) (λi j e d t z=>?_)
     ·grind [vo]
     ·grind [List.mem_iff_getElem?,Ao]
     ·obtain ⟨K,hi,rfl,a,r,L⟩:=O i j e d t z;have q:=(d_.1 r).1;rw[<-Nat.add_assoc] at r q;have e1:g[o+i * ar+j]? = some (g[o+i * ar+j]'(by omega)):=oF _;have W:g[o+i * ar+j]! = g[o+i * ar+j]'(by omega):=yCe g _ (by omega);refine ⟨c,o,rfl,.inr ⟨b,A,s⟩,?_,?_⟩
      ·grind [Go.cell_of_row]
      grind
     ·obtain ⟨K,hi,rfl,a,r,L⟩:=O i j e d t z;have q:=(d_.1 r).1;rw[<-Nat.add_assoc] at r q;have e1:g[o+i * ar+j]? = some (g[o+i * ar+j]'(by omega)):=oF _
      grind
    simp_all
   simp_all
  |fn f first cap=>
   simp only[eY] at h;split at h
   ·rename_i l1 l2 t z;simp only[aj] at h;subst h;obtain ⟨m1,G⟩:=Jf t;obtain ⟨m3,m4⟩:=Jf z;cases u with
    |fn vs ws k1 k2 u hw=>
     refine .fn vs ws (by omega) (by omega) (λi d v a b=>?_) (λi d v a b=>?_)
     ·grind
     grind
   simp_all
  |mp b=>
   simp only[eY] at h;split at h
   ·rename_i A;split at h
    ·rename_i es ab m;simp only[bU] at h;obtain ⟨l,F,rfl⟩:=h;obtain ⟨c,rfl,s⟩:=u.AE m;obtain ⟨g,ck,U,⟨Z,_⟩,ax⟩:=R.Hv m s;obtain ⟨m1,G⟩:=Jf F;refine .Ib c ck g (.inr ⟨b,A,s⟩) U (by omega) (λi p e hi he=>?_) (λi p e hi he=>?_)
     ·grind [Option.map_eq_some_iff]
     grind [Option.map_eq_some_iff]
    simp_all
   simp_all
  |agg cs=>grind [eY]
  |aI vs=>grind [eY]
  |any=>grind [eY]
theorem Ia(R:Rel σ M Fz w){n k:Nat}{d r:D}{v:Value}(h:mI σ n k d=some r)(e:V σ M Fz w d v)(σ':ae)(M':Nat->Option Nat):V σ' M' (Dg M Fz n) w r v:=by
 have plain:∀d,(eY σ n k d).map D.c=some r->V σ M Fz w d v->V σ' M' (Dg M Fz n) w r v:=by intro d h e;simp only[bU] at h;obtain ⟨x,f,rfl⟩:=h;exact .c (FH R k d x v f e)
 cases d with
 |agg q=>
  simp only[mI,bU] at h;obtain ⟨l,j,rfl⟩:=h;obtain ⟨m1,m⟩:=Jf j;cases e with
  |agg o s e=>refine .agg o (by simp_all) (λi d v a b=>?_);simp only[gP,bU] at a;obtain ⟨x,f,rfl⟩:=a;obtain ⟨y,p,g⟩:=m i x f;exact .c (FH R k y x v g (e i y v p b))
 |_=>exact plain _ h e
theorem ES(R:Rel σ M Fz w){n k:Nat}{d r:D}{v:Value}(h:ue σ n k d=some r)(e:V σ M Fz w d v)(σ':ae)(M':Nat->Option Nat):V σ' M' (Dg M Fz n) w r v:=by
 cases d with
 |aI ds=>
  simp only[ue,bU] at h;obtain ⟨l,f,rfl⟩:=h;obtain ⟨m1,j⟩:=Jf f;cases e with
  |aI g m e=>
   refine .aI g (by omega) (λi d v a b=>?_)
   grind [Ia]
 |_=>grind [ue,Ia]
theorem Rel.forget(R0:Rel σ0 M0 Fz0 w0)(R:Rel σ M Fz w)(s:ba σ0 M0 Fz0 w0 σ M Fz w)(G:∀b,b<σ0.length->σ[b]? = σ0[b]?) :
  Rel σ0 (cz M σ0.length) (Dg M Fz σ0.length) w/\ba σ0 M0 Fz0 w0 σ0 (cz M σ0.length) (Dg M Fz σ0.length) w:=by
 have K:kz σ0 σ:=λb A z=>⟨A,by grind,rfl⟩;have O:∀b,b<σ0.length->M b=M0 b:=λb z=>by
  obtain ⟨ab,h1,_,h2⟩:=s.keep b _ (cT z)
  simp_all
 refine ⟨⟨λb c h=>?_,λb U c h W=>?_,λc h=>?_,Gl.mono (λc h=>⟨.inl h,rfl⟩) R.gl⟩,⟨s.size,s.frame,λb c h=>?_,λc h=>⟨.inl (s.fz c h).1,(s.fz c h).2⟩,λc h=>?_,s.nF,λb A z=>⟨A,z,cn _,λ_=>?_⟩,s.out⟩⟩
 ·unfold cz at h;split at h
  ·rename_i z;obtain ⟨h1,A,o,h2,h3,h4⟩:=R.blk b c h;have X:M0 b=some c:=by simp_all
   obtain ⟨_,u,o0,h5,_,h6⟩:=R0.blk b c X;have:u=A:=by simp_all
   subst this;refine ⟨λhf=>?_,u,o,h5,h3,?_⟩
   ·rcases hf with hf | ⟨U,E,Y⟩
    ·simp_all
    ·have:=R.inj b U c h Y;omega
   ·have Z:=(h4.down K h6).cut;have e:∀{d v},V σ0 (cz M σ0.length) Fz w d v->V σ0 (cz M σ0.length) (Dg M Fz σ0.length) w d v:=λh=>h.sub kz.refl (λ_ _ h=>h) (λc h=>⟨.inl h,rfl⟩) (λc j T fr h=>⟨j,h,rfl⟩);cases u with
    |cells cs=>obtain ⟨j,T,ho,hl,F⟩:=Z;exact ⟨j,T,ho,hl,λi d v x y=>⟨e (F i d v x y).1,(F i d v x y).2⟩⟩
    |map es aa=>obtain ⟨j,ho,hl,F⟩:=Z;exact ⟨j,ho,hl,λi k d n e' x y=>let ⟨a,b,c⟩:=F i k d n e' x y;⟨a,b,e c⟩⟩
    |gone n=>exact Z.elim
  simp_all
 ·unfold cz at h W;split at h
  ·split at W
   ·exact R.inj b U c h W
   simp_all
  simp_all
 ·rcases h with h | ⟨b,_,h⟩
  ·exact R.fz c h
  ·exact (R.lt h).2
 ·grind [cz]
 ·rcases h with h | ⟨b,_,h⟩
  ·exact s.lD c h
  ·rcases s.ja b c h with h | h
   ·simp_all
   omega
 ·have E:=(d_.1 z).1;simp only[cz,if_pos E]
  simp_all
theorem one_ok{ds:List D}{vs:Array Value}(hs:vs.size=ds.length)(e:∀(i:Nat) d v,ds[i]? = some d->vs[i]? = some v->V σ M Fz w d v) :
  V σ M Fz w (one ds) (if h:vs.size=1 then vs[0] else .tuple vs):=by
 match ds,hs,e with
 |[d], hs, e=>
  have f:vs.size=1:=by omega
  rw[dif_pos f];exact e 0 d _ (by simp) (oF (by omega))
 |[], hs, e=>rw[dif_neg (by grind)];exact .aI vs hs e
 |a :: b :: l, hs, e=>rw[dif_neg (by grind)];exact .aI vs hs e
def KM(b:Array Value):ResultVar->Sem Value
 |.tmp t=>pure (b.getD t undef)
 |.cell x t=>do loadVar t (<-asAddr (b.getD x undef))
theorem LL(fn:Func)(b:Array Value):results fn b=(do
  let vs <-fn.results.mapM (KM b)
  pure (if h:vs.size=1 then vs[0] else .tuple vs)):=by
 unfold results;congr 2
theorem ig(R:Rel σ M Fz w){env:List D}{a:Act}(E:cR σ M Fz w env a.tmps){fn:Func}{rs:List (Nat×Option (Option Nat))}{ds:List D}(k:fn.results.toList.mapM (JL P)=some rs)(hd:rs.mapM (IW env σ)=some ds) :
  ∃v,(results fn a.tmps).run P w=.ok v w/\V σ M Fz w (one ds) v:=by
 have p:∀(l:List ResultVar)(rs:List (Nat×Option (Option Nat)))(ds:List D),l.mapM (JL P)=some rs->rs.mapM (IW env σ)=some ds ->
   ∃vs:List Value,(l.mapM (KM a.tmps)).run P w=.ok vs w/\vs.length=ds.length/\∀(i:Nat) d v,ds[i]? = some d->vs[i]? = some v->V σ M Fz w d v:=by
  intro l;induction l with
  |nil=>simp_all
  |cons x l ih=>
   intro rs ds q s;simp only[Pq,Option.pure_def,Option.bind_eq_bind,b_,aj] at q;obtain ⟨r,k,z,A,rfl⟩:=q;simp only[Pq,Option.pure_def,Option.bind_eq_bind,b_,aj] at s;obtain ⟨d,hd,F,G,rfl⟩:=s;obtain ⟨vs,O,W,h5⟩:=ih z F A G;have X:∃v,(KM a.tmps x).run P w=.ok v w/\V σ M Fz w d v:=by
    cases x with
    |tmp t=>simp only[JL,aj] at k;subst k;simp only[IW] at hd;have g:=(d_.1 hd).1;have e:a.tmps[t]? = some (a.tmps[t]'(by rw[E.1];exact g)):=oF _;refine ⟨_,rfl,?_⟩;rw[YO,e];exact E.2 t _ _ hd e
    |cell y t=>
     simp only[JL,bU] at k;obtain ⟨n,Y,rfl⟩:=k;simp only[IW] at hd;split at hd
     ·rename_i b off sz U;simp only[b_] at hd;obtain ⟨Z,f,hg⟩:=hd;have g:=(d_.1 U).1;have e:a.tmps[y]? = some (a.tmps[y]'(by rw[E.1];exact g)):=oF _;have hv:=E.2 y _ _ U e;obtain ⟨c,hM,aa⟩:=hv.tc f;obtain ⟨K,_⟩:=Kk f;obtain ⟨h,T,hh,ab,L⟩:=R.row hM K;have j:∀(i:Nat) x,Z[i]? = some x->∃u,w.cell? ⟨c,0+i,none⟩=some u/\V σ M Fz w x u:=by
       intro i x m;have hi:=(d_.1 m).1;have e:h[i]? = some (h[i]'(by omega)):=oF _;exact ⟨_,by rw[GA,cell_of_row w c i h T (0,0) hh];exact e,(L i _ _ m e).1⟩
      obtain ⟨v,o,N⟩:=uX (P:=P) Y hg j;refine ⟨v,?_,N⟩;rw[GA] at o;have eg:a.tmps.getD y undef=.pointer (some ⟨c,off,none⟩):=by simp_all
      show (do loadVar t (<-asAddr (a.tmps.getD y undef)):Sem Value).run P w=_
      grind [Go.asAddr]
     simp_all
   obtain ⟨v,ad,af⟩:=X;refine ⟨v::vs,?_,by simp[W],λi d' v' hi ak=>?_⟩
   ·simp_all
   grind
 obtain ⟨vs,q,s,O⟩:=p _ _ _ k hd;refine ⟨_,?_,one_ok (vs:=vs.toArray) (by omega) (λi d v a b=>O i d v a (by simp_all))⟩
 grind [LL,Go.Sem.run_bind,Array.mapM_eq_mapM_toList,Go.Sem.run_map,Go.Result.andThen_ok,Go.Sem.run_pure]
end
theorem Xt{P:Program}(l:P.follows .mixedOrders=true){orc:ta}(O:si P orc){g:FuncId}{fn:Func}{U:jE}{W:Bool}{k:Nat}{ds:List D}{σ σ':ae}{r:D}{wr:List Nat}
  (X:P.funcs[g]? = some fn) (t:fX P fn W=some U) (h:evF1 P orc k U ds σ=some (r,σ',wr)) :
  Ok P g ds σ r σ'/\σ.length<=σ'.length/\∀b,b<σ.length->b∉wr->σ'[b]? = σ[b]?:=by
 unfold fX at t;split at t
 ·rename_i c E;split at t
  ·rename_i ac rs Y Z;simp only[aj] at t;subst t;unfold evF1 at h;split at h
   ·rename_i aa;have ab:∀env f bJ x,(x=.normal∨x=.ret)->je P (λ_=>orc) k ac (ds++List.replicate (fn.ntmps-ds.length) (.aI [])) σ []=some (x,env,f,bJ) ->
      finish ⟨fn.params.size+fn.nfree,fn.ntmps,rs,ac,W⟩ σ env f bJ=some (r,σ',wr)->Ok P g ds σ r σ'/\σ.length<=σ'.length/\∀b,b<σ.length->b∉wr->σ'[b]? = σ[b]?:=by
     intro env f bJ x hx m e;obtain ⟨k1,_,k3⟩:=tE (orc:=λ_=>orc) (λ_=>O) _ _ _ _ _ _ _ _ _ m;unfold finish at e;split at e
     ·rename_i u n;dsimp only at n e;have ad:some (one u,f,bJ.filter (·<σ.length))=some (r,σ',wr)->Ok P g ds σ r σ'/\σ.length<=σ'.length/\∀b,b<σ.length->b∉wr->σ'[b]? = σ[b]?:=by
       intro he;simp only[aj,aM] at he;obtain ⟨rfl,rfl,rfl⟩:=he;refine ⟨λM Fz w j R hs F=>?_,k1,λb E hn=>k3 b E (λhw=>hn (by simp_all))⟩;refine calls_of_wp X E ?_;have G:cR σ M Fz w (ds++List.replicate (fn.ntmps-ds.length) (.aI [])) (j++Array.replicate (fn.ntmps-j.size) undef):=by
        refine ⟨by simp[hs],λi d v a b=>?_⟩;rw[yBz] at a;rw[Array.getElem?_append] at b;split at a
        ·grind
        ·rename_i hi;rw[if_neg (by omega)] at b
         grind [V.undef]
       refine JR ((FB l (orc:=λ_=>orc) (λ_=>O) k).1 c ac σ f M Fz w _ env { tmps:=j++Array.replicate (fn.ntmps-j.size) undef,defers:=[] } [] bJ x _ Y R G m λy w' M' Fz' hd s K L=>?_);obtain ⟨v,o,p⟩:=ig (P:=P) s K Z n;have post:y.defers=[]/\∃v,(results fn y.tmps).run P w'=.ok v w'/\∃z M'' Fz'',Ending.returned v=.returned z/\Rel f M'' Fz'' w'/\V f M'' Fz'' w' (one u) z/\ba σ M Fz w f M'' Fz'' w':=
        ⟨hd,v,o,v,M',Fz',rfl,s,p,L⟩
       rcases hx with rfl | rfl
       ·exact post
       ·exact post
      split at e
      ·rename_i A;simp only[bp] at A;split at e
       ·rename_i r' N;simp only[aj,aM] at e;obtain ⟨rfl,rfl,rfl⟩:=e;have q:∀b,b<σ.length->f[b]? = σ[b]?:=by
         grind
        refine ⟨λM Fz w j R hs F=>?_,cn _,λ_ _ _=>rfl⟩;refine calls_of_wp X E ?_;have G:cR σ M Fz w (ds++List.replicate (fn.ntmps-ds.length) (.aI [])) (j++Array.replicate (fn.ntmps-j.size) undef):=by
         refine ⟨by simp[hs],λi d v a b=>?_⟩;rw[yBz] at a;rw[Array.getElem?_append] at b;split at a
         ·grind
         ·rename_i hi;rw[if_neg (by omega)] at b
          grind [V.undef]
        refine JR ((FB l (orc:=λ_=>orc) (λ_=>O) k).1 c ac σ f M Fz w _ env { tmps:=j++Array.replicate (fn.ntmps-j.size) undef,defers:=[] } [] bJ x _ Y R G m λy w' M' Fz' hd s K L=>?_);obtain ⟨v,o,p⟩:=ig (P:=P) s K Z n;obtain ⟨R2,T⟩:=Rel.forget R s L q;have post:y.defers=[]/\∃v,(results fn y.tmps).run P w'=.ok v w'/\∃z M'' Fz'',Ending.returned v=.returned z/\Rel σ M'' Fz'' w'/\V σ M'' Fz'' w' r' z/\ba σ M Fz w σ M'' Fz'' w':=
         ⟨hd,v,o,v,_,_,rfl,R2,ES s N p _ _,T⟩
        rcases hx with rfl | rfl
        ·exact post
        ·exact post
       simp_all
      simp_all
     simp_all
    grind
   simp_all
  simp_all
 simp_all
def TblOk(P:Program)(b:FuncId->Option jE):Prop:=∀g d,b g=some d->aN P g=true/\∃fn e,P.funcs[g]? = some fn/\fX P fn e=some d
theorem evF_ok{P:Program}(f:P.follows .mixedOrders=true){b:FuncId->Option jE}(i:TblOk P b){prim:ta}(j:si P prim)(k:Nat):∀n,si P (evF P b prim k n):=by
 intro n;induction n with
 |zero=>intro g ds σ r σ' wr h;grind [evF]
 |succ n ih=>
  intro g ds σ r σ' wr h;simp only[evF] at h;split at h
  ·rename_i Pj d;simp only[aj] at h;subst h;exact j g ds σ r σ' wr d
  ·split at h
   ·rename_i l e;obtain ⟨m,fn,o,p,q⟩:=i g l e
    grind [Xt]
   simp_all
end Go.Abs
end
