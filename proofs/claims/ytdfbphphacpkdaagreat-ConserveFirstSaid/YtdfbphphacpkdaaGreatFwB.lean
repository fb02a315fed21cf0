/- DfwJ, DfwK, DfwL, DfwM, DfwWq, DfwMk, DfwN, DfwO, DfwQ, DfwR, DfwS, DfwT, DfwU -/
import Derived.Test.YtdfbphphacpkdaaGreatFwA
import Derived.LoopN
import Derived.LoopNIn
import Derived.Orders
import Derived.OrdersIn
import Derived.RangeFuncCalls
import Derived.RangeFuncLeaves
set_option linter.all false
section
namespace Go.Abs
variable[Gl]
def Ok(P:Program)(g:FuncId)(ds:List D)(σ:ar)(r:D)(σ':ar):Prop:=
 ∀ (M : Nat -> Option Nat) (Fz : Nat -> Prop) (w : World) (b : Array Value), Rel σ M Fz w -> b.size = ds.length -> (∀ (i : Nat) d v, ds[i]? = some d -> b[i]? = some v -> V σ M Fz w d v) ->
  Calls P g b w λe w'=>∃v M' Fz',e=.returned v/\Rel σ' M' Fz' w'/\V σ' M' Fz' w' r v/\bD σ M Fz w σ' M' Fz' w'
def aS(P:Program)(g:FuncId):Bool:=
 match P.funcs[g]? with
 |some fn=>fn.body.isSome&&fn.name != "runtime.NumGoroutine"
 |none=>false
def tV(P:Program)(orc:vD):Prop:=
 ∀g ds σ r σ' wr,orc g ds σ=some (r,σ',wr)->aS P g=true/\Ok P g ds σ r σ'/\σ.length<=σ'.length/\∀b,b<σ.length->b∉wr->σ'[b]? = σ[b]?
abbrev gj:=Option Nat->vD
def nP(P:Program)(orc:gj):Prop:=∀t,tV P (orc t)
section
variable{P:Program}{σ σ':ar}{M M':Nat->Option Nat}{Fz:Nat->Prop}{w w':World}{env:List D}{a:Act}{orc:vD}
theorem Gg{d:D}{es:List (Value×D×Nat)}(h:Hb σ d=some es):(d=.c (.lit (.map none))/\es=[])∨(∃b e,d=.mp b/\σ[b]? = some (.map es e))∨∃f,d=.c (.Ld f)/\es=f.map λp=>(p.1,.c p.2,0):=by
 unfold Hb at h;split at h
 ·simp_all
 ·simp_all
 ·grind
 simp_all
def VO(ao:kO)(env:List D):D:=
 match ao with
 |.load _ x=>x.ev env
 |_=>.any
inductive Out (P:Program) (s:Sem Next) (σ:ar) (M:Nat->Option Nat) (Fz:Nat->Prop) (w:World) (at_:D):kO->ar->D->List Nat->Prop where
 |y {ao:kO} {d:D} (hc:cat ao=0) (h:Yields P s σ M Fz w d):Out P s σ M Fz w at_ ao σ d []
 |l {ao:kO} {d:D} {σ':ar} (hc:cat ao=1) (hσ:σ'=σ) (h:(∀b off sz c cs,at_=.ptr b off sz->M b=some c->σ[b]? = some (.cells cs)->∃arr T,w.heap[c]? = some (.cells arr T (0,0))/\cs.length<=arr.size/\∀(i:Nat) d v,cs[i]? = some d->arr[i]? = some v->V σ M Fz w d v/\v.oneCell'=true)->Yields P s σ M Fz w d):Out P s σ M Fz w at_ ao σ' d []
 |a {ao:kO} {d:D} {ob:Ob} (hc:cat ao=2) (h:(∀c,Fz c->c<w.heap.size)->ah P s σ M Fz w ob d):Out P s σ M Fz w at_ ao (σ++[ob]) d []
 |g {ao:kO} {d:D} {σ':ar} {wr:List Nat} (hc:cat ao=3) (h:Rel σ M Fz w->dC P s σ M Fz w σ' d):Out P s σ M Fz w at_ ao σ' d wr
theorem Ee(a9:Gl.ok Fz w)(E:dr σ M Fz w env a.tmps){o:Oper}{ao:kO}{d:D}{wr:List Nat}(g:lN P o.op o.type=some ao)(b3:Ar ao=false)
  (h:ba P orc ao env σ=some (d,σ',wr)):Out P (execOp a.eval o) σ M Fz w (VO ao env) ao σ' d wr:=by
 cases j:o.op with
 |move x=>rw[j] at g;simp only[lN,cu] at g;obtain ⟨G,p,rfl⟩:=g;simp only[ba,au,aT] at h;obtain ⟨rfl,rfl,rfl⟩:=h;exact .y rfl (Xv E (.inl j) p)
 |assign x=>rw[j] at g;simp only[lN,cu] at g;obtain ⟨G,p,rfl⟩:=g;simp only[ba,au,aT] at h;obtain ⟨rfl,rfl,rfl⟩:=h;exact .y rfl (Xv E (.inr j) p)
 |pick c x y=>rw[j] at g;simp only[lN,Option.bind_eq_bind,cC,au] at g;obtain ⟨oc,bb,G,p,oy,hy,rfl⟩:=g;simp only[ba,cu,aT] at h;obtain ⟨t,W,rfl,rfl,rfl⟩:=h;exact .y rfl (pick_ok E j bb p hy W)
 |alloc t=>rw[j] at g;simp only[lN,cu] at g;obtain ⟨z,T,rfl⟩:=g;simp only[ba,au,aT] at h;obtain ⟨rfl,rfl,rfl⟩:=h;exact .a rfl (λO=>Xt O j T)
 |box t x=>rw[j] at g;simp only[lN,cu] at g;obtain ⟨G,p,rfl⟩:=g;simp only[ba,cu,aT] at h;obtain ⟨cs,K,rfl,rfl,rfl⟩:=h;exact .a rfl (λO=>box_ok O E j p K)
 |build t av=>
  rw[j] at g;simp only[lN,Option.bind_eq_bind,cC] at g;obtain ⟨z,T,u,q,g⟩:=g;cases u <;> simp only[cC,au,reduceCtorEq] at g
  ·rename_i len e;obtain ⟨n,v,qs,Y,rfl⟩:=g;simp only[ba,cu,aT] at h;obtain ⟨cs,K,rfl,rfl,rfl⟩:=h;exact .y rfl (Mr E j T (.inr ⟨len,e,n,q,v,rfl⟩) Y K)
  ·rename_i fs;obtain ⟨ps,bc,qs,Y,rfl⟩:=g;simp only[ba,cu,aT] at h;obtain ⟨cs,K,rfl,rfl,rfl⟩:=h;exact .y rfl (Mr E j T (.inl ⟨fs,ps,q,bc,rfl⟩) Y K)
 |buildSlice t len av=>
  rw[j] at g;simp only[lN,Option.bind_eq_bind,cC] at g;obtain ⟨u,q,g⟩:=g;cases u <;> simp only[cC,reduceCtorEq] at g
  obtain ⟨n,v,z,T,g⟩:=g;split at g
  ·grind
  ·rename_i A;simp only[cC,au] at g;obtain ⟨qs,Y,rfl⟩:=g;simp only[ba,cu,aT] at h;obtain ⟨cs,K,rfl,rfl,rfl⟩:=h;exact .a rfl (λO=>Tc O E j q v T A Y K)
 |load t x=>
  rw[j] at g;simp only[lN,Option.bind_eq_bind,cC,au] at g;obtain ⟨n,v,G,p,rfl⟩:=g;simp only[ba] at h;have Z:wr=[]:=by
   split at h
   ·simp only[Option.bind_eq_bind,cC,au,aT] at h;grind
   ·simp only[Option.bind_eq_bind,cC,au,aT] at h;grind
   simp_all
  subst Z;refine .l rfl ?_ (λhR=>(load_ok E j p v hR h).2);revert h;split
  ·simp only[Option.bind_eq_bind,cC,au,aT];simp_all
  ·simp only[Option.bind_eq_bind,cC,au,aT];simp_all
  ·simp
 |store t x y=>
  rw[j] at g;simp only[lN,Option.bind_eq_bind,cC,au] at g;obtain ⟨n,v,G,p,oy,hy,rfl⟩:=g;simp only[ba] at h;split at h
  ·rename_i b off sz L;simp only[Option.bind_eq_bind,cC] at h;obtain ⟨cs,K,xs,bd,h⟩:=h;split at h
   ·rename_i F;simp only[au,aT] at h;obtain ⟨rfl,rfl,rfl⟩:=h;exact .g rfl (λR=>WK R E j p hy v L K bd F)
   simp_all
  simp_all
 |nilCheck x=>
  rw[j] at g;simp only[lN,cu] at g;obtain ⟨G,p,rfl⟩:=g;simp only[ba] at h;have Z:wr=[]:=by grind
  subst Z;obtain ⟨rfl,hg⟩:=XS (P:=P) E j p h;exact .y rfl hg
 |binOp op t x y t2=>
  rw[j] at g;simp only[lN] at g;cases q:P.underlying t with
  |none=>rw[q] at g;simp only[Option.bind_none,au] at g;subst g;simp only[ba,cu,aT] at h;obtain ⟨U,hd,rfl,rfl,rfl⟩:=h;exact .y rfl (kG E (by simp_all) (by simp_all))
  |some u=>
   rw[q] at g;simp only[Option.bind_some] at g;cases hk:yR u with
   |none=>rw[hk] at g;simp only[au] at g;subst g;simp only[ba,cu,aT] at h;obtain ⟨U,hd,rfl,rfl,rfl⟩:=h;exact .y rfl (kG E (by simp_all) (by simp_all))
   |some k=>
    rw[hk] at g;have aa:∀neg,vV k neg x y=some ao->∃k' ab G,ao=.iU k' ab G:=by
     intro neg be;unfold vV at be
     grind [Option.map_eq_some_iff]
    cases op <;> simp only[reduceCtorEq] at g
    ·obtain ⟨k',ab,G,rfl⟩:=aa false g;simp only[ba,cu,aT] at h;obtain ⟨b,hb,rfl,rfl,rfl⟩:=h;exact .y rfl (Ke (neg:=false) E (by simpa using j) q hk g hb)
    ·obtain ⟨k',ab,G,rfl⟩:=aa true g;simp only[ba,cu,aT] at h;obtain ⟨b,hb,rfl,rfl,rfl⟩:=h;exact .y rfl (Ke (neg:=true) E (by simpa using j) q hk g hb)
 |unOp op t x=>rw[j] at g;simp only[lN,au] at g;subst g;simp only[ba,cu,aT] at h;obtain ⟨U,hd,rfl,rfl,rfl⟩:=h;exact .y rfl (kG E (by simp_all) (by simp_all))
 |convert s t x=>rw[j] at g;simp only[lN,au] at g;subst g;simp only[ba,cu,aT] at h;obtain ⟨U,hd,rfl,rfl,rfl⟩:=h;exact .y rfl (kG E (by simp_all) (by simp_all))
 |makeFunc f first cap=>rw[j] at g;simp only[lN,Option.bind_eq_bind,cC,au] at g;obtain ⟨o1,h1,o2,h2,rfl⟩:=g;simp only[ba,au,aT] at h;obtain ⟨rfl,rfl,rfl⟩:=h;exact .y rfl (mkfn_ok E j h1 h2)
 |makeMap t r=>
  rw[j] at g;cases r with
  |some _=>grind [lN]
  |none=>simp only[lN,au] at g;subst g;simp only[ba,au,aT] at h;obtain ⟨rfl,rfl,rfl⟩:=h;exact .a rfl (λO=>Vk j)
 |makeSlice t x y=>
  rw[j] at g;simp only[lN,Option.bind_eq_bind,cC] at g;obtain ⟨u,q,g⟩:=g;cases u <;> simp only[cC,reduceCtorEq] at g
  obtain ⟨n,v,z,T,i,X,g⟩:=g;split at g
  ·grind
  ·rename_i A;simp only[cC,au] at g;obtain ⟨G,p,oy,hy,rfl⟩:=g;simp only[ba,Option.bind_eq_bind,cC] at h;obtain ⟨l,hl,c,bh,h⟩:=h;split at h
   ·rename_i F;simp only[au,aT] at h;obtain ⟨rfl,rfl,rfl⟩:=h;exact .a rfl (λO=>Sb O E j q v T X A p hy hl bh F)
   simp_all
 |slice t x lo X mx=>
  rw[j] at g;cases mx with
  |some mx=>
   cases lo with
   |none=>grind [lN]
   |some lo => cases X with
    |none=>grind [lN]
    |some X=>
     simp only[lN,Option.bind_eq_bind,cC] at g;obtain ⟨u,q,g⟩:=g;cases u <;> simp only[cC,au,reduceCtorEq] at g
     obtain ⟨n,v,G,p,bi,ax,bk,a0,b4,bl,rfl⟩:=g;simp only[ba] at h;split at h
     ·rename_i b off len es sz L;simp only[Option.bind_eq_bind,cC] at h;obtain ⟨cs,hr,m,h0,h',h1,l,h2,h⟩:=h;split at h
      ·rename_i F;obtain ⟨rfl,rfl⟩:=F;simp only[au,aT] at h;obtain ⟨rfl,rfl,rfl⟩:=h;exact .y rfl (slc3xok (P:=P) E j p ax a0 bl q v L hr (cC.2 h0) (cC.2 h1) (cC.2 h2))
      simp_all
     simp_all
  |none=>
   simp only[lN,Option.bind_eq_bind,cC] at g;obtain ⟨u,q,g⟩:=g;cases u <;> simp only[cC,au,reduceCtorEq] at g
   ·subst g;simp only[ba,cu,aT] at h;obtain ⟨U,hd,rfl,rfl,rfl⟩:=h;exact .y rfl (kG E (by simp_all) (by simp_all))
   rotate_left
   ·rename_i m e;split at g
    ·simp only[cC] at g;obtain ⟨k,hk,G,p,g⟩:=g;split at g
     ·rename_i h1;subst h1;simp only[au] at g;subst g;simp only[ba] at h;split at h
      ·rename_i cs off L;split at h
       ·rename_i ad;simp only[au,aT] at h;obtain ⟨rfl,rfl,rfl⟩:=h;exact .y rfl (slca_ok (P:=P) E j p q hk L ad)
       ·simp at h
      ·simp at h
     ·simp at g
    ·simp at g
   ·obtain ⟨n,v,G,p,bi,ax,bk,a0,rfl⟩:=g;simp only[ba] at h;have Z:wr=[]:=by
     split at h
     ·simp only[Option.bind_eq_bind,cC,au,aT] at h;grind
     ·grind [Option.bind_eq_some_iff]
     ·grind [Option.bind_eq_some_iff]
     simp_all
    subst Z;obtain ⟨rfl,hg⟩:=slc_ok (P:=P) E j p ax a0 q v h;exact .y rfl hg
 |fieldAddr s x f=>
  rw[j] at g;simp only[lN,Option.bind_eq_bind,cC] at g;obtain ⟨u,q,g⟩:=g;cases u <;> simp only[cC,reduceCtorEq] at g
  obtain ⟨fd,a1,n,v,g⟩:=g;split at g
  ·grind
  ·rename_i A;simp only[cC,au] at g;obtain ⟨G,p,rfl⟩:=g;simp only[ba] at h;have Z:wr=[]:=by
    grind
   subst Z;obtain ⟨rfl,hg⟩:=fld_ok (P:=P) E j p q a1 v A h;exact .y rfl hg
 |field t x f=>
  rw[j] at g;simp only[lN,Option.bind_eq_bind,cC] at g;obtain ⟨u,q,g⟩:=g;cases u <;> simp only[cC,au,reduceCtorEq] at g
  obtain ⟨fd,a1,n,v,G,p,rfl⟩:=g;simp only[ba] at h;split at h
  ·rename_i cs L;simp only[cu,aT] at h;obtain ⟨U,hd,rfl,rfl,rfl⟩:=h;exact .y rfl (part_ok E j p q a1 v L hd)
  simp_all
 |indexAddr t x i=>
  rw[j] at g;simp only[lN,Option.bind_eq_bind,cC] at g;obtain ⟨u,q,g⟩:=g;cases u <;> simp only[cC,reduceCtorEq] at g
  ·rename_i e;obtain ⟨n,v,g⟩:=g;split at g
   ·grind
   ·rename_i A;simp only[cC,au] at g;obtain ⟨G,p,oi,X,rfl⟩:=g;simp only[ba] at h;have Z:wr=[]:=by
     grind [Option.bind_eq_some_iff]
    subst Z;obtain ⟨rfl,hg⟩:=idx_ok (P:=P) E j p X q v A h;exact .y rfl hg
  ·rename_i len e;obtain ⟨n,v,g⟩:=g;split at g
   ·grind
   ·rename_i A;simp only[cC,au] at g;obtain ⟨G,p,oi,X,rfl⟩:=g;simp only[ba] at h;have Z:wr=[]:=by
     simp only[Option.bind_eq_bind,cC] at h;obtain ⟨_,_,_,_,h⟩:=h;split at h
     ·simp_all
     ·simp_all
     ·grind
     simp_all
    subst Z;obtain ⟨rfl,hg⟩:=Nc (P:=P) a9 E j p X q v h;exact .y rfl hg
 |index t x i=>
  rw[j] at g;simp only[lN,Option.bind_eq_bind,cC] at g;obtain ⟨u,q,g⟩:=g;cases u <;> simp only[cC,au,reduceCtorEq] at g
  ·subst g;simp only[ba,cu,aT] at h;obtain ⟨U,hd,rfl,rfl,rfl⟩:=h;exact .y rfl (kG E (by simp_all) (by simp_all))
  ·rename_i len e;obtain ⟨sz,bt,n,v,G,p,oi,X,rfl⟩:=g;simp only[ba,Option.bind_eq_bind,cC] at h;obtain ⟨z,T,k,hk,h⟩:=h;split at h
   ·rename_i cs L;simp only[cu,aT] at h;obtain ⟨U,hd,rfl,rfl,rfl⟩:=h;exact .y rfl (aidx_ok E j p X q bt v L T hk hd)
   simp_all
 |lookup t m k ok=>
  rw[j] at g;simp only[lN,Option.bind_eq_bind,cC] at g;obtain ⟨u,q,g⟩:=g;cases u <;> simp only[cC,reduceCtorEq] at g
  rename_i kt e;obtain ⟨kd,af,g⟩:=g;split at g
  ·rename_i hs;simp only[cC,au] at g;obtain ⟨zero,T,om,hm,a6,hk,rfl⟩:=g;simp only[ba,Option.bind_eq_bind,cC,au,aT] at h;obtain ⟨kv,ak,es,a7,r,hr,rfl,rfl,rfl⟩:=h;exact .g rfl (λR=>Uw R E j q af hs T hm hk ak (Gg a7) hr rfl)
  ·simp at g
 |mapUpdate t m k x | insert t m k x=>
  rw[j] at g;simp only[lN,Option.bind_eq_bind,cC] at g;obtain ⟨u,q,g⟩:=g;cases u <;> simp only[cC,reduceCtorEq] at g
  rename_i kt e;obtain ⟨kd,af,g⟩:=g;split at g
  ·rename_i hs;simp only[cC,au] at g;obtain ⟨om,hm,a6,hk,G,p,rfl⟩:=g;simp only[ba,Option.bind_eq_bind,cC] at h;obtain ⟨kv,ak,h⟩:=h;split at h
   ·rename_i b L;split at h
    ·rename_i es a2 hb;simp only[cC] at h;obtain ⟨r,hr,h⟩:=h;have:=λR=>upd_ok (P:=P) (σ:=σ) (M:=M) (Fz:=Fz) (w:=w) R E (by first | exact .inl j | exact .inr j) q af hs hm hk p ak L hb hr;split at h
     ·simp only[au,aT] at h;obtain ⟨rfl,rfl,rfl⟩:=h;exact .g rfl this
     ·simp only[au,aT] at h;obtain ⟨rfl,rfl,rfl⟩:=h;exact .g rfl this
    simp_all
   simp_all
  simp_all
 |extract x i=>
  rw[j] at g;simp only[lN,Option.bind_eq_bind,cC,au] at g;obtain ⟨G,p,rfl⟩:=g;simp only[ba] at h;split at h
  ·rename_i ds L;simp only[cu,aT] at h;obtain ⟨U,hd,rfl,rfl,rfl⟩:=h;exact .y rfl (Pb E j p L hd)
  simp_all
 |call c=>
  obtain ⟨an,args,b5⟩:=c;rw[j] at g;cases an with
  |value f=>grind [lN,Option.bind_eq_some_iff,Ar]
  |invoke r m=>grind [lN]
  |builtin b=>
   cases b with
   |len=>
    simp only[lN,Option.bind_eq_bind,cC] at g;obtain ⟨t,W,x,N,g⟩:=g;split at g
    ·grind
    ·rename_i hs;simp only[ne_eq,TX] at hs;simp only[cC] at g;obtain ⟨u,q,g⟩:=g;cases u <;> simp only[cu,au,reduceCtorEq] at g
     ·subst g;simp only[ba,cu,aT] at h;obtain ⟨U,hd,rfl,rfl,rfl⟩:=h;exact .y rfl (kG E (by simp_all) (by simp_all))
     ·obtain ⟨G,p,rfl⟩:=g;simp only[ba,cu,aT] at h;obtain ⟨n,v,rfl,rfl,rfl⟩:=h;exact .y rfl (len_ok E j W N hs p q v)
     ·rename_i n e;subst g;simp only[ba,aN.ev,au,aT] at h;obtain ⟨rfl,rfl,rfl⟩:=h;exact .y rfl (SO j W N hs q)
     ·obtain ⟨G,p,rfl⟩:=g;simp only[ba,cu,aT] at h;obtain ⟨es,a7,rfl,rfl,rfl⟩:=h;refine .g rfl (λR=>TS R E j W N hs p q ?_)
      grind [Gg]
   |append=>
    simp only[lN,Option.bind_eq_bind,cC] at g;obtain ⟨t,W,t1,bu,s,a5,x,N,u,q,bv,bw,g⟩:=g;cases u <;> cases bv <;> simp only[cC,reduceCtorEq] at g
    obtain ⟨n,v,i,X,z,T,g⟩:=g;split at g
    ·grind
    ·rename_i A;simp only[cC,au] at g;obtain ⟨os,hs,G,p,rfl⟩:=g;simp only[ba] at h;exact .g rfl (λR=>UB R E j W bu a5 N q bw v X T A hs p h)
   |copy=>
    simp only[lN,Option.bind_eq_bind,cC] at g;obtain ⟨t,W,s,a5,x,N,u,q,g⟩:=g;cases u <;> simp only[cC,reduceCtorEq] at g
    obtain ⟨n,v,g⟩:=g;split at g
    ·grind
    ·rename_i A;simp only[cC,au] at g;obtain ⟨os,hs,G,p,rfl⟩:=g;simp only[ba] at h;split at h
     ·rename_i b off len es sz L;simp only[Option.bind_eq_bind,cC,cu] at h;obtain ⟨cs,hr,k,⟨m,hm,hk⟩,new,a8,h⟩:=h;split at h
      ·rename_i F;obtain ⟨rfl,ad⟩:=F;simp only[au,aT] at h;obtain ⟨rfl,rfl,rfl⟩:=h;exact .g rfl (λR=>CK R E j W a5 N q v A hs p L hr hm hk.symm a8 ad)
      simp_all
     simp_all
   |clear=>
    simp only[lN,Option.bind_eq_bind,cC] at g;obtain ⟨t,W,x,N,u,q,g⟩:=g;cases u <;> simp only[cC,reduceCtorEq] at g
    obtain ⟨n,v,z,T,g⟩:=g;split at g
    ·grind
    ·rename_i A;simp only[cC,au] at g;obtain ⟨G,p,rfl⟩:=g;simp only[ba] at h;split at h
     ·rename_i b off len es sz L;simp only[Option.bind_eq_bind,cC] at h;obtain ⟨cs,hr,h⟩:=h;split at h
      ·rename_i F;obtain ⟨rfl,ad,b0⟩:=F;simp only[au,aT] at h;obtain ⟨rfl,rfl,rfl⟩:=h;exact .g rfl (λR=>clr_ok R E j W N q T (λe=>A (.inl e)) b0 p L hr ad)
      simp_all
     simp_all
   |delete=>
    simp only[lN,Option.bind_eq_bind,cC] at g;obtain ⟨t,W,m,b1,k,b2,u,q,g⟩:=g;cases u <;> simp only[cC,reduceCtorEq] at g
    rename_i kt e;obtain ⟨kd,af,g⟩:=g;split at g
    ·rename_i hs;simp only[cC,au] at g;obtain ⟨om,hm,a6,hk,rfl⟩:=g;simp only[ba,Option.bind_eq_bind,cC] at h;obtain ⟨kv,ak,h⟩:=h;split at h
     ·rename_i b L;split at h
      ·rename_i es a2 hb;simp only[cC] at h;obtain ⟨r,hr,h⟩:=h;have:=λR=>del_ok (P:=P) (σ:=σ) (M:=M) (Fz:=Fz) (w:=w) R E j W b1 b2 q af hs hm hk ak L hb hr;split at h
       ·simp only[au,aT] at h;obtain ⟨rfl,rfl,rfl⟩:=h;exact .g rfl this
       ·simp only[au,aT] at h;obtain ⟨rfl,rfl,rfl⟩:=h;exact .g rfl this
      simp_all
     simp_all
    simp_all
   |min=>simp only[lN,au] at g;subst g;simp only[ba,cu,aT] at h;obtain ⟨U,hd,rfl,rfl,rfl⟩:=h;exact .y rfl (kG E (by simp_all) (by simp_all))
   |max=>simp only[lN,au] at g;subst g;simp only[ba,cu,aT] at h;obtain ⟨U,hd,rfl,rfl,rfl⟩:=h;exact .y rfl (kG E (by simp_all) (by simp_all))
   |complex=>simp only[lN,au] at g;subst g;simp only[ba,cu,aT] at h;obtain ⟨U,hd,rfl,rfl,rfl⟩:=h;exact .y rfl (kG E (by simp_all) (by simp_all))
   |real=>simp only[lN,au] at g;subst g;simp only[ba,cu,aT] at h;obtain ⟨U,hd,rfl,rfl,rfl⟩:=h;exact .y rfl (kG E (by simp_all) (by simp_all))
   |imag=>simp only[lN,au] at g;subst g;simp only[ba,cu,aT] at h;obtain ⟨U,hd,rfl,rfl,rfl⟩:=h;exact .y rfl (kG E (by simp_all) (by simp_all))
   |_=>grind [lN]
 |_=>grind [lN]
theorem ZR(R:Rel σ M Fz w)(E:dr σ M Fz w env a.tmps){o:Oper}{ao:kO}{d:D}{wr:List Nat}(j:lN P o.op o.type=some ao)(f:Ar ao=false)
  (h:ba P orc ao env σ=some (d,σ',wr)):dC P (execOp a.eval o) σ M Fz w σ' d:=by
 cases Ee (M:=M) (Fz:=Fz) (w:=w) R.gl E j f h with
 |y _ e=>exact e.gives R
 |l _ i e=>rw[i];exact (e λb off sz c n _ k m=>R.row k m).gives R
 |a _ e=>exact (e R.fz).gives R
 |g _ e=>grind
theorem uA{op:Op}{ty:TypeId}{ao:kO}(h:comp P op ty=some ao) :
  (∃f args b d os,op=.call { callee:=.value f,args:=args,argTypes:=b }/\bS f=some d/\IV args=some os/\ao=.call d os)∨(lN P op ty=some ao/\Ar ao=false/\Xx ao=false):=by
 unfold comp at h
 grind
end
end Go.Abs
end
section
namespace Go.Abs
variable[Gl]
structure aH where
 dst:Option Nat
 op:kO
 g:Option (Nat×Bool)
 deriving Inhabited
def nW(env:List D):Option Nat->D->List D
 |some t,d=>env.set t d
 |none,_=>env
def h_(env:List D):Option (Nat×Bool)->Option Bool
 |none=>some true
 |some (t, want)=>
  match env[t]? with
  |some (.c (.lit (.bool b)))=>some (b == want)
  |some (.aQ [])=>some false
  |_=>none
def e_(P:Program)(orc:gj)(o:aH)(env:List D)(σ:ar):Option (List D×ar×List Nat):=
 match h_ env o.g with
 |some true=>(ba P (orc o.dst) o.op env σ).map λr=>(nW env o.dst r.1,r.2.1,r.2.2)
 |some false=>some (nW env o.dst (.aQ []),σ,[])
 |none=>none
def oq(P:Program)(orc:gj):List aH->List D->ar->Option (List D×ar×List Nat)
 |[],env,σ=>some (env,σ,[])
 |o :: os, env, σ=>
  match e_ P orc o env σ with
  |some (b, e, w1)=>
   match oq P orc os b e with
   |some (d,aA,w2)=>some (d,aA,w1++w2)
   |none=>none
  |none=>none
def yY(ops:Array Oper):Option (Nat×Bool)->Option (Option (Nat×Bool))
 |none=>some none
 |some (j, want)=>
  match (ops[j]?).bind (·.dst) with
  |some t=>some (some (t,want))
  |none=>none
def bq(P:Program)(ops:Array Oper)(o:Oper):Option aH:=
 match yY ops o.guard,comp P o.op o.type with
 |some g,some b=>some ⟨o.dst,b,g⟩
 |_,_=>none
section
variable{P:Program}{σ σ':ar}{M M':Nat->Option Nat}{Fz Fz':Nat->Prop}{w w':World}{env env':List D}{a:Act}{orc:vD}
theorem dr.mono(E:dr σ M Fz w env a.tmps)(j:bD σ M Fz w σ' M' Fz' w'):dr σ' M' Fz' w' env a.tmps:=
 ⟨E.1,λi d v o s=>(E.2 i d v o s).mono j⟩
theorem dr.put(E:dr σ M Fz w env a.tmps){d:D}{v:Value}(j:Option Nat)(z:V σ M Fz w d v):dr σ M Fz w (nW env j d) (a.put j v).tmps:=by
 cases j with
 |none=>exact E
 |some t=>
  refine ⟨by simp[Act.put,nW,E.1],λi u x o s=>?_⟩;simp only[nW,yB7] at o;simp only[Act.put,Zw] at s;by_cases e:t=i
  ·simp_all
  ·rw[if_neg e] at o s;exact E.2 i u x o s
theorem V.undef:V σ M Fz w (.aQ []) undef:=.aQ #[] rfl (λi d v h=>by simp at h)
theorem oU(E:dr σ M Fz w env a.tmps){ops:Array Oper}{o:Oper}{g:Option (Nat×Bool)}{b:Bool}(f:yY ops o.guard=some g)(h:h_ env g=some b) :
  Region.wanted o (yielded ops a.tmps)=b:=by
 unfold Region.wanted;cases k:o.guard with
 |none=>grind [yY,h_]
 |some p=>
  obtain ⟨j,l⟩:=p;rw[k] at f;simp only[yY] at f;split at f
  ·rename_i t n;simp only[au] at f;subst f;simp only[h_] at h;simp only[yielded,n,Option.bind_some];split at h
   ·rename_i q i;have d:=(gg.1 i).1;have e:a.tmps[t]? = some (a.tmps[t]'(by rw[E.1];exact d)):=rG _;have:=(E.2 t _ _ i e).bZ
    simp_all
   ·rename_i i;have d:=(gg.1 i).1;have e:a.tmps[t]? = some (a.tmps[t]'(by rw[E.1];exact d)):=rG _;have m:=E.2 t _ _ i e;generalize r:a.tmps[t]'(by grind)=x at m e;rw[e];simp only[au] at h;subst h;cases m with
    |aQ s=>simp_all
   simp_all
  simp_all
theorem aad(E:dr σ M Fz w env a.tmps){o:Oper}{f:Operand}{args:Array Operand}{s:Array TypeId}{t:aN}{os:List aN}{g:FuncId}{ds:List D}
  (O:o.op=.call { callee:=.value f,args:=args,argTypes:=s }) (R:bS f=some t) (u:IV args=some os)
  (y:(∃first cap,t.ev env=.c (.fn (.func g) first cap)/\ds=first.map .c++os.map (aN.ev env)++cap.map .c)∨(∃first cap,t.ev env=.fn (.func g) first cap/\ds=first++os.map (aN.ev env)++cap))
  (h:aS P g=true):∃b:Array Value,(execOp a.eval o).run P w=.ok (.enter g b) w/\b.size=ds.length/\∀(i:Nat) d v,ds[i]? = some d->b[i]? = some v->V σ M Fz w d v:=by
 obtain ⟨U,W⟩:=IK E u;have n:=mc E R;have p:∀(first cap:List D)(b j:Array Value),a.eval f=.func (.func g) b j->ds=first++os.map (aN.ev env)++cap->b.size=first.length->j.size=cap.length ->
   (∀(i:Nat) d v,first[i]? = some d->b[i]? = some v->V σ M Fz w d v)->(∀(i:Nat) d v,cap[i]? = some d->j[i]? = some v->V σ M Fz w d v) ->
   ∃b:Array Value,(execOp a.eval o).run P w=.ok (.enter g b) w/\b.size=ds.length/\∀(i:Nat) d v,ds[i]? = some d->b[i]? = some v->V σ M Fz w d v:=by
  intro first cap b j e hd z A k l
  refine ⟨b++args.map a.eval++j,?_,by simp_all,λi d v m r=>?_⟩
  ·unfold aS at h;split at h
   ·rename_i fn F;simp only[bG,IX,ne_eq] at h;obtain ⟨X,G⟩:=h;have K:fn.body.isNone=false:=by simp_all
    simp only[execOp,O,resolve,e,Deferred.ofValue,Sem.run_bind,Sem.run_pure,Result.andThen_ok,invoke,callFunc,run_program,F,my,G,K,cn,bX]
   simp_all
  grind
 rcases y with ⟨first,cap,L,hd⟩ | ⟨first,cap,L,hd⟩
 ·rw[L] at n;have q:=n.qh;generalize e:a.eval f=T at q;cases q with
  |fn b j z A k l=>
   refine p _ _ b j e hd (by grind) (by grind) (λi d v m r=>?_) (λi d v m r=>?_)
   ·simp only[lY,cu] at m;obtain ⟨x,N,rfl⟩:=m;exact .c (k i x v N r)
   ·simp only[lY,cu] at m;obtain ⟨x,N,rfl⟩:=m;exact .c (l i x v N r)
 ·rw[L] at n;generalize e:a.eval f=T at n;cases n with
  |fn b j z A k l=>exact p _ _ b j e hd z A k l
theorem Le(O:tV P orc)(R:Rel σ M Fz w)(E:dr σ M Fz w env a.tmps){o:Oper}{ao:kO}{d:D}{wr:List Nat}{Q:Exit->Act->World->Prop}(F:comp P o.op o.type=some ao)
  (h:ba P orc ao env σ=some (d,σ',wr)) (K:Act->World->Prop)
  (t:∀v w' M' Fz',Rel σ' M' Fz' w'->V σ' M' Fz' w' d v->bD σ M Fz w σ' M' Fz' w'->σ.length<=σ'.length->K (a.put o.dst v) w'):o.wp P a w K Q:=by
 rcases uA F with ⟨f,args,G,u,os,j,L,k,rfl⟩ | ⟨l,i,_⟩
 ·simp only[ba] at h;have x:∀g ds,orc g ds σ=some (d,σ',wr) ->
    ((∃first cap,u.ev env=.c (.fn (.func g) first cap)/\ds=first.map .c++os.map (aN.ev env)++cap.map .c)∨(∃first cap,u.ev env=.fn (.func g) first cap/\ds=first++os.map (aN.ev env)++cap))->o.wp P a w K Q:=by
   intro g ds N m;obtain ⟨n,p,q,_⟩:=O g ds σ d σ' wr N;obtain ⟨T,b,hs,r⟩:=aad (P:=P) E j L k m n;unfold Oper.wp;rw[b];refine (p M Fz w T R hs r).mono λe w' U=>?_
   grind
  grind
 ·obtain ⟨W,v,w',M',b,s,y,z,A,q⟩:=ZR R E l i h;unfold Oper.wp;rw[b];rcases s with rfl | ⟨rfl,rfl⟩
  ·exact t v w' M' Fz y z A q
  ·exact t _ w' M' Fz y z A q
theorem HT{orc:gj}(O:nP P orc)(R:Rel σ M Fz w)(E:dr σ M Fz w env a.tmps){ops:Array Oper}{i:Nat}{o:Oper}{ao:aH}{wr:List Nat}{Q:Exit->Act->World->Prop}(n:ops[i]? = some o)(f:bq P ops o=some ao)
  (h:e_ P orc ao env σ=some (env',σ',wr)) (K:Act->World->Prop)
  (p:∀j w' M' Fz',j.defers=a.defers->Rel σ' M' Fz' w'->dr σ' M' Fz' w' env' j.tmps->bD σ M Fz w σ' M' Fz' w'->σ.length<=σ'.length->K j w'):wpOp P ops Q i K a w:=by
 unfold bq at f;split at f
 ·rename_i g s q k;simp only[au] at f;subst f;unfold e_ at h;have e:∀v,(a.put o.dst v).defers=a.defers:=λv=>by cases o.dst <;> rfl
  split at h
  ·rename_i l;have b:=oU E q l;simp only[cu] at h;obtain ⟨⟨d,t,bT⟩,m,h⟩:=h;simp only[aT] at h;obtain ⟨rfl,rfl,rfl⟩:=h;unfold wpOp;rw[n];simp only[b,if_true];exact .inl (Le (O o.dst) R E k m K λv w' M' Fz' u x r y=>p _ w' M' Fz' (e v) u ((E.mono r).put o.dst x) r y)
  ·rename_i l;have b:=oU E q l;simp only[au,aT] at h;obtain ⟨rfl,rfl,rfl⟩:=h;unfold wpOp;rw[n];simp only[b,bX,cn];exact p _ w M Fz (e _) R (E.put o.dst V.undef) (bD.refl R) (cR _)
  simp_all
 simp_all
theorem ops_wp{orc:gj}(O:nP P orc){ops:Array Oper}{Q:Exit->Act->World->Prop}:∀(os:List aH)(k:Nat)(σ σ':ar)(M:Nat->Option Nat)(Fz:Nat->Prop)(w:World)(env env':List D)(a:Act)(wr:List Nat),
  (∀j ao,os[j]? = some ao->∃o,ops[k+j]? = some o/\bq P ops o=some ao)->Rel σ M Fz w->dr σ M Fz w env a.tmps->oq P orc os env σ=some (env',σ',wr) ->
  (∀g w' M' Fz',g.defers=a.defers->Rel σ' M' Fz' w'->dr σ' M' Fz' w' env' g.tmps->bD σ M Fz w σ' M' Fz' w'->σ.length<=σ'.length->Q .normal g w') ->
  wpOps P ops Q (List.range' k os.length) a w:=by
 intro os;induction os with
 |nil=>intro k σ σ' M Fz w env env' a wr _ R E h i;simp only[oq,au,aT] at h;obtain ⟨rfl,rfl,_⟩:=h;exact i a w M Fz rfl R E (bD.refl R) (cR _)
 |cons ao os ih=>
  intro k σ σ' M Fz w env env' a wr b R E h i;simp only[oq] at h;split at h
  ·rename_i d l w1 v;split at h
   ·rename_i e x w2 y;simp only[au,aT] at h;obtain ⟨rfl,rfl,_⟩:=h;obtain ⟨o,Y,m⟩:=b 0 ao (by simp);simp only[List.length_cons,List.range'_succ];rw[wpOps_cons];refine HT O R E (by omega) m v _ λz w' A n hd F G p f=>?_;refine ih (k+1) l x A n w' d e z w2 (λj q Z=>?_) F G y λK r L s N T U t u=>?_
    ·obtain ⟨o',W,X⟩:=b (j+1) q (by simp_all)
     grind
    ·exact i K r L s (by simp_all) T U (p.trans t f) (lA f u)
   simp_all
  simp_all
end
end Go.Abs
end
section
namespace Go.Abs
variable[Gl]
def rY:kO->List aN
 |.Ai x=>[x]
 |.pick c a b=>[c,a,b]
 |.gen op _=>op.operands.toList.filterMap bS
 |.box x=>[x]
 |.alloc _=>[]
 |.build _ e=>e.map (·.2.2)
 |.jk _ _ _ e=>e.map (·.2.2)
 |.load _ a=>[a]
 |.store _ a x=>[a,x]
 |.nD x=>[x]
 |.iU _ _ x=>[x]
 |.Gq _ x=>[x]
 |.idx _ _ x i=>[x,i]
 |.UQ _ x g h=>x::(g.toList++h.toList)
 |.len x=>[x]
 |.Wq x=>[x]
 |.mk _ _ _ l c=>[l,c]
 |.uc=>[]
 |.lookup _ _ m k _=>[m,k]
 |.sv _ m k x=>[m,k,x]
 |.extract x _=>[x]
 |.DU _ f c=>f++c
 |.part _ _ x=>[x]
 |.Cb _ _ _ x i=>[x,i]
 |.append _ _ s x=>[s,x]
 |.copy _ d s=>[d,s]
 |.del _ m k=>[m,k]
 |.Uz _ x g h j=>[x,g,h,j]
 |.Dv _ x=>[x]
 |.clr _ _ x=>[x]
 |.call f as=>f::as
theorem BH{env env':List D}:∀(ps:List (Nat×Nat×aN))(cs:List D),(∀x∈ps.map (·.2.2),x.ev env=x.ev env')->qt env cs ps=qt env' cs ps:=by
 intro ps;induction ps with
 |nil=>intro cs _;rfl
 |cons p ps ih=>
  intro cs h;obtain ⟨o,n,x⟩:=p;simp only[qt,h x (by simp)]
  simp_all
theorem xy{env env':List D}(d m:Nat)(o:Option aN)(h:∀x∈o.toList,x.ev env=x.ev env'):oI env d m o=oI env' d m o:=by
 cases o with
 |none=>rfl
 |some x=>grind [oI]
theorem MT{P:Program}{op:Op}{ty:TypeId}{env env':List D}(d:∀cs b,op≠.select cs b)(h:∀x∈op.operands.toList.filterMap bS,x.ev env=x.ev env'):oQ P op ty env=oQ P op ty env':=by
 have e:∀x∈op.operands.toList,((bS x).map (aN.ev env))=((bS x).map (aN.ev env')):=by
  intro x e;cases f:bS x with
  |none=>rfl
  |some o=>grind
 unfold oQ;have g:op.operands.toList.all (λx=>(((bS x).map (aN.ev env)).bind D.cP).isSome)=op.operands.toList.all (λx=>(((bS x).map (aN.ev env')).bind D.cP).isSome):=by grind
 grind [Go.execOp_congr]
def GY:kO->Prop
 |.gen op _=>∀d b,op≠.select d b
 |_=>True
theorem xN{P:Program}{orc:vD}{ao:kO}{env env':List D}{σ:ar}(hs:GY ao)(h:∀x∈rY ao,x.ev env=x.ev env'):ba P orc ao env σ=ba P orc ao env' σ:=by
 cases ao with
 |gen op ty=>simp only[ba,MT hs h]
 |build z g=>simp only[ba,BH g z h]
 |jk n l z g=>simp only[ba,BH g _ h]
 |UQ e x j p=>
  simp only[ba,h x (by simp[rY])];have r:∀d m,oI env d m j=oI env' d m j:=λd m=>xy d m j (λy q=>h y (by grind [rY]));have s:∀d m,oI env d m p=oI env' d m p:=λd m=>xy d m p (λy q=>h y (by grind [rY]))
  simp_all
 |DU f a b=>grind [List.map_congr_left,rY,ba]
 |call f a=>grind [List.map_congr_left,rY,ba]
 |idx e o x i=>cases o <;> simp only[ba,h x (by simp[rY]),h i (by simp[rY])]
 |Ai x=>grind [ba,rY]
 |pick c a b=>grind [ba,rY]
 |box x=>grind [ba,rY]
 |alloc z=>rfl
 |load n x=>grind [ba,rY]
 |store n x y=>grind [ba,rY]
 |nD x=>grind [ba,rY]
 |iU k n x=>grind [ba,rY]
 |Gq o x=>grind [ba,rY]
 |len x=>grind [ba,rY]
 |Wq x=>grind [ba,rY]
 |mk e b z x y=>grind [ba,rY]
 |uc=>rfl
 |lookup k z x y o=>grind [ba,rY]
 |sv k x y z=>simp only[ba,h x (by simp[rY]),h y (by simp[rY]),h z (by simp[rY])]
 |extract x i=>grind [ba,rY]
 |part o n x=>grind [ba,rY]
 |Cb e l n x y=>grind [ba,rY]
 |append e b x y=>grind [ba,rY]
 |copy e x y=>simp only[ba,h x (by simp[rY]),h y (by simp[rY])]
 |del k x y=>grind [ba,rY]
 |Uz e x y z u=>simp only[ba,h x (by simp[rY]),h y (by simp[rY]),h z (by simp[rY]),h u (by simp[rY])]
 |Dv m x=>grind [ba,rY]
 |clr e z x=>grind [ba,rY]
theorem mU{P:Program}{op:Op}{ty:TypeId}{ao:kO}(h:comp P op ty=some ao):GY ao:=by
 rcases uA h with ⟨f,args,d,i,os,rfl,_,_,rfl⟩ | ⟨_,_,j⟩
 ·trivial
 ·cases ao with
  |gen e g=>
   intro k b l
   grind [Xx]
  |_=>trivial
theorem Pn{P:Program}{orc:vD}(O:tV P orc){ao:kO}{env:List D}{σ σ':ar}{d:D}{wr:List Nat}(h:ba P orc ao env σ=some (d,σ',wr)) :
  σ.length<=σ'.length/\∀b,b<σ.length->b∉wr->σ'[b]? = σ[b]?:=by
 have same:σ'=σ->σ.length<=σ'.length/\∀b,b<σ.length->b∉wr->σ'[b]? = σ[b]?:=by simp_all
 have YI:∀g,σ'=σ++[g]->σ.length<=σ'.length/\∀b,b<σ.length->b∉wr->σ'[b]? = σ[b]?:=by grind
 have set:∀b g,σ'=σ.set b g->wr=[b]->σ.length<=σ'.length/\∀b,b<σ.length->b∉wr->σ'[b]? = σ[b]?:=by grind
 cases ao with
 |call f args=>
  simp only[ba] at h;split at h
  ·exact ⟨(O _ _ _ _ _ _ h).2.2.1,(O _ _ _ _ _ _ h).2.2.2⟩
  ·exact ⟨(O _ _ _ _ _ _ h).2.2.1,(O _ _ _ _ _ _ h).2.2.2⟩
  simp_all
 |Ai x=>grind [ba]
 |pick c a b=>simp only[ba,cu,aT] at h;grind
 |gen op ty=>simp only[ba,cu,aT] at h;grind
 |box x=>simp only[ba,cu,aT] at h;grind
 |alloc z=>grind [ba]
 |build z j=>simp only[ba,cu,aT] at h;grind
 |jk n l z j=>simp only[ba,cu,aT] at h;grind
 |load n x=>
  simp only[ba] at h;split at h
  ·simp only[Option.bind_eq_bind,cC,au,aT] at h;grind
  ·simp only[Option.bind_eq_bind,cC,au,aT] at h;grind
  simp_all
 |store n x y=>grind [ba,Option.bind_eq_some_iff]
 |nD x=>grind [ba]
 |iU k n x=>simp only[ba,cu,aT] at h;grind
 |Gq o x=>grind [ba]
 |idx e o x i=>
  cases o with
  |none=>
   simp only[ba,Option.bind_eq_bind,cC] at h
   grind [Option.bind_eq_some_iff]
  |some len=>
   simp only[ba,Option.bind_eq_bind,cC] at h;obtain ⟨_,_,_,_,h⟩:=h;split at h
   ·simp_all
   ·simp_all
   ·grind
   simp_all
 |UQ e x p q=>
  simp only[ba] at h;split at h
  ·simp only[Option.bind_eq_bind,cC,au,aT] at h;grind
  ·grind [Option.bind_eq_some_iff]
  ·grind [Option.bind_eq_some_iff]
  simp_all
 |len x=>simp only[ba,cu,aT] at h;grind
 |Wq x=>simp only[ba,cu,aT] at h;grind
 |mk e b z x y=>grind [ba,Option.bind_eq_some_iff]
 |uc=>grind [ba]
 |lookup k z x y o=>
  simp only[ba,Option.bind_eq_bind,cC,au,aT] at h
  grind
 |sv k x y z=>
  simp only[ba,Option.bind_eq_bind,cC] at h
  grind [Option.bind_eq_some_iff]
 |del k x y=>
  simp only[ba,Option.bind_eq_bind,cC] at h
  grind [Option.bind_eq_some_iff]
 |extract x i=>
  simp only[ba] at h
  grind
 |DU f a b=>grind [ba]
 |part o n x=>
  simp only[ba] at h;split at h
  ·simp only[cu,aT] at h;grind
  simp_all
 |Cb e l n x y=>
  simp only[ba,Option.bind_eq_bind,cC] at h;obtain ⟨_,_,_,_,h⟩:=h;split at h
  ·simp only[cu,aT] at h;grind
  simp_all
 |append e b x y=>
  simp only[ba,Option.bind_eq_bind,cC] at h
  grind [Option.bind_eq_some_iff]
 |Dv m x=>
  simp only[ba] at h;split at h
  ·split at h
   ·simp only[au,aT] at h;exact same h.2.1.symm
   ·simp at h
  ·simp at h
 |Uz e x y z u=>
  simp only[ba] at h;split at h
  ·simp only[Option.bind_eq_bind,cC] at h
   grind
  simp_all
 |clr e z x=>grind [ba,Option.bind_eq_some_iff]
 |copy e x y=>
  simp only[ba] at h;split at h
  ·grind [Option.bind_eq_some_iff]
  simp_all
end Go.Abs
end
section
namespace Go
def Code.calm:Code->Bool
 |.seq x y=>x.calm&&y.calm
 |.cond _ x y=>x.calm&&y.calm
 |.block _ c=>c.calm
 |.loop c=>c.calm
 |.region _ _ _=>true
 |.ret=>true
 |.exit _=>true
 |.goto _=>true
 |.label _=>true
 |.skip=>true
 |_=>false
end Go
namespace Go.Abs
variable[Gl]
structure dW where
 cat:Nat
 blk:Option Nat
 wr:List Nat
 dst:Option Nat
 rds:List Nat
 lo:Nat
 hi:Nat
 deriving Inhabited
def yB(o:aH):List Nat:=(rY o.op).filterMap (λ| .t n=>some n | _=>none)++(match o.g with | some (t,_)=>[t] | none=>[])
def dv (o:aH) (env:List D) (lo hi:Nat) (wr:List Nat):dW:=
  { cat := match h_ env o.g with | some true => cat o.op | _ => 0,
    blk:=match VO o.op env with | .ptr b _ _=>some b | _=>none,
    wr:=wr,dst:=o.dst,rds:=yB o,lo:=lo,hi:=hi }
def jf(σ σ':ar)(wr:List Nat):Bool:=
 wr.all λb=>match σ[b]?,σ'[b]? with
  |some x,some y=>x.sz == y.sz
  |_,_=>false
def lE(P:Program)(orc:gj):Nat->List aH->List D->ar->Option (List D×ar×List dW)
 |_,[],env,σ=>some (env,σ,[])
 |n, o :: os, env, σ=>
  match e_ P orc o env σ with
  |some (d, b, w1)=>
   if n == 0 || jf σ b w1 then
    match lE P orc (n-1) os d b with
    |some (e,aA,is)=>some (e,aA,dv o env σ.length b.length w1::is)
    |none=>none
   else none
  |none=>none
def aac(b:Option Nat)(l:List Nat):Bool:=
 match b with
 |some t=>!l.contains t
 |none=>true
def safe(i:dW)(wr:List Nat):Bool:=
 wr.isEmpty || i.cat == 0 || i.cat == 2 || (i.cat == 1&&(match i.blk with | some b=>!wr.contains b | none=>true))
def outside(i:dW)(wr:List Nat):Bool:=wr.all λb=>b<i.lo || i.hi<=b
def apart(x y:dW):Bool:=
 aac x.dst y.rds&&aac y.dst x.rds&&(match x.dst,y.dst with | some s,some t=>s != t | _,_=>true)&&(safe x y.wr&&safe y x.wr)&&(outside x y.wr&&outside y x.wr)
def eR(b:List Nat)(d:List dW):Bool:=
 (List.range d.length).all λj=>(List.range j).all λi=>(b.getD j 0).testBit i || apart (d.getD i default) (d.getD j default)
def mh(b:List Nat)(p n m:Nat):Bool:=
 (List.range m).all λj=>j<n || (List.range j).all λi=>Nat.blt i p || (b.getD j 0).testBit i
def isMv(o:Oper):Bool:=
 o.guard.isNone&&(match o.op with
  |.move _ | .assign _=>true
  |_=>false)
def KV(n:Nat):Nat->Array Bool
 |0=>Array.replicate n false
 |i+1=>(KV n i).setIfInBounds i true
def DT(ops:Array Oper)(i:Nat):Bool:=
 ((ops[i]?).map isMv).getD false&&Region.free .any ops (KV ops.size i) i&&(Region.ready .any ops (KV ops.size i)).contains i
def leads(ops:Array Oper):Nat->Nat->Nat
 |0,_=>0
 |k+1,i=>if DT ops i then leads ops k (i+1)+1 else 0
def lead(ops:Array Oper):Nat:=if Region.noSelect ops then leads ops ops.size 0 else 0
inductive aP where
 |skip
 |BZ (ops:List aH)
 |HO (ops:List aH) (bef:List Nat) (n p:Nat)
 |seq (a b:aP)
 |cond (c:aN) (thn els:aP)
 |block (id:Nat) (body:aP)
 |loop (body:aP)
 |exit (id:Nat)
 |ret
 |stuck
 |ZK (l:Nat)
 |U_ (l:Nat) (a r:aP)
 |UR (o:aN) (ps:List Nat) (a b:aP)
 deriving Inhabited
def lblA:aP->Option Nat
 |.seq a b=>match lblA a with | some l=>some l | none=>lblA b
 |.ZK l=>some l
 |_=>none
def PS(l:Nat):aP->Option aP
 |.seq a b=>match PS l a with | some r=>some (.seq r b) | none=>PS l b
 |.ZK d=>if (d == l)=true then some .skip else none
 |_=>none
def Q_(a:aP):aP:=match lblA a with
 |some l=>match PS l a with | some r=>.U_ l a r | none=>.stuck
 |none=>.stuck
def Rc(o:Option aN)(ps:List Nat)(a b:Option aP)(calm:Bool):aP:=match o,a,b,calm with
 |some o,some a,some b,true=>.UR o ps a b
 |_,_,_,_=>.stuck
theorem BL(o:Option aN)(ps:List Nat)(a b:Option aP)(calm:Bool):(∃o' d e,o=some o'/\a=some d/\b=some e/\calm=true/\Rc o ps a b calm=.UR o' ps d e)∨Rc o ps a b calm=.stuck:=by
 unfold Rc
 grind
def Nz(acc:List Nat)(o:Oper):Nat:=
 o.after.toList.foldl (λs e=>if Region.binds .any e then s ||| 2 ^ e.on ||| acc.getD e.on 0 else s) 0
def PI(l:List Oper):List Nat:=l.foldl (λb o=>b++[Nz b o]) []
def jW:List aH->Nat
 |[]=>0
 |o :: os => match o.op with
  |.append ..=>0
  |_=>jW os+1
def zI(l:List Oper):Bool:=(List.range l.length).all λj=>((l.getD j default).after.toList.all λe=>!Region.binds .any e || e.on<j)
def bF(P:Program):Code->Option aP
 |.skip=>some .skip
 |.region _ ops d=>
  match ops.toList.mapM (bq P ops) with
  |some os=>if d then (if zI ops.toList then some (.HO os (PI ops.toList) (jW os) (lead ops)) else some .stuck) else some (.BZ os)
  |none=>some .stuck
 |.seq a b => match bF P a, bF P b with
  |some x,some y=>some (.seq x y)
  |_,_=>none
 |.cond c a b => match bS c, bF P a, bF P b with
  |some o,some x,some y=>some (.cond o x y)
  |_,_,_=>some .stuck
 |.block id b=>(bF P b).map (.block (2 * id))
 |.loop b=>(bF P b).map .loop
 |.exit id=>some (.exit (2 * id))
 |.goto l=>some (.exit (2 * l+1))
 |.label l=>some (.ZK l)
 |.scope b=>(bF P b).map Q_
 |.rangeFunc g e x y=>some (Rc (bS g) e.toList (bF P x) (bF P y) (x.calm&&y.calm))
 |.ret=>some .ret
 |_=>some .stuck
theorem ee{P:Program}{g:Operand}{ps:Array Tmp}{x y:Code}{ac:aP}(h:bF P (.rangeFunc g ps x y)=some ac):(∃o a b,bS g=some o/\bF P x=some a/\bF P y=some b/\(x.calm&&y.calm)=true/\ac=.UR o ps.toList a b)∨ac=.stuck:=by simp only[bF,au] at h;subst h;exact BL _ _ _ _ _
structure kS where
 nparams:Nat
 ntmps:Nat
 results:List (Nat×Option (Option Nat))
 body:aP
 cB:Bool
 deriving Inhabited
def KF(P:Program):ResultVar->Option (Nat×Option (Option Nat))
 |.tmp t=>some (t,none)
 |.cell a t=>(Di P t).map λn=>(a,some n)
def gM(P:Program)(f:Func)(cB:Bool):Option kS:=
 match f.body with
 |some b=>
  match bF P b,f.results.toList.mapM (KF P) with
  |some c,some rs=>some ⟨f.params.size+f.nfree,f.ntmps,rs,c,cB⟩
  |_,_=>none
 |none=>none
inductive mF where
 |normal
 |exit (id:Nat)
 |ret
 deriving DecidableEq,Inhabited
def UV(os:List aH):Nat:=os.length-1-(os.reverse.takeWhile λo=>match o.op with | .call ..=>false | _=>true).length
def jO(P:Program)(orc:gj)(os:List aH)(b:List Nat)(p n:Nat)(env:List D)(σ:ar):Option (List D×ar×List Nat):=
 match lE P orc n os env σ with
 |some (env',σ',is)=>if eR b is&&mh b p n os.length&&Nat.ble p n then some (env',σ',is.flatMap (·.wr)) else none
 |none=>none
def kr(P:Program)(orc:gj):Nat->aP->List D->ar->List Nat->Option (mF×List D×ar×List Nat)
 |0,_,_,_,_=>none
 |_+1,.skip,env,σ,wr=>some (.normal,env,σ,wr)
 |_+1,.BZ os,env,σ,wr=>(oq P orc os env σ).map λr=>(.normal,r.1,r.2.1,r.2.2++wr)
 |_ + 1, .HO os f n p, env, σ, wr=>
  match jO P orc os f p n env σ with
  |some (env',σ',w)=>some (.normal,env',σ',w++wr)
  |none=>
   match jO P orc os f p (UV os) env σ with
   |some (env',σ',w)=>some (.normal,env',σ',w++wr)
   |none=>
    match jO P orc os f p os.length env σ with
    |some (env',σ',w)=>some (.normal,env',σ',w++wr)
    |none=>none
 |k + 1, .seq a b, env, σ, wr=>
  match kr P orc k a env σ wr with
  |some (.normal,d,e,bT)=>kr P orc k b d e bT
  |r=>r
 |k + 1, .cond c a b, env, σ, wr=>
  match gG (c.ev env) with
  |some true=>kr P orc k a env σ wr
  |some false=>kr P orc k b env σ wr
  |none=>none
 |k + 1, .block id b, env, σ, wr=>
  match kr P orc k b env σ wr with
  |some (.exit i,d,e,bT)=>if i=id then some (.normal,d,e,bT) else some (.exit i,d,e,bT)
  |r=>r
 |k + 1, .loop b, env, σ, wr=>
  match kr P orc k b env σ wr with
  |some (.normal,d,e,bT)=>kr P orc k (.loop b) d e bT
  |r=>r
 |_+1,.exit id,env,σ,wr=>some (.exit id,env,σ,wr)
 |_+1,.ret,env,σ,wr=>some (.ret,env,σ,wr)
 |_+1,.stuck,_,_,_=>none
 |_+1,.ZK _,_,_,_=>none
 |_+1,.U_ _ _ _,_,_,_=>none
 |_+1,.UR _ _ _ _,_,_,_=>none
theorem J_(a:aP):(∃l r,PS l a=some r/\Q_ a=.U_ l a r)∨Q_ a=.stuck:=by
 unfold Q_
 grind
def chunks(n:Nat):Nat->List C->List (List C)
 |0,_=>[]
 |k+1,l=>l.take n::chunks n k (l.drop n)
def fF(σ:ar)(n:Nat):Nat->D->Option C
 |0,_=>none
 |k + 1, d=>
  match d with
  |.c x=>some x
  |.ptr b off sz=>
   if n<=b then
    match mP σ b sz with
    |some g=>(g.mapM (fF σ n k)).map λl=>.cD l off
    |none=>none
   else none
  |.sl b off len aw sz=>
   if n<=b/\0<aw/\off+len * aw<=sz then
    match mP σ b sz with
    |some g=>(((g.drop off).take (len * aw)).mapM (fF σ n k)).map λl=>.cB (Nat.blt 0 len) (chunks aw len l)
    |none=>none
   else none
  |.fn f first cap=>
   match first.mapM (fF σ n k),cap.mapM (fF σ n k) with
   |some a,some b=>some (.fn f a b)
   |_,_=>none
  |.mp b=>
   if n<=b then
    match σ[b]? with
    |some (.map es _)=>(es.mapM λe=>(fF σ n k e.2.1).map λx=>(e.1,x)).map .Ld
    |_=>none
   else none
  |_=>none
def ol(σ:ar)(n k:Nat):D->Option D
 |.agg b=>(b.mapM (fF σ n k)).map λl=>.agg (l.map .c)
 |d=>(fF σ n k d).map .c
def xa(σ:ar)(n k:Nat):D->Option D
 |.aQ ds=>(ds.mapM (ol σ n k)).map .aQ
 |d=>ol σ n k d
def Np(env:List D)(σ:ar):Nat×Option (Option Nat)->Option D
 |(t,none)=>env[t]?
 |(t, some n)=>
  match env[t]? with
  |some (.ptr b off sz)=>(mP σ b sz).bind λd=>uX n d off
  |_=>none
def one:List D->D
 |[d]=>d
 |ds=>.aQ ds
def finish(f:kS)(σ0:ar)(env:List D)(σ:ar)(wr:List Nat):Option (D×ar×List Nat):=
 match f.results.mapM (Np env σ) with
 |some ds=>
  let b:=wr.filter (·<σ0.length)
  if f.cB&&b.isEmpty then
   match xa σ σ0.length 100 (one ds) with
   |some r=>some (r,σ0,[])
   |none=>some (one ds,σ,b)
  else some (one ds,σ,b)
 |none=>none
def evF1(P:Program)(orc:vD)(k:Nat)(f:kS)(ds:List D)(σ:ar):Option (D×ar×List Nat):=
 if ds.length=f.nparams then
  match kr P (λ_=>orc) k f.body (ds++List.replicate (f.ntmps-ds.length) (.aQ [])) σ [] with
  |some (.normal,env,σ',wr)=>finish f σ env σ' wr
  |some (.ret,env,σ',wr)=>finish f σ env σ' wr
  |_=>none
 else none
def evF(P:Program)(b:FuncId->Option kS)(prim:vD)(k:Nat):Nat->vD
 |0=>λ_ _ _=>none
 |n + 1 => λg ds σ=>
  match prim g ds σ with
  |some r=>some r
  |none=>
   match b g with
   |some f=>evF1 P (evF P b prim k n) k f ds σ
   |none=>none
end Go.Abs
end
section
namespace Go
def Code.wq(P:Program)(c:Code)(Q:Exit->Act->World->Prop)(a:Act)(w:World):Prop:=
 c.wp P Q a w/\(c.calm=true->∀l n,c.wpIn (Fence.wide.inRound l) n P Q a w)
def nr(Q:Exit->Act->World->Prop):Exit->Act->World->Prop:=λe a w=>Q e a w/\e≠.outgrown
section
variable{P:Program}{ops:Array Oper}{Q:Exit->Act->World->Prop}{a:Act}{w:World}
theorem Kt{c:Code}(h:c.wq P Q a w):c.wp P Q a w:=h.1
theorem Ug:¬LetsOut (nr Q):=λ⟨_,_,h⟩=>h.2 rfl
theorem XJ(l n:Nat){o:Oper}{K:Act->World->Prop}(hd:∀c,o.op≠.defer c)(h:o.wp P a w K Q):o.wpIn (Fence.wide.inRound l) n P a w K Q:=by
 refine ⟨λf _=>trivial,?_⟩;rw[Oper.semAt_eq _ _ _ hd];unfold Oper.wp at h;generalize (execOp a.eval o).run P w=r at *;cases r with
 |ok e w'=>
  cases e with
  |value v=>exact h
  |skip=>exact h
  |defer d=>exact h
  |enter f args=>exact ⟨λb=>by simp[Fence.wide] at b,CallsIn.inRound l (callsIn_wide.2 h)⟩
  |row row args=>exact ⟨λb=>by simp[Fence.wide] at b,λc g _=>let ⟨v,w',r,s⟩:=h c g;⟨v,w',r,stepsIn_wide.2 s⟩⟩
  |_=>exact h.elim
 |halt b w'=>cases b <;> first | exact h | exact h.elim
theorem EM(l n:Nat){i:Nat}{a:Act}{w:World}{K:Act->World->Prop}(hd:∀(i:Nat) o c,ops[i]? = some o->o.op≠.defer c)(e:¬LetsOut Q)(h:wpOp P ops Q i K a w):wpOpIn (Fence.wide.inRound l) n P ops Q i K a w:=by
 unfold wpOp at h;unfold wpOpIn;split at h
 ·rename_i b;simp only[b];exact h
 ·rename_i o b;simp only[b];split at h
  ·rename_i d;simp only[d,if_true];rcases h with h | h
   ·exact XJ l n (λc=>hd i o c b) h
   ·exact absurd h.2 e
  ·rename_i d;simp only[d,bX,cn];exact ⟨λf _=>trivial,h⟩
theorem yW{F:Fence}{n:Nat}{i:Nat}{a:Act}{w:World}{K b:Act->World->Prop}(hk:∀a w,K a w->b a w)(h:wpOpIn F n P ops Q i K a w):wpOpIn F n P ops Q i b a w:=by
 cases d:ops[i]? with
 |none=>simp only[wpOpIn,d] at h ⊢;exact hk _ _ h
 |some o=>
  simp only[wpOpIn,d] at h ⊢;cases e:Region.wanted o (yielded ops a.tmps) with
  |true=>simp only[e,if_true] at h ⊢;exact Oper.wpIn_mono hk h
  |false=>simp only[e,bX,cn] at h ⊢;exact ⟨h.1,hk _ _ h.2⟩
theorem UK(l n:Nat)(hd:∀(i:Nat) o c,ops[i]? = some o->o.op≠.defer c)(d:¬LetsOut Q):∀(b:List Nat)(a:Act)(w:World),wpOps P ops Q b a w->wpOpsIn (Fence.wide.inRound l) n P ops Q b a w:=by
 intro b;induction b with
 |nil=>intro a w h;exact h
 |cons i b ih=>intro a w h;rw[wpOps_cons] at h;rw[wpOpsIn_cons];exact yW (λa w=>ih a w) (EM l n hd d h)
theorem UF(l n:Nat){md:Region.Mode}(hd:∀(i:Nat) o c,ops[i]? = some o->o.op≠.defer c)(d:¬LetsOut Q):∀(b:Nat)(listed:Array Bool)(a:Act)(w:World),wpAny P md ops Q b listed a w->wpAnyIn (Fence.wide.inRound l) n P md ops Q b listed a w:=by
 intro b;induction b with
 |zero=>intro listed a w h;exact h
 |succ b ih=>intro listed a w h;exact ⟨h.1,λi e=>yW (λa w=>ih _ a w) (EM l n hd d (h.2 i e))⟩
theorem QS{c:Code}{Q':Exit->Act->World->Prop}(h:c.wq P Q a w)(b:∀e a w,Q e a w->Q' e a w):c.wq P Q' a w:=
 ⟨wp_mono h.1 b,λd l n=>wpIn_mono (h.2 d l n) b⟩
theorem Ua{id:Nat}(hd:∀(i:Nat) o c,ops[i]? = some o->o.op≠.defer c)(h:wpOps P ops (nr Q) (List.range ops.size) a w):(Code.region id ops false).wq P Q a w:=
 QS (Q:=nr Q) ⟨wp_region h,λ_ l n=>wpIn_region (UK l n hd Ug _ _ _ h)⟩ λ_ _ _ h=>h.1
theorem xr{id:Nat}(hm:P.follows .mixedOrders=true)(hd:∀(i:Nat) o c,ops[i]? = some o->o.op≠.defer c)
  (h:wpAny P .any ops (nr Q) ops.size (Array.replicate ops.size false) a { w with drawn:=w.drawn+1 }):(Code.region id ops true).wq P Q a w:=
 QS (Q:=nr Q) ⟨wp_region_any hm h,λ_ l n=>wpIn_region_any hm (UF l n hd Ug _ _ _ _ h)⟩ λ_ _ _ h=>h.1
theorem wq_skip(h:Q .normal a w):Code.skip.wq P Q a w:=⟨wp_skip h,λ_ _ _=>wpIn_skip h⟩
theorem VP{l:Nat}(h:Q .normal a w):(Code.label l).wq P Q a w:=⟨wp_label h,λ_ _ _=>wpIn_label h⟩
theorem ZT{i:Nat}(h:Q (.exit i) a w):(Code.exit i).wq P Q a w:=⟨wp_exit h,λ_ _ _=>wpIn_exit h⟩
theorem wq_goto{i:Nat}(h:Q (.goto i) a w):(Code.goto i).wq P Q a w:=⟨wp_goto h,λ_ _ _=>wpIn_goto h⟩
theorem wq_ret(h:Q .ret a w):Code.ret.wq P Q a w:=⟨wp_ret h,λ_ _ _=>wpIn_ret h⟩
theorem vL{K b:Act->World->Prop}(hk:∀a w,K a w->b a w):∀e a w,Exit.then K Q e a w->Exit.then b Q e a w:=by intro e a w h;cases e <;> first | exact hk _ _ h | exact h
theorem Qe {x y:Code} (h:x.wq P (Exit.then (y.wq P Q) Q) a w):(Code.seq x y).wq P Q a w:=
 ⟨wp_seq (wp_mono h.1 (vL fun _ _ h=>h.1)),fun b l n=>by
  simp only [Code.calm,bG] at b
  exact wpIn_seq (wpIn_mono (h.2 b.1 l n) (vL fun _ _ h=>h.2 b.2 l n))⟩
theorem zf {c:Operand} {x y:Code} (b:a.eval c=.bool true) (h:x.wq P Q a w):(Code.cond c x y).wq P Q a w:=
 ⟨wp_cond_true b h.1,fun d l n=>by
  simp only [Code.calm,bG] at d
  exact wpIn_cond_true b (h.2 d.1 l n)⟩
theorem xB {c:Operand} {x y:Code} (b:a.eval c=.bool false) (h:y.wq P Q a w):(Code.cond c x y).wq P Q a w:=
 ⟨wp_cond_false b h.1,fun d l n=>by
  simp only [Code.calm,bG] at d
  exact wpIn_cond_false b (h.2 d.2 l n)⟩
theorem Ll{id:Nat}{c:Code}(h:c.wq P (Exit.inBlock id Q) a w):(Code.block id c).wq P Q a w:=
 ⟨wp_block h.1,λb l n=>wpIn_block (h.2 b l n)⟩
def Code.rq(P:Program)(c:Code)(Q:Exit->Act->World->Prop):Nat->Act->World->Prop
 |0,_,_=>False
 |n+1,a,w=>c.wq P (Exit.then (Code.rq P c Q n) Q) a w
theorem IJ{c:Code}{n:Nat}:Code.rq P c Q (n+1) a w=c.wq P (Exit.then (Code.rq P c Q n) Q) a w:=rfl
theorem SK{c:Code}:∀(k:Nat)(a:Act)(w:World),Code.rq P c Q k a w->Code.rounds P c Q k a w:=by
 intro k;induction k with
 |zero=>intro a w h;exact h
 |succ k ih=>intro a w h;exact wp_mono h.1 (vL λa w=>ih a w)
theorem LO{c:Code}(b:c.calm=true)(l n:Nat):∀(k:Nat)(a:Act)(w:World),Code.rq P c Q k a w->Code.roundsIn (Fence.wide.inRound l) n P c Q k a w:=by
 intro k;induction k with
 |zero=>intro a w h;exact h
 |succ k ih=>intro a w h;exact wpIn_mono (h.2 b l n) (vL λa w=>ih a w)
theorem vi{c:Code}(k:Nat)(h:Code.rq P c Q k a w):(Code.loop c).wq P Q a w:=
 ⟨wp_loop_rounds k (SK k a w h),λb l n=>wpIn_loop_rounds k (LO (c:=c) (show c.calm=true from b) l n k a w h)⟩
end
end Go
namespace Go.Abs
theorem yZ{P:Program}{op:Op}{t:TypeId}{ao:kO}(h:comp P op t=some ao):∀c,op≠.defer c:=by rintro c rfl;simp[comp,lN] at h
theorem qG{P:Program}{ops:Array Oper}{o:Oper}{ao:aH}(h:bq P ops o=some ao):∀c,o.op≠.defer c:=by
 unfold bq at h;split at h
 ·rename_i b;exact yZ b
 ·cases h
end Go.Abs
end
section
namespace Go.Abs
variable{σ σ':ar}{M M':Nat->Option Nat}{Fz Fz':Nat->Prop}{w w':World}{P:Program}
theorem gE{D c:Nat}{o:Obj}(h:c≠D):(w.putObj D o).heap[c]? = w.heap[c]?:=World.putObj_heap_other h
theorem V.off{B:Nat}{x:Option (List Deferred)}{o:Obj}(O:¬Fz B)(hD:w.heap[B]? = some (.deferred x)){d:D}{v:Value}(h:V σ M Fz w d v):V σ M Fz (w.putObj B o) d v:=by
 induction h with
 |c h=>exact .c (h.mono λc K=>⟨K,gE (λe=>O (by rw[<-e];exact K))⟩)
 |any v=>exact .any v
 |ptr a u h j i=>exact .ptr a u h j i
 |sl a n cap A u h j i=>
  refine .sl a n cap A u h j (λR=>?_);rcases i R with s | ⟨c,o,E,T,U,W,X,Y,hh,hb⟩
  ·exact .inl s
  ·exact .inr ⟨c,o,E,T,U,W,X,Y,by grind [gE]⟩
 |mp c u h i=>exact .mp c u h i
 |fn z Z s h2 i hw F G=>exact .fn z Z s h2 F G
 |agg z s i ih=>exact .agg z s ih
 |aQ z s i ih=>exact .aQ z s ih
theorem bU.off{D:Nat}{x:Option (List Deferred)}{o':Obj}(G:¬Fz D)(K:w.heap[D]? = some (.deferred x)){ob:Ob}{o:Obj}(h:bU σ M Fz w ob o):bU σ M Fz (w.putObj D o') ob o:=by
 cases ob with
 |cells O=>obtain ⟨j,T,A,E,s⟩:=h;exact ⟨j,T,A,E,λi d v u z=>⟨(s i d v u z).1.off G K,(s i d v u z).2⟩⟩
 |map R F=>obtain ⟨j,A,E,s⟩:=h;exact ⟨j,A,E,λi k d n e u z=>let ⟨a,b,c⟩:=s i k d n e u z;⟨a,b,c.off G K⟩⟩
 |gone n=>exact h.elim
variable[Gl]
theorem Rel.off{D:Nat}{x:Option (List Deferred)}{o':Obj}(R:Rel σ M Fz w)(hm:∀b,M b≠some D)(i:¬Fz D)(s:w.heap[D]? = some (.deferred x)):Rel σ M Fz (w.putObj D o'):={
 blk:=λb c h=>by obtain ⟨u,ob,o,h1,h2,z⟩:=R.blk b c h;exact ⟨u,ob,o,h1,by rw[gE (λe=>hm b (by rw[<-e];exact h))];exact h2,z.off i s⟩
 inj:=R.inj
 fz:=λc h=>by simpa using R.fz c h
 gl:=Gl.mono (λc j=>⟨j,gE (λe=>i (by rw[<-e];exact j))⟩) R.gl }
def mark(D:Nat):Deferred:={ target:=.collected D,args:=#[] }
def MkD(n:Nat)(M:Nat->Option Nat)(Fz:Nat->Prop)(w:World)(D:Nat):Prop:=
 n<=D/\D<w.heap.size/\(∀b,M b≠some D)/\¬Fz D/\w.heap[D]? = some (.deferred (some []))
theorem MkD.mono{n D:Nat}(E:bD σ M Fz w σ' M' Fz' w')(h:MkD n M Fz w D):MkD n M' Fz' w' D:=by
 obtain ⟨a,b,c,d,e⟩:=h;refine ⟨a,E_ b E.size,λs j=>?_,λu=>?_,by rw[E.frame D b c];exact e⟩
 ·rcases E.kK s D j with ⟨o,i⟩ | i
  ·exact c o i
  ·omega
 ·rcases E.nQ D u with i | ⟨o,i⟩ | i
  ·exact d i
  ·exact c o i
  ·omega
def Mk(n:Nat)(M:Nat->Option Nat)(Fz:Nat->Prop)(w:World)(ds b:List Deferred):Prop:=
 ∃d:List Nat,ds=d.map mark++b/\d.Nodup/\∀D∈d,MkD n M Fz w D
theorem Mk.refl(n:Nat)(ds:List Deferred):Mk n M Fz w ds ds:=⟨[],rfl,List.nodup_nil,λ_ h=>by cases h⟩
theorem Mk.of_eq{n:Nat}{ds i:List Deferred}(h:ds=i):Mk n M Fz w ds i:=h▸Mk.refl n ds
theorem Mk.mono{n:Nat}{ds i:List Deferred}(E:bD σ M Fz w σ' M' Fz' w')(h:Mk n M Fz w ds i):Mk n M' Fz' w' ds i:=
 let ⟨j,h1,h2,h3⟩:=h
 ⟨j,h1,h2,λD o=>(h3 D o).mono E⟩
theorem Mk.trans{n:Nat}{ds i j:List Deferred}(E:bD σ M Fz w σ' M' Fz' w')(W:n<=w.heap.size)(h:Mk n M Fz w i j)(F:Mk w.heap.size M' Fz' w' ds i):Mk n M' Fz' w' ds j:=by
 obtain ⟨G,K,O,A⟩:=h;obtain ⟨u,x,z,o⟩:=F;refine ⟨u++G,by rw[x,K];simp,?_,λD s=>?_⟩
 ·rw[List.nodup_append];refine ⟨z,O,λa R b U e=>?_⟩;have:=(o a R).1;have:=(A b U).2.1;omega
 ·rcases mQ.1 s with s | s
  ·obtain ⟨a,b⟩:=o D s;exact ⟨by omega,b⟩
  ·exact (A D s).mono E
def Jh(M:Nat->Option Nat)(Fz:Nat->Prop)(f:Nat->Option Nat)(e:Nat->Prop):Prop:=(∀b c,f b=some c->∃d,M d=some c)/\(∀c,e c->Fz c∨∃d,M d=some c)/\∀c,Fz c->e c
theorem Jh.refl:Jh M Fz M Fz:=⟨λb c h=>⟨b,h⟩,λc h=>.inl h,λc h=>h⟩
theorem Jh.trans {s u:Nat→Option Nat} {x z:Nat→Prop} (h:Jh M Fz s x) (i:Jh s x u z):Jh M Fz u z:=
 ⟨fun b c e=>let ⟨j,o⟩:=i.1 b c e; h.1 j c o,fun c e=>by
  rcases i.2.1 c e with e | ⟨j,o⟩
  ·exact h.2.1 c e
  ·exact .inr (h.1 j c o),fun c e=>i.2.2 c (h.2.2 c e)⟩
theorem Mk.wth{n:Nat}{ds i:List Deferred}{u:Nat->Option Nat}{x:Nat->Prop}(h:Mk n M Fz w ds i)(W:Jh M Fz u x):Mk n u x w ds i:=by
 obtain ⟨z,A,E,F⟩:=h;refine ⟨z,A,E,λD G=>?_⟩;obtain ⟨a,b,c,d,e⟩:=F D G;refine ⟨a,b,λK o=>?_,λO=>?_,e⟩
 ·obtain ⟨s,j⟩:=W.1 K D o;exact c s j
 ·rcases W.2.1 D O with j | ⟨s,j⟩
  ·exact d j
  ·exact c s j
theorem Mk.Zq {n k:Nat} {fn:Func} {i:Array Value} {R:Ending→World→Prop}:∀(o:List Nat) (w:World),Rel σ M Fz w→o.Nodup →
  (∀D∈o,n≤D∧(∀b,M b≠some D)∧¬Fz D∧w.heap[D]? = some (.deferred (some []))) →
  (∀w',Rel σ M Fz w'→w'.heap.size=w.heap.size→(w'.os=w.os∧w'.tape=w.tape∧w'.output=w.output)→(∀c:Nat,c<n→w'.heap[c]? = w.heap[c]?)→(∀(c:Nat) arr T u,w.heap[c]? = some (Obj.cells arr T u)→w'.heap[c]? = w.heap[c]?)→(∀c:Nat,Fz c→w'.heap[c]? = w.heap[c]?)→(∀d v,V σ M Fz w d v→V σ M Fz w' d v) →
   ∃v,(results fn i).run P w'=.ok v w'∧R (.returned v) w') →
  LeavesInM Fence.wide k P fn i R (o.map mark) .returning w:=by
 intro o
 induction o with
 | nil =>
  intro w R _ _ h
  exact h w R rfl ⟨rfl,rfl,rfl⟩ (fun _ _=>rfl) (fun _ _ _ _ _=>rfl) (fun _ _=>rfl) (fun _ _ h=>h)
 | cons D o ih =>
  intro w R x E h
  obtain ⟨a,b,c,d⟩:=E D (by simp)
  simp only [List.nodup_cons] at x
  refine ⟨by simp,.inl ⟨D,_,rfl,run_takeDeferred d,?_⟩⟩
  refine ih _ (R.off b c d) x.2 (fun F s=>?_) fun w' G K z O U W X=>?_
  ·obtain ⟨Y,Z,c',A⟩:=E F (by simp [s])
   exact ⟨Y,Z,c',by rw [gE (fun e=>x.1 (by rw [←e]; exact s))]; exact A⟩
  ·refine h w' G (by rw [K]; simp) ⟨z.1,z.2.1,z.2.2⟩ (fun q j=>?_) (fun q arr T u j=>?_) (fun q j=>?_) (fun A v hv=>X A v (hv.off c d))
   ·rw [O q j,gE (by omega)]
   ·have:q≠D:=fun e=>by rw [e,d] at j; cases j
    rw [U q arr T u (by rw [gE this]; exact j),gE this]
   ·rw [W q j,gE (fun e=>c (by rw [←e]; exact j))]
theorem bD.Zq{w'':World}(E:bD σ M Fz w σ' M' Fz' w')(u:w''.heap.size=w'.heap.size)(s:w''.os=w'.os/\w''.tape=w'.tape/\w''.output=w'.output)(x:∀c:Nat,c<w.heap.size->w''.heap[c]? = w'.heap[c]?)
  (z:∀(c:Nat) arr T o,w'.heap[c]? = some (Obj.cells arr T o)->w''.heap[c]? = w'.heap[c]?) (A:∀c:Nat,Fz' c->w''.heap[c]? = w'.heap[c]?):bD σ M Fz w σ' M' Fz' w'':={
 size:=by rw[u];exact E.size
 frame:=λc i F=>by rw[x c i];exact E.frame c i F
 kK:=E.kK
 fz:=λc i=>⟨(E.fz c i).1,by rw[A c (E.fz c i).1];exact (E.fz c i).2⟩
 nQ:=E.nQ
 pP:=λc arr T o i=>by obtain ⟨j,h,hs⟩:=E.pP c arr T o i;exact ⟨j,by rw[z c j T o h];exact h,hs⟩
 keep:=E.keep
 out:=⟨s.1.trans E.out.1,s.2.1.trans E.out.2.1,s.2.2.trans E.out.2.2⟩ }
theorem Mk.end{k:Nat}{fn:Func}{i:Array Value}{ds:List Deferred}{Q:Ending->World->Prop}(hd:Mk w.heap.size M' Fz' w' ds [])(R:Rel σ' M' Fz' w')(E:bD σ M Fz w σ' M' Fz' w')
  (h:∀w'',Rel σ' M' Fz' w''->bD σ M Fz w σ' M' Fz' w''->(∀d v,V σ' M' Fz' w' d v->V σ' M' Fz' w'' d v)->∃v,(results fn i).run P w''=.ok v w''/\Q (.returned v) w''):LeavesInM Fence.wide k P fn i Q ds .returning w':=by
 obtain ⟨o,s,u,x⟩:=hd;rw[s,DM];refine Mk.Zq (n:=w.heap.size) o w' R u (λD z=>?_) λw'' j A F G K O U=>h w'' j (E.Zq A F G K O) U;obtain ⟨a,b,c,d,e⟩:=x D z;exact ⟨a,c,d,e⟩
omit [Gl] in
theorem mS{f:FuncId}{fn:Func}{c:Code}{args:Array Value}{R:Ending->World->Prop}(d:P.funcs[f]? = some fn)(g:fn.body=some c)
  (h:c.wp P (λe a w'=>(e=.normal∨e=.ret)/\LeavesInM Fence.wide 0 P fn a.tmps R a.defers .returning w') { tmps:=args++Array.replicate (fn.ntmps-args.size) undef,defers:=[] } w):Calls P f args w R:=
 callsIn_wide.1 (callsIn_of_wp_marks (F:=Fence.wide) (n:=0) d g trivial (wpIn_wide.2 (wp_mono h λe a w' b=>by
  rcases b with ⟨rfl | rfl,b⟩
  ·exact b
  ·exact b)) rfl)
end Go.Abs
end
section
namespace Go.Abs
variable[Gl]
structure Kb (M:Nat->Option Nat) (Fz:Nat->Prop) (w:World) (M':Nat->Option Nat) (Fz':Nat->Prop) (w':World):Prop where
 size:w.heap.size<=w'.heap.size
 frame:∀c:Nat,c<w.heap.size->(∀b,M b≠some c)->w'.heap[c]? = w.heap[c]?
 ext:∀b c,M b=some c->M' b=some c
 kK:∀b c,M' b=some c->M b=some c∨w.heap.size<=c
 fz:∀c:Nat,Fz c->Fz' c/\w'.heap[c]? = w.heap[c]?
 nQ:∀c,Fz' c->Fz c∨w.heap.size<=c
 pP:∀(c:Nat) arr T fr,w.heap[c]? = some (.cells arr T fr)->∃arr',w'.heap[c]? = some (.cells arr' T fr)/\arr'.size=arr.size
 out:w'.os=w.os/\w'.tape=w.tape/\w'.output=w.output
section
variable{σ σ':ar}{M M' M'':Nat->Option Nat}{Fz Fz' Fz'':Nat->Prop}{w w' w'':World}
theorem Kb.refl:Kb M Fz w M Fz w:={
 size:=cR _
 frame:=λ_ _ _=>rfl
 ext:=λ_ _ h=>h
 kK:=λ_ _ h=>.inl h
 fz:=λ_ h=>⟨h,rfl⟩
 nQ:=λ_ h=>.inl h
 pP:=λc i T j h=>⟨i,h,rfl⟩
 out:=⟨rfl,rfl,rfl⟩ }
theorem Kb.trans(A:Kb M Fz w M' Fz' w')(B:Kb M' Fz' w' M'' Fz'' w''):Kb M Fz w M'' Fz'' w'':={
 size:=lA A.size B.size
 frame:=λc o u=>by
  rw[<-A.frame c o u];refine B.frame c (E_ o A.size) (λb x=>?_);rcases A.kK b c x with i | i
  ·simp_all
  ·omega
 ext:=λb c h=>B.ext b c (A.ext b c h)
 kK:=λb c h=>by
  rcases B.kK b c h with i | i
  ·exact A.kK b c i
  ·exact .inr (lA A.size i)
 fz:=λc h=>⟨(B.fz c (A.fz c h).1).1,by rw[(B.fz c (A.fz c h).1).2,(A.fz c h).2]⟩
 nQ:=λc h=>by
  rcases B.nQ c h with i | i
  ·exact A.nQ c i
  ·exact .inr (lA A.size i)
 pP:=λc j T s h=>by
  obtain ⟨z,h1,E⟩:=A.pP c j T s h;obtain ⟨F,h2,G⟩:=B.pP c z T s h1
  simp_all
 out:=⟨B.out.1.trans A.out.1,B.out.2.1.trans A.out.2.1,B.out.2.2.trans A.out.2.2⟩ }
def nq(σ σ':ar):Prop:=∀(b:Nat) ob,σ[b]? = some ob->∃d,σ'[b]? = some d/\d.sz=ob.sz
theorem nq.refl:nq σ σ:=λ_ i h=>⟨i,h,rfl⟩
theorem V.sub(s:nq σ σ')(z:∀b c,M b=some c->M' b=some c)(G:∀c:Nat,Fz c->Fz' c/\w'.heap[c]? = w.heap[c]?)
  (A:∀(c:Nat) arr T fr,w.heap[c]? = some (.cells arr T fr)->∃i,w'.heap[c]? = some (.cells i T fr)/\i.size=arr.size) {d:D} {v:Value} (h:V σ M Fz w d v):V σ' M' Fz' w' d v:=by
 induction h with
 |c h=>exact .c (h.mono G)
 |any v=>exact .any v
 |ptr a W h K u=>
  obtain ⟨j,E,hs⟩:=s _ _ h;refine .ptr a j E (by omega) (λX=>?_)
  grind
 |sl a n cap O W h K u=>
  obtain ⟨j,E,hs⟩:=s _ _ h;refine .sl a n cap O j E (by omega) (λX=>?_);rcases u (by omega) with x | ⟨c,o,arr,T,hM,ha,hn,hl,ho,Y,hb,hz⟩
  ·simp_all
  ·obtain ⟨i,Z,aa⟩:=A _ _ _ _ Y
   simp_all
 |mp c W h u=>obtain ⟨j,E,hs⟩:=s _ _ h;exact .mp c j E (λX=>z _ _ (u (by omega)))
 |fn F ws x h2 u hw R U=>exact .fn F ws x h2 R U
 |agg F x u ih=>exact .agg F x ih
 |aQ F x u ih=>exact .aQ F x ih
theorem V.ext(i:nq σ σ')(S:Kb M Fz w M' Fz' w'){d:D}{v:Value}(h:V σ M Fz w d v):V σ' M' Fz' w' d v:=h.sub i S.ext S.fz S.pP
theorem bU.sub(A:nq σ σ')(s:∀b c,M b=some c->M' b=some c){ob:Ob}{o:Obj}(h:bU σ M Fz w ob o):bU σ' M' Fz w ob o:=by
 have e:∀{d v},V σ M Fz w d v->V σ' M' Fz w d v:=λh=>h.sub A s (λc h=>⟨h,rfl⟩) (λc j T O h=>⟨j,h,rfl⟩);cases ob with
 |cells R=>obtain ⟨j,T,E,F,u⟩:=h;exact ⟨j,T,E,F,λi d v x z=>⟨e (u i d v x z).1,(u i d v x z).2⟩⟩
 |map U G=>obtain ⟨j,E,F,u⟩:=h;exact ⟨j,E,F,λi k d n K x z=>let ⟨a,b,c⟩:=u i k d n K x z;⟨a,b,e c⟩⟩
 |gone n=>exact h.elim
theorem bU.ext(s:nq σ σ')(S:Kb M Fz w M' Fz' w'){ob:Ob}{o:Obj}(h:bU σ M Fz w ob o):bU σ' M' Fz' w' ob o:=by
 cases ob with
 |cells G=>obtain ⟨j,T,A,E,u⟩:=h;exact ⟨j,T,A,E,λi d v x z=>⟨(u i d v x z).1.ext s S,(u i d v x z).2⟩⟩
 |map K F=>obtain ⟨j,A,E,u⟩:=h;exact ⟨j,A,E,λi k d n e x z=>let ⟨a,b,c⟩:=u i k d n e x z;⟨a,b,c.ext s S⟩⟩
 |gone n=>exact h.elim
theorem V.down(z:nq σ σ'){d:D}{v:Value}(h:V σ' M' Fz' w' d v):∀{A:Value},V σ M Fz w d A->V σ M' Fz' w' d v:=by
 induction h with
 |c h=>intro _ _;exact .c h
 |any v=>intro _ _;exact .any v
 |ptr a W h R x=>
  intro A o;cases o with
  |ptr a0 s j _ _=>obtain ⟨E,u,hs⟩:=z _ _ j;rw[h] at u;simp only[au] at u;subst u;exact .ptr a s j (by omega) (λX=>x (by omega))
 |sl a n cap U W h R x=>
  intro A o;cases o with
  |sl a0 n0 Y _ s j _ _=>obtain ⟨E,u,hs⟩:=z _ _ j;rw[h] at u;simp only[au] at u;subst u;exact .sl a n cap U s j (by omega) (λX=>x (by omega))
 |mp c W h x=>
  intro A o;cases o with
  |mp c0 s j _=>obtain ⟨E,u,hs⟩:=z _ _ j;rw[h] at u;simp only[au] at u;subst u;exact .mp c s j (λX=>x (by omega))
 |fn F ws G h2 x hw aa ab=>
  intro A o;cases o with
  |fn K ad Z k2 O af=>
   refine .fn F ws G h2 (λi d v a b=>?_) (λi d v a b=>?_)
   ·grind
   grind
 |agg F G x ih=>
  intro A o;cases o with
  |agg K Z O=>
   refine .agg F G (λi d v a b=>?_)
   grind
 |aQ F G x ih=>
  intro A o;cases o with
  |aQ K Z O=>
   refine .aQ F G (λi d v a b=>?_)
   grind
theorem bU.down(x:nq σ σ'){ob:Ob}{o W:Obj}(h:bU σ' M' Fz' w' ob o)(U:bU σ M Fz w ob W):bU σ M' Fz' w' ob o:=by
 cases ob with
 |cells Y=>obtain ⟨s,T,F,G,A⟩:=h;obtain ⟨z,Z,K,O,u⟩:=U;refine ⟨s,T,F,G,λi d v j E=>⟨?_,(A i d v j E).2⟩⟩;have X:=(gg.1 j).1;exact (A i d v j E).1.down x (u i d _ j (rG (by omega))).1
 |map es R=>obtain ⟨s,F,G,A⟩:=h;obtain ⟨z,K,O,u⟩:=U;refine ⟨s,F,G,λi k d n e j E=>?_⟩;have X:=(gg.1 j).1;obtain ⟨a,b,c⟩:=A i k d n e j E;exact ⟨a,b,c.down x (u i k d n _ j (rG (by omega))).2.2⟩
 |gone n=>exact h.elim
def cQ(M:Nat->Option Nat)(n:Nat):Nat->Option Nat:=λb=>if b<n then M b else none
theorem V.cut{d:D}{v:Value}(h:V σ M Fz w d v):V σ (cQ M σ.length) Fz w d v:=by
 induction h with
 |c h=>exact .c h
 |any v=>exact .any v
 |ptr a u h i j=>refine .ptr a u h i (λA=>?_);obtain ⟨c,O,R⟩:=j A;exact ⟨c,by simp only[cQ];grind,R⟩
 |sl a n cap E u h i j=>
  refine .sl a n cap E u h i (λA=>?_);rcases j A with s | ⟨c,o,F,T,O,x⟩
  ·simp_all
  ·exact .inr ⟨c,o,F,T,by simp only[cQ];grind,x⟩
 |mp c u h j=>exact .mp c u h (λA=>by simp only[cQ];grind)
 |fn z U s W j X G K=>exact .fn z U s W G K
 |agg z s j ih=>exact .agg z s ih
 |aQ z s j ih=>exact .aQ z s ih
theorem bU.cut{ob:Ob}{o:Obj}(h:bU σ M Fz w ob o):bU σ (cQ M σ.length) Fz w ob o:=by
 cases ob with
 |cells F=>obtain ⟨j,T,z,A,s⟩:=h;exact ⟨j,T,z,A,λi d v u x=>⟨(s i d v u x).1.cut,(s i d v u x).2⟩⟩
 |map G E=>obtain ⟨j,z,A,s⟩:=h;exact ⟨j,z,A,λi k d n e u x=>let ⟨a,b,c⟩:=s i k d n e u x;⟨a,b,c.cut⟩⟩
 |gone n=>exact h.elim
end
inductive BW (ops:Array Oper):Nat->Nat->Prop where
 |one {i j:Nat} {o:Oper} {e:Edge} (ho:ops[j]? = some o) (he:e∈o.after) (hb:Region.binds .any e=true) (hi:e.on=i):BW ops i j
 |more {i j k:Nat} {o:Oper} {e:Edge} (ho:ops[j]? = some o) (he:e∈o.after) (hb:Region.binds .any e=true) (hk:e.on=k) (h:BW ops i k):BW ops i j
def fJ(ops:Array Oper)(S:Nat->Prop):Prop:=∀(j:Nat) o e,S j->ops[j]? = some o->e∈o.after->Region.binds .any e=true->S e.on
theorem BW.in{ops:Array Oper}{S:Nat->Prop}(x:fJ ops S){i j:Nat}(h:BW ops i j)(z:S j):S i:=by
 induction h with
 |one o s u A=>exact A▸x _ _ _ z o s u
 |more o s u hk h ih=>exact ih (hk▸x _ _ _ z o s u)
theorem BW.ready{ops:Array Oper}{S:Nat->Prop}(z:fJ ops S){i j:Nat}(h:BW ops i j)(A:∀o e,ops[j]? = some o->e∈o.after->Region.binds .any e=true->S e.on):S i:=by
 cases h with
 |one s u x E=>grind
 |more s u x hk h=>exact h.in z (hk▸A _ _ s u x)
theorem Yc{ops:Array Oper}{j:Nat}{o:Oper}(m:ops[j]? = some o){acc:List Nat}(f:∀k i,(acc.getD k 0).testBit i=true->BW ops i k){i:Nat}(h:(Nz acc o).testBit i=true):BW ops i j:=by
 unfold Nz at h;have n:∀(l:List Edge)(s:Nat),(∀e∈l,e∈o.after)->(s.testBit i=true->BW ops i j) ->
   (l.foldl (λs e=>if Region.binds .any e then s ||| 2 ^ e.on ||| acc.getD e.on 0 else s) s).testBit i=true->BW ops i j:=by
  intro l;induction l with
  |nil=>simp_all
  |cons e l ih=>
   intro s g hs h;simp only[List.foldl_cons] at h;refine ih _ (λp q=>g p (by grind)) ?_ h;intro d;split at d
   ·rename_i b;simp only[Nat.testBit_or,gp,Nat.testBit_two_pow,br] at d;rcases d with (d | d) | d
    ·simp_all
    ·exact .one m (g e (by simp)) b d
    ·exact .more m (g e (by simp)) b rfl (f _ _ d)
   simp_all
 grind
theorem CD{ops:Array Oper}{i j:Nat}(h:((PI ops.toList).getD j 0).testBit i=true):BW ops i j:=by
 have m:∀(l pre:List Oper)(b:List Nat),ops.toList=pre++l->b.length=pre.length->(∀k i,(b.getD k 0).testBit i=true->BW ops i k) ->
   ∀k i,((l.foldl (λb o=>b++[Nz b o]) b).getD k 0).testBit i=true->BW ops i k:=by
  intro l;induction l with
  |nil=>simp_all
  |cons o l ih=>
   intro pre b d e f k i h;simp only[List.foldl_cons] at h;refine ih (pre++[o]) (b++[Nz b o]) (by simp_all) (by simp_all) ?_ k i h;intro k i g;rw[Zt,yBv] at g;split at g
   ·simp_all
   ·rename_i hk;by_cases n:k=b.length
    ·subst n;simp at g;refine Yc ?_ f g;rw[<-NC,d,e,NG (cR _)];simp
    grind
 exact m ops.toList [] [] rfl rfl (by simp) j i h
end Go.Abs
end
section
namespace Go.Abs
variable[Gl]
structure Tr (P:Program) (orc:gj) (ops:Array Oper) (os:List aH) (p0 n0:Nat) (env:Nat->List D) (sg:Nat->ar) (wrs:Nat->List Nat):Prop where
 len:os.length=ops.size
 comp:∀(j:Nat) ao,os[j]? = some ao->∃o,ops[j]? = some o/\bq P ops o=some ao
 step:∀(i:Nat) ao,os[i]? = some ao->e_ P orc ao (env i) (sg i)=some (env (i+1),sg (i+1),wrs i)
 wrk:∀i,i<n0->jf (sg i) (sg (i+1)) (wrs i)=true
 le:n0<=os.length
 pair:∀(i j:Nat) x y,i<j->os[i]? = some x->os[j]? = some y->BW ops i j∨apart (dv x (env i) (sg i).length (sg (i+1)).length (wrs i)) (dv y (env j) (sg j).length (sg (j+1)).length (wrs j))=true
 lead:∀i,i<p0->sg (i+1)=sg i/\wrs i=[]
 ple:p0<=n0
section
variable{P:Program}{orc:gj}{ops:Array Oper}{os:List aH}{p0 n0:Nat}{env:Nat->List D}{sg:Nat->ar}{wrs:Nat->List Nat}
theorem gO(O:nP P orc){ao:aH}{e e':List D}{σ σ':ar}{wr:List Nat}(h:e_ P orc ao e σ=some (e',σ',wr)) :
  σ.length<=σ'.length/\(∀b,b<σ.length->b∉wr->σ'[b]? = σ[b]?)/\∃d,e'=nW e ao.dst d:=by
 unfold e_ at h;split at h
 ·simp only[cu] at h;obtain ⟨⟨d,g,bT⟩,f,h⟩:=h;simp only[aT] at h;obtain ⟨rfl,rfl,rfl⟩:=h;obtain ⟨i,j⟩:=Pn (O _) f
  grind
 ·grind
 simp_all
theorem Tr.at(T:Tr P orc ops os p0 n0 env sg wrs){i:Nat}(h:i<os.length):∃ao,os[i]? = some ao:=⟨_,eH h⟩
theorem Tr.frame(T:Tr P orc ops os p0 n0 env sg wrs)(O:nP P orc){i:Nat}(h:i<os.length) :
  (sg i).length<=(sg (i+1)).length/\∀b,b<(sg i).length->b∉wrs i->(sg (i+1))[b]? = (sg i)[b]?:=by
 obtain ⟨o,j⟩:=T.at h;obtain ⟨s,u,_⟩:=gO O (T.step i o j)
 simp_all
theorem Tr.sz1(T:Tr P orc ops os p0 n0 env sg wrs)(O:nP P orc){i:Nat}(h:i<n0):nq (sg i) (sg (i+1)):=by
 intro b u o;have j:=(gg.1 o).1;by_cases s:b∈wrs i
 ·have:=iB.1 (T.wrk i h) b s
  grind
 ·exact ⟨u,by rw[(T.frame O (E_ h T.le)).2 b j s];exact o,rfl⟩
theorem Tr.sz(T:Tr P orc ops os p0 n0 env sg wrs)(O:nP P orc){m m':Nat}(h:m<=m')(u:m'<=n0):nq (sg m) (sg m'):=by
 induction m' with
 |zero=>grind [nq.refl]
 |succ k ih=>
  by_cases e:m=k+1
  ·grind [nq.refl]
  ·intro b i j;obtain ⟨o,s,s1⟩:=ih (by omega) (by omega) b i j;obtain ⟨x,z,A⟩:=T.sz1 O (by omega) b o s
   simp_all
theorem Tr.cA(T:Tr P orc ops os p0 n0 env sg wrs)(O:nP P orc){m m':Nat}(h:m<=m')(i:m'<=os.length):(sg m).length<=(sg m').length:=by
 induction m' with
 |zero=>simp_all
 |succ k ih=>
  by_cases e:m=k+1
  ·simp_all
  ·exact lA (ih (by omega) (by omega)) (T.frame O (by omega)).1
theorem Tr.Tj(T:Tr P orc ops os p0 n0 env sg wrs)(O:nP P orc){m m' b:Nat}(h:m<=m')(x:m'<=os.length)(o:b<(sg m).length)(j:∀i,m<=i->i<m'->b∉wrs i) :
  (sg m')[b]? = (sg m)[b]?:=by
 induction m' with
 |zero=>simp_all
 |succ k ih=>
  by_cases e:m=k+1
  ·simp_all
  ·have s:=ih (by omega) (by omega) (λi u hk=>j i u (by omega));rw[<-s];exact (T.frame O (by omega)).2 b (E_ o (T.cA O (by omega) (by omega))) (j k (by omega) (by omega))
theorem Tr.AV(T:Tr P orc ops os p0 n0 env sg wrs)(O:nP P orc){m:Nat}(h:m<=os.length):(env m).length=(env 0).length:=by
 induction m with
 |zero=>rfl
 |succ k ih=>obtain ⟨o,j⟩:=T.at (i:=k) (by omega);obtain ⟨_,_,d,hd⟩:=gO O (T.step k o j);rw[hd,<-ih (by omega)];cases o.dst <;> simp[nW]
theorem Tr.Ad(T:Tr P orc ops os p0 n0 env sg wrs)(O:nP P orc){m m' t:Nat}(h:m<=m')(z:m'<=os.length)(o:∀i ao,m<=i->i<m'->os[i]? = some ao->ao.dst≠some t) :
  (env m')[t]? = (env m)[t]?:=by
 induction m' with
 |zero=>simp_all
 |succ k ih=>
  by_cases e:m=k+1
  ·simp_all
  ·rw[<-ih (by omega) (by omega) (λi ao x hk=>o i ao x (by omega))];obtain ⟨ao,j⟩:=T.at (i:=k) (by omega);obtain ⟨_,_,d,hd⟩:=gO O (T.step k ao j);rw[hd];have:=o k ao (by omega) (by omega) j;cases u:ao.dst with
   |none=>rfl
   |some s=>grind [nW]
structure Inv (os:List aH) (n0:Nat) (env:Nat->List D) (sg:Nat->ar) (wrs:Nat->List Nat) (M0:Nat->Option Nat) (Fz0:Nat->Prop) (w0:World) (tO:List Deferred)
  (S:Nat->Prop) (M:Nat->Option Nat) (Fz:Nat->Prop) (w:World) (a:Act):Prop where
 UO:a.tmps.size=(env 0).length
 tO:a.defers=tO
 tmp:∀(t m:Nat),m<=n0->(∀i o,i<n0->os[i]? = some o->o.dst=some t->(i<m↔S i))->∀d v,(env m)[t]? = some d->a.tmps[t]? = some v->V (sg m) M Fz w d v
 own:∀b c,M b=some c->¬Fz c/\c<w.heap.size/\((b<(sg 0).length/\M0 b=some c)∨∃j,j<n0/\S j/\(sg j).length<=b/\b<(sg (j+1)).length)
 blk:∀b c,M b=some c->∀m ob,m<=n0->(sg m)[b]? = some ob->(∀i,i<n0->b∈wrs i->(i<m↔S i))->∃o,w.heap[c]? = some o/\bU (sg m) M Fz w ob o
 inj:∀b b' c,M b=some c->M b'=some c->b=b'
 fz:∀c,Fz c->c<w.heap.size
 Dp:Kb M0 Fz0 w0 M Fz w
 gl0:Gl.ok Fz0 w0
theorem Inv.start{σ:ar}{M:Nat->Option Nat}{Fz:Nat->Prop}{w:World}{a:Act}(R:Rel σ M Fz w)(j:sg 0=σ)(E:dr σ M Fz w (env p0) a.tmps){S:Nat->Prop}(U:∀i,i<os.length->(S i↔i<p0))
  (T:Tr P orc ops os p0 n0 env sg wrs) (O:nP P orc):Inv os n0 env sg wrs M Fz w a.defers S M Fz w a:={
 UO:=by rw[E.1,T.AV O (lA T.ple T.le)]
 tO:=rfl
 tmp:=λt m x z d v h1 h2=>by
  have A:=T.le;have W:=T.ple;have he:(env m)[t]? = (env p0)[t]?:=by
   rcases Nat.le_total m p0 with h | h
   ·exact (T.Ad O (m:=m) (m':=p0) (t:=t) h (by omega) (λi X F G s hd=>by have:=(z i X (by omega) s hd).2 ((U i (by omega)).2 G);omega)).symm
   ·exact T.Ad O (m:=p0) (m':=m) (t:=t) h (by omega) (λi X F aa s hd=>by grind)
  rw[he] at h1;have hv:V (sg 0) M Fz w d v:=j▸E.2 t d v h1 h2;exact hv.ext (T.sz O (NA m) x) Kb.refl
 own:=λb c h=>by have Y:=R.lt h;exact ⟨(R.blk b c h).1,Y.2,.inl ⟨by simp_all,h⟩⟩
 blk:=λb c h m ob x u z=>by
  have Y:=R.lt h;have A:=T.le;have:=T.Tj O (m:=0) (m':=m) (b:=b) (by omega) (lA x T.le) (by simp_all) (λi _ F Z=>by
   have K:=(U i (by omega)).1 ((z i (by omega) Z).1 F);rw[(T.lead i K).2] at Z
   grind)
  rw[this,j] at u;obtain ⟨_,ab,o,h1,h2,K⟩:=R.blk b c h;rw[u] at h1;simp only[au] at h1;subst h1;exact ⟨o,h2,(j▸K:bU (sg 0) M Fz w ob o).ext (T.sz O (by omega) x) Kb.refl⟩
 inj:=R.inj
 fz:=R.fz
 Dp:=Kb.refl
 gl0:=R.gl }
theorem Inv.done{M0 M:Nat->Option Nat}{Fz0 Fz:Nat->Prop}{w0 w:World}{a:Act}{tO:List Deferred}{S:Nat->Prop}(I:Inv os n0 env sg wrs M0 Fz0 w0 tO S M Fz w a)(T:Tr P orc ops os p0 n0 env sg wrs)(O:nP P orc)
  (K:∀i,i<n0->S i) (R:∀b,M0 b≠none->b<(sg 0).length):Rel (sg n0) M Fz w/\dr (sg n0) M Fz w (env n0) a.tmps/\bD (sg 0) M0 Fz0 w0 (sg n0) M Fz w:=by
 refine ⟨⟨λb c h=>?_,I.inj,I.fz,Gl.mono I.Dp.fz I.gl0⟩,⟨by rw[I.UO,T.AV O T.le],λt d v x A=>I.tmp t n0 (cR _) (λi _ u _ _=>⟨λ_=>K i u,λ_=>u⟩) d v x A⟩,?_⟩
 ·obtain ⟨x,A,s⟩:=I.own b c h;have z:b<(sg n0).length:=by
   rcases s with ⟨s,_⟩ | ⟨j,U,_,_,s⟩
   ·exact E_ s (T.cA O (by omega) T.le)
   ·exact E_ s (T.cA O (by omega) T.le)
  have E:(sg n0)[b]? = some (sg n0)[b]:=eH z;obtain ⟨o,Z,h5⟩:=I.blk b c h n0 _ (cR _) E (λi u _=>⟨λ_=>K i u,λ_=>u⟩)
  simp_all
 ·refine ⟨I.Dp.size,I.Dp.frame,λb c h=>?_,I.Dp.fz,λc h=>?_,I.Dp.pP,λb W z=>?_,I.Dp.out⟩
  ·rcases I.Dp.kK b c h with h | h
   ·grind
   omega
  ·rcases I.Dp.nQ c h with h | h
   ·simp_all
   omega
  ·obtain ⟨F,x,A⟩:=T.sz O (by omega) (cR n0) b W z;refine ⟨F,x,by omega,λ_=>?_⟩;have X:=(gg.1 z).1;cases Y:M0 b with
   |some c=>exact I.Dp.ext b c Y
   |none=>
    cases G:M b with
    |none=>rfl
    |some c=>
     obtain ⟨_,_,s⟩:=I.own b c G;rcases s with ⟨_,s⟩ | ⟨j,U,_,s,_⟩
     ·simp_all
     ·have:=T.cA O (m:=0) (m':=j) (by omega) (by have:=T.le;omega);omega
end
end Go.Abs
end
section
namespace Go.Abs
variable[Gl]
section
variable{P:Program}{orc:gj}{ops:Array Oper}{os:List aH}{p0 n0:Nat}{env:Nat->List D}{sg:Nat->ar}{wrs:Nat->List Nat}
variable{M0 M M':Nat->Option Nat}{Fz0 Fz Fz':Nat->Prop}{w0 w w':World}{a:Act}{tO:List Deferred}{S S':Nat->Prop}
theorem Tr.wr_lt(T:Tr P orc ops os p0 n0 env sg wrs){i b:Nat}(h:i<n0)(j:b∈wrs i):b<(sg i).length:=by
 have:=iB.1 (T.wrk i h) b j
 grind
theorem fX {x y:dW} (h:apart x y=true) :
  (∀t,x.dst=some t→t∉y.rds)∧(∀t,y.dst=some t→t∉x.rds)∧(∀t,x.dst=some t→y.dst≠some t)∧safe x y.wr=true∧safe y x.wr=true ∧
   (∀b∈y.wr,¬(x.lo≤b∧b<x.hi))∧(∀b∈x.wr,¬(y.lo≤b∧b<y.hi)):=by
 simp only [apart,bG] at h
 obtain ⟨⟨⟨⟨k,l⟩,m⟩,f,g⟩,i,j⟩:=h
 refine ⟨fun t e=>?_,fun t e=>?_,fun t e n=>?_,f,g,fun b d=>?_,fun b d=>?_⟩
 ·grind [aac]
 ·grind [aac]
 ·simp_all
 ·have:=iB.1 i b d
  grind
 ·have:=iB.1 j b d
  grind
theorem Tr.other (T:Tr P orc ops os p0 n0 env sg wrs) (K:fJ ops S) {k i:Nat} {x y:aH} (O:os[k]? = some x) (R:os[i]? = some y) (s:i≠k) (u:¬S k)
    (z:∀o e,ops[k]? = some o→e∈o.after→Region.binds .any e=true→S e.on) :
    (i<k∧S i)∨(k<i∧¬S i) ∨
      ((∀t,y.dst=some t→t∉yB x)∧(∀t,x.dst=some t→y.dst≠some t) ∧
        safe (dv x (env k) (sg k).length (sg (k+1)).length (wrs k)) (wrs i)=true∧safe (dv y (env i) (sg i).length (sg (i+1)).length (wrs i)) (wrs k)=true ∧
        (∀b∈wrs i,¬((sg k).length≤b∧b<(sg (k+1)).length))):=by
  rcases Nat.lt_or_gt_of_ne s with h | h
  · rcases T.pair i k y x h R O with j | j
    · exact .inl ⟨h,j.ready K z⟩
    · obtain ⟨U,_,A,E,F,_,W⟩:=fX j
      exact .inr (.inr ⟨U,fun t X G=>A t G X,F,E,W⟩)
  · rcases T.pair k i x y h O R with j | j
    · exact .inr (.inl ⟨h,fun Y=>u (j.in K Y)⟩)
    · obtain ⟨_,Z,A,E,F,h6,_⟩:=fX j
      exact .inr (.inr ⟨Z,A,E,F,h6⟩)
theorem Inv.next(I:Inv os n0 env sg wrs M0 Fz0 w0 tO S M Fz w a)(T:Tr P orc ops os p0 n0 env sg wrs)(O:nP P orc)(hC:fJ ops S){k:Nat}{ao:aH}{d:D}{v:Value}(hk:k<n0)(A:os[k]? = some ao)(W:¬S k)
  (X:∀o e,ops[k]? = some o->e∈o.after->Region.binds .any e=true->S e.on) (E:∀i,S' i↔S i∨i=k) (st:Kb M Fz w M' Fz' w') (F:env (k+1)=nW (env k) ao.dst d)
  (hv:V (sg (k+1)) M' Fz' w' d v) (G:∀b b' c,M' b=some c->M' b'=some c->b=b') (Y:∀c,Fz' c->c<w'.heap.size)
  (K:∀b c,M' b=some c->¬Fz' c/\c<w'.heap.size/\(M b=some c∨((sg k).length<=b/\b<(sg (k+1)).length)))
  (R:∀b c,M' b=some c->∀m ob,m<=n0->(sg m)[b]? = some ob->(∀i,i<n0->b∈wrs i->(i<m↔S' i))->∃o,w'.heap[c]? = some o/\bU (sg m) M' Fz' w' ob o) :
  Inv os n0 env sg wrs M0 Fz0 w0 tO S' M' Fz' w' (a.put ao.dst v):={
 UO:=by rw[<-I.UO];cases ao.dst <;> simp[Act.put]
 tO:=by rw[<-I.tO];cases ao.dst <;> rfl
 tmp:=λt m Z hc d' v' u h2=>by
  by_cases ht:ao.dst=some t
  ·have af:k<m:=(hc k ao hk A ht).2 ((E k).2 (.inr rfl));have aa:=T.Ad O (m:=k+1) (m':=m) (t:=t) (by omega) (lA Z T.le) (λi x hi ab hx hd=>by
    have z:=(hc i x (by omega) hx hd).1 ab;rcases (E i).1 z with z | z
    ·rcases T.other hC A hx (by omega) W X with ⟨h,_⟩ | ⟨_,h⟩ | ⟨_,h,_⟩
     ·omega
     ·grind
     grind
    ·omega)
   rw[aa,F,ht] at u;rw[ht] at h2;simp only[nW,yB7] at u;simp only[Act.put,Zw] at h2;simp only[if_true] at u h2;split at u
   ·rename_i ak;rw[if_pos (by grind)] at h2;simp only[au] at u h2;subst u h2;exact hv.ext (T.sz O (by omega) Z) Kb.refl
   grind
  ·have ad:a.tmps[t]? = some v':=by
    cases hd:ao.dst with
    |none=>rw[hd] at h2;exact h2
    |some s=>
     rw[hd] at h2;simp only[Act.put,Zw] at h2
     grind
   refine (I.tmp t m Z (λi o hi ho hd=>?_) d' v' u ad).ext nq.refl st
   grind
 own:=λb c h=>by
  obtain ⟨u,h2,U⟩:=K b c h;refine ⟨u,h2,?_⟩;rcases U with U | U
  ·rcases (I.own b c U).2.2 with h4 | ⟨j,hj,an,h4⟩
   ·simp_all
   grind
  grind
 blk:=R
 inj:=G
 fz:=Y
 Dp:=I.Dp.trans st
 gl0:=I.gl0 }
theorem Inv.Yw(I:Inv os n0 env sg wrs M0 Fz0 w0 tO S M Fz w a)(T:Tr P orc ops os p0 n0 env sg wrs)(O:nP P orc)(F:fJ ops S){k:Nat}{ao:aH}{d:D}{v:Value}(hk:k<n0)(s:os[k]? = some ao)(u:¬S k)
  (x:∀o e,ops[k]? = some o->e∈o.after->Region.binds .any e=true->S e.on) (z:∀i,S' i↔S i∨i=k) (j:env (k+1)=nW (env k) ao.dst d)
  (A:sg (k+1)=sg k) (G:wrs k=[]) (K:V (sg k) M Fz w d v):Inv os n0 env sg wrs M0 Fz0 w0 tO S' M Fz w (a.put ao.dst v):=by
 refine I.next T O F hk s u x z Kb.refl j (A▸K) I.inj I.fz (λb c h=>⟨(I.own b c h).1,(I.own b c h).2.1,.inl h⟩) (λb c h m R U E W=>?_);refine I.blk b c h m R U E (λi X Y=>?_)
 grind
theorem Inv.alloc(I:Inv os n0 env sg wrs M0 Fz0 w0 tO S M Fz w a)(T:Tr P orc ops os p0 n0 env sg wrs)(O:nP P orc)(hC:fJ ops S){k:Nat}{ao:aH}{d:D}{v:Value}{ob:Ob}{o:Obj}(hk:k<n0)(F:os[k]? = some ao)(G:¬S k)
  (K:∀o e,ops[k]? = some o->e∈o.after->Region.binds .any e=true->S e.on) (R:∀i,S' i↔S i∨i=k) (U:env (k+1)=nW (env k) ao.dst d)
  (z:sg (k+1)=sg k++[ob]) (ak:wrs k=[]) (Y:bU (sg k++[ob]) (wh M (sg k).length w.heap.size) Fz (w.alloc o) ob o)
  (hv:V (sg k++[ob]) (wh M (sg k).length w.heap.size) Fz (w.alloc o) d v):Inv os n0 env sg wrs M0 Fz0 w0 tO S' (wh M (sg k).length w.heap.size) Fz (w.alloc o) (a.put ao.dst v):=by
 have X:M (sg k).length=none:=by
  cases h:M (sg k).length with
  |none=>rfl
  |some c=>
   rcases (I.own _ c h).2.2 with ⟨x,_⟩ | ⟨j,hj,an,x,A⟩
   ·have:=T.cA O (m:=0) (m':=k) (by omega) (by grind);omega
   ·have av:=T.le;rcases US j k with W | W | W
    ·have:=T.cA O (m:=j+1) (m':=k) (by omega) (by omega);omega
    ·simp_all
    ·have:=T.cA O (m:=k+1) (m':=j) (by omega) (by omega)
     grind
 have st:Kb M Fz w (wh M (sg k).length w.heap.size) Fz (w.alloc o):=by
  refine ⟨by simp,λc Z _=>yBJ w o c Z,λb c h=>?_,λb c h=>?_,λc h=>⟨h,yBJ w o c (I.fz c h)⟩,λc h=>.inl h,
   λc aa T fr h=>⟨aa,by grind [Go.heap_alloc_old],rfl⟩,⟨rfl,rfl,rfl⟩⟩
  ·unfold wh
   grind
  grind [wh]
 have s:∀b c,wh M (sg k).length w.heap.size b=some c->(b=(sg k).length/\c=w.heap.size)∨M b=some c:=by
  intro b c h;unfold wh at h
  grind
 refine I.next T O hC hk F G K R st U (z▸hv) (λb b' c h h'=>?_) (λc h=>by have:=I.fz c h;simp;omega) (λb c h=>?_) (λb c h m ab hm u Z=>?_)
 ·rcases s b c h with ⟨rfl,rfl⟩ | x <;> rcases s b' _ h' with ⟨rfl,A⟩ | A
  ·rfl
  ·have:=(I.own _ _ A).2.1;omega
  ·have:=(I.own _ _ x).2.1;omega
  ·exact I.inj b b' c x A
 ·rcases s b c h with ⟨rfl,rfl⟩ | x
  ·exact ⟨λhf=>by have:=I.fz _ hf;omega,by simp,.inr ⟨cR _,by simp_all⟩⟩
  ·obtain ⟨A,W,_⟩:=I.own b c x;exact ⟨A,by simp;omega,.inl x⟩
 ·rcases s b c h with ⟨rfl,rfl⟩ | x
  ·have ax:k<m:=by
    rcases si k m with h | h
    ·exact h
    ·have x:=T.cA O h (by grind)
     simp_all
   have ad:=T.Tj O (m:=k+1) (m':=m) (b:=(sg k).length) (by omega) (lA hm T.le) (by simp_all) (λi hi af hb=>by
    have E:=(Z i (by omega) hb).1 af;rcases (R i).1 E with E | E
    ·obtain ⟨y,hy⟩:=T.at (i:=i) (by have:=T.le;omega);rcases T.other hC F hy (by omega) G K with ⟨h,_⟩ | ⟨_,h⟩ | ⟨_,_,_,_,h⟩
     ·omega
     ·simp_all
     grind
    ·omega)
   rw[ad,z] at u;simp at u;subst u;refine ⟨o,heap_alloc_new w o,Y.ext ?_ Kb.refl⟩;rw[<-z];exact T.sz O (by omega) hm
  ·obtain ⟨o',A,W⟩:=I.blk b c x m ab hm u (λi hi hb=>by
    grind)
   exact ⟨o',by grind [Go.heap_alloc_old],W.ext nq.refl st⟩
end
end Go.Abs
end
section
namespace Go.Abs
variable[Gl]
section
variable{P:Program}{orc:gj}{ops:Array Oper}{os:List aH}{p0 n0:Nat}{env:Nat->List D}{sg:Nat->ar}{wrs:Nat->List Nat}
variable{M0 M M':Nat->Option Nat}{Fz0 Fz Fz':Nat->Prop}{w0 w w':World}{a:Act}{tO:List Deferred}{S S':Nat->Prop}
theorem Tr.GP(T:Tr P orc ops os p0 n0 env sg wrs)(A:fJ ops S){k i:Nat}{x:aH}(hk:k<n0)(E:os[k]? = some x)(j:¬S k)
  (s:∀o e,ops[k]? = some o->e∈o.after->Region.binds .any e=true->S e.on) (z:(dv x (env k) (sg k).length (sg (k+1)).length (wrs k)).cat=3) (G:i<n0) (K:wrs i≠[]) (u:i≠k) :
  (i<k/\S i)∨(k<i/\¬S i):=by
 obtain ⟨y,F⟩:=T.at (i:=i) (by have:=T.le;omega);rcases T.other A E F u j s with h | h | ⟨_,_,h,_⟩
 ·simp_all
 ·simp_all
 grind [safe]
theorem Inv.rel(I:Inv os n0 env sg wrs M0 Fz0 w0 tO S M Fz w a)(T:Tr P orc ops os p0 n0 env sg wrs)(G:fJ ops S){k:Nat}{x:aH}(hk:k<n0)(K:os[k]? = some x)(u:¬S k)
  (z:∀o e,ops[k]? = some o->e∈o.after->Region.binds .any e=true->S e.on) (j:(dv x (env k) (sg k).length (sg (k+1)).length (wrs k)).cat=3) :
  Rel (sg k) (cQ M (sg k).length) Fz w:={
 blk:=λb c h=>by
  unfold cQ at h;split at h
  ·rename_i O;have s:(sg k)[b]? = some (sg k)[b]:=eH O;obtain ⟨o,h1,A⟩:=I.blk b c h k _ (by omega) s (λi R U=>by
    by_cases E:i=k
    ·simp_all
    ·rcases T.GP G hk K u z j R (λX=>by simp_all) E with ⟨h1,A⟩ | ⟨h1,A⟩
     ·simp_all
     grind)
   exact ⟨(I.own b c h).1,_,o,s,h1,A.cut⟩
  simp_all
 inj:=λb W c h F=>by
  unfold cQ at h F;split at h
  ·split at F
   ·exact I.inj b W c h F
   simp_all
  simp_all
 fz:=I.fz
 gl:=Gl.mono I.Dp.fz I.gl0 }
theorem Inv.GP(I:Inv os n0 env sg wrs M0 Fz0 w0 tO S M Fz w a)(T:Tr P orc ops os p0 n0 env sg wrs)(O:nP P orc)(hC:fJ ops S){k:Nat}{ao:aH}{d:D}{v:Value}{X:Nat->Option Nat}{E:Nat->Prop}{w1:World}(hk:k<n0)(ad:os[k]? = some ao)(af:¬S k)
  (ak:∀o e,ops[k]? = some o->e∈o.after->Region.binds .any e=true->S e.on) (an:∀i,S' i↔S i∨i=k) (av:env (k+1)=nW (env k) ao.dst d)
  (ax:(dv ao (env k) (sg k).length (sg (k+1)).length (wrs k)).cat=3) (Y:Rel (sg (k+1)) X E w1) (hv:V (sg (k+1)) X E w1 d v) (U:bD (sg k) (cQ M (sg k).length) Fz w (sg (k+1)) X E w1) :
  ∃M',Inv os n0 env sg wrs M0 Fz0 w0 tO S' M' E w1 (a.put ao.dst v):=by
 have bd:=T.le;have hL:=(T.frame O (i:=k) (by omega)).1;have f1:∀b,b<(sg k).length->X b=M b:=by intro b F;obtain ⟨be,s,_,x⟩:=U.keep b _ (eH F);obtain ⟨bh,u,W⟩:=T.sz1 O hk b _ (eH F);rw[s] at u;simp only[au] at u;subst u;rw[x W];simp only[cQ,if_pos F]
 have f2:∀b,(sg k).length<=b->b<(sg (k+1)).length->M b=none:=by
  intro b s x;cases h:M b with
  |none=>rfl
  |some c=>
   rcases (I.own b c h).2.2 with ⟨u,_⟩ | ⟨j,hj,bi,u,W⟩
   ·have:=T.cA O (m:=0) (m':=k) (by omega) (by omega);omega
   ·rcases US j k with Z | Z | Z
    ·have:=T.cA O (m:=j+1) (m':=k) (by omega) (by omega);omega
    ·simp_all
    ·have:=T.cA O (m:=k+1) (m':=j) (by omega) (by omega);omega
 have f3:∀b c,X b=some c->b<(sg k).length∨w.heap.size<=c:=by
  intro b c h;by_cases F:b<(sg k).length
  ·omega
  ·right;rcases U.kK b c h with ⟨b0,h0⟩ | h0
   ·exfalso;unfold cQ at h0;split at h0
    ·rename_i a5;have:=Y.inj b b0 c h (by simp_all);omega
    simp_all
   omega
 let M':Nat->Option Nat:=λb=>if b<(sg (k+1)).length then X b else M b
 have G:∀b,b<(sg (k+1)).length->M' b=X b:=λb h=>by grind
 have K:∀b,¬b<(sg (k+1)).length->M' b=M b:=λb h=>by grind
 have R:∀b c,X b=some c->M' b=some c:=λb c h=>by rw[G b (Y.lt h).1];exact h
 have nQ:∀c,E c->Fz c∨w.heap.size<=c:=by
  intro c h;rcases U.nQ c h with h | ⟨b,s⟩ | h
  ·simp_all
  ·exfalso;unfold cQ at s;split at s
   ·rename_i F;exact (Y.blk b c (by simp_all)).1 h
   simp_all
  omega
 have st:Kb M Fz w M' E w1:=by
  refine ⟨U.size,λc hc hn=>U.frame c hc (λb F=>?_),λb c h=>?_,λb c h=>?_,U.fz,nQ,U.pP,U.out⟩
  ·grind [cQ]
  ·grind
  grind
 refine ⟨M',I.next T O hC hk ad af ak an st av (hv.sub nq.refl R (λc h=>⟨h,rfl⟩) (λc a6 T fr h=>⟨a6,h,rfl⟩)) (λb A c h h'=>?_) Y.fz (λb c h=>?_) (λb c h m ob hm z hc=>?_)⟩
 ·have a7:∀b A,b<(sg (k+1)).length->¬A<(sg (k+1)).length->M' b=some c->M' A=some c->b=A:=by
   intro b A s x u W;rw[G b s] at u;rw[K A x] at W;rcases f3 b c u with Z | Z
   ·rw[f1 b Z] at u;exact I.inj b A c u W
   ·have:=(I.own A c W).2.1;omega
  by_cases s:b<(sg (k+1)).length
  ·by_cases x:A<(sg (k+1)).length
   ·rw[G b s] at h;rw[G A x] at h';exact Y.inj b A c h h'
   grind
  ·by_cases x:A<(sg (k+1)).length
   ·grind
   ·rw[K b s] at h;rw[K A x] at h';exact I.inj b A c h h'
 ·by_cases s:b<(sg (k+1)).length
  ·rw[G b s] at h;refine ⟨(Y.blk b c h).1,(Y.lt h).2,?_⟩
   grind
  ·rw[K b s] at h;obtain ⟨x,u,_⟩:=I.own b c h;refine ⟨λhf=>?_,E_ u U.size,.inl h⟩
   grind
 ·have a0:b∉wrs k->∀i,i<n0->b∈wrs i->(i<m↔S i):=by
   grind
  by_cases s:b<(sg (k+1)).length
  ·rw[G b s] at h;have a2:∀i,i<n0->b∈wrs i->i≠k->(i<k/\S i)∨(k<i/\¬S i):=λi hi F a8=>T.GP hC hk ad af ak ax hi (λhe=>by simp_all) a8;obtain ⟨_,bk,o1,x,u,W⟩:=Y.blk b c h;by_cases a9:k<m
   ·have aa:=T.Tj O (m:=k+1) (m':=m) (b:=b) (by omega) (lA hm T.le) s (λi hi bb F=>by
     grind)
    rw[aa,x] at z;simp only[au] at z;subst z;exact ⟨o1,u,W.sub (T.sz O (by omega) hm) R⟩
   ·have a1:=(gg.1 z).1;have ab:b∉wrs k:=λF=>a9 ((hc k hk F).2 ((an k).2 (.inr rfl)));have aa:=T.Tj O (m:=m) (m':=k+1) (b:=b) (by omega) (by omega) a1 (λi hi bb F=>by
     grind)
    rw[aa,z] at x;simp only[au] at x;subst x;have bc:b<(sg k).length:=E_ a1 (T.cA O (by omega) (by omega));rw[f1 b bc] at h;obtain ⟨o0,_,Z⟩:=I.blk b c h m ob hm z (a0 ab);exact ⟨o1,u,(W.down (T.sz O (by omega) (by omega)) Z).sub nq.refl R⟩
  ·rw[K b s] at h;have ab:b∉wrs k:=λF=>by have:=T.wr_lt hk F;omega
   obtain ⟨o,x,u⟩:=I.blk b c h m ob hm z (a0 ab);refine ⟨o,?_,u.ext nq.refl st⟩;rw[U.frame c (I.own b c h).2.1 (λb0 h0=>?_)]
   ·exact x
   ·unfold cQ at h0;split at h0
    ·rename_i a5;have:=I.inj b0 b c h0 h;omega
    simp_all
def j_(T:List Nat)(e:List D):List D:=e.mapIdx λi d=>if T.contains i then d else .any
theorem qp{T:List Nat}{e:List D}{i:Nat}:(j_ T e)[i]? = (e[i]?).map λd=>if T.contains i then d else .any:=by simp[j_,List.getElem?_mapIdx]
theorem zp{T:List Nat}{e:List D}{x:aN}(h:∀n,x=.t n->n∈T):x.ev (j_ T e)=x.ev e:=by
 cases x with
 |k d=>rfl
 |t n=>
  simp only[aN.ev,qp]
  simp_all
theorem Inv.step(I:Inv os n0 env sg wrs M0 Fz0 w0 tO S M Fz w a)(T:Tr P orc ops os p0 n0 env sg wrs)(O:nP P orc)(Y:fJ ops S){k:Nat}{Q:Exit->Act->World->Prop}(hk:k<n0)(E:¬S k)
  (F:∀o e,ops[k]? = some o->e∈o.after->Region.binds .any e=true->S e.on) (W:∀i,S' i↔S i∨i=k) (K:Act->World->Prop)
  (hK:∀a' w' M' Fz',Inv os n0 env sg wrs M0 Fz0 w0 tO S' M' Fz' w' a'->K a' w'):wpOp P ops Q k K a w:=by
 have bc:=T.le;obtain ⟨ao,z⟩:=T.at (i:=k) (by omega);obtain ⟨o,ho,X⟩:=T.comp k ao z;have u:=T.step k ao z;have hE:dr (sg k) M Fz w (j_ (yB ao) (env k)) a.tmps:=by
  refine ⟨by rw[I.UO,<-T.AV O (m:=k) (by omega)];simp[j_],λi d v Z h2=>?_⟩;rw[qp] at Z;simp only[cu] at Z;obtain ⟨d0,h3,h4⟩:=Z;by_cases ht:(yB ao).contains i=true
  ·rw[if_pos ht] at h4;subst h4;refine I.tmp i k (by omega) (λj x hj hx hd=>?_) d0 v h3 h2;by_cases a0:j=k
   ·simp_all
   ·rcases T.other Y z hx a0 E F with ⟨h5,h6⟩ | ⟨h5,h6⟩ | ⟨h5,_⟩
    ·simp_all
    ·grind
    simp_all
  ·rw[if_neg ht] at h4;subst h4;exact .any v
 have aa:h_ (j_ (yB ao) (env k)) ao.g=h_ (env k) ao.g:=by
  cases hg:ao.g with
  |none=>rfl
  |some p=>
   obtain ⟨t,a9⟩:=p;have:(yB ao).contains t=true:=by grind [yB]
   simp only[h_,qp,this,if_true]
   simp_all
 unfold bq at X;split at X
 ·rename_i g s hg G;simp only[au] at X;subst X;simp only at u aa hE;have ab:ba P (orc o.dst) s (j_ (yB ⟨o.dst,s,g⟩) (env k)) (sg k)=ba P (orc o.dst) s (env k) (sg k):=by
   refine xN (mU G) (λx hx=>zp (λn hn=>?_));subst hn;simp only[yB,mQ,List.mem_filterMap]
   grind
  unfold e_ at u;split at u
  ·rename_i hw;simp only at hw;have U:=oU (σ:=sg k) (M:=M) (Fz:=Fz) (w:=w) (ops:=ops) (o:=o) hE hg (by rw[aa];exact hw);simp only[cu] at u;obtain ⟨⟨d,bd,bT⟩,a1,h⟩:=u;simp only[aT] at h;obtain ⟨A,ad,af⟩:=h;subst ad af;have a2:(dv ⟨o.dst,s,g⟩ (env k) (sg k).length (sg (k+1)).length (wrs k)).cat=cat s:=by grind [dv]
   unfold wpOp;rw[ho];simp only[U,if_true];left;have GP:cat s=3->o.wp P a w K Q:=by
    intro a5;have R:=I.rel T Y hk z E F (by omega);have a6:dr (sg k) (cQ M (sg k).length) Fz w (j_ (yB ⟨o.dst,s,g⟩) (env k)) a.tmps:=⟨hE.1,λi d v Z h2=>(hE.2 i d v Z h2).cut⟩;refine Le (O o.dst) R a6 G (by rw[ab];exact a1) K λv w1 M1 be R1 hv EV _=>?_;obtain ⟨M',hI⟩:=I.GP (ao:=⟨o.dst,s,g⟩) T O Y hk z E F W A.symm (by omega) R1 hv EV
    grind
   rcases uA G with ⟨f,args,bh,of,bi,_,_,_,rfl⟩ | ⟨a7,ak,_⟩
   ·exact GP rfl
   ·have av:ba P (orc o.dst) s (j_ (yB ⟨o.dst,s,g⟩) (env k)) (sg k)=some (d,sg (k+1),wrs k):=by simp_all
    have out:=Ee (M:=M) (Fz:=Fz) (w:=w) (Gl.mono I.Dp.fz I.gl0) hE a7 ak av;generalize ax:sg (k+1)=s1 at out;generalize an:wrs k=w1 at out;cases out with
    |y _ hy=>obtain ⟨v,hr,hv⟩:=hy;unfold Oper.wp;rw[hr];exact hK _ _ M Fz (I.Yw (ao:=⟨o.dst,s,g⟩) T O Y hk z E F W A.symm ax an hv)
    |l bk bl hy=>
     obtain ⟨v,hr,hv⟩:=hy (λb off sz c cs bt hM hb=>by
      obtain ⟨o',Z,h2⟩:=I.blk b c hM k _ (by omega) hb (λi hi bu=>by
       by_cases a8:i=k
       ·simp_all
       ·obtain ⟨y,hy⟩:=T.at (i:=i) (by omega);rcases T.other Y z hy a8 E F with ⟨h5,h6⟩ | ⟨h5,h6⟩ | ⟨_,_,h5,_⟩
        ·simp_all
        ·grind
        ·exfalso;have bb:(dv ⟨o.dst,s,g⟩ (env k) (sg k).length (sg (k+1)).length (wrs k)).blk=some b:=by
          have:VO s (env k)=VO s (j_ (yB ⟨o.dst,s,g⟩) (env k)):=by
           cases s with
           |load n x=>grind [VO,zp,yB,rY]
           |_=>rfl
          grind [dv]
         grind [safe])
      obtain ⟨bv,T',rfl,h3,h4⟩:=h2
      grind)
     unfold Oper.wp;rw[hr];exact hK _ _ M Fz (I.Yw (ao:=⟨o.dst,s,g⟩) T O Y hk z E F W A.symm (by simp_all) an hv)
    |a _ hy=>obtain ⟨bw,v,hr,Z,hv⟩:=hy I.fz;unfold Oper.wp;rw[hr];exact hK _ _ _ Fz (I.alloc (ao:=⟨o.dst,s,g⟩) T O Y hk z E F W A.symm ax an Z hv)
    |g a5 _=>simp_all
  ·rename_i hw;simp only at hw;have U:=oU (σ:=sg k) (M:=M) (Fz:=Fz) (w:=w) (ops:=ops) (o:=o) hE hg (by rw[aa];exact hw);simp only[au,aT] at u;obtain ⟨A,ad,af⟩:=u;unfold wpOp;rw[ho];simp only[U,bX,cn];exact hK _ _ M Fz (I.Yw (ao:=⟨o.dst,s,g⟩) T O Y hk z E F W A.symm ad.symm af.symm V.undef)
  simp_all
 simp_all
end
end Go.Abs
end
section
namespace Go.Abs
variable[Gl]
section
variable{P:Program}{orc:gj}{ops:Array Oper}{os:List aH}{p0 n0:Nat}{env:Nat->List D}{sg:Nat->ar}{wrs:Nat->List Nat}
variable{M:Nat->Option Nat}{Fz:Nat->Prop}{w:World}{a:Act}
def SQ(N:Nat)(listed:Array Bool):Nat:=((List.range N).filter λj=>!listed.getD j false).length
def gq(listed:Array Bool)(i:Nat):Prop:=listed.getD i false=true
theorem IA{listed:Array Bool}{k:Nat}(hk:k<listed.size)(i:Nat):gq (listed.setIfInBounds k true) i↔gq listed i∨i=k:=by
 unfold gq;by_cases h:k=i
 ·simp_all
 ·rw[getD_set_ne false h]
  grind
theorem Cx{N:Nat}{listed:Array Bool}{k:Nat}(hs:k<listed.size)(hk:k<N)(b:¬gq listed k):SQ N (listed.setIfInBounds k true)<SQ N listed:=by
 unfold SQ;have e:(List.range N).filter (λj=>!(listed.setIfInBounds k true).getD j false)=((List.range N).filter λj=>!listed.getD j false).filter λj=>j != k:=by
  rw[List.filter_filter];apply List.filter_congr;intro j _;have:=IA hs (i:=j);unfold gq at this
  grind
 rw[e,List.length_filter_lt_length_iff_exists]
 grind [gq]
theorem ur{N:Nat}{listed:Array Bool}(h:SQ N listed=0):∀i,i<N->gq listed i:=by grind [SQ,List.filter_eq_nil_iff,gq]
theorem UD{N:Nat}{listed:Array Bool}(h:∃i,i<N/\¬gq listed i):∃i,i<N/\¬gq listed i/\∀j,j<i->gq listed j:=by
 obtain ⟨i,b,d⟩:=h;induction i using Nat.strongRecOn with
 |_ i ih=>grind
theorem yy{listed:Array Bool}(g:listed.size=ops.size)(b:∀(j:Nat) o e,ops[j]? = some o->e∈o.after->Region.binds .any e=true->e.on<j)
  (h:Region.ready .any ops listed=[]):∀i,i<ops.size->gq listed i:=by
 intro i k;refine Classical.byContradiction λl=>?_;obtain ⟨j,m,n,d⟩:=UD (N:=ops.size) ⟨i,k,l⟩;have f:ops[j]? = some ops[j]:=rG m;have:j∈Region.ready .any ops listed:=by
  rw[mem_ready];refine ⟨?_,ops[j],f,λe p q=>d e.on (b j _ e f p q)⟩
  grind [gq]
 simp_all
theorem cnt_ge(n0:Nat):∀m,((List.range (n0+m)).filter (λj=>decide (n0<=j))).length=m:=by
 intro m;induction m with
 |zero=>simp_all
 |succ m ih=>grind [List.range_succ]
theorem iP(m j:Nat):(Array.replicate m false).getD j false=false:=by
 simp only[yAT,yBZ]
 grind
theorem Rj(O:nP P orc)(T:Tr P orc ops os p0 n0 env sg wrs)(q:∀i j,p0<=i->i<j->n0<=j->j<os.length->BW ops i j)(g:∀(j:Nat) o e,ops[j]? = some o->e∈o.after->Region.binds .any e=true->e.on<j){Q:Exit->Act->World->Prop}
  (Y:∀f w' M' Fz',f.defers=a.defers->Rel (sg os.length) M' Fz' w'->dr (sg os.length) M' Fz' w' (env os.length) f.tmps->bD (sg 0) M Fz w (sg os.length) M' Fz' w'->Q .normal f w') :
  ∀ (b : Nat) (listed : Array Bool) (k : Nat) (M' : Nat -> Option Nat) (Fz' : Nat -> Prop) (w' : World) (f : Act), listed.size = ops.size -> n0 <= k -> k <= os.length -> (∀ i, i < ops.size -> (gq listed i ↔ i < k)) -> os.length - k <= b -> f.defers = a.defers ->
   Rel (sg k) M' Fz' w'->dr (sg k) M' Fz' w' (env k) f.tmps->bD (sg 0) M Fz w (sg k) M' Fz' w'->wpAny P .any ops Q b listed f w':=by
 have A:=T.len;intro b;induction b with
 |zero=>
  intro listed k M' Fz' w' f m hk r Z hf hd R E s;have n:k=os.length:=by omega
  subst n;refine ⟨?_,Y f w' M' Fz' hd R E s⟩;cases F:Region.ready .any ops listed with
  |nil=>rfl
  |cons j l=>
   have hm:j∈Region.ready .any ops listed:=by simp_all
   rw[mem_ready] at hm
   grind [gq]
 |succ b ih=>
  intro listed k M' Fz' w' f m hk r Z hf hd R E s;refine ⟨λF=>?_,λj G=>?_⟩
  ·have K:=yy m g F;have n:k=os.length:=by
    rcases si k os.length with h | h
    ·grind
    ·omega
   grind
  ·rw[mem_ready] at G;obtain ⟨h1,o,L,t⟩:=G;have aa:j<ops.size:=(BO.1 L).1;have hC:fJ ops (gq listed):=by
    intro i N e hi d U W
    grind
   have ab:¬gq listed j:=by grind [gq]
   have ad:k<=j:=by simp_all
   have u:j=k:=by
    rcases si k j with h | h
    ·have W:=q k j (by have:=T.ple;omega) h (by omega) (by omega);have:=W.ready hC (λN e d U v=>by rw[L] at d;simp only[au] at d;subst d;exact t e U v)
     grind
    ·omega
   subst u;obtain ⟨X,p⟩:=T.at (i:=j) (by omega);obtain ⟨N,d,x⟩:=T.comp j X p;refine HT O R E d x (T.step j X p) _ λa1 w1 M1 y af R1 E1 z ak=>?_;refine ih (listed.setIfInBounds j true) (j+1) M1 y w1 a1 (by grind) (by omega) (by omega) (λi hi=>?_) (by omega) (by simp_all) R1 E1 (s.trans z (T.cA O (by omega) (by omega)))
   grind [IA]
theorem Vt(O:nP P orc)(T:Tr P orc ops os p0 n0 env sg wrs)(t:∀i j,p0<=i->i<j->n0<=j->j<os.length->BW ops i j)(l:∀(j:Nat) o e,ops[j]? = some o->e∈o.after->Region.binds .any e=true->e.on<j)(R:Rel (sg 0) M Fz w)(E:dr (sg 0) M Fz w (env p0) a.tmps){Q:Exit->Act->World->Prop}
  (hQ:∀p w' M' Fz',p.defers=a.defers->Rel (sg os.length) M' Fz' w'->dr (sg os.length) M' Fz' w' (env os.length) p.tmps->bD (sg 0) M Fz w (sg os.length) M' Fz' w'->Q .normal p w') :
  wpAny P .any ops Q (ops.size-p0) (KV ops.size p0) a w:=by
 have an:=T.ple;have av:=T.len;have x:=T.le;have q:∀b,M b≠none->b<(sg 0).length:=λb h=>by
  cases hM:M b with
  |none=>simp_all
  |some c=>exact (R.lt hM).1
 have y:∀(d:Nat)(listed:Array Bool)(M':Nat->Option Nat)(Fz':Nat->Prop)(w':World)(p:Act),listed.size=ops.size->SQ ops.size listed<=d->fJ ops (gq listed)->(∀i,i<p0->gq listed i)->(∀i,gq listed i->i<n0) ->
   Inv os n0 env sg wrs M Fz w a.defers (gq listed) M' Fz' w' p->wpAny P .any ops Q d listed p w':=by
  intro d;induction d with
  |zero=>
   intro listed M' Fz' w' p m hu K z u I;have r:=ur (N:=ops.size) (listed:=listed) (by omega);have hn:n0=os.length:=by
    rcases si n0 os.length with h | h
    ·grind
    ·omega
   obtain ⟨U,W,v⟩:=I.done T O (λi f=>r i (by omega)) q;refine Rj O T t l hQ 0 listed n0 M' Fz' w' p m (cR _) x (λi f=>⟨λh=>u i h,λ_=>r i f⟩) (by omega) I.tO U W v
  |succ d ih=>
   intro listed M' Fz' w' p m hu K z u I;by_cases g:∀i,i<n0->gq listed i
   ·obtain ⟨U,W,v⟩:=I.done T O g q;refine Rj O T t l hQ (d+1) listed n0 M' Fz' w' p m (cR _) x (λi f=>⟨λh=>u i h,λh=>g i h⟩) ?_ I.tO U W v;have:os.length-n0<=SQ ops.size listed:=by
     unfold SQ;have e:(List.range ops.size).filter (λj=>!listed.getD j false)=(List.range ops.size).filter (λj=>decide (n0<=j)):=by
      apply List.filter_congr
      grind [gq]
     rw[e,show ops.size=n0+(os.length-n0) from by omega,cnt_ge];omega
    omega
   ·refine ⟨λhr=>?_,λj X=>?_⟩
    ·grind [yy]
    ·rw[mem_ready] at X;obtain ⟨h1,o,Y,Z⟩:=X;have aa:j<ops.size:=(BO.1 Y).1;have A:¬gq listed j:=by
      grind [gq]
     have s:∀F e,ops[j]? = some F->e∈F.after->Region.binds .any e=true->gq listed e.on:=λF e n L ab=>by rw[Y] at n;simp only[au] at n;subst n;exact Z e L ab
     have ad:j<n0:=by
      rcases si j n0 with h | h
      ·exact h
      ·refine absurd (λi f=>?_) g;rcases si i p0 with G | G
       ·simp_all
       ·exact (t i j G (by omega) h (by omega)).ready K s
     refine I.step (S':=gq (listed.setIfInBounds j true)) T O K ad A s (λi=>IA (by omega) i) _ λa1 w1 M1 af I1=>?_;refine ih (listed.setIfInBounds j true) M1 af w1 a1 (by grind) ?_ ?_ (λi f=>(IA (by omega) i).2 (.inl (z i f))) ?_ I1
     ·have:=Cx (N:=ops.size) (listed:=listed) (k:=j) (by omega) aa A;omega
     ·intro i F e f n L hb;rw[IA (by omega)] at f ⊢;rcases f with f | rfl
      ·exact .inl (K i F e f n L hb)
      simp_all
     grind [IA]
 have m:∀k,(KV ops.size k).size=ops.size:=by
  intro k;induction k with
  |zero=>simp[KV]
  |succ k ih=>grind [KV]
 have hl:∀k i,i<ops.size->(gq (KV ops.size k) i↔i<k):=by
  intro k;induction k with
  |zero=>grind [KV,gq,iP]
  |succ k ih=>
   intro i f;by_cases hk:k<ops.size
   ·grind [KV,IA]
   grind [KV]
 have ax:∀i,gq (KV ops.size p0) i->i<ops.size:=by grind [gq]
 have ak:∀k,k<=ops.size->SQ ops.size (KV ops.size k)<=ops.size-k:=by
  intro k;induction k with
  |zero=>grind [SQ]
  |succ k ih=>
   intro hk;have:=Cx (N:=ops.size) (listed:=KV ops.size k) (k:=k) (by grind) (by omega) (λh=>by grind)
   grind [KV]
 refine y (ops.size-p0) _ M Fz w a (m _) (ak p0 (by omega)) ?_ (λi f=>(hl p0 i (by omega)).2 f) (λi f=>?_) (Inv.start R rfl E (λi f=>hl p0 i (by omega)) T O)
 ·intro j o e X Y L hb
  grind
 grind
end
end Go.Abs
end
section
namespace Go.Abs
variable[Gl]
def xX:mF->Exit
 |.normal=>.normal
 |.exit i=>if i % 2=0 then .exit (i / 2) else .goto (i / 2)
 |.ret=>.ret
theorem KI(i:Nat):xX (.exit (2 * i))=.exit i:=by
 show (if 2 * i % 2=0 then Exit.exit (2 * i / 2) else Exit.goto (2 * i / 2))=_
 simp_all
theorem Mb(i:Nat):xX (.exit (2 * i+1))=.goto i:=by
 show (if (2 * i+1) % 2=0 then Exit.exit ((2 * i+1) / 2) else Exit.goto ((2 * i+1) / 2))=_
 grind
theorem Bg{i:Nat}(h:i % 2=0):xX (.exit i)=.exit (i / 2):=if_pos h
theorem Sr{i:Nat}(h:¬i % 2=0):xX (.exit i)=.goto (i / 2):=if_neg h
theorem qC{i:Nat}{R:Act->World->Prop}{Q:Exit->Act->World->Prop}{a:Act}{w:World}(h:Q (xX (.exit i)) a w):Exit.then R Q (xX (.exit i)) a w:=by
 by_cases b:i % 2=0
 ·rw[Bg b] at h ⊢;exact h
 ·rw[Sr b] at h ⊢;exact h
theorem Er{id:Nat}{Q:Exit->Act->World->Prop}{a:Act}{w:World}(h:Q .normal a w):Exit.inBlock id Q (xX (.exit (2 * id))) a w:=by rw[KI];simp only[Exit.inBlock,if_true];exact h
theorem Bv{i id:Nat}{Q:Exit->Act->World->Prop}{a:Act}{w:World}(d:i≠2 * id)(h:Q (xX (.exit i)) a w):Exit.inBlock id Q (xX (.exit i)) a w:=by
 by_cases b:i % 2=0
 ·rw[Bg b] at h ⊢;simp only[Exit.inBlock]
  grind
 ·rw[Sr b] at h ⊢;exact h
section
variable{P:Program}{orc:gj}
theorem Rr{n:Nat}:∀(os:List aH)(n:Nat)(e e':List D)(σ σ':ar)(b:List dW),lE P orc n os e σ=some (e',σ',b) ->
  ∃ (env : Nat -> List D) (sg : Nat -> ar) (wrs : Nat -> List Nat), env 0 = e /\ sg 0 = σ /\ env os.length = e' /\ sg os.length = σ' /\ b.length = os.length /\
   (∀(i:Nat) ao,os[i]? = some ao->e_ P orc ao (env i) (sg i)=some (env (i+1),sg (i+1),wrs i)/\b[i]? = some (dv ao (env i) (sg i).length (sg (i+1)).length (wrs i))) /\
   (∀i,i<os.length->i<n->jf (sg i) (sg (i+1)) (wrs i)=true):=by
 intro os;induction os with
 |nil=>intro n e e' σ σ' b h;simp only[lE,au,aT] at h;obtain ⟨rfl,rfl,rfl⟩:=h;exact ⟨λ_=>e,λ_=>σ,λ_=>[],rfl,rfl,rfl,rfl,rfl,λi ao h=>by simp at h,λi h=>by simp at h⟩
 |cons o os ih=>
  intro n e e' σ σ' b h;simp only[lE] at h;split at h
  ·rename_i g d w1 s;split at h
   ·rename_i t;split at h
    ·rename_i j k f l;simp only[au,aT] at h;obtain ⟨rfl,rfl,rfl⟩:=h;obtain ⟨env,sg,wrs,u,v,m,p,q,x,y⟩:=ih (n-1) g j d k f l;refine ⟨λi=>match i with | 0=>e | i+1=>env i,λi=>match i with | 0=>σ | i+1=>sg i,λi=>match i with | 0=>w1 | i+1=>wrs i,rfl,rfl,m,p,by simp[q],λi ao r=>?_,λi r z=>?_⟩
     ·grind
     grind
    simp_all
   simp_all
  simp_all
theorem tX{ops:Array Oper}(h:zI ops.toList=true)(j:Nat)(o:Oper)(e:Edge)(b:ops[j]? = some o)(d:e∈o.after)(f:Region.binds .any e=true):e.on<j:=by
 have g:j<ops.size:=(BO.1 b).1;have i:=iB.1 h j (by simp_all)
 grind
theorem MV{α d:Type}{f:α->Option d}:∀{l:List α}{r:List d},l.mapM f=some r->r.length=l.length/\∀(i:Nat) b,r[i]? = some b->∃a,l[i]? = some a/\f a=some b:=by
 intro l;induction l with
 |nil=>simp_all
 |cons a l ih=>grind [Option.bind_eq_some_iff]
theorem Ma(O:nP P orc):∀(os:List aH)(e e':List D)(σ σ':ar)(wr:List Nat),oq P orc os e σ=some (e',σ',wr)->σ.length<=σ'.length/\∀b,b<σ.length->b∉wr->σ'[b]? = σ[b]?:=by
 intro os;induction os with
 |nil=>
  intro e e' σ σ' wr h;simp only[oq,au,aT] at h
  simp_all
 |cons o os ih=>
  intro e e' σ σ' wr h;simp only[oq] at h;split at h
  ·rename_i g d w1 f;split at h
   ·rename_i i j w2 k;simp only[au,aT] at h;obtain ⟨rfl,rfl,rfl⟩:=h;obtain ⟨l,m,_⟩:=gO O f
    grind
   simp_all
  simp_all
theorem DP(O:nP P orc):∀(os:List aH)(n:Nat)(e e':List D)(σ σ':ar)(d:List dW),lE P orc n os e σ=some (e',σ',d) ->
  σ.length<=σ'.length/\∀b,b<σ.length->b∉d.flatMap (·.wr)->σ'[b]? = σ[b]?:=by
 intro os;induction os with
 |nil=>
  intro n e e' σ σ' d h;simp only[lE,au,aT] at h
  simp_all
 |cons o os ih=>
  intro n e e' σ σ' d h;simp only[lE] at h;split at h
  ·rename_i j f w1 k;split at h
   ·split at h
    ·rename_i l m g p;simp only[au,aT] at h;obtain ⟨rfl,rfl,rfl⟩:=h;obtain ⟨q,r,_⟩:=gO O k;obtain ⟨s,t⟩:=ih _ j l f m g p;refine ⟨lA q s,λb u i=>?_⟩;simp only[yBw,mQ,not_or] at i;rw[t b (by omega) i.2,r b u i.1]
    simp_all
   simp_all
  simp_all
theorem vI(O:nP P orc):∀(k:Nat)(c:aP)(e e':List D)(σ σ':ar)(wr wr':List Nat)(x:mF),kr P orc k c e σ wr=some (x,e',σ',wr') ->
  σ.length<=σ'.length/\(∀b∈wr,b∈wr')/\∀b,b<σ.length->b∉wr'->σ'[b]? = σ[b]?:=by
 intro k;induction k with
 |zero=>grind [kr]
 |succ k ih=>
  intro c e e' σ σ' wr wr' x h;cases c with
  |skip=>simp only[kr,au,aT] at h;simp_all
  |exit id=>simp only[kr,au,aT] at h;simp_all
  |ret=>simp only[kr,au,aT] at h;simp_all
  |stuck=>grind [kr]
  |ZK l=>grind [kr]
  |U_ l a r=>grind [kr]
  |UR o m a b=>grind [kr]
  |BZ os=>
   simp only[kr,cu,aT] at h;obtain ⟨⟨g,d,w1⟩,f,_,_,rfl,rfl⟩:=h;obtain ⟨q,s⟩:=Ma O os _ _ _ _ _ f
   simp_all
  |HO os i n p=>
   have one:∀n g d w1,jO P orc os i p n e σ=some (g,d,w1)->σ.length<=d.length/\∀b,b<σ.length->b∉w1->d[b]? = σ[b]?:=by
    intro n g d w1 f;unfold jO at f;split at f
    ·rename_i t u v j;split at f
     ·simp only[au,aT] at f;obtain ⟨_,rfl,rfl⟩:=f;exact DP O os _ _ _ _ _ _ j
     simp_all
    simp_all
   grind [kr]
  |seq a b=>grind [kr]
  |cond o a b=>grind [kr]
  |block id b=>grind [kr]
  |loop b=>grind [kr]
theorem vx{ops:Array Oper}{os:List aH}(g:ops.toList.mapM (bq P ops)=some os):∀(i:Nat) o c,ops[i]? = some o->o.op≠.defer c:=by intro i o c e;obtain ⟨k,h⟩:=MV g;rw[<-NC] at e;have l:=(gg.1 e).1;obtain ⟨b,j⟩:∃b,os[i]? = some b:=⟨_,eH (by omega)⟩;obtain ⟨m,d,f⟩:=h i b j;rw[e] at d;cases d;exact qG f c
theorem Up(O:nP P orc){id:Nat}{ops:Array Oper}{os:List aH}{σ σ':ar}{M:Nat->Option Nat}{Fz:Nat->Prop}{w:World}{e e':List D}{a:Act}{wr:List Nat}{Q:Exit->Act->World->Prop}
  (k:ops.toList.mapM (bq P ops)=some os) (R:Rel σ M Fz w) (E:dr σ M Fz w e a.tmps) (h:oq P orc os e σ=some (e',σ',wr))
  (l:∀b w' M' Fz',b.defers=a.defers->Rel σ' M' Fz' w'->dr σ' M' Fz' w' e' b.tmps->bD σ M Fz w σ' M' Fz' w'->Q .normal b w'):(Code.region id ops false).wq P Q a w:=by
 obtain ⟨d,f⟩:=MV k;refine Ua (vx k) ?_;have g:ops.size=os.length:=by rw[d,Array.length_toList]
 rw[List.range_eq_range',g];exact ops_wp O os 0 σ σ' M Fz w e e' a wr (λj m n=>by obtain ⟨o,p,i⟩:=f j m n;exact ⟨o,by rw[Ry,<-NC];exact p,i⟩) R E h λb w' M' Fz' d f q r _=>⟨l b w' M' Fz' d f q r,by simp⟩
theorem Oq{ops:Array Oper}:∀(k i j:Nat),i<=j->j<i+leads ops k i->DT ops j=true:=by
 intro k;induction k with
 |zero=>grind [leads]
 |succ k ih=>
  intro i j d b;simp only[leads] at b;split at b
  ·rename_i h;by_cases e:i=j
   ·simp_all
   ·exact ih (i+1) j (by omega) (by omega)
  ·omega
theorem HH{ops:Array Oper}{i:Nat}(h:i<lead ops):Region.noSelect ops=true/\DT ops i=true:=by
 unfold lead at h;split at h
 ·rename_i b;exact ⟨b,Oq ops.size 0 i (by omega) (by omega)⟩
 ·omega
def RU(Q:Exit->Act->World->Prop):Exit->Act->World->Prop:=λx a w=>x=.normal/\Q .normal a w
theorem Qp{ops:Array Oper}{Q:Exit->Act->World->Prop}{i:Nat}{a:Act}{w:World}{K:Act->World->Prop}(h:wpOp P ops (RU Q) i K a w):wpOp P ops Q i K a w:=by
 unfold wpOp at *;split
 ·simp_all
 ·rename_i o d;simp only[d] at h;split
  ·rename_i f;simp only[f,if_true] at h;rcases h with h | ⟨_,g,w',h,_⟩
   ·left;unfold Oper.wp at *;generalize (execOp a.eval o).run P w=r at *;cases r with
    |ok n w'=>
     cases n <;> simp only[Oper.upon] at h ⊢ <;>
      first
       |exact h
       |exact Calls.mono h (λe w'' b=>by
         cases e with
         |returned v=>exact b
         |panicked c=>exact absurd b.1 (by simp)
         |outgrown=>obtain ⟨g,w',j,_⟩:=b;simp_all)
    |halt x w'=>
     cases x <;> simp only[Oper.upon] at h ⊢
     exact absurd h.1 (by simp)
   simp_all
  simp_all
theorem KT{ops:Array Oper}{Q:Exit->Act->World->Prop}{md:Region.Mode}:∀(b:Nat)(listed:Array Bool)(a:Act)(w:World),wpAny P md ops (RU Q) b listed a w->wpAny P md ops Q b listed a w:=by
 intro b;induction b with
 |zero=>intro listed a w h;exact ⟨h.1,h.2.2⟩
 |succ b ih=>intro listed a w h;exact ⟨λd=>(h.1 d).2,λi e=>Qp (wpOp_mono (λf w' g=>ih _ f w' g) (h.2 i e))⟩
theorem lead_wp{ops:Array Oper}{Q:Exit->Act->World->Prop}{p:Nat}{w:World}(y:p<=lead ops)(l:p<=ops.size)(J:Nat->Act->Prop)
  (z:∀i o x a,i<p->ops[i]? = some o->(o.op=.move x∨o.op=.assign x)->o.guard=none->J i a->J (i+1) (a.put o.dst (a.eval x)))
  (g:∀a,J p a->wpAny P .any ops (RU Q) (ops.size-p) (KV ops.size p) a w):∀k a,k<=p->J (p-k) a->wpAny P .any ops (RU Q) (ops.size-(p-k)) (KV ops.size (p-k)) a w:=by
 intro k;induction k with
 |zero=>simp_all
 |succ k ih=>
  intro a hk h;obtain ⟨i,rfl⟩:∃i,p=i+(k+1):=⟨p-(k+1),by omega⟩;have m:i+(k+1)-(k+1)=i:=by omega
  have n:i+(k+1)-k=i+1:=by omega
  rw[m] at h ⊢;obtain ⟨e,d⟩:=HH (ops:=ops) (i:=i) (by omega);simp only[DT,bG] at d;obtain ⟨⟨f,q⟩,r⟩:=d;cases j:ops[i]? with
  |none=>simp_all
  |some o=>
   rw[j] at f;simp only[Option.map_some,Option.getD_some,isMv,bG,Option.isNone_iff_eq_none] at f;obtain ⟨s,t⟩:=f;have b:∃x,o.op=.move x∨o.op=.assign x:=by grind
   obtain ⟨x,b⟩:=b;have u:Go.Yields P ops o (a.eval x) a:=by left;refine ⟨by simp[Region.wanted,s],λw=>?_⟩;rcases b with b | b <;> simp[execOp,b]
   have v:ops.size-i=(ops.size-(i+1))+1:=by omega
   rw[v];refine wpAny_take j e q r (λc a w h=>absurd h.1 (by simp)) u ?_;have:=ih (a.put o.dst (a.eval x)) (by omega) (by simp_all);rw[n] at this;exact this
theorem draw_wp (u:P.follows .mixedOrders=true) (O:nP P orc) {id n:Nat} {ops:Array Oper} {os:List aH} {σ σ':ar} {M:Nat→Option Nat} {Fz:Nat→Prop} {w:World} {e e':List D} {a:Act} {W:List dW} {Q:Exit→Act→World→Prop}
  (hc:ops.toList.mapM (bq P ops)=some os) (m:zI ops.toList=true) (R:Rel σ M Fz w) (E:dr σ M Fz w e a.tmps) (h:lE P orc n os e σ=some (e',σ',W)) (hn:n≤os.length)
  (hp:eR (PI ops.toList) W=true) (ht:mh (PI ops.toList) (lead ops) n os.length=true) (X:lead ops≤n)
  (Y:∀g w' M' Fz',g.defers=a.defers→Rel σ' M' Fz' w'→dr σ' M' Fz' w' e' g.tmps→bD σ M Fz w σ' M' Fz' w'→Q .normal g w'):(Code.region id ops true).wq P Q a w:=by
 obtain ⟨r,Z⟩:=MV hc
 obtain ⟨env,sg,wrs,k1,k2,k3,k4,k5,k6,k7⟩:=Rr (n:=n) os n e e' σ σ' W h
 subst k1 k2 k3 k4
 have v:os.length=ops.size:=by omega
 have mv:∀i o x,i<lead ops→ops[i]? = some o→(o.op=.move x∨o.op=.assign x)→o.guard=none→∃z,bS x=some z∧env (i+1)=nW (env i) o.dst (z.ev (env i))∧sg (i+1)=sg i∧wrs i=[]:=by
  intro i o x k A s U
  have F:i<os.length:=by omega
  obtain ⟨o',q,d⟩:=Z i _ (eH F)
  rw [NC,A] at q
  simp only [au] at q
  subst q
  have G:=(k6 i _ (eH F)).1
  unfold bq at d
  rw [U] at d
  simp only [yY] at d
  cases K:bS x with
  | none=>grind [comp,lN]
  | some z =>
   have aa:comp P o.op o.type=some (.Ai z):=by
    grind [comp,lN]
   rw [aa] at d
   simp only [au] at d
   rw [←d] at G
   simp only [e_,h_,ba,Option.map_some,au,aT] at G
   simp_all
 have ab:∀i j,lead ops≤i→i<j→n≤j→j<os.length→BW ops i j:=fun i j af ad ak hj=>by
  have f:=iB.1 ht j (by simp_all)
  simp only [gp,br] at f
  rcases f with f | f
  ·omega
  ·have t:=iB.1 f i (by simp_all)
   simp only [gp] at t
   grind [Nat.blt_eq,CD]
 have T:Tr P orc ops os (lead ops) n env sg wrs:={
  len:=v
  comp:=fun j ao hj=>by simp_all
  step:=fun i ao k=>(k6 i ao k).1
  wrk:=fun i k=>k7 i (by omega) k
  le:=hn
  pair:=fun i j x y ad s hy=>by
   have hj:=(gg.1 hy).1
   have f:=iB.1 hp j (by simp_all)
   have t:=iB.1 f i (by simp_all)
   simp only [gp] at t
   grind [CD]
  lead:=fun i k=>by
   obtain ⟨_,L⟩:=HH k
   simp only [DT,bG] at L
   cases A:ops[i]? with
   | none=>simp_all
   | some o =>
    have r:=L.1.1
    rw [A] at r
    simp only [Option.map_some,Option.getD_some,isMv,bG,Option.isNone_iff_eq_none] at r
    obtain ⟨U,an⟩:=r
    have s:∃x,o.op=.move x∨o.op=.assign x:=by
     grind
    obtain ⟨x,s⟩:=s
    grind
  ple:=X }
 refine xr u (vx hc) ?_
 replace Y:=fun g w' M' Fz' r Z f t=>(⟨Y g w' M' Fz' r Z f t,by simp⟩:nr Q .normal g w')
 have R1:Rel (sg 0) M Fz { w with drawn:=w.drawn+1 }:=R.heap rfl ⟨rfl,rfl,rfl⟩
 have EH:bD (sg 0) M Fz w (sg 0) M Fz { w with drawn:=w.drawn+1 }:=bD.heap R rfl ⟨rfl,rfl,rfl⟩
 refine KT _ _ _ _ ?_
 have l:=lead_wp (P:=P) (ops:=ops) (Q:=nr Q) (p:=lead ops) (w:={ w with drawn:=w.drawn+1 }) (cR _) (by omega)
  (fun i b=>dr (sg 0) M Fz { w with drawn:=w.drawn+1 } (env i) b.tmps∧b.defers=a.defers)
  (fun i o x b k A s U N=>by
   obtain ⟨z,K,f,t,_⟩:=mv i o x k A s U
   refine ⟨?_,by rw [←N.2]; cases o.dst <;> rfl⟩
   rw [f]
   exact N.1.put o.dst (mc N.1 K))
  (fun b N=>by
   refine Vt O T ab (tX m) R1 N.1 fun g w' M' Fz' hd R' E' EV=>⟨rfl,?_⟩
   exact Y g w' M' Fz' (by simp_all) R' E' (EH.trans EV (cR _)))
  (lead ops) a (cR _) (by rw [yCj]; exact ⟨E.mono EH,rfl⟩)
 rw [yCj,Nat.sub_zero] at l
 exact l
theorem M_(os:List aH):UV os<=os.length:=by grind [UV]
theorem EG(os:List aH):jW os<=os.length:=by
 induction os with
 |nil=>simp[jW]
 |cons o os ih=>grind [jW]
theorem Jd (W:P.follows .mixedOrders=true) (O:nP P orc):∀(k:Nat),
  (∀(c:Code) (ac:aP) (σ σ':ar) (M:Nat→Option Nat) (Fz:Nat→Prop) (w:World) (e e':List D) (a:Act) (wr wr':List Nat) (x:mF) (Q:Exit→Act→World→Prop),bF P c=some ac→Rel σ M Fz w→dr σ M Fz w e a.tmps →
   kr P orc k ac e σ wr=some (x,e',σ',wr')→(∀z w' M' Fz',z.defers=a.defers→Rel σ' M' Fz' w'→dr σ' M' Fz' w' e' z.tmps→bD σ M Fz w σ' M' Fz' w'→Q (xX x) z w')→c.wq P Q a w) ∧
  (∀(c:Code) (ac:aP) (σ σ':ar) (M:Nat→Option Nat) (Fz:Nat→Prop) (w:World) (e e':List D) (a:Act) (wr wr':List Nat) (x:mF) (Q:Exit→Act→World→Prop),bF P c=some ac→Rel σ M Fz w→dr σ M Fz w e a.tmps →
   kr P orc k (.loop ac) e σ wr=some (x,e',σ',wr')→(∀z w' M' Fz',z.defers=a.defers→Rel σ' M' Fz' w'→dr σ' M' Fz' w' e' z.tmps→bD σ M Fz w σ' M' Fz' w'→Q (xX x) z w')→Code.rq P c Q k a w):=by
 intro k
 induction k with
 | zero=>grind [kr]
 | succ k ih =>
  obtain ⟨q,ab⟩:=ih
  have L:∀(c:Code) (ac:aP) (σ σ':ar) (M:Nat→Option Nat) (Fz:Nat→Prop) (w:World) (e e':List D) (a:Act) (wr wr':List Nat) (x:mF) (Q:Exit→Act→World→Prop),bF P c=some ac→Rel σ M Fz w→dr σ M Fz w e a.tmps →
   kr P orc (k+1) (.loop ac) e σ wr=some (x,e',σ',wr')→(∀z w' M' Fz',z.defers=a.defers→Rel σ' M' Fz' w'→dr σ' M' Fz' w' e' z.tmps→bD σ M Fz w σ' M' Fz' w'→Q (xX x) z w')→Code.rq P c Q (k+1) a w:=by
   intro c ac σ σ' M Fz w e e' a wr wr' x Q d R E h t
   rw [IJ]
   simp only [kr] at h
   split at h
   ·rename_i u f bT p
    have hl:=(vI O _ _ _ _ _ _ _ _ _ p).1
    refine q c ac σ f M Fz w e u a wr bT .normal _ d R E p fun v w1 A j hd F G m=>?_
    exact ab c ac f σ' A j w1 u e' v bT wr' x Q d F G h fun a2 w2 M2 N ad R2 E2 T=>t a2 w2 M2 N (by simp_all) R2 E2 (m.trans T hl)
   ·rename_i X
    have Y:x≠.normal:=fun Y=>by simp_all
    refine q c ac σ σ' M Fz w e e' a wr wr' x _ d R E h fun v w1 A j hd F G m=>?_
    have:=t v w1 A j hd F G m
    cases x with
    | normal=>simp_all
    | exit i=>grind [qC]
    | ret=>exact this
  refine ⟨?_,L⟩
  intro c ac σ σ' M Fz w e e' a wr wr' x Q d R E h t
  cases c with
  | skip =>
   simp only [bF,au] at d
   subst d
   simp only [kr,au,aT] at h
   obtain ⟨rfl,rfl,rfl,_⟩:=h
   exact wq_skip (t a w M Fz rfl R E (bD.refl R))
  | exit id =>
   simp only [bF,au] at d
   subst d
   simp only [kr,au,aT] at h
   grind [bD.refl,KI,Go.ZT]
  | goto l =>
   simp only [bF,au] at d
   subst d
   simp only [kr,au,aT] at h
   grind [bD.refl,Mb,Go.wq_goto]
  | scope b =>
   grind [bF,Option.map_eq_some_iff,J_,kr]
  | rangeFunc g ps x y =>
   simp only [bF,au] at d
   subst d
   rcases BL (bS g) ps.toList (bF P x) (bF P y) (x.calm&&y.calm) with ⟨_,_,_,_,_,_,_,e⟩ | e <;> rw [e] at h <;> simp [kr] at h
  | ret =>
   simp only [bF,au] at d
   subst d
   simp only [kr,au,aT] at h
   obtain ⟨rfl,rfl,rfl,_⟩:=h
   exact wq_ret (t a w M Fz rfl R E (bD.refl R))
  | region id ops Z =>
   simp only [bF] at d
   split at d
   ·rename_i os aa
    cases Z with
    | false =>
     simp only [bX,cn,au] at d
     subst d
     simp only [kr,cu,aT] at h
     obtain ⟨⟨u,f,w1⟩,p,rfl,rfl,rfl,_⟩:=h
     exact Up O aa R E p t
    | true =>
     simp only [if_true] at d
     split at d
     ·rename_i U
      simp only [au] at d
      subst d
      have one:∀n u f w1,n≤os.length→jO P orc os (PI ops.toList) (lead ops) n e σ=some (u,f,w1)→x=.normal→u=e'→f=σ'→(Code.region id ops true).wq P Q a w:=by
       intro n u f w1 hn p Y he hs
       unfold jO at p
       split at p
       ·rename_i e2 aA is h2
        split at p
        ·rename_i s
         simp only [bG] at s
         simp only [au,aT] at p
         obtain ⟨rfl,rfl,rfl⟩:=p
         subst Y he hs
         exact draw_wp W O aa U R E h2 hn s.1.1 s.1.2 (Cq s.2) t
        simp_all
       simp_all
      simp only [kr] at h
      split at h
      ·grind [EG]
      ·split at h
       ·grind [M_]
       grind
     grind [kr]
   grind [kr]
  | seq c1 c2 =>
   simp only [bF] at d
   split at d
   ·rename_i v a2 p h2
    simp only [au] at d
    subst d
    simp only [kr] at h
    split at h
    ·rename_i u f bT K
     have hl:=(vI O _ _ _ _ _ _ _ _ _ K).1
     refine Qe (q c1 v σ f M Fz w e u a wr bT .normal _ p R E K fun r w1 A j hd F G m=>?_)
     exact q c2 a2 f σ' A j w1 u e' r bT wr' x Q h2 F G h fun af w2 M2 N ad R2 E2 T=>t af w2 M2 N (by simp_all) R2 E2 (m.trans T hl)
    ·rename_i X
     have Y:x≠.normal:=fun Y=>by simp_all
     refine Qe (q c1 v σ σ' M Fz w e e' a wr wr' x _ p R E h fun r w1 A j hd F G m=>?_)
     have:=t r w1 A j hd F G m
     cases x with
     | normal=>simp_all
     | exit i=>grind [qC]
     | ret=>exact this
   simp_all
  | cond o c1 c2 =>
   simp only [bF] at d
   split at d
   ·rename_i oo v a2 h0 p h2
    simp only [au] at d
    subst d
    simp only [kr] at h
    have hv:=mc E h0
    grind [Go.zf,oe,Go.xB]
   grind [kr]
  | block id c1 =>
   simp only [bF,cu] at d
   obtain ⟨v,p,rfl⟩:=d
   simp only [kr] at h
   refine Ll ?_
   split at h
   ·rename_i i u f bT K
    split at h
    ·rename_i ak
     simp only [au,aT] at h
     obtain ⟨rfl,rfl,rfl,_⟩:=h
     refine q c1 v σ f M Fz w e u a wr bT (.exit i) _ p R E K fun r w1 A j hd F G m=>?_
     have:=t r w1 A j hd F G m
     rw [ak]
     exact Er this
    grind [Bv]
   ·rename_i X
    refine q c1 v σ σ' M Fz w e e' a wr wr' x _ p R E h fun r w1 A j hd F G m=>?_
    have:=t r w1 A j hd F G m
    cases x with
    | normal=>exact this
    | exit i=>grind
    | ret=>exact this
  | loop c1 =>
   simp only [bF,cu] at d
   obtain ⟨v,p,rfl⟩:=d
   exact vi (k+1) (L c1 v σ σ' M Fz w e e' a wr wr' x Q p R E h t)
  | _=>grind [bF,kr]
end
end Go.Abs
end
section
namespace Go.Abs
variable[Gl]
section
variable{P:Program}{σ σ0:ar}{M M0:Nat->Option Nat}{Fz Fz0:Nat->Prop}{w w0:World}
def Ff(M:Nat->Option Nat)(Fz:Nat->Prop)(n:Nat):Nat->Prop:=λc=>Fz c∨∃b,n<=b/\M b=some c
theorem yc(n:Nat):∀(k:Nat)(l:List C),(chunks n k l).length=k:=by
 intro k;induction k with
 |zero=>intro l;rfl
 |succ k ih=>grind [chunks]
theorem EW{n:Nat}:∀(k:Nat)(l:List C),l.length=k * n->∀(i:Nat) e,(chunks n k l)[i]? = some e->e.length=n/\∀(j:Nat),j<n->e[j]? = l[i * n+j]?:=by
 intro k;induction k with
 |zero=>grind [chunks]
 |succ k ih=>
  intro l b i e h;rw[Nat.succ_mul] at b;cases i with
  |zero=>grind [chunks]
  |succ i=>grind [chunks]
theorem Aw{α d:Type}{f:α->Option d}:∀{l:List α}{r:List d},l.mapM f=some r->∀(i:Nat) a,l[i]? = some a->∃b,r[i]? = some b/\f a=some b:=by
 intro l;induction l with
 |nil=>simp_all
 |cons a l ih=>grind [Option.bind_eq_some_iff]
theorem Ib(R:Rel σ M Fz w){n:Nat}:∀(k:Nat)(d:D)(x:C)(v:Value),fF σ n k d=some x->V σ M Fz w d v->VC (Ff M Fz n) w x v:=by
 intro k;induction k with
 |zero=>grind [fF]
 |succ k ih=>
  intro d x v h u;cases d with
  |c y=>simp only[fF,au] at h;subst h;exact u.qh.mono (λc hc=>⟨.inl hc,rfl⟩)
  |ptr b off sz=>
   simp only[fF] at h;split at h
   ·rename_i A;split at h
    ·rename_i cs E;simp only[cu] at h;obtain ⟨l,F,rfl⟩:=h;obtain ⟨c,s,rfl⟩:=u.vM E;obtain ⟨m,_⟩:=NJ E;obtain ⟨g,T,U,X,Y⟩:=R.row s m;obtain ⟨m1,G⟩:=MV F;have:=VC.cD (Fz:=Ff M Fz n) (w:=w) (cs:=l) (off:=off) c 0 (λj=>g[j]!) (.inr ⟨b,A,s⟩) (λj d K=>?_) (λj d K=>?_)
     ·simp_all
     ·obtain ⟨a,r,_⟩:=G j d K;have q:=(gg.1 r).1;have e:g[j]? = some (g[j]'(by omega)):=rG _;have W:g[j]! = g[j]'(by omega):=getElem!_pos g j (by omega);rw[Ry,cell_of_row w c j g T (0,0) U,e,W]
      grind
     ·obtain ⟨a,r,L⟩:=G j d K;have q:=(gg.1 r).1;have e:g[j]? = some (g[j]'(by omega)):=rG _
      grind
    simp_all
   simp_all
  |sl b off len aw sz=>
   simp only[fF] at h;split at h
   ·rename_i N;obtain ⟨A,ad,ax⟩:=N;split at h
    ·rename_i cs E;simp only[cu] at h;obtain ⟨l,F,rfl⟩:=h;rcases u.eY E with ⟨rfl,W,_,_,_⟩ | ⟨c,o,cap,af,T0,s,rfl,a0,ak,a1,an,_⟩
     ·subst W;exact VC.cB (nn:=Nat.blt 0 0) (es:=[]) aw none 0 (λh=>by cases h) (λ_=>rfl) (λ_ _=>undef) (λ_ h=>by simp at h) (cR _) (λi j e d h=>by simp at h) (λi j e d h=>by simp at h)
     obtain ⟨m,Z⟩:=NJ E;obtain ⟨g,T,U,X,Y⟩:=R.row s m;obtain ⟨m1,G⟩:=MV F;have aa:l.length=len * aw:=by grind
     have O:∀(i j:Nat)(e:List C)(d:C),(chunks aw len l)[i]? = some e->e[j]? = some d->j<aw/\i<len/\o=off/\∃a,cs[off+(i * aw+j)]? = some a/\fF σ n k a=some d:=by
      intro i j e d t z;obtain ⟨h3,h4⟩:=EW len l aa i e t
      grind [yc]
     have:=VC.cB (Fz:=Ff M Fz n) (w:=w) (nn:=Nat.blt 0 len) (es:=chunks aw len l) aw (some ⟨c,o,none⟩) cap (λ_=>rfl) (λh=>by cases h) (λi j=>g[o+i * aw+j]!) (λe he=>?_) (by grind [yc]) (λi j e d t z=>?_) (λi j e d t z=>?_)
     ·grind [yc]
     ·grind [List.mem_iff_getElem?,EW]
     ·obtain ⟨K,hi,rfl,a,r,L⟩:=O i j e d t z;have q:=(gg.1 r).1;rw[<-Nat.add_assoc] at r q;have e1:g[o+i * aw+j]? = some (g[o+i * aw+j]'(by omega)):=rG _;have W:g[o+i * aw+j]! = g[o+i * aw+j]'(by omega):=getElem!_pos g _ (by omega);refine ⟨c,o,rfl,.inr ⟨b,A,s⟩,?_,?_⟩
      ·grind [Go.cell_of_row]
      grind
     ·obtain ⟨K,hi,rfl,a,r,L⟩:=O i j e d t z;have q:=(gg.1 r).1;rw[<-Nat.add_assoc] at r q;have e1:g[o+i * aw+j]? = some (g[o+i * aw+j]'(by omega)):=rG _
      grind
    simp_all
   simp_all
  |fn f first cap=>
   simp only[fF] at h;split at h
   ·rename_i l1 l2 t z;simp only[au] at h;subst h;obtain ⟨m1,G⟩:=MV t;obtain ⟨m3,m4⟩:=MV z;cases u with
    |fn vs ws k1 k2 u hw=>
     refine .fn vs ws (by omega) (by omega) (λi d v a b=>?_) (λi d v a b=>?_)
     ·grind
     grind
   simp_all
  |mp b=>
   simp only[fF] at h;split at h
   ·rename_i A;split at h
    ·rename_i es ab m;simp only[cu] at h;obtain ⟨l,F,rfl⟩:=h;obtain ⟨c,rfl,s⟩:=u.DN m;obtain ⟨g,ck,U,⟨Z,_⟩,av⟩:=R.LJ m s;obtain ⟨m1,G⟩:=MV F;refine .Ld c ck g (.inr ⟨b,A,s⟩) U (by omega) (λi p e hi he=>?_) (λi p e hi he=>?_)
     ·grind [Option.map_eq_some_iff]
     grind [Option.map_eq_some_iff]
    simp_all
   simp_all
  |agg cs=>grind [fF]
  |aQ vs=>grind [fF]
  |any=>grind [fF]
theorem Nv(R:Rel σ M Fz w){n k:Nat}{d r:D}{v:Value}(h:ol σ n k d=some r)(e:V σ M Fz w d v)(σ':ar)(M':Nat->Option Nat):V σ' M' (Ff M Fz n) w r v:=by
 have plain:∀d,(fF σ n k d).map D.c=some r->V σ M Fz w d v->V σ' M' (Ff M Fz n) w r v:=by intro d h e;simp only[cu] at h;obtain ⟨x,f,rfl⟩:=h;exact .c (Ib R k d x v f e)
 cases d with
 |agg q=>
  simp only[ol,cu] at h;obtain ⟨l,j,rfl⟩:=h;obtain ⟨m1,m⟩:=MV j;cases e with
  |agg o s e=>refine .agg o (by simp_all) (λi d v a b=>?_);simp only[lY,cu] at a;obtain ⟨x,f,rfl⟩:=a;obtain ⟨y,p,g⟩:=m i x f;exact .c (Ib R k y x v g (e i y v p b))
 |_=>exact plain _ h e
theorem Iv(R:Rel σ M Fz w){n k:Nat}{d r:D}{v:Value}(h:xa σ n k d=some r)(e:V σ M Fz w d v)(σ':ar)(M':Nat->Option Nat):V σ' M' (Ff M Fz n) w r v:=by
 cases d with
 |aQ ds=>
  simp only[xa,cu] at h;obtain ⟨l,f,rfl⟩:=h;obtain ⟨m1,j⟩:=MV f;cases e with
  |aQ g m e=>
   refine .aQ g (by omega) (λi d v a b=>?_)
   grind [Nv]
 |_=>grind [xa,Nv]
theorem Rel.forget(R0:Rel σ0 M0 Fz0 w0)(R:Rel σ M Fz w)(s:bD σ0 M0 Fz0 w0 σ M Fz w)(G:∀b,b<σ0.length->σ[b]? = σ0[b]?) :
  Rel σ0 (cQ M σ0.length) (Ff M Fz σ0.length) w/\bD σ0 M0 Fz0 w0 σ0 (cQ M σ0.length) (Ff M Fz σ0.length) w:=by
 have K:nq σ0 σ:=λb A z=>⟨A,by grind,rfl⟩;have O:∀b,b<σ0.length->M b=M0 b:=λb z=>by
  obtain ⟨ab,h1,_,h2⟩:=s.keep b _ (eH z)
  simp_all
 refine ⟨⟨λb c h=>?_,λb U c h W=>?_,λc h=>?_,Gl.mono (λc h=>⟨.inl h,rfl⟩) R.gl⟩,⟨s.size,s.frame,λb c h=>?_,λc h=>⟨.inl (s.fz c h).1,(s.fz c h).2⟩,λc h=>?_,s.pP,λb A z=>⟨A,z,cR _,λ_=>?_⟩,s.out⟩⟩
 ·unfold cQ at h;split at h
  ·rename_i z;obtain ⟨h1,A,o,h2,h3,h4⟩:=R.blk b c h;have X:M0 b=some c:=by simp_all
   obtain ⟨_,u,o0,h5,_,h6⟩:=R0.blk b c X;have:u=A:=by simp_all
   subst this;refine ⟨λhf=>?_,u,o,h5,h3,?_⟩
   ·rcases hf with hf | ⟨U,E,Y⟩
    ·simp_all
    ·have:=R.inj b U c h Y;omega
   ·have Z:=(h4.down K h6).cut;have e:∀{d v},V σ0 (cQ M σ0.length) Fz w d v->V σ0 (cQ M σ0.length) (Ff M Fz σ0.length) w d v:=λh=>h.sub nq.refl (λ_ _ h=>h) (λc h=>⟨.inl h,rfl⟩) (λc j T fr h=>⟨j,h,rfl⟩);cases u with
    |cells cs=>obtain ⟨j,T,ho,hl,F⟩:=Z;exact ⟨j,T,ho,hl,λi d v x y=>⟨e (F i d v x y).1,(F i d v x y).2⟩⟩
    |map es aa=>obtain ⟨j,ho,hl,F⟩:=Z;exact ⟨j,ho,hl,λi k d n e' x y=>let ⟨a,b,c⟩:=F i k d n e' x y;⟨a,b,e c⟩⟩
    |gone n=>exact Z.elim
  simp_all
 ·unfold cQ at h W;split at h
  ·split at W
   ·exact R.inj b U c h W
   simp_all
  simp_all
 ·rcases h with h | ⟨b,_,h⟩
  ·exact R.fz c h
  ·exact (R.lt h).2
 ·grind [cQ]
 ·rcases h with h | ⟨b,_,h⟩
  ·exact s.nQ c h
  ·rcases s.kK b c h with h | h
   ·simp_all
   omega
 ·have E:=(gg.1 z).1;simp only[cQ,if_pos E]
  simp_all
theorem one_ok{ds:List D}{vs:Array Value}(hs:vs.size=ds.length)(e:∀(i:Nat) d v,ds[i]? = some d->vs[i]? = some v->V σ M Fz w d v) :
  V σ M Fz w (one ds) (if h:vs.size=1 then vs[0] else .tuple vs):=by
 match ds,hs,e with
 |[d], hs, e=>
  have f:vs.size=1:=by omega
  rw[dif_pos f];exact e 0 d _ (by simp) (rG (by omega))
 |[], hs, e=>rw[dif_neg (by grind)];exact .aQ vs hs e
 |a :: b :: l, hs, e=>rw[dif_neg (by grind)];exact .aQ vs hs e
def Oi(b:Array Value):ResultVar->Sem Value
 |.tmp t=>pure (b.getD t undef)
 |.cell x t=>do loadVar t (<-asAddr (b.getD x undef))
theorem Od(fn:Func)(b:Array Value):results fn b=(do
  let vs <-fn.results.mapM (Oi b)
  pure (if h:vs.size=1 then vs[0] else .tuple vs)):=by
 unfold results;congr 2
theorem jm(R:Rel σ M Fz w){env:List D}{a:Act}(E:dr σ M Fz w env a.tmps){fn:Func}{rs:List (Nat×Option (Option Nat))}{ds:List D}(k:fn.results.toList.mapM (KF P)=some rs)(hd:rs.mapM (Np env σ)=some ds) :
  ∃v,(results fn a.tmps).run P w=.ok v w/\V σ M Fz w (one ds) v:=by
 have p:∀(l:List ResultVar)(rs:List (Nat×Option (Option Nat)))(ds:List D),l.mapM (KF P)=some rs->rs.mapM (Np env σ)=some ds ->
   ∃vs:List Value,(l.mapM (Oi a.tmps)).run P w=.ok vs w/\vs.length=ds.length/\∀(i:Nat) d v,ds[i]? = some d->vs[i]? = some v->V σ M Fz w d v:=by
  intro l;induction l with
  |nil=>simp_all
  |cons x l ih=>
   intro rs ds q s;simp only[Uk,Option.pure_def,Option.bind_eq_bind,cC,au] at q;obtain ⟨r,k,z,A,rfl⟩:=q;simp only[Uk,Option.pure_def,Option.bind_eq_bind,cC,au] at s;obtain ⟨d,hd,F,G,rfl⟩:=s;obtain ⟨vs,O,W,h5⟩:=ih z F A G;have X:∃v,(Oi a.tmps x).run P w=.ok v w/\V σ M Fz w d v:=by
    cases x with
    |tmp t=>simp only[KF,au] at k;subst k;simp only[Np] at hd;have g:=(gg.1 hd).1;have e:a.tmps[t]? = some (a.tmps[t]'(by rw[E.1];exact g)):=rG _;refine ⟨_,rfl,?_⟩;rw[yAT,e];exact E.2 t _ _ hd e
    |cell y t=>
     simp only[KF,cu] at k;obtain ⟨n,Y,rfl⟩:=k;simp only[Np] at hd;split at hd
     ·rename_i b off sz U;simp only[cC] at hd;obtain ⟨Z,f,hg⟩:=hd;have g:=(gg.1 U).1;have e:a.tmps[y]? = some (a.tmps[y]'(by rw[E.1];exact g)):=rG _;have hv:=E.2 y _ _ U e;obtain ⟨c,hM,aa⟩:=hv.vM f;obtain ⟨K,_⟩:=NJ f;obtain ⟨h,T,hh,ab,L⟩:=R.row hM K;have j:∀(i:Nat) x,Z[i]? = some x->∃u,w.cell? ⟨c,0+i,none⟩=some u/\V σ M Fz w x u:=by
       intro i x m;have hi:=(gg.1 m).1;have e:h[i]? = some (h[i]'(by omega)):=rG _;exact ⟨_,by rw[Ry,cell_of_row w c i h T (0,0) hh];exact e,(L i _ _ m e).1⟩
      obtain ⟨v,o,N⟩:=yl (P:=P) Y hg j;refine ⟨v,?_,N⟩;rw[Ry] at o;have eg:a.tmps.getD y undef=.pointer (some ⟨c,off,none⟩):=by simp_all
      show (do loadVar t (<-asAddr (a.tmps.getD y undef)):Sem Value).run P w=_
      grind [Go.asAddr]
     simp_all
   obtain ⟨v,ad,af⟩:=X;refine ⟨v::vs,?_,by simp[W],λi d' v' hi ak=>?_⟩
   ·simp_all
   grind
 obtain ⟨vs,q,s,O⟩:=p _ _ _ k hd;refine ⟨_,?_,one_ok (vs:=vs.toArray) (by omega) (λi d v a b=>O i d v a (by simp_all))⟩
 grind [Od,Go.Sem.run_bind,Array.mapM_eq_mapM_toList,Go.Sem.run_map,Go.Result.andThen_ok,Go.Sem.run_pure]
end
theorem func_ok{P:Program}(l:P.follows .mixedOrders=true){orc:vD}(O:tV P orc){g:FuncId}{fn:Func}{U:kS}{W:Bool}{k:Nat}{ds:List D}{σ σ':ar}{r:D}{wr:List Nat}
  (X:P.funcs[g]? = some fn) (t:gM P fn W=some U) (h:evF1 P orc k U ds σ=some (r,σ',wr)) :
  Ok P g ds σ r σ'/\σ.length<=σ'.length/\∀b,b<σ.length->b∉wr->σ'[b]? = σ[b]?:=by
 unfold gM at t;split at t
 ·rename_i c E;split at t
  ·rename_i ac rs Y Z;simp only[au] at t;subst t;unfold evF1 at h;split at h
   ·rename_i aa;have ab:∀env f bT x,(x=.normal∨x=.ret)->kr P (λ_=>orc) k ac (ds++List.replicate (fn.ntmps-ds.length) (.aQ [])) σ []=some (x,env,f,bT) ->
      finish ⟨fn.params.size+fn.nfree,fn.ntmps,rs,ac,W⟩ σ env f bT=some (r,σ',wr)->Ok P g ds σ r σ'/\σ.length<=σ'.length/\∀b,b<σ.length->b∉wr->σ'[b]? = σ[b]?:=by
     intro env f bT x hx m e;obtain ⟨k1,_,k3⟩:=vI (orc:=λ_=>orc) (λ_=>O) _ _ _ _ _ _ _ _ _ m;unfold finish at e;split at e
     ·rename_i u n;dsimp only at n e;have ad:some (one u,f,bT.filter (·<σ.length))=some (r,σ',wr)->Ok P g ds σ r σ'/\σ.length<=σ'.length/\∀b,b<σ.length->b∉wr->σ'[b]? = σ[b]?:=by
       intro he;simp only[au,aT] at he;obtain ⟨rfl,rfl,rfl⟩:=he;refine ⟨λM Fz w j R hs F=>?_,k1,λb E hn=>k3 b E (λhw=>hn (by simp_all))⟩;refine calls_of_wp X E ?_;have G:dr σ M Fz w (ds++List.replicate (fn.ntmps-ds.length) (.aQ [])) (j++Array.replicate (fn.ntmps-j.size) undef):=by
        refine ⟨by simp[hs],λi d v a b=>?_⟩;rw[yBv] at a;rw[Array.getElem?_append] at b;split at a
        ·grind
        ·rename_i hi;rw[if_neg (by omega)] at b
         grind [V.undef]
       refine Kt ((Jd l (orc:=λ_=>orc) (λ_=>O) k).1 c ac σ f M Fz w _ env { tmps:=j++Array.replicate (fn.ntmps-j.size) undef,defers:=[] } [] bT x _ Y R G m λy w' M' Fz' hd s K L=>?_);obtain ⟨v,o,p⟩:=jm (P:=P) s K Z n;have post:y.defers=[]/\∃v,(results fn y.tmps).run P w'=.ok v w'/\∃z M'' Fz'',Ending.returned v=.returned z/\Rel f M'' Fz'' w'/\V f M'' Fz'' w' (one u) z/\bD σ M Fz w f M'' Fz'' w':=
        ⟨hd,v,o,v,M',Fz',rfl,s,p,L⟩
       rcases hx with rfl | rfl
       ·exact post
       ·exact post
      split at e
      ·rename_i A;simp only[bG] at A;split at e
       ·rename_i r' N;simp only[au,aT] at e;obtain ⟨rfl,rfl,rfl⟩:=e;have q:∀b,b<σ.length->f[b]? = σ[b]?:=by
         grind
        refine ⟨λM Fz w j R hs F=>?_,cR _,λ_ _ _=>rfl⟩;refine calls_of_wp X E ?_;have G:dr σ M Fz w (ds++List.replicate (fn.ntmps-ds.length) (.aQ [])) (j++Array.replicate (fn.ntmps-j.size) undef):=by
         refine ⟨by simp[hs],λi d v a b=>?_⟩;rw[yBv] at a;rw[Array.getElem?_append] at b;split at a
         ·grind
         ·rename_i hi;rw[if_neg (by omega)] at b
          grind [V.undef]
        refine Kt ((Jd l (orc:=λ_=>orc) (λ_=>O) k).1 c ac σ f M Fz w _ env { tmps:=j++Array.replicate (fn.ntmps-j.size) undef,defers:=[] } [] bT x _ Y R G m λy w' M' Fz' hd s K L=>?_);obtain ⟨v,o,p⟩:=jm (P:=P) s K Z n;obtain ⟨R2,T⟩:=Rel.forget R s L q;have post:y.defers=[]/\∃v,(results fn y.tmps).run P w'=.ok v w'/\∃z M'' Fz'',Ending.returned v=.returned z/\Rel σ M'' Fz'' w'/\V σ M'' Fz'' w' r' z/\bD σ M Fz w σ M'' Fz'' w':=
         ⟨hd,v,o,v,_,_,rfl,R2,Iv s N p _ _,T⟩
        rcases hx with rfl | rfl
        ·exact post
        ·exact post
       simp_all
      simp_all
     simp_all
    grind
   simp_all
  simp_all
 simp_all
def TblOk(P:Program)(b:FuncId->Option kS):Prop:=∀g d,b g=some d->aS P g=true/\∃fn e,P.funcs[g]? = some fn/\gM P fn e=some d
theorem evF_ok{P:Program}(f:P.follows .mixedOrders=true){b:FuncId->Option kS}(i:TblOk P b){prim:vD}(j:tV P prim)(k:Nat):∀n,tV P (evF P b prim k n):=by
 intro n;induction n with
 |zero=>intro g ds σ r σ' wr h;grind [evF]
 |succ n ih=>
  intro g ds σ r σ' wr h;simp only[evF] at h;split at h
  ·rename_i UH d;simp only[au] at h;subst h;exact j g ds σ r σ' wr d
  ·split at h
   ·rename_i l e;obtain ⟨m,fn,o,p,q⟩:=i g l e
    grind [func_ok]
   simp_all
end Go.Abs
end
