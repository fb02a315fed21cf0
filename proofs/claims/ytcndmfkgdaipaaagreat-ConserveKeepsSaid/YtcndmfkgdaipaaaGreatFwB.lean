/- DfwJ, DfwK, DfwL, DfwM, DfwWq, DfwMk, DfwN, DfwO, DfwQ, DfwR, DfwS, DfwT, DfwU -/
import Derived.Test.YtcndmfkgdaipaaaGreatFwA
import Derived.LoopN
import Derived.LoopNIn
import Derived.Orders
import Derived.OrdersIn
import Derived.RangeFuncCalls
import Derived.RangeFuncLeaves
set_option linter.all false
section
namespace Go.Abs
variable[Gl]
def Ok(P:Program)(g:FuncId)(ds:List D)(σ:ar)(r:D)(σ':ar):Prop:=
 ∀ (M : Nat -> Option Nat) (Fz : Nat -> Prop) (w : World) (b : Array Value), Rel σ M Fz w -> b.size = ds.length -> (∀ (i : Nat) d v, ds[i]? = some d -> b[i]? = some v -> V σ M Fz w d v) ->
  Calls P g b w λe w'=>∃v M' Fz',e=.returned v/\Rel σ' M' Fz' w'/\V σ' M' Fz' w' r v/\bH σ M Fz w σ' M' Fz' w'
def aV(P:Program)(g:FuncId):Bool:=
 match P.funcs[g]? with
 |some fn=>fn.body.isSome&&fn.name != "runtime.NumGoroutine"
 |none=>false
def vV(P:Program)(orc:wK):Prop:=
 ∀g ds σ r σ' wr,orc g ds σ=some (r,σ',wr)->aV P g=true/\Ok P g ds σ r σ'/\σ.length<=σ'.length/\∀b,b<σ.length->b∉wr->σ'[b]? = σ[b]?
abbrev gz:=Option Nat->wK
def ou(P:Program)(orc:gz):Prop:=∀t,vV P (orc t)
section
variable{P:Program}{σ σ':ar}{M M':Nat->Option Nat}{Fz:Nat->Prop}{w w':World}{env:List D}{a:Act}{orc:wK}
theorem IB{d:D}{es:List (Value×D×Nat)}(h:Ip σ d=some es):(d=.c (.lit (.map none))/\es=[])∨(∃b e,d=.mp b/\σ[b]? = some (.map es e))∨∃f,d=.c (.Ng f)/\es=f.map λp=>(p.1,.c p.2,0):=by
 unfold Ip at h;split at h
 ·simp_all
 ·simp_all
 ·grind
 simp_all
def ZM(ao:lm)(env:List D):D:=
 match ao with
 |.load _ x=>x.ev env
 |_=>.any
inductive Out (P:Program) (s:Sem Next) (σ:ar) (M:Nat->Option Nat) (Fz:Nat->Prop) (w:World) (at_:D):lm->ar->D->List Nat->Prop where
 |y {ao:lm} {d:D} (hc:cat ao=0) (h:Yields P s σ M Fz w d):Out P s σ M Fz w at_ ao σ d []
 |l {ao:lm} {d:D} {σ':ar} (hc:cat ao=1) (hσ:σ'=σ) (h:(∀b off sz c cs,at_=.ptr b off sz->M b=some c->σ[b]? = some (.cells cs)->∃arr T,w.heap[c]? = some (.cells arr T (0,0))/\cs.length<=arr.size/\∀(i:Nat) d v,cs[i]? = some d->arr[i]? = some v->V σ M Fz w d v/\v.oneCell'=true)->Yields P s σ M Fz w d):Out P s σ M Fz w at_ ao σ' d []
 |a {ao:lm} {d:D} {ob:Ob} (hc:cat ao=2) (h:(∀c,Fz c->c<w.heap.size)->ai P s σ M Fz w ob d):Out P s σ M Fz w at_ ao (σ++[ob]) d []
 |g {ao:lm} {d:D} {σ':ar} {wr:List Nat} (hc:cat ao=3) (h:Rel σ M Fz w->dL P s σ M Fz w σ' d):Out P s σ M Fz w at_ ao σ' d wr
theorem EN(a9:Gl.ok Fz w)(E:dB σ M Fz w env a.tmps){o:Oper}{ao:lm}{d:D}{wr:List Nat}(g:lJ P o.op o.type=some ao)(b3:Bu ao=false)
  (h:bm P orc ao env σ=some (d,σ',wr)):Out P (execOp a.eval o) σ M Fz w (ZM ao env) ao σ' d wr:=by
 cases j:o.op with
 |move x=>rw[j] at g;simp only[lJ,cE] at g;obtain ⟨G,p,rfl⟩:=g;simp only[bm,au,aX] at h;obtain ⟨rfl,rfl,rfl⟩:=h;exact .y rfl (Zn E (.inl j) p)
 |assign x=>rw[j] at g;simp only[lJ,cE] at g;obtain ⟨G,p,rfl⟩:=g;simp only[bm,au,aX] at h;obtain ⟨rfl,rfl,rfl⟩:=h;exact .y rfl (Zn E (.inr j) p)
 |pick c x y=>rw[j] at g;simp only[lJ,Option.bind_eq_bind,cM,au] at g;obtain ⟨oc,bb,G,p,oy,hy,rfl⟩:=g;simp only[bm,cE,aX] at h;obtain ⟨t,W,rfl,rfl,rfl⟩:=h;exact .y rfl (pick_ok E j bb p hy W)
 |alloc t=>rw[j] at g;simp only[lJ,cE] at g;obtain ⟨z,T,rfl⟩:=g;simp only[bm,au,aX] at h;obtain ⟨rfl,rfl,rfl⟩:=h;exact .a rfl (λO=>Zt O j T)
 |box t x=>rw[j] at g;simp only[lJ,cE] at g;obtain ⟨G,p,rfl⟩:=g;simp only[bm,cE,aX] at h;obtain ⟨cs,K,rfl,rfl,rfl⟩:=h;exact .a rfl (λO=>box_ok O E j p K)
 |build t av=>
  rw[j] at g;simp only[lJ,Option.bind_eq_bind,cM] at g;obtain ⟨z,T,u,q,g⟩:=g;cases u <;> simp only[cM,au,reduceCtorEq] at g
  ·rename_i len e;obtain ⟨n,v,qs,Y,rfl⟩:=g;simp only[bm,cE,aX] at h;obtain ⟨cs,K,rfl,rfl,rfl⟩:=h;exact .y rfl (Mn E j T (.inr ⟨len,e,n,q,v,rfl⟩) Y K)
  ·rename_i fs;obtain ⟨ps,bc,qs,Y,rfl⟩:=g;simp only[bm,cE,aX] at h;obtain ⟨cs,K,rfl,rfl,rfl⟩:=h;exact .y rfl (Mn E j T (.inl ⟨fs,ps,q,bc,rfl⟩) Y K)
 |buildSlice t len av=>
  rw[j] at g;simp only[lJ,Option.bind_eq_bind,cM] at g;obtain ⟨u,q,g⟩:=g;cases u <;> simp only[cM,reduceCtorEq] at g
  obtain ⟨n,v,z,T,g⟩:=g;split at g
  ·grind
  ·rename_i A;simp only[cM,au] at g;obtain ⟨qs,Y,rfl⟩:=g;simp only[bm,cE,aX] at h;obtain ⟨cs,K,rfl,rfl,rfl⟩:=h;exact .a rfl (λO=>UX O E j q v T A Y K)
 |load t x=>
  rw[j] at g;simp only[lJ,Option.bind_eq_bind,cM,au] at g;obtain ⟨n,v,G,p,rfl⟩:=g;simp only[bm] at h;have Z:wr=[]:=by
   split at h
   ·simp only[Option.bind_eq_bind,cM,au,aX] at h;grind
   ·simp only[Option.bind_eq_bind,cM,au,aX] at h;grind
   simp_all
  subst Z;refine .l rfl ?_ (λhR=>(load_ok E j p v hR h).2);revert h;split
  ·simp only[Option.bind_eq_bind,cM,au,aX];simp_all
  ·simp only[Option.bind_eq_bind,cM,au,aX];simp_all
  ·simp
 |store t x y=>
  rw[j] at g;simp only[lJ,Option.bind_eq_bind,cM,au] at g;obtain ⟨n,v,G,p,oy,hy,rfl⟩:=g;simp only[bm] at h;split at h
  ·rename_i b off sz L;simp only[Option.bind_eq_bind,cM] at h;obtain ⟨cs,K,xs,bd,h⟩:=h;split at h
   ·rename_i F;simp only[au,aX] at h;obtain ⟨rfl,rfl,rfl⟩:=h;exact .g rfl (λR=>WD R E j p hy v L K bd F)
   simp_all
  simp_all
 |nilCheck x=>
  rw[j] at g;simp only[lJ,cE] at g;obtain ⟨G,p,rfl⟩:=g;simp only[bm] at h;have Z:wr=[]:=by grind
  subst Z;obtain ⟨rfl,hg⟩:=ZX (P:=P) E j p h;exact .y rfl hg
 |binOp op t x y t2=>
  rw[j] at g;simp only[lJ] at g;cases q:P.underlying t with
  |none=>rw[q] at g;simp only[Option.bind_none,au] at g;subst g;simp only[bm,cE,aX] at h;obtain ⟨U,hd,rfl,rfl,rfl⟩:=h;exact .y rfl (kT E (by simp_all) (by simp_all))
  |some u=>
   rw[q] at g;simp only[Option.bind_some] at g;cases hk:Ac u with
   |none=>rw[hk] at g;simp only[au] at g;subst g;simp only[bm,cE,aX] at h;obtain ⟨U,hd,rfl,rfl,rfl⟩:=h;exact .y rfl (kT E (by simp_all) (by simp_all))
   |some k=>
    rw[hk] at g;have aa:∀neg,wL k neg x y=some ao->∃k' ab G,ao=.iZ k' ab G:=by
     intro neg be;unfold wL at be
     grind [Option.map_eq_some_iff]
    cases op <;> simp only[reduceCtorEq] at g
    ·obtain ⟨k',ab,G,rfl⟩:=aa false g;simp only[bm,cE,aX] at h;obtain ⟨b,hb,rfl,rfl,rfl⟩:=h;exact .y rfl (Oo (neg:=false) E (by simpa using j) q hk g hb)
    ·obtain ⟨k',ab,G,rfl⟩:=aa true g;simp only[bm,cE,aX] at h;obtain ⟨b,hb,rfl,rfl,rfl⟩:=h;exact .y rfl (Oo (neg:=true) E (by simpa using j) q hk g hb)
 |unOp op t x=>rw[j] at g;simp only[lJ,au] at g;subst g;simp only[bm,cE,aX] at h;obtain ⟨U,hd,rfl,rfl,rfl⟩:=h;exact .y rfl (kT E (by simp_all) (by simp_all))
 |convert s t x=>rw[j] at g;simp only[lJ,au] at g;subst g;simp only[bm,cE,aX] at h;obtain ⟨U,hd,rfl,rfl,rfl⟩:=h;exact .y rfl (kT E (by simp_all) (by simp_all))
 |makeFunc f first cap=>rw[j] at g;simp only[lJ,Option.bind_eq_bind,cM,au] at g;obtain ⟨o1,h1,o2,h2,rfl⟩:=g;simp only[bm,au,aX] at h;obtain ⟨rfl,rfl,rfl⟩:=h;exact .y rfl (mkfn_ok E j h1 h2)
 |makeMap t r=>
  rw[j] at g;cases r with
  |some _=>grind [lJ]
  |none=>simp only[lJ,au] at g;subst g;simp only[bm,au,aX] at h;obtain ⟨rfl,rfl,rfl⟩:=h;exact .a rfl (λO=>WP j)
 |makeSlice t x y=>
  rw[j] at g;simp only[lJ,Option.bind_eq_bind,cM] at g;obtain ⟨u,q,g⟩:=g;cases u <;> simp only[cM,reduceCtorEq] at g
  obtain ⟨n,v,z,T,i,X,g⟩:=g;split at g
  ·grind
  ·rename_i A;simp only[cM,au] at g;obtain ⟨G,p,oy,hy,rfl⟩:=g;simp only[bm,Option.bind_eq_bind,cM] at h;obtain ⟨l,hl,c,bh,h⟩:=h;split at h
   ·rename_i F;simp only[au,aX] at h;obtain ⟨rfl,rfl,rfl⟩:=h;exact .a rfl (λO=>Sk O E j q v T X A p hy hl bh F)
   simp_all
 |slice t x lo X mx=>
  rw[j] at g;cases mx with
  |some mx=>
   cases lo with
   |none=>grind [lJ]
   |some lo => cases X with
    |none=>grind [lJ]
    |some X=>
     simp only[lJ,Option.bind_eq_bind,cM] at g;obtain ⟨u,q,g⟩:=g;cases u <;> simp only[cM,au,reduceCtorEq] at g
     obtain ⟨n,v,G,p,bi,ax,bk,a0,b4,bl,rfl⟩:=g;simp only[bm] at h;split at h
     ·rename_i b off len es sz L;simp only[Option.bind_eq_bind,cM] at h;obtain ⟨cs,hr,m,h0,h',h1,l,h2,h⟩:=h;split at h
      ·rename_i F;obtain ⟨rfl,rfl⟩:=F;simp only[au,aX] at h;obtain ⟨rfl,rfl,rfl⟩:=h;exact .y rfl (slc3xok (P:=P) E j p ax a0 bl q v L hr (cM.2 h0) (cM.2 h1) (cM.2 h2))
      simp_all
     simp_all
  |none=>
   simp only[lJ,Option.bind_eq_bind,cM] at g;obtain ⟨u,q,g⟩:=g;cases u <;> simp only[cM,au,reduceCtorEq] at g
   ·subst g;simp only[bm,cE,aX] at h;obtain ⟨U,hd,rfl,rfl,rfl⟩:=h;exact .y rfl (kT E (by simp_all) (by simp_all))
   rotate_left
   ·rename_i m e;split at g
    ·simp only[cM] at g;obtain ⟨k,hk,G,p,g⟩:=g;split at g
     ·rename_i h1;subst h1;simp only[au] at g;subst g;simp only[bm] at h;split at h
      ·rename_i cs off L;split at h
       ·rename_i ad;simp only[au,aX] at h;obtain ⟨rfl,rfl,rfl⟩:=h;exact .y rfl (slca_ok (P:=P) E j p q hk L ad)
       ·simp at h
      ·simp at h
     ·simp at g
    ·simp at g
   ·obtain ⟨n,v,G,p,bi,ax,bk,a0,rfl⟩:=g;simp only[bm] at h;have Z:wr=[]:=by
     split at h
     ·simp only[Option.bind_eq_bind,cM,au,aX] at h;grind
     ·grind [Option.bind_eq_some_iff]
     ·grind [Option.bind_eq_some_iff]
     simp_all
    subst Z;obtain ⟨rfl,hg⟩:=slc_ok (P:=P) E j p ax a0 q v h;exact .y rfl hg
 |fieldAddr s x f=>
  rw[j] at g;simp only[lJ,Option.bind_eq_bind,cM] at g;obtain ⟨u,q,g⟩:=g;cases u <;> simp only[cM,reduceCtorEq] at g
  obtain ⟨fd,a1,n,v,g⟩:=g;split at g
  ·grind
  ·rename_i A;simp only[cM,au] at g;obtain ⟨G,p,rfl⟩:=g;simp only[bm] at h;have Z:wr=[]:=by
    grind
   subst Z;obtain ⟨rfl,hg⟩:=fld_ok (P:=P) E j p q a1 v A h;exact .y rfl hg
 |field t x f=>
  rw[j] at g;simp only[lJ,Option.bind_eq_bind,cM] at g;obtain ⟨u,q,g⟩:=g;cases u <;> simp only[cM,au,reduceCtorEq] at g
  obtain ⟨fd,a1,n,v,G,p,rfl⟩:=g;simp only[bm] at h;split at h
  ·rename_i cs L;simp only[cE,aX] at h;obtain ⟨U,hd,rfl,rfl,rfl⟩:=h;exact .y rfl (part_ok E j p q a1 v L hd)
  simp_all
 |indexAddr t x i=>
  rw[j] at g;simp only[lJ,Option.bind_eq_bind,cM] at g;obtain ⟨u,q,g⟩:=g;cases u <;> simp only[cM,reduceCtorEq] at g
  ·rename_i e;obtain ⟨n,v,g⟩:=g;split at g
   ·grind
   ·rename_i A;simp only[cM,au] at g;obtain ⟨G,p,oi,X,rfl⟩:=g;simp only[bm] at h;have Z:wr=[]:=by
     grind [Option.bind_eq_some_iff]
    subst Z;obtain ⟨rfl,hg⟩:=idx_ok (P:=P) E j p X q v A h;exact .y rfl hg
  ·rename_i len e;obtain ⟨n,v,g⟩:=g;split at g
   ·grind
   ·rename_i A;simp only[cM,au] at g;obtain ⟨G,p,oi,X,rfl⟩:=g;simp only[bm] at h;have Z:wr=[]:=by
     simp only[Option.bind_eq_bind,cM] at h;obtain ⟨_,_,_,_,h⟩:=h;split at h
     ·simp_all
     ·simp_all
     ·grind
     simp_all
    subst Z;obtain ⟨rfl,hg⟩:=NK (P:=P) a9 E j p X q v h;exact .y rfl hg
 |index t x i=>
  rw[j] at g;simp only[lJ,Option.bind_eq_bind,cM] at g;obtain ⟨u,q,g⟩:=g;cases u <;> simp only[cM,au,reduceCtorEq] at g
  ·subst g;simp only[bm,cE,aX] at h;obtain ⟨U,hd,rfl,rfl,rfl⟩:=h;exact .y rfl (kT E (by simp_all) (by simp_all))
  ·rename_i len e;obtain ⟨sz,bt,n,v,G,p,oi,X,rfl⟩:=g;simp only[bm,Option.bind_eq_bind,cM] at h;obtain ⟨z,T,k,hk,h⟩:=h;split at h
   ·rename_i cs L;simp only[cE,aX] at h;obtain ⟨U,hd,rfl,rfl,rfl⟩:=h;exact .y rfl (aidx_ok E j p X q bt v L T hk hd)
   simp_all
 |lookup t m k ok=>
  rw[j] at g;simp only[lJ,Option.bind_eq_bind,cM] at g;obtain ⟨u,q,g⟩:=g;cases u <;> simp only[cM,reduceCtorEq] at g
  rename_i kt e;obtain ⟨kd,af,g⟩:=g;split at g
  ·rename_i hs;simp only[cM,au] at g;obtain ⟨zero,T,om,hm,a6,hk,rfl⟩:=g;simp only[bm,Option.bind_eq_bind,cM,au,aX] at h;obtain ⟨kv,ak,es,a7,r,hr,rfl,rfl,rfl⟩:=h;exact .g rfl (λR=>Uh R E j q af hs T hm hk ak (IB a7) hr rfl)
  ·simp at g
 |mapUpdate t m k x | insert t m k x=>
  rw[j] at g;simp only[lJ,Option.bind_eq_bind,cM] at g;obtain ⟨u,q,g⟩:=g;cases u <;> simp only[cM,reduceCtorEq] at g
  rename_i kt e;obtain ⟨kd,af,g⟩:=g;split at g
  ·rename_i hs;simp only[cM,au] at g;obtain ⟨om,hm,a6,hk,G,p,rfl⟩:=g;simp only[bm,Option.bind_eq_bind,cM] at h;obtain ⟨kv,ak,h⟩:=h;split at h
   ·rename_i b L;split at h
    ·rename_i es a2 hb;simp only[cM] at h;obtain ⟨r,hr,h⟩:=h;have:=λR=>upd_ok (P:=P) (σ:=σ) (M:=M) (Fz:=Fz) (w:=w) R E (by first | exact .inl j | exact .inr j) q af hs hm hk p ak L hb hr;split at h
     ·simp only[au,aX] at h;obtain ⟨rfl,rfl,rfl⟩:=h;exact .g rfl this
     ·simp only[au,aX] at h;obtain ⟨rfl,rfl,rfl⟩:=h;exact .g rfl this
    simp_all
   simp_all
  simp_all
 |extract x i=>
  rw[j] at g;simp only[lJ,Option.bind_eq_bind,cM,au] at g;obtain ⟨G,p,rfl⟩:=g;simp only[bm] at h;split at h
  ·rename_i ds L;simp only[cE,aX] at h;obtain ⟨U,hd,rfl,rfl,rfl⟩:=h;exact .y rfl (PH E j p L hd)
  simp_all
 |call c=>
  obtain ⟨an,args,b5⟩:=c;rw[j] at g;cases an with
  |value f=>grind [lJ,Option.bind_eq_some_iff,Bu]
  |invoke r m=>grind [lJ]
  |builtin b=>
   cases b with
   |len=>
    simp only[lJ,Option.bind_eq_bind,cM] at g;obtain ⟨t,W,x,N,g⟩:=g;split at g
    ·grind
    ·rename_i hs;simp only[ne_eq,UA] at hs;simp only[cM] at g;obtain ⟨u,q,g⟩:=g;cases u <;> simp only[cE,au,reduceCtorEq] at g
     ·subst g;simp only[bm,cE,aX] at h;obtain ⟨U,hd,rfl,rfl,rfl⟩:=h;exact .y rfl (kT E (by simp_all) (by simp_all))
     ·obtain ⟨G,p,rfl⟩:=g;simp only[bm,cE,aX] at h;obtain ⟨n,v,rfl,rfl,rfl⟩:=h;exact .y rfl (len_ok E j W N hs p q v)
     ·rename_i n e;subst g;simp only[bm,aP.ev,au,aX] at h;obtain ⟨rfl,rfl,rfl⟩:=h;exact .y rfl (Ur j W N hs q)
     ·obtain ⟨G,p,rfl⟩:=g;simp only[bm,cE,aX] at h;obtain ⟨es,a7,rfl,rfl,rfl⟩:=h;refine .g rfl (λR=>VP R E j W N hs p q ?_)
      grind [IB]
   |append=>
    simp only[lJ,Option.bind_eq_bind,cM] at g;obtain ⟨t,W,t1,bu,s,a5,x,N,u,q,bv,bw,g⟩:=g;cases u <;> cases bv <;> simp only[cM,reduceCtorEq] at g
    obtain ⟨n,v,i,X,z,T,g⟩:=g;split at g
    ·grind
    ·rename_i A;simp only[cM,au] at g;obtain ⟨os,hs,G,p,rfl⟩:=g;simp only[bm] at h;exact .g rfl (λR=>UD R E j W bu a5 N q bw v X T A hs p h)
   |copy=>
    simp only[lJ,Option.bind_eq_bind,cM] at g;obtain ⟨t,W,s,a5,x,N,u,q,g⟩:=g;cases u <;> simp only[cM,reduceCtorEq] at g
    obtain ⟨n,v,g⟩:=g;split at g
    ·grind
    ·rename_i A;simp only[cM,au] at g;obtain ⟨os,hs,G,p,rfl⟩:=g;simp only[bm] at h;split at h
     ·rename_i b off len es sz L;simp only[Option.bind_eq_bind,cM,cE] at h;obtain ⟨cs,hr,k,⟨m,hm,hk⟩,new,a8,h⟩:=h;split at h
      ·rename_i F;obtain ⟨rfl,ad⟩:=F;simp only[au,aX] at h;obtain ⟨rfl,rfl,rfl⟩:=h;exact .g rfl (λR=>Dx R E j W a5 N q v A hs p L hr hm hk.symm a8 ad)
      simp_all
     simp_all
   |clear=>
    simp only[lJ,Option.bind_eq_bind,cM] at g;obtain ⟨t,W,x,N,u,q,g⟩:=g;cases u <;> simp only[cM,reduceCtorEq] at g
    obtain ⟨n,v,z,T,g⟩:=g;split at g
    ·grind
    ·rename_i A;simp only[cM,au] at g;obtain ⟨G,p,rfl⟩:=g;simp only[bm] at h;split at h
     ·rename_i b off len es sz L;simp only[Option.bind_eq_bind,cM] at h;obtain ⟨cs,hr,h⟩:=h;split at h
      ·rename_i F;obtain ⟨rfl,ad,b0⟩:=F;simp only[au,aX] at h;obtain ⟨rfl,rfl,rfl⟩:=h;exact .g rfl (λR=>clr_ok R E j W N q T (λe=>A (.inl e)) b0 p L hr ad)
      simp_all
     simp_all
   |delete=>
    simp only[lJ,Option.bind_eq_bind,cM] at g;obtain ⟨t,W,m,b1,k,b2,u,q,g⟩:=g;cases u <;> simp only[cM,reduceCtorEq] at g
    rename_i kt e;obtain ⟨kd,af,g⟩:=g;split at g
    ·rename_i hs;simp only[cM,au] at g;obtain ⟨om,hm,a6,hk,rfl⟩:=g;simp only[bm,Option.bind_eq_bind,cM] at h;obtain ⟨kv,ak,h⟩:=h;split at h
     ·rename_i b L;split at h
      ·rename_i es a2 hb;simp only[cM] at h;obtain ⟨r,hr,h⟩:=h;have:=λR=>del_ok (P:=P) (σ:=σ) (M:=M) (Fz:=Fz) (w:=w) R E j W b1 b2 q af hs hm hk ak L hb hr;split at h
       ·simp only[au,aX] at h;obtain ⟨rfl,rfl,rfl⟩:=h;exact .g rfl this
       ·simp only[au,aX] at h;obtain ⟨rfl,rfl,rfl⟩:=h;exact .g rfl this
      simp_all
     simp_all
    simp_all
   |min=>simp only[lJ,au] at g;subst g;simp only[bm,cE,aX] at h;obtain ⟨U,hd,rfl,rfl,rfl⟩:=h;exact .y rfl (kT E (by simp_all) (by simp_all))
   |max=>simp only[lJ,au] at g;subst g;simp only[bm,cE,aX] at h;obtain ⟨U,hd,rfl,rfl,rfl⟩:=h;exact .y rfl (kT E (by simp_all) (by simp_all))
   |complex=>simp only[lJ,au] at g;subst g;simp only[bm,cE,aX] at h;obtain ⟨U,hd,rfl,rfl,rfl⟩:=h;exact .y rfl (kT E (by simp_all) (by simp_all))
   |real=>simp only[lJ,au] at g;subst g;simp only[bm,cE,aX] at h;obtain ⟨U,hd,rfl,rfl,rfl⟩:=h;exact .y rfl (kT E (by simp_all) (by simp_all))
   |imag=>simp only[lJ,au] at g;subst g;simp only[bm,cE,aX] at h;obtain ⟨U,hd,rfl,rfl,rfl⟩:=h;exact .y rfl (kT E (by simp_all) (by simp_all))
   |_=>grind [lJ]
 |_=>grind [lJ]
theorem evOp_ok(R:Rel σ M Fz w)(E:dB σ M Fz w env a.tmps){o:Oper}{ao:lm}{d:D}{wr:List Nat}(j:lJ P o.op o.type=some ao)(f:Bu ao=false)
  (h:bm P orc ao env σ=some (d,σ',wr)):dL P (execOp a.eval o) σ M Fz w σ' d:=by
 cases EN (M:=M) (Fz:=Fz) (w:=w) R.gl E j f h with
 |y _ e=>exact e.gives R
 |l _ i e=>rw[i];exact (e λb off sz c n _ k m=>R.row k m).gives R
 |a _ e=>exact (e R.fz).gives R
 |g _ e=>grind
theorem ur{op:Op}{ty:TypeId}{ao:lm}(h:comp P op ty=some ao) :
  (∃f args b d os,op=.call { callee:=.value f,args:=args,argTypes:=b }/\bW f=some d/\IW args=some os/\ao=.call d os)∨(lJ P op ty=some ao/\Bu ao=false/\YR ao=false):=by
 unfold comp at h
 grind
end
end Go.Abs
end
section
namespace Go.Abs
variable[Gl]
structure aH where
 dst:Option Nat
 op:lm
 g:Option (Nat×Bool)
 deriving Inhabited
def oE(env:List D):Option Nat->D->List D
 |some t,d=>env.set t d
 |none,_=>env
def gS(env:List D):Option (Nat×Bool)->Option Bool
 |none=>some true
 |some (t, want)=>
  match env[t]? with
  |some (.c (.lit (.bool b)))=>some (b == want)
  |some (.aS [])=>some false
  |_=>none
def fi(P:Program)(orc:gz)(o:aH)(env:List D)(σ:ar):Option (List D×ar×List Nat):=
 match gS env o.g with
 |some true=>(bm P (orc o.dst) o.op env σ).map λr=>(oE env o.dst r.1,r.2.1,r.2.2)
 |some false=>some (oE env o.dst (.aS []),σ,[])
 |none=>none
def py(P:Program)(orc:gz):List aH->List D->ar->Option (List D×ar×List Nat)
 |[],env,σ=>some (env,σ,[])
 |o :: os, env, σ=>
  match fi P orc o env σ with
  |some (b, e, w1)=>
   match py P orc os b e with
   |some (d,aA,w2)=>some (d,aA,w1++w2)
   |none=>none
  |none=>none
def z_(ops:Array Oper):Option (Nat×Bool)->Option (Option (Nat×Bool))
 |none=>some none
 |some (j, want)=>
  match (ops[j]?).bind (·.dst) with
  |some t=>some (some (t,want))
  |none=>none
def bx(P:Program)(ops:Array Oper)(o:Oper):Option aH:=
 match z_ ops o.guard,comp P o.op o.type with
 |some g,some b=>some ⟨o.dst,b,g⟩
 |_,_=>none
section
variable{P:Program}{σ σ':ar}{M M':Nat->Option Nat}{Fz Fz':Nat->Prop}{w w':World}{env env':List D}{a:Act}{orc:wK}
theorem dB.mono(E:dB σ M Fz w env a.tmps)(j:bH σ M Fz w σ' M' Fz' w'):dB σ' M' Fz' w' env a.tmps:=
 ⟨E.1,λi d v o s=>(E.2 i d v o s).mono j⟩
theorem dB.put(E:dB σ M Fz w env a.tmps){d:D}{v:Value}(j:Option Nat)(z:V σ M Fz w d v):dB σ M Fz w (oE env j d) (a.put j v).tmps:=by
 cases j with
 |none=>exact E
 |some t=>
  refine ⟨by simp[Act.put,oE,E.1],λi u x o s=>?_⟩;simp only[oE,yBC] at o;simp only[Act.put,yAQ] at s;by_cases e:t=i
  ·simp_all
  ·rw[if_neg e] at o s;exact E.2 i u x o s
theorem V.undef:V σ M Fz w (.aS []) undef:=.aS #[] rfl (λi d v h=>by simp at h)
theorem oT(E:dB σ M Fz w env a.tmps){ops:Array Oper}{o:Oper}{g:Option (Nat×Bool)}{b:Bool}(f:z_ ops o.guard=some g)(h:gS env g=some b) :
  Region.wanted o (yielded ops a.tmps)=b:=by
 unfold Region.wanted;cases k:o.guard with
 |none=>grind [z_,gS]
 |some p=>
  obtain ⟨j,l⟩:=p;rw[k] at f;simp only[z_] at f;split at f
  ·rename_i t n;simp only[au] at f;subst f;simp only[gS] at h;simp only[yielded,n,Option.bind_some];split at h
   ·rename_i q i;have d:=(gC.1 i).1;have e:a.tmps[t]? = some (a.tmps[t]'(by rw[E.1];exact d)):=sI _;have:=(E.2 t _ _ i e).cj
    simp_all
   ·rename_i i;have d:=(gC.1 i).1;have e:a.tmps[t]? = some (a.tmps[t]'(by rw[E.1];exact d)):=sI _;have m:=E.2 t _ _ i e;generalize r:a.tmps[t]'(by grind)=x at m e;rw[e];simp only[au] at h;subst h;cases m with
    |aS s=>simp_all
   simp_all
  simp_all
theorem call_ok(E:dB σ M Fz w env a.tmps){o:Oper}{f:Operand}{args:Array Operand}{s:Array TypeId}{t:aP}{os:List aP}{g:FuncId}{ds:List D}
  (O:o.op=.call { callee:=.value f,args:=args,argTypes:=s }) (R:bW f=some t) (u:IW args=some os)
  (y:(∃first cap,t.ev env=.c (.fn (.func g) first cap)/\ds=first.map .c++os.map (aP.ev env)++cap.map .c)∨(∃first cap,t.ev env=.fn (.func g) first cap/\ds=first++os.map (aP.ev env)++cap))
  (h:aV P g=true):∃b:Array Value,(execOp a.eval o).run P w=.ok (.enter g b) w/\b.size=ds.length/\∀(i:Nat) d v,ds[i]? = some d->b[i]? = some v->V σ M Fz w d v:=by
 obtain ⟨U,W⟩:=Kx E u;have n:=my E R;have p:∀(first cap:List D)(b j:Array Value),a.eval f=.func (.func g) b j->ds=first++os.map (aP.ev env)++cap->b.size=first.length->j.size=cap.length ->
   (∀(i:Nat) d v,first[i]? = some d->b[i]? = some v->V σ M Fz w d v)->(∀(i:Nat) d v,cap[i]? = some d->j[i]? = some v->V σ M Fz w d v) ->
   ∃b:Array Value,(execOp a.eval o).run P w=.ok (.enter g b) w/\b.size=ds.length/\∀(i:Nat) d v,ds[i]? = some d->b[i]? = some v->V σ M Fz w d v:=by
  intro first cap b j e hd z A k l
  refine ⟨b++args.map a.eval++j,?_,by simp_all,λi d v m r=>?_⟩
  ·unfold aV at h;split at h
   ·rename_i fn F;simp only[bN,JP,ne_eq] at h;obtain ⟨X,G⟩:=h;have K:fn.body.isNone=false:=by simp_all
    simp only[execOp,O,resolve,e,Deferred.ofValue,Sem.run_bind,Sem.run_pure,Result.andThen_ok,invoke,callFunc,run_program,F,nB,G,K,cw,b_]
   simp_all
  grind
 rcases y with ⟨first,cap,L,hd⟩ | ⟨first,cap,L,hd⟩
 ·rw[L] at n;have q:=n.qC;generalize e:a.eval f=T at q;cases q with
  |fn b j z A k l=>
   refine p _ _ b j e hd (by grind) (by grind) (λi d v m r=>?_) (λi d v m r=>?_)
   ·simp only[mE,cE] at m;obtain ⟨x,N,rfl⟩:=m;exact .c (k i x v N r)
   ·simp only[mE,cE] at m;obtain ⟨x,N,rfl⟩:=m;exact .c (l i x v N r)
 ·rw[L] at n;generalize e:a.eval f=T at n;cases n with
  |fn b j z A k l=>exact p _ _ b j e hd z A k l
theorem Mw(O:vV P orc)(R:Rel σ M Fz w)(E:dB σ M Fz w env a.tmps){o:Oper}{ao:lm}{d:D}{wr:List Nat}{Q:Exit->Act->World->Prop}(F:comp P o.op o.type=some ao)
  (h:bm P orc ao env σ=some (d,σ',wr)) (K:Act->World->Prop)
  (t:∀v w' M' Fz',Rel σ' M' Fz' w'->V σ' M' Fz' w' d v->bH σ M Fz w σ' M' Fz' w'->σ.length<=σ'.length->K (a.put o.dst v) w'):o.wp P a w K Q:=by
 rcases ur F with ⟨f,args,G,u,os,j,L,k,rfl⟩ | ⟨l,i,_⟩
 ·simp only[bm] at h;have x:∀g ds,orc g ds σ=some (d,σ',wr) ->
    ((∃first cap,u.ev env=.c (.fn (.func g) first cap)/\ds=first.map .c++os.map (aP.ev env)++cap.map .c)∨(∃first cap,u.ev env=.fn (.func g) first cap/\ds=first++os.map (aP.ev env)++cap))->o.wp P a w K Q:=by
   intro g ds N m;obtain ⟨n,p,q,_⟩:=O g ds σ d σ' wr N;obtain ⟨T,b,hs,r⟩:=call_ok (P:=P) E j L k m n;unfold Oper.wp;rw[b];refine (p M Fz w T R hs r).mono λe w' U=>?_
   grind
  grind
 ·obtain ⟨W,v,w',M',b,s,y,z,A,q⟩:=evOp_ok R E l i h;unfold Oper.wp;rw[b];rcases s with rfl | ⟨rfl,rfl⟩
  ·exact t v w' M' Fz y z A q
  ·exact t _ w' M' Fz y z A q
theorem JU{orc:gz}(O:ou P orc)(R:Rel σ M Fz w)(E:dB σ M Fz w env a.tmps){ops:Array Oper}{i:Nat}{o:Oper}{ao:aH}{wr:List Nat}{Q:Exit->Act->World->Prop}(n:ops[i]? = some o)(f:bx P ops o=some ao)
  (h:fi P orc ao env σ=some (env',σ',wr)) (K:Act->World->Prop)
  (p:∀j w' M' Fz',j.defers=a.defers->Rel σ' M' Fz' w'->dB σ' M' Fz' w' env' j.tmps->bH σ M Fz w σ' M' Fz' w'->σ.length<=σ'.length->K j w'):wpOp P ops Q i K a w:=by
 unfold bx at f;split at f
 ·rename_i g s q k;simp only[au] at f;subst f;unfold fi at h;have e:∀v,(a.put o.dst v).defers=a.defers:=λv=>by cases o.dst <;> rfl
  split at h
  ·rename_i l;have b:=oT E q l;simp only[cE] at h;obtain ⟨⟨d,t,bU⟩,m,h⟩:=h;simp only[aX] at h;obtain ⟨rfl,rfl,rfl⟩:=h;unfold wpOp;rw[n];simp only[b,if_true];exact .inl (Mw (O o.dst) R E k m K λv w' M' Fz' u x r y=>p _ w' M' Fz' (e v) u ((E.mono r).put o.dst x) r y)
  ·rename_i l;have b:=oT E q l;simp only[au,aX] at h;obtain ⟨rfl,rfl,rfl⟩:=h;unfold wpOp;rw[n];simp only[b,b_,cw];exact p _ w M Fz (e _) R (E.put o.dst V.undef) (bH.refl R) (cX _)
  simp_all
 simp_all
theorem ops_wp{orc:gz}(O:ou P orc){ops:Array Oper}{Q:Exit->Act->World->Prop}:∀(os:List aH)(k:Nat)(σ σ':ar)(M:Nat->Option Nat)(Fz:Nat->Prop)(w:World)(env env':List D)(a:Act)(wr:List Nat),
  (∀j ao,os[j]? = some ao->∃o,ops[k+j]? = some o/\bx P ops o=some ao)->Rel σ M Fz w->dB σ M Fz w env a.tmps->py P orc os env σ=some (env',σ',wr) ->
  (∀g w' M' Fz',g.defers=a.defers->Rel σ' M' Fz' w'->dB σ' M' Fz' w' env' g.tmps->bH σ M Fz w σ' M' Fz' w'->σ.length<=σ'.length->Q .normal g w') ->
  wpOps P ops Q (List.range' k os.length) a w:=by
 intro os;induction os with
 |nil=>intro k σ σ' M Fz w env env' a wr _ R E h i;simp only[py,au,aX] at h;obtain ⟨rfl,rfl,_⟩:=h;exact i a w M Fz rfl R E (bH.refl R) (cX _)
 |cons ao os ih=>
  intro k σ σ' M Fz w env env' a wr b R E h i;simp only[py] at h;split at h
  ·rename_i d l w1 v;split at h
   ·rename_i e x w2 y;simp only[au,aX] at h;obtain ⟨rfl,rfl,_⟩:=h;obtain ⟨o,Y,m⟩:=b 0 ao (by simp);simp only[List.length_cons,List.range'_succ];rw[wpOps_cons];refine JU O R E (by omega) m v _ λz w' A n hd F G p f=>?_;refine ih (k+1) l x A n w' d e z w2 (λj q Z=>?_) F G y λK r L s N T U t u=>?_
    ·obtain ⟨o',W,X⟩:=b (j+1) q (by simp_all)
     grind
    ·exact i K r L s (by simp_all) T U (p.trans t f) (lK f u)
   simp_all
  simp_all
end
end Go.Abs
end
section
namespace Go.Abs
variable[Gl]
def sK:lm->List aP
 |.Ba x=>[x]
 |.pick c a b=>[c,a,b]
 |.gen op _=>op.operands.toList.filterMap bW
 |.box x=>[x]
 |.alloc _=>[]
 |.build _ e=>e.map (·.2.2)
 |.js _ _ _ e=>e.map (·.2.2)
 |.load _ a=>[a]
 |.store _ a x=>[a,x]
 |.mT x=>[x]
 |.iZ _ _ x=>[x]
 |.Ik _ x=>[x]
 |.idx _ _ x i=>[x,i]
 |.Wf _ x g h=>x::(g.toList++h.toList)
 |.len x=>[x]
 |.Zp x=>[x]
 |.mk _ _ _ l c=>[l,c]
 |.vq=>[]
 |.lookup _ _ m k _=>[m,k]
 |.tH _ m k x=>[m,k,x]
 |.extract x _=>[x]
 |.EL _ f c=>f++c
 |.part _ _ x=>[x]
 |.Db _ _ _ x i=>[x,i]
 |.append _ _ s x=>[s,x]
 |.copy _ d s=>[d,s]
 |.del _ m k=>[m,k]
 |.TW _ x g h j=>[x,g,h,j]
 |.FK _ x=>[x]
 |.clr _ _ x=>[x]
 |.call f as=>f::as
theorem Cn{env env':List D}:∀(ps:List (Nat×Nat×aP))(cs:List D),(∀x∈ps.map (·.2.2),x.ev env=x.ev env')->rc env cs ps=rc env' cs ps:=by
 intro ps;induction ps with
 |nil=>intro cs _;rfl
 |cons p ps ih=>
  intro cs h;obtain ⟨o,n,x⟩:=p;simp only[rc,h x (by simp)]
  simp_all
theorem yf{env env':List D}(d m:Nat)(o:Option aP)(h:∀x∈o.toList,x.ev env=x.ev env'):oS env d m o=oS env' d m o:=by
 cases o with
 |none=>rfl
 |some x=>grind [oS]
theorem OA{P:Program}{op:Op}{ty:TypeId}{env env':List D}(d:∀cs b,op≠.select cs b)(h:∀x∈op.operands.toList.filterMap bW,x.ev env=x.ev env'):oQ P op ty env=oQ P op ty env':=by
 have e:∀x∈op.operands.toList,((bW x).map (aP.ev env))=((bW x).map (aP.ev env')):=by
  intro x e;cases f:bW x with
  |none=>rfl
  |some o=>grind
 unfold oQ;have g:op.operands.toList.all (λx=>(((bW x).map (aP.ev env)).bind D.de).isSome)=op.operands.toList.all (λx=>(((bW x).map (aP.ev env')).bind D.de).isSome):=by grind
 grind [Go.execOp_congr]
def Ia:lm->Prop
 |.gen op _=>∀d b,op≠.select d b
 |_=>True
theorem zc{P:Program}{orc:wK}{ao:lm}{env env':List D}{σ:ar}(hs:Ia ao)(h:∀x∈sK ao,x.ev env=x.ev env'):bm P orc ao env σ=bm P orc ao env' σ:=by
 cases ao with
 |gen op ty=>simp only[bm,OA hs h]
 |build z g=>simp only[bm,Cn g z h]
 |js n l z g=>simp only[bm,Cn g _ h]
 |Wf e x j p=>
  simp only[bm,h x (by simp[sK])];have r:∀d m,oS env d m j=oS env' d m j:=λd m=>yf d m j (λy q=>h y (by grind [sK]));have s:∀d m,oS env d m p=oS env' d m p:=λd m=>yf d m p (λy q=>h y (by grind [sK]))
  simp_all
 |EL f a b=>grind [List.map_congr_left,sK,bm]
 |call f a=>grind [List.map_congr_left,sK,bm]
 |idx e o x i=>cases o <;> simp only[bm,h x (by simp[sK]),h i (by simp[sK])]
 |Ba x=>grind [bm,sK]
 |pick c a b=>grind [bm,sK]
 |box x=>grind [bm,sK]
 |alloc z=>rfl
 |load n x=>grind [bm,sK]
 |store n x y=>grind [bm,sK]
 |mT x=>grind [bm,sK]
 |iZ k n x=>grind [bm,sK]
 |Ik o x=>grind [bm,sK]
 |len x=>grind [bm,sK]
 |Zp x=>grind [bm,sK]
 |mk e b z x y=>grind [bm,sK]
 |vq=>rfl
 |lookup k z x y o=>grind [bm,sK]
 |tH k x y z=>simp only[bm,h x (by simp[sK]),h y (by simp[sK]),h z (by simp[sK])]
 |extract x i=>grind [bm,sK]
 |part o n x=>grind [bm,sK]
 |Db e l n x y=>grind [bm,sK]
 |append e b x y=>grind [bm,sK]
 |copy e x y=>simp only[bm,h x (by simp[sK]),h y (by simp[sK])]
 |del k x y=>grind [bm,sK]
 |TW e x y z u=>simp only[bm,h x (by simp[sK]),h y (by simp[sK]),h z (by simp[sK]),h u (by simp[sK])]
 |FK m x=>grind [bm,sK]
 |clr e z x=>grind [bm,sK]
theorem mU{P:Program}{op:Op}{ty:TypeId}{ao:lm}(h:comp P op ty=some ao):Ia ao:=by
 rcases ur h with ⟨f,args,d,i,os,rfl,_,_,rfl⟩ | ⟨_,_,j⟩
 ·trivial
 ·cases ao with
  |gen e g=>
   intro k b l
   grind [YR]
  |_=>trivial
theorem Rb{P:Program}{orc:wK}(O:vV P orc){ao:lm}{env:List D}{σ σ':ar}{d:D}{wr:List Nat}(h:bm P orc ao env σ=some (d,σ',wr)) :
  σ.length<=σ'.length/\∀b,b<σ.length->b∉wr->σ'[b]? = σ[b]?:=by
 have same:σ'=σ->σ.length<=σ'.length/\∀b,b<σ.length->b∉wr->σ'[b]? = σ[b]?:=by simp_all
 have app:∀g,σ'=σ++[g]->σ.length<=σ'.length/\∀b,b<σ.length->b∉wr->σ'[b]? = σ[b]?:=by grind
 have set:∀b g,σ'=σ.set b g->wr=[b]->σ.length<=σ'.length/\∀b,b<σ.length->b∉wr->σ'[b]? = σ[b]?:=by grind
 cases ao with
 |call f args=>
  simp only[bm] at h;split at h
  ·exact ⟨(O _ _ _ _ _ _ h).2.2.1,(O _ _ _ _ _ _ h).2.2.2⟩
  ·exact ⟨(O _ _ _ _ _ _ h).2.2.1,(O _ _ _ _ _ _ h).2.2.2⟩
  simp_all
 |Ba x=>grind [bm]
 |pick c a b=>simp only[bm,cE,aX] at h;grind
 |gen op ty=>simp only[bm,cE,aX] at h;grind
 |box x=>simp only[bm,cE,aX] at h;grind
 |alloc z=>grind [bm]
 |build z j=>simp only[bm,cE,aX] at h;grind
 |js n l z j=>simp only[bm,cE,aX] at h;grind
 |load n x=>
  simp only[bm] at h;split at h
  ·simp only[Option.bind_eq_bind,cM,au,aX] at h;grind
  ·simp only[Option.bind_eq_bind,cM,au,aX] at h;grind
  simp_all
 |store n x y=>grind [bm,Option.bind_eq_some_iff]
 |mT x=>grind [bm]
 |iZ k n x=>simp only[bm,cE,aX] at h;grind
 |Ik o x=>grind [bm]
 |idx e o x i=>
  cases o with
  |none=>
   simp only[bm,Option.bind_eq_bind,cM] at h
   grind [Option.bind_eq_some_iff]
  |some len=>
   simp only[bm,Option.bind_eq_bind,cM] at h;obtain ⟨_,_,_,_,h⟩:=h;split at h
   ·simp_all
   ·simp_all
   ·grind
   simp_all
 |Wf e x p q=>
  simp only[bm] at h;split at h
  ·simp only[Option.bind_eq_bind,cM,au,aX] at h;grind
  ·grind [Option.bind_eq_some_iff]
  ·grind [Option.bind_eq_some_iff]
  simp_all
 |len x=>simp only[bm,cE,aX] at h;grind
 |Zp x=>simp only[bm,cE,aX] at h;grind
 |mk e b z x y=>grind [bm,Option.bind_eq_some_iff]
 |vq=>grind [bm]
 |lookup k z x y o=>
  simp only[bm,Option.bind_eq_bind,cM,au,aX] at h
  grind
 |tH k x y z=>
  simp only[bm,Option.bind_eq_bind,cM] at h
  grind [Option.bind_eq_some_iff]
 |del k x y=>
  simp only[bm,Option.bind_eq_bind,cM] at h
  grind [Option.bind_eq_some_iff]
 |extract x i=>
  simp only[bm] at h
  grind
 |EL f a b=>grind [bm]
 |part o n x=>
  simp only[bm] at h;split at h
  ·simp only[cE,aX] at h;grind
  simp_all
 |Db e l n x y=>
  simp only[bm,Option.bind_eq_bind,cM] at h;obtain ⟨_,_,_,_,h⟩:=h;split at h
  ·simp only[cE,aX] at h;grind
  simp_all
 |append e b x y=>
  simp only[bm,Option.bind_eq_bind,cM] at h
  grind [Option.bind_eq_some_iff]
 |FK m x=>
  simp only[bm] at h;split at h
  ·split at h
   ·simp only[au,aX] at h;exact same h.2.1.symm
   ·simp at h
  ·simp at h
 |TW e x y z u=>
  simp only[bm] at h;split at h
  ·simp only[Option.bind_eq_bind,cM] at h
   grind
  simp_all
 |clr e z x=>grind [bm,Option.bind_eq_some_iff]
 |copy e x y=>
  simp only[bm] at h;split at h
  ·grind [Option.bind_eq_some_iff]
  simp_all
end Go.Abs
end
section
namespace Go
def Code.calm:Code->Bool
 |.seq x y=>x.calm&&y.calm
 |.cond _ x y=>x.calm&&y.calm
 |.block _ c=>c.calm
 |.loop c=>c.calm
 |.region _ _ _=>true
 |.ret=>true
 |.exit _=>true
 |.goto _=>true
 |.label _=>true
 |.skip=>true
 |_=>false
end Go
namespace Go.Abs
variable[Gl]
structure d_ where
 cat:Nat
 blk:Option Nat
 wr:List Nat
 dst:Option Nat
 rds:List Nat
 lo:Nat
 hi:Nat
 deriving Inhabited
def yt(o:aH):List Nat:=(sK o.op).filterMap (λ| .t n=>some n | _=>none)++(match o.g with | some (t,_)=>[t] | none=>[])
def dz (o:aH) (env:List D) (lo hi:Nat) (wr:List Nat):d_:=
  { cat := match gS env o.g with | some true => cat o.op | _ => 0,
    blk:=match ZM o.op env with | .ptr b _ _=>some b | _=>none,
    wr:=wr,dst:=o.dst,rds:=yt o,lo:=lo,hi:=hi }
def jt(σ σ':ar)(wr:List Nat):Bool:=
 wr.all λb=>match σ[b]?,σ'[b]? with
  |some x,some y=>x.sz == y.sz
  |_,_=>false
def me(P:Program)(orc:gz):Nat->List aH->List D->ar->Option (List D×ar×List d_)
 |_,[],env,σ=>some (env,σ,[])
 |n, o :: os, env, σ=>
  match fi P orc o env σ with
  |some (d, b, w1)=>
   if n == 0 || jt σ b w1 then
    match me P orc (n-1) os d b with
    |some (e,aA,is)=>some (e,aA,dz o env σ.length b.length w1::is)
    |none=>none
   else none
  |none=>none
def disj(b:Option Nat)(l:List Nat):Bool:=
 match b with
 |some t=>!l.contains t
 |none=>true
def safe(i:d_)(wr:List Nat):Bool:=
 wr.isEmpty || i.cat == 0 || i.cat == 2 || (i.cat == 1&&(match i.blk with | some b=>!wr.contains b | none=>true))
def outside(i:d_)(wr:List Nat):Bool:=wr.all λb=>b<i.lo || i.hi<=b
def apart(x y:d_):Bool:=
 disj x.dst y.rds&&disj y.dst x.rds&&(match x.dst,y.dst with | some s,some t=>s != t | _,_=>true)&&(safe x y.wr&&safe y x.wr)&&(outside x y.wr&&outside y x.wr)
def e_(b:List Nat)(d:List d_):Bool:=
 (List.range d.length).all λj=>(List.range j).all λi=>(b.getD j 0).testBit i || apart (d.getD i default) (d.getD j default)
def np(b:List Nat)(p n m:Nat):Bool:=
 (List.range m).all λj=>j<n || (List.range j).all λi=>Nat.blt i p || (b.getD j 0).testBit i
def isMv(o:Oper):Bool:=
 o.guard.isNone&&(match o.op with
  |.move _ | .assign _=>true
  |_=>false)
def Nv(n:Nat):Nat->Array Bool
 |0=>Array.replicate n false
 |i+1=>(Nv n i).setIfInBounds i true
def Ej(ops:Array Oper)(i:Nat):Bool:=
 ((ops[i]?).map isMv).getD false&&Region.free .any ops (Nv ops.size i) i&&(Region.ready .any ops (Nv ops.size i)).contains i
def leads(ops:Array Oper):Nat->Nat->Nat
 |0,_=>0
 |k+1,i=>if Ej ops i then leads ops k (i+1)+1 else 0
def lead(ops:Array Oper):Nat:=if Region.noSelect ops then leads ops ops.size 0 else 0
inductive aR where
 |skip
 |Dc (ops:List aH)
 |GZ (ops:List aH) (bef:List Nat) (n p:Nat)
 |seq (a b:aR)
 |cond (c:aP) (thn els:aR)
 |block (id:Nat) (body:aR)
 |loop (body:aR)
 |exit (id:Nat)
 |ret
 |stuck
 |lbl (l:Nat)
 |We (l:Nat) (a r:aR)
 |Wc (o:aP) (ps:List Nat) (a b:aR)
 deriving Inhabited
def lblA:aR->Option Nat
 |.seq a b=>match lblA a with | some l=>some l | none=>lblA b
 |.lbl l=>some l
 |_=>none
def QF(l:Nat):aR->Option aR
 |.seq a b=>match QF l a with | some r=>some (.seq r b) | none=>QF l b
 |.lbl d=>if (d == l)=true then some .skip else none
 |_=>none
def Sg(a:aR):aR:=match lblA a with
 |some l=>match QF l a with | some r=>.We l a r | none=>.stuck
 |none=>.stuck
def Sa(o:Option aP)(ps:List Nat)(a b:Option aR)(calm:Bool):aR:=match o,a,b,calm with
 |some o,some a,some b,true=>.Wc o ps a b
 |_,_,_,_=>.stuck
theorem Cc(o:Option aP)(ps:List Nat)(a b:Option aR)(calm:Bool):(∃o' d b',o=some o'/\a=some d/\b=some b'/\calm=true/\Sa o ps a b calm=.Wc o' ps d b')∨Sa o ps a b calm=.stuck:=by
 unfold Sa
 grind
def MR(acc:List Nat)(o:Oper):Nat:=
 o.after.toList.foldl (λs e=>if Region.binds .any e then s ||| 2 ^ e.on ||| acc.getD e.on 0 else s) 0
def PU(l:List Oper):List Nat:=l.foldl (λb o=>b++[MR b o]) []
def kB:List aH->Nat
 |[]=>0
 |o :: os => match o.op with
  |.append ..=>0
  |_=>kB os+1
def Aa(l:List Oper):Bool:=(List.range l.length).all λj=>((l.getD j default).after.toList.all λe=>!Region.binds .any e || e.on<j)
def bM(P:Program):Code->Option aR
 |.skip=>some .skip
 |.region _ ops d=>
  match ops.toList.mapM (bx P ops) with
  |some os=>if d then (if Aa ops.toList then some (.GZ os (PU ops.toList) (kB os) (lead ops)) else some .stuck) else some (.Dc os)
  |none=>some .stuck
 |.seq a b => match bM P a, bM P b with
  |some x,some y=>some (.seq x y)
  |_,_=>none
 |.cond c a b => match bW c, bM P a, bM P b with
  |some o,some x,some y=>some (.cond o x y)
  |_,_,_=>some .stuck
 |.block id b=>(bM P b).map (.block (2 * id))
 |.loop b=>(bM P b).map .loop
 |.exit id=>some (.exit (2 * id))
 |.goto l=>some (.exit (2 * l+1))
 |.label l=>some (.lbl l)
 |.scope b=>(bM P b).map Sg
 |.rangeFunc g e x y=>some (Sa (bW g) e.toList (bM P x) (bM P y) (x.calm&&y.calm))
 |.ret=>some .ret
 |_=>some .stuck
theorem eE{P:Program}{g:Operand}{ps:Array Tmp}{x y:Code}{ac:aR}(h:bM P (.rangeFunc g ps x y)=some ac):(∃o a b,bW g=some o/\bM P x=some a/\bM P y=some b/\(x.calm&&y.calm)=true/\ac=.Wc o ps.toList a b)∨ac=.stuck:=by simp only[bM,au] at h;subst h;exact Cc _ _ _ _ _
structure lh where
 nparams:Nat
 ntmps:Nat
 results:List (Nat×Option (Option Nat))
 body:aR
 cJ:Bool
 deriving Inhabited
def LR(P:Program):ResultVar->Option (Nat×Option (Option Nat))
 |.tmp t=>some (t,none)
 |.cell a t=>(Ep P t).map λn=>(a,some n)
def iG(P:Program)(f:Func)(cJ:Bool):Option lh:=
 match f.body with
 |some b=>
  match bM P b,f.results.toList.mapM (LR P) with
  |some c,some rs=>some ⟨f.params.size+f.nfree,f.ntmps,rs,c,cJ⟩
  |_,_=>none
 |none=>none
inductive mS where
 |normal
 |exit (id:Nat)
 |ret
 deriving DecidableEq,Inhabited
def Wa(os:List aH):Nat:=os.length-1-(os.reverse.takeWhile λo=>match o.op with | .call ..=>false | _=>true).length
def ky(P:Program)(orc:gz)(os:List aH)(b:List Nat)(p n:Nat)(env:List D)(σ:ar):Option (List D×ar×List Nat):=
 match me P orc n os env σ with
 |some (env',σ',is)=>if e_ b is&&np b p n os.length&&Nat.ble p n then some (env',σ',is.flatMap (·.wr)) else none
 |none=>none
def kV(P:Program)(orc:gz):Nat->aR->List D->ar->List Nat->Option (mS×List D×ar×List Nat)
 |0,_,_,_,_=>none
 |_+1,.skip,env,σ,wr=>some (.normal,env,σ,wr)
 |_+1,.Dc os,env,σ,wr=>(py P orc os env σ).map λr=>(.normal,r.1,r.2.1,r.2.2++wr)
 |_ + 1, .GZ os f n p, env, σ, wr=>
  match ky P orc os f p n env σ with
  |some (env',σ',w)=>some (.normal,env',σ',w++wr)
  |none=>
   match ky P orc os f p (Wa os) env σ with
   |some (env',σ',w)=>some (.normal,env',σ',w++wr)
   |none=>
    match ky P orc os f p os.length env σ with
    |some (env',σ',w)=>some (.normal,env',σ',w++wr)
    |none=>none
 |k + 1, .seq a b, env, σ, wr=>
  match kV P orc k a env σ wr with
  |some (.normal,d,e,bU)=>kV P orc k b d e bU
  |r=>r
 |k + 1, .cond c a b, env, σ, wr=>
  match iz (c.ev env) with
  |some true=>kV P orc k a env σ wr
  |some false=>kV P orc k b env σ wr
  |none=>none
 |k + 1, .block id b, env, σ, wr=>
  match kV P orc k b env σ wr with
  |some (.exit i,d,e,bU)=>if i=id then some (.normal,d,e,bU) else some (.exit i,d,e,bU)
  |r=>r
 |k + 1, .loop b, env, σ, wr=>
  match kV P orc k b env σ wr with
  |some (.normal,d,e,bU)=>kV P orc k (.loop b) d e bU
  |r=>r
 |_+1,.exit id,env,σ,wr=>some (.exit id,env,σ,wr)
 |_+1,.ret,env,σ,wr=>some (.ret,env,σ,wr)
 |_+1,.stuck,_,_,_=>none
 |_+1,.lbl _,_,_,_=>none
 |_+1,.We _ _ _,_,_,_=>none
 |_+1,.Wc _ _ _ _,_,_,_=>none
theorem KT(a:aR):(∃l r,QF l a=some r/\Sg a=.We l a r)∨Sg a=.stuck:=by
 unfold Sg
 grind
def chunks(n:Nat):Nat->List C->List (List C)
 |0,_=>[]
 |k+1,l=>l.take n::chunks n k (l.drop n)
def fN(σ:ar)(n:Nat):Nat->D->Option C
 |0,_=>none
 |k + 1, d=>
  match d with
  |.c x=>some x
  |.ptr b off sz=>
   if n<=b then
    match od σ b sz with
    |some g=>(g.mapM (fN σ n k)).map λl=>.cK l off
    |none=>none
   else none
  |.sl b off len aw sz=>
   if n<=b/\0<aw/\off+len * aw<=sz then
    match od σ b sz with
    |some g=>(((g.drop off).take (len * aw)).mapM (fN σ n k)).map λl=>.cJ (Nat.blt 0 len) (chunks aw len l)
    |none=>none
   else none
  |.fn f first cap=>
   match first.mapM (fN σ n k),cap.mapM (fN σ n k) with
   |some a,some b=>some (.fn f a b)
   |_,_=>none
  |.mp b=>
   if n<=b then
    match σ[b]? with
    |some (.map es _)=>(es.mapM λe=>(fN σ n k e.2.1).map λx=>(e.1,x)).map .Ng
    |_=>none
   else none
  |_=>none
def pu(σ:ar)(n k:Nat):D->Option D
 |.agg b=>(b.mapM (fN σ n k)).map λl=>.agg (l.map .c)
 |d=>(fN σ n k d).map .c
def wT(σ:ar)(n k:Nat):D->Option D
 |.aS ds=>(ds.mapM (pu σ n k)).map .aS
 |d=>pu σ n k d
def Mu(env:List D)(σ:ar):Nat×Option (Option Nat)->Option D
 |(t,none)=>env[t]?
 |(t, some n)=>
  match env[t]? with
  |some (.ptr b off sz)=>(od σ b sz).bind λd=>uq n d off
  |_=>none
def one:List D->D
 |[d]=>d
 |ds=>.aS ds
def finish(f:lh)(σ0:ar)(env:List D)(σ:ar)(wr:List Nat):Option (D×ar×List Nat):=
 match f.results.mapM (Mu env σ) with
 |some ds=>
  let b:=wr.filter (·<σ0.length)
  if f.cJ&&b.isEmpty then
   match wT σ σ0.length 100 (one ds) with
   |some r=>some (r,σ0,[])
   |none=>some (one ds,σ,b)
  else some (one ds,σ,b)
 |none=>none
def evF1(P:Program)(orc:wK)(k:Nat)(f:lh)(ds:List D)(σ:ar):Option (D×ar×List Nat):=
 if ds.length=f.nparams then
  match kV P (λ_=>orc) k f.body (ds++List.replicate (f.ntmps-ds.length) (.aS [])) σ [] with
  |some (.normal,env,σ',wr)=>finish f σ env σ' wr
  |some (.ret,env,σ',wr)=>finish f σ env σ' wr
  |_=>none
 else none
def evF(P:Program)(b:FuncId->Option lh)(prim:wK)(k:Nat):Nat->wK
 |0=>λ_ _ _=>none
 |n + 1 => λg ds σ=>
  match prim g ds σ with
  |some r=>some r
  |none=>
   match b g with
   |some f=>evF1 P (evF P b prim k n) k f ds σ
   |none=>none
end Go.Abs
end
section
namespace Go
def Code.wq(P:Program)(c:Code)(Q:Exit->Act->World->Prop)(a:Act)(w:World):Prop:=
 c.wp P Q a w/\(c.calm=true->∀l n,c.wpIn (Fence.wide.inRound l) n P Q a w)
def mX(Q:Exit->Act->World->Prop):Exit->Act->World->Prop:=λe a w=>Q e a w/\e≠.outgrown
section
variable{P:Program}{ops:Array Oper}{Q:Exit->Act->World->Prop}{a:Act}{w:World}
theorem Om{c:Code}(h:c.wq P Q a w):c.wp P Q a w:=h.1
theorem Vj:¬LetsOut (mX Q):=λ⟨_,_,h⟩=>h.2 rfl
theorem Xz(l n:Nat){o:Oper}{K:Act->World->Prop}(hd:∀c,o.op≠.defer c)(h:o.wp P a w K Q):o.wpIn (Fence.wide.inRound l) n P a w K Q:=by
 refine ⟨λf _=>trivial,?_⟩;rw[Oper.semAt_eq _ _ _ hd];unfold Oper.wp at h;generalize (execOp a.eval o).run P w=r at *;cases r with
 |ok e w'=>
  cases e with
  |value v=>exact h
  |skip=>exact h
  |defer d=>exact h
  |enter f args=>exact ⟨λb=>by simp[Fence.wide] at b,CallsIn.inRound l (callsIn_wide.2 h)⟩
  |row row args=>exact ⟨λb=>by simp[Fence.wide] at b,λc g _=>let ⟨v,w',r,s⟩:=h c g;⟨v,w',r,stepsIn_wide.2 s⟩⟩
  |_=>exact h.elim
 |halt b w'=>cases b <;> first | exact h | exact h.elim
theorem En(l n:Nat){i:Nat}{a:Act}{w:World}{K:Act->World->Prop}(hd:∀(i:Nat) o c,ops[i]? = some o->o.op≠.defer c)(e:¬LetsOut Q)(h:wpOp P ops Q i K a w):wpOpIn (Fence.wide.inRound l) n P ops Q i K a w:=by
 unfold wpOp at h;unfold wpOpIn;split at h
 ·rename_i b;simp only[b];exact h
 ·rename_i o b;simp only[b];split at h
  ·rename_i d;simp only[d,if_true];rcases h with h | h
   ·exact Xz l n (λc=>hd i o c b) h
   ·exact absurd h.2 e
  ·rename_i d;simp only[d,b_,cw];exact ⟨λf _=>trivial,h⟩
theorem AK{F:Fence}{n:Nat}{i:Nat}{a:Act}{w:World}{K b:Act->World->Prop}(hk:∀a w,K a w->b a w)(h:wpOpIn F n P ops Q i K a w):wpOpIn F n P ops Q i b a w:=by
 cases d:ops[i]? with
 |none=>simp only[wpOpIn,d] at h ⊢;exact hk _ _ h
 |some o=>
  simp only[wpOpIn,d] at h ⊢;cases e:Region.wanted o (yielded ops a.tmps) with
  |true=>simp only[e,if_true] at h ⊢;exact Oper.wpIn_mono hk h
  |false=>simp only[e,b_,cw] at h ⊢;exact ⟨h.1,hk _ _ h.2⟩
theorem VD(l n:Nat)(hd:∀(i:Nat) o c,ops[i]? = some o->o.op≠.defer c)(d:¬LetsOut Q):∀(b:List Nat)(a:Act)(w:World),wpOps P ops Q b a w->wpOpsIn (Fence.wide.inRound l) n P ops Q b a w:=by
 intro b;induction b with
 |nil=>intro a w h;exact h
 |cons i b ih=>intro a w h;rw[wpOps_cons] at h;rw[wpOpsIn_cons];exact AK (λa w=>ih a w) (En l n hd d h)
theorem Uz(l n:Nat){md:Region.Mode}(hd:∀(i:Nat) o c,ops[i]? = some o->o.op≠.defer c)(d:¬LetsOut Q):∀(b:Nat)(listed:Array Bool)(a:Act)(w:World),wpAny P md ops Q b listed a w->wpAnyIn (Fence.wide.inRound l) n P md ops Q b listed a w:=by
 intro b;induction b with
 |zero=>intro listed a w h;exact h
 |succ b ih=>intro listed a w h;exact ⟨h.1,λi e=>AK (λa w=>ih _ a w) (En l n hd d (h.2 i e))⟩
theorem SZ{c:Code}{Q':Exit->Act->World->Prop}(h:c.wq P Q a w)(b:∀e a w,Q e a w->Q' e a w):c.wq P Q' a w:=
 ⟨wp_mono h.1 b,λd l n=>wpIn_mono (h.2 d l n) b⟩
theorem Uu{id:Nat}(hd:∀(i:Nat) o c,ops[i]? = some o->o.op≠.defer c)(h:wpOps P ops (mX Q) (List.range ops.size) a w):(Code.region id ops false).wq P Q a w:=
 SZ (Q:=mX Q) ⟨wp_region h,λ_ l n=>wpIn_region (VD l n hd Vj _ _ _ h)⟩ λ_ _ _ h=>h.1
theorem xV{id:Nat}(hm:P.follows .mixedOrders=true)(hd:∀(i:Nat) o c,ops[i]? = some o->o.op≠.defer c)
  (h:wpAny P .any ops (mX Q) ops.size (Array.replicate ops.size false) a { w with drawn:=w.drawn+1 }):(Code.region id ops true).wq P Q a w:=
 SZ (Q:=mX Q) ⟨wp_region_any hm h,λ_ l n=>wpIn_region_any hm (Uz l n hd Vj _ _ _ _ h)⟩ λ_ _ _ h=>h.1
theorem wq_skip(h:Q .normal a w):Code.skip.wq P Q a w:=⟨wp_skip h,λ_ _ _=>wpIn_skip h⟩
theorem XC{l:Nat}(h:Q .normal a w):(Code.label l).wq P Q a w:=⟨wp_label h,λ_ _ _=>wpIn_label h⟩
theorem wq_exit{i:Nat}(h:Q (.exit i) a w):(Code.exit i).wq P Q a w:=⟨wp_exit h,λ_ _ _=>wpIn_exit h⟩
theorem wq_goto{i:Nat}(h:Q (.goto i) a w):(Code.goto i).wq P Q a w:=⟨wp_goto h,λ_ _ _=>wpIn_goto h⟩
theorem wq_ret(h:Q .ret a w):Code.ret.wq P Q a w:=⟨wp_ret h,λ_ _ _=>wpIn_ret h⟩
theorem wA{K b:Act->World->Prop}(hk:∀a w,K a w->b a w):∀e a w,Exit.then K Q e a w->Exit.then b Q e a w:=by intro e a w h;cases e <;> first | exact hk _ _ h | exact h
theorem Rc {x y:Code} (h:x.wq P (Exit.then (y.wq P Q) Q) a w):(Code.seq x y).wq P Q a w:=
 ⟨wp_seq (wp_mono h.1 (wA fun _ _ h=>h.1)),fun b l n=>by
  simp only [Code.calm,bN] at b
  exact wpIn_seq (wpIn_mono (h.2 b.1 l n) (wA fun _ _ h=>h.2 b.2 l n))⟩
theorem zY {c:Operand} {x y:Code} (b:a.eval c=.bool true) (h:x.wq P Q a w):(Code.cond c x y).wq P Q a w:=
 ⟨wp_cond_true b h.1,fun d l n=>by
  simp only [Code.calm,bN] at d
  exact wpIn_cond_true b (h.2 d.1 l n)⟩
theorem ya {c:Operand} {x y:Code} (b:a.eval c=.bool false) (h:y.wq P Q a w):(Code.cond c x y).wq P Q a w:=
 ⟨wp_cond_false b h.1,fun d l n=>by
  simp only [Code.calm,bN] at d
  exact wpIn_cond_false b (h.2 d.2 l n)⟩
theorem MH{id:Nat}{c:Code}(h:c.wq P (Exit.inBlock id Q) a w):(Code.block id c).wq P Q a w:=
 ⟨wp_block h.1,λb l n=>wpIn_block (h.2 b l n)⟩
def Code.rq(P:Program)(c:Code)(Q:Exit->Act->World->Prop):Nat->Act->World->Prop
 |0,_,_=>False
 |n+1,a,w=>c.wq P (Exit.then (Code.rq P c Q n) Q) a w
theorem JT{c:Code}{n:Nat}:Code.rq P c Q (n+1) a w=c.wq P (Exit.then (Code.rq P c Q n) Q) a w:=rfl
theorem TU{c:Code}:∀(k:Nat)(a:Act)(w:World),Code.rq P c Q k a w->Code.rounds P c Q k a w:=by
 intro k;induction k with
 |zero=>intro a w h;exact h
 |succ k ih=>intro a w h;exact wp_mono h.1 (wA λa w=>ih a w)
theorem Mc{c:Code}(b:c.calm=true)(l n:Nat):∀(k:Nat)(a:Act)(w:World),Code.rq P c Q k a w->Code.roundsIn (Fence.wide.inRound l) n P c Q k a w:=by
 intro k;induction k with
 |zero=>intro a w h;exact h
 |succ k ih=>intro a w h;exact wpIn_mono (h.2 b l n) (wA λa w=>ih a w)
theorem uz{c:Code}(k:Nat)(h:Code.rq P c Q k a w):(Code.loop c).wq P Q a w:=
 ⟨wp_loop_rounds k (TU k a w h),λb l n=>wpIn_loop_rounds k (Mc (c:=c) (show c.calm=true from b) l n k a w h)⟩
end
end Go
namespace Go.Abs
theorem zy{P:Program}{op:Op}{t:TypeId}{ao:lm}(h:comp P op t=some ao):∀c,op≠.defer c:=by rintro c rfl;simp[comp,lJ] at h
theorem qL{P:Program}{ops:Array Oper}{o:Oper}{ao:aH}(h:bx P ops o=some ao):∀c,o.op≠.defer c:=by
 unfold bx at h;split at h
 ·rename_i b;exact zy b
 ·cases h
end Go.Abs
end
section
namespace Go.Abs
variable{σ σ':ar}{M M':Nat->Option Nat}{Fz Fz':Nat->Prop}{w w':World}{P:Program}
theorem gL{D c:Nat}{o:Obj}(h:c≠D):(w.putObj D o).heap[c]? = w.heap[c]?:=World.putObj_heap_other h
theorem V.off{B:Nat}{x:Option (List Deferred)}{o:Obj}(O:¬Fz B)(hD:w.heap[B]? = some (.deferred x)){d:D}{v:Value}(h:V σ M Fz w d v):V σ M Fz (w.putObj B o) d v:=by
 induction h with
 |c h=>exact .c (h.mono λc K=>⟨K,gL (λe=>O (by rw[<-e];exact K))⟩)
 |any v=>exact .any v
 |ptr a u h j i=>exact .ptr a u h j i
 |sl a n cap A u h j i=>
  refine .sl a n cap A u h j (λR=>?_);rcases i R with s | ⟨c,o,E,T,U,W,X,Y,hh,hb⟩
  ·exact .inl s
  ·exact .inr ⟨c,o,E,T,U,W,X,Y,by grind [gL]⟩
 |mp c u h i=>exact .mp c u h i
 |fn z Z s h2 i hw F G=>exact .fn z Z s h2 F G
 |agg z s i ih=>exact .agg z s ih
 |aS z s i ih=>exact .aS z s ih
theorem bY.off{D:Nat}{x:Option (List Deferred)}{o':Obj}(G:¬Fz D)(K:w.heap[D]? = some (.deferred x)){ob:Ob}{o:Obj}(h:bY σ M Fz w ob o):bY σ M Fz (w.putObj D o') ob o:=by
 cases ob with
 |cells O=>obtain ⟨j,T,A,E,s⟩:=h;exact ⟨j,T,A,E,λi d v u z=>⟨(s i d v u z).1.off G K,(s i d v u z).2⟩⟩
 |map R F=>obtain ⟨j,A,E,s⟩:=h;exact ⟨j,A,E,λi k d n e u z=>let ⟨a,b,c⟩:=s i k d n e u z;⟨a,b,c.off G K⟩⟩
 |gone n=>exact h.elim
variable[Gl]
theorem Rel.off{D:Nat}{x:Option (List Deferred)}{o':Obj}(R:Rel σ M Fz w)(hm:∀b,M b≠some D)(i:¬Fz D)(s:w.heap[D]? = some (.deferred x)):Rel σ M Fz (w.putObj D o'):={
 blk:=λb c h=>by obtain ⟨u,ob,o,h1,h2,z⟩:=R.blk b c h;exact ⟨u,ob,o,h1,by rw[gL (λe=>hm b (by rw[<-e];exact h))];exact h2,z.off i s⟩
 inj:=R.inj
 fz:=λc h=>by simpa using R.fz c h
 gl:=Gl.mono (λc j=>⟨j,gL (λe=>i (by rw[<-e];exact j))⟩) R.gl }
def mark(D:Nat):Deferred:={ target:=.collected D,args:=#[] }
def MkD(n:Nat)(M:Nat->Option Nat)(Fz:Nat->Prop)(w:World)(D:Nat):Prop:=
 n<=D/\D<w.heap.size/\(∀b,M b≠some D)/\¬Fz D/\w.heap[D]? = some (.deferred (some []))
theorem MkD.mono{n D:Nat}(E:bH σ M Fz w σ' M' Fz' w')(h:MkD n M Fz w D):MkD n M' Fz' w' D:=by
 obtain ⟨a,b,c,d,e⟩:=h;refine ⟨a,FY b E.size,λs j=>?_,λu=>?_,by rw[E.frame D b c];exact e⟩
 ·rcases E.ld s D j with ⟨o,i⟩ | i
  ·exact c o i
  ·omega
 ·rcases E.ow D u with i | ⟨o,i⟩ | i
  ·exact d i
  ·exact c o i
  ·omega
def Mk(n:Nat)(M:Nat->Option Nat)(Fz:Nat->Prop)(w:World)(ds b:List Deferred):Prop:=
 ∃d:List Nat,ds=d.map mark++b/\d.Nodup/\∀D∈d,MkD n M Fz w D
theorem Mk.refl(n:Nat)(ds:List Deferred):Mk n M Fz w ds ds:=⟨[],rfl,List.nodup_nil,λ_ h=>by cases h⟩
theorem Mk.of_eq{n:Nat}{ds i:List Deferred}(h:ds=i):Mk n M Fz w ds i:=h▸Mk.refl n ds
theorem Mk.mono{n:Nat}{ds i:List Deferred}(E:bH σ M Fz w σ' M' Fz' w')(h:Mk n M Fz w ds i):Mk n M' Fz' w' ds i:=
 let ⟨j,h1,h2,h3⟩:=h
 ⟨j,h1,h2,λD o=>(h3 D o).mono E⟩
theorem Mk.trans{n:Nat}{ds i j:List Deferred}(E:bH σ M Fz w σ' M' Fz' w')(W:n<=w.heap.size)(h:Mk n M Fz w i j)(F:Mk w.heap.size M' Fz' w' ds i):Mk n M' Fz' w' ds j:=by
 obtain ⟨G,K,O,A⟩:=h;obtain ⟨u,x,z,o⟩:=F;refine ⟨u++G,by rw[x,K];simp,?_,λD s=>?_⟩
 ·rw[List.nodup_append];refine ⟨z,O,λa R b U e=>?_⟩;have:=(o a R).1;have:=(A b U).2.1;omega
 ·rcases gp.1 s with s | s
  ·obtain ⟨a,b⟩:=o D s;exact ⟨by omega,b⟩
  ·exact (A D s).mono E
def KK(M:Nat->Option Nat)(Fz:Nat->Prop)(f:Nat->Option Nat)(e:Nat->Prop):Prop:=(∀b c,f b=some c->∃d,M d=some c)/\(∀c,e c->Fz c∨∃d,M d=some c)/\∀c,Fz c->e c
theorem KK.refl:KK M Fz M Fz:=⟨λb c h=>⟨b,h⟩,λc h=>.inl h,λc h=>h⟩
theorem KK.trans {s u:Nat→Option Nat} {x z:Nat→Prop} (h:KK M Fz s x) (i:KK s x u z):KK M Fz u z:=
 ⟨fun b c e=>let ⟨j,o⟩:=i.1 b c e; h.1 j c o,fun c e=>by
  rcases i.2.1 c e with e | ⟨j,o⟩
  ·exact h.2.1 c e
  ·exact .inr (h.1 j c o),fun c e=>i.2.2 c (h.2.2 c e)⟩
theorem Mk.wth{n:Nat}{ds i:List Deferred}{u:Nat->Option Nat}{x:Nat->Prop}(h:Mk n M Fz w ds i)(W:KK M Fz u x):Mk n u x w ds i:=by
 obtain ⟨z,A,E,F⟩:=h;refine ⟨z,A,E,λD G=>?_⟩;obtain ⟨a,b,c,d,e⟩:=F D G;refine ⟨a,b,λK o=>?_,λO=>?_,e⟩
 ·obtain ⟨s,j⟩:=W.1 K D o;exact c s j
 ·rcases W.2.1 D O with j | ⟨s,j⟩
  ·exact d j
  ·exact c s j
theorem Mk.YX {n k:Nat} {fn:Func} {i:Array Value} {R:Ending→World→Prop}:∀(o:List Nat) (w:World),Rel σ M Fz w→o.Nodup →
  (∀D∈o,n≤D∧(∀b,M b≠some D)∧¬Fz D∧w.heap[D]? = some (.deferred (some []))) →
  (∀w',Rel σ M Fz w'→w'.heap.size=w.heap.size→(w'.os=w.os∧w'.tape=w.tape∧w'.output=w.output)→(∀c:Nat,c<n→w'.heap[c]? = w.heap[c]?)→(∀(c:Nat) arr T u,w.heap[c]? = some (Obj.cells arr T u)→w'.heap[c]? = w.heap[c]?)→(∀c:Nat,Fz c→w'.heap[c]? = w.heap[c]?)→(∀d v,V σ M Fz w d v→V σ M Fz w' d v) →
   ∃v,(results fn i).run P w'=.ok v w'∧R (.returned v) w') →
  LeavesInM Fence.wide k P fn i R (o.map mark) .returning w:=by
 intro o
 induction o with
 | nil =>
  intro w R _ _ h
  exact h w R rfl ⟨rfl,rfl,rfl⟩ (fun _ _=>rfl) (fun _ _ _ _ _=>rfl) (fun _ _=>rfl) (fun _ _ h=>h)
 | cons D o ih =>
  intro w R x E h
  obtain ⟨a,b,c,d⟩:=E D (by simp)
  simp only [List.nodup_cons] at x
  refine ⟨by simp,.inl ⟨D,_,rfl,run_takeDeferred d,?_⟩⟩
  refine ih _ (R.off b c d) x.2 (fun F s=>?_) fun w' G K z O U W X=>?_
  ·obtain ⟨Y,Z,c',A⟩:=E F (by simp [s])
   exact ⟨Y,Z,c',by rw [gL (fun e=>x.1 (by rw [←e]; exact s))]; exact A⟩
  ·refine h w' G (by rw [K]; simp) ⟨z.1,z.2.1,z.2.2⟩ (fun q j=>?_) (fun q arr T u j=>?_) (fun q j=>?_) (fun A v hv=>X A v (hv.off c d))
   ·rw [O q j,gL (by omega)]
   ·have:q≠D:=fun e=>by rw [e,d] at j; cases j
    rw [U q arr T u (by rw [gL this]; exact j),gL this]
   ·rw [W q j,gL (fun e=>c (by rw [←e]; exact j))]
theorem bH.YX{w'':World}(E:bH σ M Fz w σ' M' Fz' w')(u:w''.heap.size=w'.heap.size)(s:w''.os=w'.os/\w''.tape=w'.tape/\w''.output=w'.output)(x:∀c:Nat,c<w.heap.size->w''.heap[c]? = w'.heap[c]?)
  (z:∀(c:Nat) arr T o,w'.heap[c]? = some (Obj.cells arr T o)->w''.heap[c]? = w'.heap[c]?) (A:∀c:Nat,Fz' c->w''.heap[c]? = w'.heap[c]?):bH σ M Fz w σ' M' Fz' w'':={
 size:=by rw[u];exact E.size
 frame:=λc i F=>by rw[x c i];exact E.frame c i F
 ld:=E.ld
 fz:=λc i=>⟨(E.fz c i).1,by rw[A c (E.fz c i).1];exact (E.fz c i).2⟩
 ow:=E.ow
 qo:=λc arr T o i=>by obtain ⟨j,h,hs⟩:=E.qo c arr T o i;exact ⟨j,by rw[z c j T o h];exact h,hs⟩
 keep:=E.keep
 out:=⟨s.1.trans E.out.1,s.2.1.trans E.out.2.1,s.2.2.trans E.out.2.2⟩ }
theorem Mk.end{k:Nat}{fn:Func}{i:Array Value}{ds:List Deferred}{Q:Ending->World->Prop}(hd:Mk w.heap.size M' Fz' w' ds [])(R:Rel σ' M' Fz' w')(E:bH σ M Fz w σ' M' Fz' w')
  (h:∀w'',Rel σ' M' Fz' w''->bH σ M Fz w σ' M' Fz' w''->(∀d v,V σ' M' Fz' w' d v->V σ' M' Fz' w'' d v)->∃v,(results fn i).run P w''=.ok v w''/\Q (.returned v) w''):LeavesInM Fence.wide k P fn i Q ds .returning w':=by
 obtain ⟨o,s,u,x⟩:=hd;rw[s,DA];refine Mk.YX (n:=w.heap.size) o w' R u (λD z=>?_) λw'' j A F G K O U=>h w'' j (E.YX A F G K O) U;obtain ⟨a,b,c,d,e⟩:=x D z;exact ⟨a,c,d,e⟩
omit [Gl] in
theorem nk{f:FuncId}{fn:Func}{c:Code}{args:Array Value}{R:Ending->World->Prop}(d:P.funcs[f]? = some fn)(g:fn.body=some c)
  (h:c.wp P (λe a w'=>(e=.normal∨e=.ret)/\LeavesInM Fence.wide 0 P fn a.tmps R a.defers .returning w') { tmps:=args++Array.replicate (fn.ntmps-args.size) undef,defers:=[] } w):Calls P f args w R:=
 callsIn_wide.1 (callsIn_of_wp_marks (F:=Fence.wide) (n:=0) d g trivial (wpIn_wide.2 (wp_mono h λe a w' b=>by
  rcases b with ⟨rfl | rfl,b⟩
  ·exact b
  ·exact b)) rfl)
end Go.Abs
end
section
namespace Go.Abs
variable[Gl]
structure KR (M:Nat->Option Nat) (Fz:Nat->Prop) (w:World) (M':Nat->Option Nat) (Fz':Nat->Prop) (w':World):Prop where
 size:w.heap.size<=w'.heap.size
 frame:∀c:Nat,c<w.heap.size->(∀b,M b≠some c)->w'.heap[c]? = w.heap[c]?
 ext:∀b c,M b=some c->M' b=some c
 ld:∀b c,M' b=some c->M b=some c∨w.heap.size<=c
 fz:∀c:Nat,Fz c->Fz' c/\w'.heap[c]? = w.heap[c]?
 ow:∀c,Fz' c->Fz c∨w.heap.size<=c
 qo:∀(c:Nat) arr T fr,w.heap[c]? = some (.cells arr T fr)->∃arr',w'.heap[c]? = some (.cells arr' T fr)/\arr'.size=arr.size
 out:w'.os=w.os/\w'.tape=w.tape/\w'.output=w.output
section
variable{σ σ':ar}{M M' M'':Nat->Option Nat}{Fz Fz' Fz'':Nat->Prop}{w w' w'':World}
theorem KR.refl:KR M Fz w M Fz w:={
 size:=cX _
 frame:=λ_ _ _=>rfl
 ext:=λ_ _ h=>h
 ld:=λ_ _ h=>.inl h
 fz:=λ_ h=>⟨h,rfl⟩
 ow:=λ_ h=>.inl h
 qo:=λc i T j h=>⟨i,h,rfl⟩
 out:=⟨rfl,rfl,rfl⟩ }
theorem KR.trans(A:KR M Fz w M' Fz' w')(B:KR M' Fz' w' M'' Fz'' w''):KR M Fz w M'' Fz'' w'':={
 size:=lK A.size B.size
 frame:=λc o u=>by
  rw[<-A.frame c o u];refine B.frame c (FY o A.size) (λb x=>?_);rcases A.ld b c x with i | i
  ·simp_all
  ·omega
 ext:=λb c h=>B.ext b c (A.ext b c h)
 ld:=λb c h=>by
  rcases B.ld b c h with i | i
  ·exact A.ld b c i
  ·exact .inr (lK A.size i)
 fz:=λc h=>⟨(B.fz c (A.fz c h).1).1,by rw[(B.fz c (A.fz c h).1).2,(A.fz c h).2]⟩
 ow:=λc h=>by
  rcases B.ow c h with i | i
  ·exact A.ow c i
  ·exact .inr (lK A.size i)
 qo:=λc j T s h=>by
  obtain ⟨z,h1,E⟩:=A.qo c j T s h;obtain ⟨F,h2,G⟩:=B.qo c z T s h1
  simp_all
 out:=⟨B.out.1.trans A.out.1,B.out.2.1.trans A.out.2.1,B.out.2.2.trans A.out.2.2⟩ }
def mM(σ σ':ar):Prop:=∀(b:Nat) ob,σ[b]? = some ob->∃d,σ'[b]? = some d/\d.sz=ob.sz
theorem mM.refl:mM σ σ:=λ_ i h=>⟨i,h,rfl⟩
theorem V.sub(s:mM σ σ')(z:∀b c,M b=some c->M' b=some c)(G:∀c:Nat,Fz c->Fz' c/\w'.heap[c]? = w.heap[c]?)
  (A:∀(c:Nat) arr T fr,w.heap[c]? = some (.cells arr T fr)->∃i,w'.heap[c]? = some (.cells i T fr)/\i.size=arr.size) {d:D} {v:Value} (h:V σ M Fz w d v):V σ' M' Fz' w' d v:=by
 induction h with
 |c h=>exact .c (h.mono G)
 |any v=>exact .any v
 |ptr a W h K u=>
  obtain ⟨j,E,hs⟩:=s _ _ h;refine .ptr a j E (by omega) (λX=>?_)
  grind
 |sl a n cap O W h K u=>
  obtain ⟨j,E,hs⟩:=s _ _ h;refine .sl a n cap O j E (by omega) (λX=>?_);rcases u (by omega) with x | ⟨c,o,arr,T,hM,ha,hn,hl,ho,Y,hb,hz⟩
  ·simp_all
  ·obtain ⟨i,Z,aa⟩:=A _ _ _ _ Y
   simp_all
 |mp c W h u=>obtain ⟨j,E,hs⟩:=s _ _ h;exact .mp c j E (λX=>z _ _ (u (by omega)))
 |fn F ws x h2 u hw R U=>exact .fn F ws x h2 R U
 |agg F x u ih=>exact .agg F x ih
 |aS F x u ih=>exact .aS F x ih
theorem V.ext(i:mM σ σ')(S:KR M Fz w M' Fz' w'){d:D}{v:Value}(h:V σ M Fz w d v):V σ' M' Fz' w' d v:=h.sub i S.ext S.fz S.qo
theorem bY.sub(A:mM σ σ')(s:∀b c,M b=some c->M' b=some c){ob:Ob}{o:Obj}(h:bY σ M Fz w ob o):bY σ' M' Fz w ob o:=by
 have e:∀{d v},V σ M Fz w d v->V σ' M' Fz w d v:=λh=>h.sub A s (λc h=>⟨h,rfl⟩) (λc j T O h=>⟨j,h,rfl⟩);cases ob with
 |cells R=>obtain ⟨j,T,E,F,u⟩:=h;exact ⟨j,T,E,F,λi d v x z=>⟨e (u i d v x z).1,(u i d v x z).2⟩⟩
 |map U G=>obtain ⟨j,E,F,u⟩:=h;exact ⟨j,E,F,λi k d n K x z=>let ⟨a,b,c⟩:=u i k d n K x z;⟨a,b,e c⟩⟩
 |gone n=>exact h.elim
theorem bY.ext(s:mM σ σ')(S:KR M Fz w M' Fz' w'){ob:Ob}{o:Obj}(h:bY σ M Fz w ob o):bY σ' M' Fz' w' ob o:=by
 cases ob with
 |cells G=>obtain ⟨j,T,A,E,u⟩:=h;exact ⟨j,T,A,E,λi d v x z=>⟨(u i d v x z).1.ext s S,(u i d v x z).2⟩⟩
 |map K F=>obtain ⟨j,A,E,u⟩:=h;exact ⟨j,A,E,λi k d n e x z=>let ⟨a,b,c⟩:=u i k d n e x z;⟨a,b,c.ext s S⟩⟩
 |gone n=>exact h.elim
theorem V.down(z:mM σ σ'){d:D}{v:Value}(h:V σ' M' Fz' w' d v):∀{A:Value},V σ M Fz w d A->V σ M' Fz' w' d v:=by
 induction h with
 |c h=>intro _ _;exact .c h
 |any v=>intro _ _;exact .any v
 |ptr a W h R x=>
  intro A o;cases o with
  |ptr a0 s j _ _=>obtain ⟨E,u,hs⟩:=z _ _ j;rw[h] at u;simp only[au] at u;subst u;exact .ptr a s j (by omega) (λX=>x (by omega))
 |sl a n cap U W h R x=>
  intro A o;cases o with
  |sl a0 n0 Y _ s j _ _=>obtain ⟨E,u,hs⟩:=z _ _ j;rw[h] at u;simp only[au] at u;subst u;exact .sl a n cap U s j (by omega) (λX=>x (by omega))
 |mp c W h x=>
  intro A o;cases o with
  |mp c0 s j _=>obtain ⟨E,u,hs⟩:=z _ _ j;rw[h] at u;simp only[au] at u;subst u;exact .mp c s j (λX=>x (by omega))
 |fn F ws G h2 x hw aa ab=>
  intro A o;cases o with
  |fn K ad Z k2 O af=>
   refine .fn F ws G h2 (λi d v a b=>?_) (λi d v a b=>?_)
   ·grind
   grind
 |agg F G x ih=>
  intro A o;cases o with
  |agg K Z O=>
   refine .agg F G (λi d v a b=>?_)
   grind
 |aS F G x ih=>
  intro A o;cases o with
  |aS K Z O=>
   refine .aS F G (λi d v a b=>?_)
   grind
theorem bY.down(x:mM σ σ'){ob:Ob}{o W:Obj}(h:bY σ' M' Fz' w' ob o)(U:bY σ M Fz w ob W):bY σ M' Fz' w' ob o:=by
 cases ob with
 |cells Y=>obtain ⟨s,T,F,G,A⟩:=h;obtain ⟨z,Z,K,O,u⟩:=U;refine ⟨s,T,F,G,λi d v j E=>⟨?_,(A i d v j E).2⟩⟩;have X:=(gC.1 j).1;exact (A i d v j E).1.down x (u i d _ j (sI (by omega))).1
 |map es R=>obtain ⟨s,F,G,A⟩:=h;obtain ⟨z,K,O,u⟩:=U;refine ⟨s,F,G,λi k d n e j E=>?_⟩;have X:=(gC.1 j).1;obtain ⟨a,b,c⟩:=A i k d n e j E;exact ⟨a,b,c.down x (u i k d n _ j (sI (by omega))).2.2⟩
 |gone n=>exact h.elim
def cZ(M:Nat->Option Nat)(n:Nat):Nat->Option Nat:=λb=>if b<n then M b else none
theorem V.cut{d:D}{v:Value}(h:V σ M Fz w d v):V σ (cZ M σ.length) Fz w d v:=by
 induction h with
 |c h=>exact .c h
 |any v=>exact .any v
 |ptr a u h i j=>refine .ptr a u h i (λA=>?_);obtain ⟨c,O,R⟩:=j A;exact ⟨c,by simp only[cZ];grind,R⟩
 |sl a n cap E u h i j=>
  refine .sl a n cap E u h i (λA=>?_);rcases j A with s | ⟨c,o,F,T,O,x⟩
  ·simp_all
  ·exact .inr ⟨c,o,F,T,by simp only[cZ];grind,x⟩
 |mp c u h j=>exact .mp c u h (λA=>by simp only[cZ];grind)
 |fn z U s W j X G K=>exact .fn z U s W G K
 |agg z s j ih=>exact .agg z s ih
 |aS z s j ih=>exact .aS z s ih
theorem bY.cut{ob:Ob}{o:Obj}(h:bY σ M Fz w ob o):bY σ (cZ M σ.length) Fz w ob o:=by
 cases ob with
 |cells F=>obtain ⟨j,T,z,A,s⟩:=h;exact ⟨j,T,z,A,λi d v u x=>⟨(s i d v u x).1.cut,(s i d v u x).2⟩⟩
 |map G E=>obtain ⟨j,z,A,s⟩:=h;exact ⟨j,z,A,λi k d n e u x=>let ⟨a,b,c⟩:=s i k d n e u x;⟨a,b,c.cut⟩⟩
 |gone n=>exact h.elim
end
inductive Dg (ops:Array Oper):Nat->Nat->Prop where
 |one {i j:Nat} {o:Oper} {e:Edge} (ho:ops[j]? = some o) (he:e∈o.after) (hb:Region.binds .any e=true) (hi:e.on=i):Dg ops i j
 |more {i j k:Nat} {o:Oper} {e:Edge} (ho:ops[j]? = some o) (he:e∈o.after) (hb:Region.binds .any e=true) (hk:e.on=k) (h:Dg ops i k):Dg ops i j
def fX(ops:Array Oper)(S:Nat->Prop):Prop:=∀(j:Nat) o e,S j->ops[j]? = some o->e∈o.after->Region.binds .any e=true->S e.on
theorem Dg.in{ops:Array Oper}{S:Nat->Prop}(x:fX ops S){i j:Nat}(h:Dg ops i j)(z:S j):S i:=by
 induction h with
 |one o s u A=>exact A▸x _ _ _ z o s u
 |more o s u hk h ih=>exact ih (hk▸x _ _ _ z o s u)
theorem Dg.ready{ops:Array Oper}{S:Nat->Prop}(z:fX ops S){i j:Nat}(h:Dg ops i j)(A:∀o e,ops[j]? = some o->e∈o.after->Region.binds .any e=true->S e.on):S i:=by
 cases h with
 |one s u x E=>grind
 |more s u x hk h=>exact h.in z (hk▸A _ _ s u x)
theorem YI{ops:Array Oper}{j:Nat}{o:Oper}(m:ops[j]? = some o){acc:List Nat}(f:∀k i,(acc.getD k 0).testBit i=true->Dg ops i k){i:Nat}(h:(MR acc o).testBit i=true):Dg ops i j:=by
 unfold MR at h;have n:∀(l:List Edge)(s:Nat),(∀e∈l,e∈o.after)->(s.testBit i=true->Dg ops i j) ->
   (l.foldl (λs e=>if Region.binds .any e then s ||| 2 ^ e.on ||| acc.getD e.on 0 else s) s).testBit i=true->Dg ops i j:=by
  intro l;induction l with
  |nil=>simp_all
  |cons e l ih=>
   intro s g hs h;simp only[List.foldl_cons] at h;refine ih _ (λp q=>g p (by grind)) ?_ h;intro d;split at d
   ·rename_i b;simp only[Nat.testBit_or,gF,Nat.testBit_two_pow,bA] at d;rcases d with (d | d) | d
    ·simp_all
    ·exact .one m (g e (by simp)) b d
    ·exact .more m (g e (by simp)) b rfl (f _ _ d)
   simp_all
 grind
theorem Dp{ops:Array Oper}{i j:Nat}(h:((PU ops.toList).getD j 0).testBit i=true):Dg ops i j:=by
 have m:∀(l pre:List Oper)(b:List Nat),ops.toList=pre++l->b.length=pre.length->(∀k i,(b.getD k 0).testBit i=true->Dg ops i k) ->
   ∀k i,((l.foldl (λb o=>b++[MR b o]) b).getD k 0).testBit i=true->Dg ops i k:=by
  intro l;induction l with
  |nil=>simp_all
  |cons o l ih=>
   intro pre b d e f k i h;simp only[List.foldl_cons] at h;refine ih (pre++[o]) (b++[MR b o]) (by simp_all) (by simp_all) ?_ k i h;intro k i g;rw[yAT,yBy] at g;split at g
   ·simp_all
   ·rename_i hk;by_cases n:k=b.length
    ·subst n;simp at g;refine YI ?_ f g;rw[<-OD,d,e,OG (cX _)];simp
    grind
 exact m ops.toList [] [] rfl rfl (by simp) j i h
end Go.Abs
end
section
namespace Go.Abs
variable[Gl]
structure Tr (P:Program) (orc:gz) (ops:Array Oper) (os:List aH) (p0 n0:Nat) (env:Nat->List D) (sg:Nat->ar) (wrs:Nat->List Nat):Prop where
 len:os.length=ops.size
 comp:∀(j:Nat) ao,os[j]? = some ao->∃o,ops[j]? = some o/\bx P ops o=some ao
 step:∀(i:Nat) ao,os[i]? = some ao->fi P orc ao (env i) (sg i)=some (env (i+1),sg (i+1),wrs i)
 wrk:∀i,i<n0->jt (sg i) (sg (i+1)) (wrs i)=true
 le:n0<=os.length
 pair:∀(i j:Nat) x y,i<j->os[i]? = some x->os[j]? = some y->Dg ops i j∨apart (dz x (env i) (sg i).length (sg (i+1)).length (wrs i)) (dz y (env j) (sg j).length (sg (j+1)).length (wrs j))=true
 lead:∀i,i<p0->sg (i+1)=sg i/\wrs i=[]
 ple:p0<=n0
section
variable{P:Program}{orc:gz}{ops:Array Oper}{os:List aH}{p0 n0:Nat}{env:Nat->List D}{sg:Nat->ar}{wrs:Nat->List Nat}
theorem gY(O:ou P orc){ao:aH}{e e':List D}{σ σ':ar}{wr:List Nat}(h:fi P orc ao e σ=some (e',σ',wr)) :
  σ.length<=σ'.length/\(∀b,b<σ.length->b∉wr->σ'[b]? = σ[b]?)/\∃d,e'=oE e ao.dst d:=by
 unfold fi at h;split at h
 ·simp only[cE] at h;obtain ⟨⟨d,g,bU⟩,f,h⟩:=h;simp only[aX] at h;obtain ⟨rfl,rfl,rfl⟩:=h;obtain ⟨i,j⟩:=Rb (O _) f
  grind
 ·grind
 simp_all
theorem Tr.at(T:Tr P orc ops os p0 n0 env sg wrs){i:Nat}(h:i<os.length):∃ao,os[i]? = some ao:=⟨_,eS h⟩
theorem Tr.frame(T:Tr P orc ops os p0 n0 env sg wrs)(O:ou P orc){i:Nat}(h:i<os.length) :
  (sg i).length<=(sg (i+1)).length/\∀b,b<(sg i).length->b∉wrs i->(sg (i+1))[b]? = (sg i)[b]?:=by
 obtain ⟨o,j⟩:=T.at h;obtain ⟨s,u,_⟩:=gY O (T.step i o j)
 simp_all
theorem Tr.sz1(T:Tr P orc ops os p0 n0 env sg wrs)(O:ou P orc){i:Nat}(h:i<n0):mM (sg i) (sg (i+1)):=by
 intro b u o;have j:=(gC.1 o).1;by_cases s:b∈wrs i
 ·have:=iR.1 (T.wrk i h) b s
  grind
 ·exact ⟨u,by rw[(T.frame O (FY h T.le)).2 b j s];exact o,rfl⟩
theorem Tr.sz(T:Tr P orc ops os p0 n0 env sg wrs)(O:ou P orc){m m':Nat}(h:m<=m')(u:m'<=n0):mM (sg m) (sg m'):=by
 induction m' with
 |zero=>grind [mM.refl]
 |succ k ih=>
  by_cases e:m=k+1
  ·grind [mM.refl]
  ·intro b i j;obtain ⟨o,s,s1⟩:=ih (by omega) (by omega) b i j;obtain ⟨x,z,A⟩:=T.sz1 O (by omega) b o s
   simp_all
theorem Tr.cL(T:Tr P orc ops os p0 n0 env sg wrs)(O:ou P orc){m m':Nat}(h:m<=m')(i:m'<=os.length):(sg m).length<=(sg m').length:=by
 induction m' with
 |zero=>simp_all
 |succ k ih=>
  by_cases e:m=k+1
  ·simp_all
  ·exact lK (ih (by omega) (by omega)) (T.frame O (by omega)).1
theorem Tr.UE(T:Tr P orc ops os p0 n0 env sg wrs)(O:ou P orc){m m' b:Nat}(h:m<=m')(x:m'<=os.length)(o:b<(sg m).length)(j:∀i,m<=i->i<m'->b∉wrs i) :
  (sg m')[b]? = (sg m)[b]?:=by
 induction m' with
 |zero=>simp_all
 |succ k ih=>
  by_cases e:m=k+1
  ·simp_all
  ·have s:=ih (by omega) (by omega) (λi u hk=>j i u (by omega));rw[<-s];exact (T.frame O (by omega)).2 b (FY o (T.cL O (by omega) (by omega))) (j k (by omega) (by omega))
theorem Tr.B_(T:Tr P orc ops os p0 n0 env sg wrs)(O:ou P orc){m:Nat}(h:m<=os.length):(env m).length=(env 0).length:=by
 induction m with
 |zero=>rfl
 |succ k ih=>obtain ⟨o,j⟩:=T.at (i:=k) (by omega);obtain ⟨_,_,d,hd⟩:=gY O (T.step k o j);rw[hd,<-ih (by omega)];cases o.dst <;> simp[oE]
theorem Tr.zF(T:Tr P orc ops os p0 n0 env sg wrs)(O:ou P orc){m m' t:Nat}(h:m<=m')(z:m'<=os.length)(o:∀i ao,m<=i->i<m'->os[i]? = some ao->ao.dst≠some t) :
  (env m')[t]? = (env m)[t]?:=by
 induction m' with
 |zero=>simp_all
 |succ k ih=>
  by_cases e:m=k+1
  ·simp_all
  ·rw[<-ih (by omega) (by omega) (λi ao x hk=>o i ao x (by omega))];obtain ⟨ao,j⟩:=T.at (i:=k) (by omega);obtain ⟨_,_,d,hd⟩:=gY O (T.step k ao j);rw[hd];have:=o k ao (by omega) (by omega) j;cases u:ao.dst with
   |none=>rfl
   |some s=>grind [oE]
structure Inv (os:List aH) (n0:Nat) (env:Nat->List D) (sg:Nat->ar) (wrs:Nat->List Nat) (M0:Nat->Option Nat) (Fz0:Nat->Prop) (w0:World) (uh:List Deferred)
  (S:Nat->Prop) (M:Nat->Option Nat) (Fz:Nat->Prop) (w:World) (a:Act):Prop where
 Vl:a.tmps.size=(env 0).length
 uh:a.defers=uh
 tmp:∀(t m:Nat),m<=n0->(∀i o,i<n0->os[i]? = some o->o.dst=some t->(i<m↔S i))->∀d v,(env m)[t]? = some d->a.tmps[t]? = some v->V (sg m) M Fz w d v
 own:∀b c,M b=some c->¬Fz c/\c<w.heap.size/\((b<(sg 0).length/\M0 b=some c)∨∃j,j<n0/\S j/\(sg j).length<=b/\b<(sg (j+1)).length)
 blk:∀b c,M b=some c->∀m ob,m<=n0->(sg m)[b]? = some ob->(∀i,i<n0->b∈wrs i->(i<m↔S i))->∃o,w.heap[c]? = some o/\bY (sg m) M Fz w ob o
 inj:∀b b' c,M b=some c->M b'=some c->b=b'
 fz:∀c,Fz c->c<w.heap.size
 Ff:KR M0 Fz0 w0 M Fz w
 gl0:Gl.ok Fz0 w0
theorem Inv.start{σ:ar}{M:Nat->Option Nat}{Fz:Nat->Prop}{w:World}{a:Act}(R:Rel σ M Fz w)(j:sg 0=σ)(E:dB σ M Fz w (env p0) a.tmps){S:Nat->Prop}(U:∀i,i<os.length->(S i↔i<p0))
  (T:Tr P orc ops os p0 n0 env sg wrs) (O:ou P orc):Inv os n0 env sg wrs M Fz w a.defers S M Fz w a:={
 Vl:=by rw[E.1,T.B_ O (lK T.ple T.le)]
 uh:=rfl
 tmp:=λt m x z d v h1 h2=>by
  have A:=T.le;have W:=T.ple;have he:(env m)[t]? = (env p0)[t]?:=by
   rcases Nat.le_total m p0 with h | h
   ·exact (T.zF O (m:=m) (m':=p0) (t:=t) h (by omega) (λi X F G s hd=>by have:=(z i X (by omega) s hd).2 ((U i (by omega)).2 G);omega)).symm
   ·exact T.zF O (m:=p0) (m':=m) (t:=t) h (by omega) (λi X F aa s hd=>by grind)
  rw[he] at h1;have hv:V (sg 0) M Fz w d v:=j▸E.2 t d v h1 h2;exact hv.ext (T.sz O (Px m) x) KR.refl
 own:=λb c h=>by have Y:=R.lt h;exact ⟨(R.blk b c h).1,Y.2,.inl ⟨by simp_all,h⟩⟩
 blk:=λb c h m ob x u z=>by
  have Y:=R.lt h;have A:=T.le;have:=T.UE O (m:=0) (m':=m) (b:=b) (by omega) (lK x T.le) (by simp_all) (λi _ F Z=>by
   have K:=(U i (by omega)).1 ((z i (by omega) Z).1 F);rw[(T.lead i K).2] at Z
   grind)
  rw[this,j] at u;obtain ⟨_,ab,o,h1,h2,K⟩:=R.blk b c h;rw[u] at h1;simp only[au] at h1;subst h1;exact ⟨o,h2,(j▸K:bY (sg 0) M Fz w ob o).ext (T.sz O (by omega) x) KR.refl⟩
 inj:=R.inj
 fz:=R.fz
 Ff:=KR.refl
 gl0:=R.gl }
theorem Inv.done{M0 M:Nat->Option Nat}{Fz0 Fz:Nat->Prop}{w0 w:World}{a:Act}{uh:List Deferred}{S:Nat->Prop}(I:Inv os n0 env sg wrs M0 Fz0 w0 uh S M Fz w a)(T:Tr P orc ops os p0 n0 env sg wrs)(O:ou P orc)
  (K:∀i,i<n0->S i) (R:∀b,M0 b≠none->b<(sg 0).length):Rel (sg n0) M Fz w/\dB (sg n0) M Fz w (env n0) a.tmps/\bH (sg 0) M0 Fz0 w0 (sg n0) M Fz w:=by
 refine ⟨⟨λb c h=>?_,I.inj,I.fz,Gl.mono I.Ff.fz I.gl0⟩,⟨by rw[I.Vl,T.B_ O T.le],λt d v x A=>I.tmp t n0 (cX _) (λi _ u _ _=>⟨λ_=>K i u,λ_=>u⟩) d v x A⟩,?_⟩
 ·obtain ⟨x,A,s⟩:=I.own b c h;have z:b<(sg n0).length:=by
   rcases s with ⟨s,_⟩ | ⟨j,U,_,_,s⟩
   ·exact FY s (T.cL O (by omega) T.le)
   ·exact FY s (T.cL O (by omega) T.le)
  have E:(sg n0)[b]? = some (sg n0)[b]:=eS z;obtain ⟨o,Z,h5⟩:=I.blk b c h n0 _ (cX _) E (λi u _=>⟨λ_=>K i u,λ_=>u⟩)
  simp_all
 ·refine ⟨I.Ff.size,I.Ff.frame,λb c h=>?_,I.Ff.fz,λc h=>?_,I.Ff.qo,λb W z=>?_,I.Ff.out⟩
  ·rcases I.Ff.ld b c h with h | h
   ·grind
   omega
  ·rcases I.Ff.ow c h with h | h
   ·simp_all
   omega
  ·obtain ⟨F,x,A⟩:=T.sz O (by omega) (cX n0) b W z;refine ⟨F,x,by omega,λ_=>?_⟩;have X:=(gC.1 z).1;cases Y:M0 b with
   |some c=>exact I.Ff.ext b c Y
   |none=>
    cases G:M b with
    |none=>rfl
    |some c=>
     obtain ⟨_,_,s⟩:=I.own b c G;rcases s with ⟨_,s⟩ | ⟨j,U,_,s,_⟩
     ·simp_all
     ·have:=T.cL O (m:=0) (m':=j) (by omega) (by have:=T.le;omega);omega
end
end Go.Abs
end
section
namespace Go.Abs
variable[Gl]
section
variable{P:Program}{orc:gz}{ops:Array Oper}{os:List aH}{p0 n0:Nat}{env:Nat->List D}{sg:Nat->ar}{wrs:Nat->List Nat}
variable{M0 M M':Nat->Option Nat}{Fz0 Fz Fz':Nat->Prop}{w0 w w':World}{a:Act}{uh:List Deferred}{S S':Nat->Prop}
theorem Tr.wr_lt(T:Tr P orc ops os p0 n0 env sg wrs){i b:Nat}(h:i<n0)(j:b∈wrs i):b<(sg i).length:=by
 have:=iR.1 (T.wrk i h) b j
 grind
theorem fY {x y:d_} (h:apart x y=true) :
  (∀t,x.dst=some t→t∉y.rds)∧(∀t,y.dst=some t→t∉x.rds)∧(∀t,x.dst=some t→y.dst≠some t)∧safe x y.wr=true∧safe y x.wr=true ∧
   (∀b∈y.wr,¬(x.lo≤b∧b<x.hi))∧(∀b∈x.wr,¬(y.lo≤b∧b<y.hi)):=by
 simp only [apart,bN] at h
 obtain ⟨⟨⟨⟨k,l⟩,m⟩,f,g⟩,i,j⟩:=h
 refine ⟨fun t e=>?_,fun t e=>?_,fun t e n=>?_,f,g,fun b d=>?_,fun b d=>?_⟩
 ·grind [disj]
 ·grind [disj]
 ·simp_all
 ·have:=iR.1 i b d
  grind
 ·have:=iR.1 j b d
  grind
theorem Tr.other (T:Tr P orc ops os p0 n0 env sg wrs) (K:fX ops S) {k i:Nat} {x y:aH} (O:os[k]? = some x) (R:os[i]? = some y) (s:i≠k) (u:¬S k)
    (z:∀o e,ops[k]? = some o→e∈o.after→Region.binds .any e=true→S e.on) :
    (i<k∧S i)∨(k<i∧¬S i) ∨
      ((∀t,y.dst=some t→t∉yt x)∧(∀t,x.dst=some t→y.dst≠some t) ∧
        safe (dz x (env k) (sg k).length (sg (k+1)).length (wrs k)) (wrs i)=true∧safe (dz y (env i) (sg i).length (sg (i+1)).length (wrs i)) (wrs k)=true ∧
        (∀b∈wrs i,¬((sg k).length≤b∧b<(sg (k+1)).length))):=by
  rcases Nat.lt_or_gt_of_ne s with h | h
  · rcases T.pair i k y x h R O with j | j
    · exact .inl ⟨h,j.ready K z⟩
    · obtain ⟨U,_,A,E,F,_,W⟩:=fY j
      exact .inr (.inr ⟨U,fun t X G=>A t G X,F,E,W⟩)
  · rcases T.pair k i x y h O R with j | j
    · exact .inr (.inl ⟨h,fun Y=>u (j.in K Y)⟩)
    · obtain ⟨_,Z,A,E,F,h6,_⟩:=fY j
      exact .inr (.inr ⟨Z,A,E,F,h6⟩)
theorem Inv.next(I:Inv os n0 env sg wrs M0 Fz0 w0 uh S M Fz w a)(T:Tr P orc ops os p0 n0 env sg wrs)(O:ou P orc)(hC:fX ops S){k:Nat}{ao:aH}{d:D}{v:Value}(hk:k<n0)(A:os[k]? = some ao)(W:¬S k)
  (X:∀o e,ops[k]? = some o->e∈o.after->Region.binds .any e=true->S e.on) (E:∀i,S' i↔S i∨i=k) (st:KR M Fz w M' Fz' w') (F:env (k+1)=oE (env k) ao.dst d)
  (hv:V (sg (k+1)) M' Fz' w' d v) (G:∀b b' c,M' b=some c->M' b'=some c->b=b') (Y:∀c,Fz' c->c<w'.heap.size)
  (K:∀b c,M' b=some c->¬Fz' c/\c<w'.heap.size/\(M b=some c∨((sg k).length<=b/\b<(sg (k+1)).length)))
  (R:∀b c,M' b=some c->∀m ob,m<=n0->(sg m)[b]? = some ob->(∀i,i<n0->b∈wrs i->(i<m↔S' i))->∃o,w'.heap[c]? = some o/\bY (sg m) M' Fz' w' ob o) :
  Inv os n0 env sg wrs M0 Fz0 w0 uh S' M' Fz' w' (a.put ao.dst v):={
 Vl:=by rw[<-I.Vl];cases ao.dst <;> simp[Act.put]
 uh:=by rw[<-I.uh];cases ao.dst <;> rfl
 tmp:=λt m Z hc d' v' u h2=>by
  by_cases ht:ao.dst=some t
  ·have af:k<m:=(hc k ao hk A ht).2 ((E k).2 (.inr rfl));have aa:=T.zF O (m:=k+1) (m':=m) (t:=t) (by omega) (lK Z T.le) (λi x hi ab hx hd=>by
    have z:=(hc i x (by omega) hx hd).1 ab;rcases (E i).1 z with z | z
    ·rcases T.other hC A hx (by omega) W X with ⟨h,_⟩ | ⟨_,h⟩ | ⟨_,h,_⟩
     ·omega
     ·grind
     grind
    ·omega)
   rw[aa,F,ht] at u;rw[ht] at h2;simp only[oE,yBC] at u;simp only[Act.put,yAQ] at h2;simp only[if_true] at u h2;split at u
   ·rename_i ak;rw[if_pos (by grind)] at h2;simp only[au] at u h2;subst u h2;exact hv.ext (T.sz O (by omega) Z) KR.refl
   grind
  ·have ad:a.tmps[t]? = some v':=by
    cases hd:ao.dst with
    |none=>rw[hd] at h2;exact h2
    |some s=>
     rw[hd] at h2;simp only[Act.put,yAQ] at h2
     grind
   refine (I.tmp t m Z (λi o hi ho hd=>?_) d' v' u ad).ext mM.refl st
   grind
 own:=λb c h=>by
  obtain ⟨u,h2,U⟩:=K b c h;refine ⟨u,h2,?_⟩;rcases U with U | U
  ·rcases (I.own b c U).2.2 with h4 | ⟨j,hj,an,h4⟩
   ·simp_all
   grind
  grind
 blk:=R
 inj:=G
 fz:=Y
 Ff:=I.Ff.trans st
 gl0:=I.gl0 }
theorem Inv.Xr(I:Inv os n0 env sg wrs M0 Fz0 w0 uh S M Fz w a)(T:Tr P orc ops os p0 n0 env sg wrs)(O:ou P orc)(F:fX ops S){k:Nat}{ao:aH}{d:D}{v:Value}(hk:k<n0)(s:os[k]? = some ao)(u:¬S k)
  (x:∀o e,ops[k]? = some o->e∈o.after->Region.binds .any e=true->S e.on) (z:∀i,S' i↔S i∨i=k) (j:env (k+1)=oE (env k) ao.dst d)
  (A:sg (k+1)=sg k) (G:wrs k=[]) (K:V (sg k) M Fz w d v):Inv os n0 env sg wrs M0 Fz0 w0 uh S' M Fz w (a.put ao.dst v):=by
 refine I.next T O F hk s u x z KR.refl j (A▸K) I.inj I.fz (λb c h=>⟨(I.own b c h).1,(I.own b c h).2.1,.inl h⟩) (λb c h m R U E W=>?_);refine I.blk b c h m R U E (λi X Y=>?_)
 grind
theorem Inv.alloc(I:Inv os n0 env sg wrs M0 Fz0 w0 uh S M Fz w a)(T:Tr P orc ops os p0 n0 env sg wrs)(O:ou P orc)(hC:fX ops S){k:Nat}{ao:aH}{d:D}{v:Value}{ob:Ob}{o:Obj}(hk:k<n0)(F:os[k]? = some ao)(G:¬S k)
  (K:∀o e,ops[k]? = some o->e∈o.after->Region.binds .any e=true->S e.on) (R:∀i,S' i↔S i∨i=k) (U:env (k+1)=oE (env k) ao.dst d)
  (z:sg (k+1)=sg k++[ob]) (ak:wrs k=[]) (Y:bY (sg k++[ob]) (xD M (sg k).length w.heap.size) Fz (w.alloc o) ob o)
  (hv:V (sg k++[ob]) (xD M (sg k).length w.heap.size) Fz (w.alloc o) d v):Inv os n0 env sg wrs M0 Fz0 w0 uh S' (xD M (sg k).length w.heap.size) Fz (w.alloc o) (a.put ao.dst v):=by
 have X:M (sg k).length=none:=by
  cases h:M (sg k).length with
  |none=>rfl
  |some c=>
   rcases (I.own _ c h).2.2 with ⟨x,_⟩ | ⟨j,hj,an,x,A⟩
   ·have:=T.cL O (m:=0) (m':=k) (by omega) (by grind);omega
   ·have av:=T.le;rcases VV j k with W | W | W
    ·have:=T.cL O (m:=j+1) (m':=k) (by omega) (by omega);omega
    ·simp_all
    ·have:=T.cL O (m:=k+1) (m':=j) (by omega) (by omega)
     grind
 have st:KR M Fz w (xD M (sg k).length w.heap.size) Fz (w.alloc o):=by
  refine ⟨by simp,λc Z _=>yBK w o c Z,λb c h=>?_,λb c h=>?_,λc h=>⟨h,yBK w o c (I.fz c h)⟩,λc h=>.inl h,
   λc aa T fr h=>⟨aa,by grind [Go.heap_alloc_old],rfl⟩,⟨rfl,rfl,rfl⟩⟩
  ·unfold xD
   grind
  grind [xD]
 have s:∀b c,xD M (sg k).length w.heap.size b=some c->(b=(sg k).length/\c=w.heap.size)∨M b=some c:=by
  intro b c h;unfold xD at h
  grind
 refine I.next T O hC hk F G K R st U (z▸hv) (λb b' c h h'=>?_) (λc h=>by have:=I.fz c h;simp;omega) (λb c h=>?_) (λb c h m ab hm u Z=>?_)
 ·rcases s b c h with ⟨rfl,rfl⟩ | x <;> rcases s b' _ h' with ⟨rfl,A⟩ | A
  ·rfl
  ·have:=(I.own _ _ A).2.1;omega
  ·have:=(I.own _ _ x).2.1;omega
  ·exact I.inj b b' c x A
 ·rcases s b c h with ⟨rfl,rfl⟩ | x
  ·exact ⟨λhf=>by have:=I.fz _ hf;omega,by simp,.inr ⟨cX _,by simp_all⟩⟩
  ·obtain ⟨A,W,_⟩:=I.own b c x;exact ⟨A,by simp;omega,.inl x⟩
 ·rcases s b c h with ⟨rfl,rfl⟩ | x
  ·have ax:k<m:=by
    rcases sO k m with h | h
    ·exact h
    ·have x:=T.cL O h (by grind)
     simp_all
   have ad:=T.UE O (m:=k+1) (m':=m) (b:=(sg k).length) (by omega) (lK hm T.le) (by simp_all) (λi hi af hb=>by
    have E:=(Z i (by omega) hb).1 af;rcases (R i).1 E with E | E
    ·obtain ⟨y,hy⟩:=T.at (i:=i) (by have:=T.le;omega);rcases T.other hC F hy (by omega) G K with ⟨h,_⟩ | ⟨_,h⟩ | ⟨_,_,_,_,h⟩
     ·omega
     ·simp_all
     grind
    ·omega)
   rw[ad,z] at u;simp at u;subst u;refine ⟨o,heap_alloc_new w o,Y.ext ?_ KR.refl⟩;rw[<-z];exact T.sz O (by omega) hm
  ·obtain ⟨o',A,W⟩:=I.blk b c x m ab hm u (λi hi hb=>by
    grind)
   exact ⟨o',by grind [Go.heap_alloc_old],W.ext mM.refl st⟩
end
end Go.Abs
end
section
namespace Go.Abs
variable[Gl]
section
variable{P:Program}{orc:gz}{ops:Array Oper}{os:List aH}{p0 n0:Nat}{env:Nat->List D}{sg:Nat->ar}{wrs:Nat->List Nat}
variable{M0 M M':Nat->Option Nat}{Fz0 Fz Fz':Nat->Prop}{w0 w w':World}{a:Act}{uh:List Deferred}{S S':Nat->Prop}
theorem Tr.HR(T:Tr P orc ops os p0 n0 env sg wrs)(A:fX ops S){k i:Nat}{x:aH}(hk:k<n0)(E:os[k]? = some x)(j:¬S k)
  (s:∀o e,ops[k]? = some o->e∈o.after->Region.binds .any e=true->S e.on) (z:(dz x (env k) (sg k).length (sg (k+1)).length (wrs k)).cat=3) (G:i<n0) (K:wrs i≠[]) (u:i≠k) :
  (i<k/\S i)∨(k<i/\¬S i):=by
 obtain ⟨y,F⟩:=T.at (i:=i) (by have:=T.le;omega);rcases T.other A E F u j s with h | h | ⟨_,_,h,_⟩
 ·simp_all
 ·simp_all
 grind [safe]
theorem Inv.rel(I:Inv os n0 env sg wrs M0 Fz0 w0 uh S M Fz w a)(T:Tr P orc ops os p0 n0 env sg wrs)(G:fX ops S){k:Nat}{x:aH}(hk:k<n0)(K:os[k]? = some x)(u:¬S k)
  (z:∀o e,ops[k]? = some o->e∈o.after->Region.binds .any e=true->S e.on) (j:(dz x (env k) (sg k).length (sg (k+1)).length (wrs k)).cat=3) :
  Rel (sg k) (cZ M (sg k).length) Fz w:={
 blk:=λb c h=>by
  unfold cZ at h;split at h
  ·rename_i O;have s:(sg k)[b]? = some (sg k)[b]:=eS O;obtain ⟨o,h1,A⟩:=I.blk b c h k _ (by omega) s (λi R U=>by
    by_cases E:i=k
    ·simp_all
    ·rcases T.HR G hk K u z j R (λX=>by simp_all) E with ⟨h1,A⟩ | ⟨h1,A⟩
     ·simp_all
     grind)
   exact ⟨(I.own b c h).1,_,o,s,h1,A.cut⟩
  simp_all
 inj:=λb W c h F=>by
  unfold cZ at h F;split at h
  ·split at F
   ·exact I.inj b W c h F
   simp_all
  simp_all
 fz:=I.fz
 gl:=Gl.mono I.Ff.fz I.gl0 }
theorem Inv.HR(I:Inv os n0 env sg wrs M0 Fz0 w0 uh S M Fz w a)(T:Tr P orc ops os p0 n0 env sg wrs)(O:ou P orc)(hC:fX ops S){k:Nat}{ao:aH}{d:D}{v:Value}{X:Nat->Option Nat}{E:Nat->Prop}{w1:World}(hk:k<n0)(ad:os[k]? = some ao)(af:¬S k)
  (ak:∀o e,ops[k]? = some o->e∈o.after->Region.binds .any e=true->S e.on) (an:∀i,S' i↔S i∨i=k) (av:env (k+1)=oE (env k) ao.dst d)
  (ax:(dz ao (env k) (sg k).length (sg (k+1)).length (wrs k)).cat=3) (Y:Rel (sg (k+1)) X E w1) (hv:V (sg (k+1)) X E w1 d v) (U:bH (sg k) (cZ M (sg k).length) Fz w (sg (k+1)) X E w1) :
  ∃M',Inv os n0 env sg wrs M0 Fz0 w0 uh S' M' E w1 (a.put ao.dst v):=by
 have bd:=T.le;have hL:=(T.frame O (i:=k) (by omega)).1;have f1:∀b,b<(sg k).length->X b=M b:=by intro b F;obtain ⟨be,s,_,x⟩:=U.keep b _ (eS F);obtain ⟨bh,u,W⟩:=T.sz1 O hk b _ (eS F);rw[s] at u;simp only[au] at u;subst u;rw[x W];simp only[cZ,if_pos F]
 have f2:∀b,(sg k).length<=b->b<(sg (k+1)).length->M b=none:=by
  intro b s x;cases h:M b with
  |none=>rfl
  |some c=>
   rcases (I.own b c h).2.2 with ⟨u,_⟩ | ⟨j,hj,bi,u,W⟩
   ·have:=T.cL O (m:=0) (m':=k) (by omega) (by omega);omega
   ·rcases VV j k with Z | Z | Z
    ·have:=T.cL O (m:=j+1) (m':=k) (by omega) (by omega);omega
    ·simp_all
    ·have:=T.cL O (m:=k+1) (m':=j) (by omega) (by omega);omega
 have f3:∀b c,X b=some c->b<(sg k).length∨w.heap.size<=c:=by
  intro b c h;by_cases F:b<(sg k).length
  ·omega
  ·right;rcases U.ld b c h with ⟨b0,h0⟩ | h0
   ·exfalso;unfold cZ at h0;split at h0
    ·rename_i a5;have:=Y.inj b b0 c h (by simp_all);omega
    simp_all
   omega
 let M':Nat->Option Nat:=λb=>if b<(sg (k+1)).length then X b else M b
 have G:∀b,b<(sg (k+1)).length->M' b=X b:=λb h=>by grind
 have K:∀b,¬b<(sg (k+1)).length->M' b=M b:=λb h=>by grind
 have R:∀b c,X b=some c->M' b=some c:=λb c h=>by rw[G b (Y.lt h).1];exact h
 have ow:∀c,E c->Fz c∨w.heap.size<=c:=by
  intro c h;rcases U.ow c h with h | ⟨b,s⟩ | h
  ·simp_all
  ·exfalso;unfold cZ at s;split at s
   ·rename_i F;exact (Y.blk b c (by simp_all)).1 h
   simp_all
  omega
 have st:KR M Fz w M' E w1:=by
  refine ⟨U.size,λc hc hn=>U.frame c hc (λb F=>?_),λb c h=>?_,λb c h=>?_,U.fz,ow,U.qo,U.out⟩
  ·grind [cZ]
  ·grind
  grind
 refine ⟨M',I.next T O hC hk ad af ak an st av (hv.sub mM.refl R (λc h=>⟨h,rfl⟩) (λc a6 T fr h=>⟨a6,h,rfl⟩)) (λb A c h h'=>?_) Y.fz (λb c h=>?_) (λb c h m ob hm z hc=>?_)⟩
 ·have a7:∀b A,b<(sg (k+1)).length->¬A<(sg (k+1)).length->M' b=some c->M' A=some c->b=A:=by
   intro b A s x u W;rw[G b s] at u;rw[K A x] at W;rcases f3 b c u with Z | Z
   ·rw[f1 b Z] at u;exact I.inj b A c u W
   ·have:=(I.own A c W).2.1;omega
  by_cases s:b<(sg (k+1)).length
  ·by_cases x:A<(sg (k+1)).length
   ·rw[G b s] at h;rw[G A x] at h';exact Y.inj b A c h h'
   grind
  ·by_cases x:A<(sg (k+1)).length
   ·grind
   ·rw[K b s] at h;rw[K A x] at h';exact I.inj b A c h h'
 ·by_cases s:b<(sg (k+1)).length
  ·rw[G b s] at h;refine ⟨(Y.blk b c h).1,(Y.lt h).2,?_⟩
   grind
  ·rw[K b s] at h;obtain ⟨x,u,_⟩:=I.own b c h;refine ⟨λhf=>?_,FY u U.size,.inl h⟩
   grind
 ·have a0:b∉wrs k->∀i,i<n0->b∈wrs i->(i<m↔S i):=by
   grind
  by_cases s:b<(sg (k+1)).length
  ·rw[G b s] at h;have a2:∀i,i<n0->b∈wrs i->i≠k->(i<k/\S i)∨(k<i/\¬S i):=λi hi F a8=>T.HR hC hk ad af ak ax hi (λhe=>by simp_all) a8;obtain ⟨_,bk,o1,x,u,W⟩:=Y.blk b c h;by_cases a9:k<m
   ·have aa:=T.UE O (m:=k+1) (m':=m) (b:=b) (by omega) (lK hm T.le) s (λi hi bb F=>by
     grind)
    rw[aa,x] at z;simp only[au] at z;subst z;exact ⟨o1,u,W.sub (T.sz O (by omega) hm) R⟩
   ·have a1:=(gC.1 z).1;have ab:b∉wrs k:=λF=>a9 ((hc k hk F).2 ((an k).2 (.inr rfl)));have aa:=T.UE O (m:=m) (m':=k+1) (b:=b) (by omega) (by omega) a1 (λi hi bb F=>by
     grind)
    rw[aa,z] at x;simp only[au] at x;subst x;have bc:b<(sg k).length:=FY a1 (T.cL O (by omega) (by omega));rw[f1 b bc] at h;obtain ⟨o0,_,Z⟩:=I.blk b c h m ob hm z (a0 ab);exact ⟨o1,u,(W.down (T.sz O (by omega) (by omega)) Z).sub mM.refl R⟩
  ·rw[K b s] at h;have ab:b∉wrs k:=λF=>by have:=T.wr_lt hk F;omega
   obtain ⟨o,x,u⟩:=I.blk b c h m ob hm z (a0 ab);refine ⟨o,?_,u.ext mM.refl st⟩;rw[U.frame c (I.own b c h).2.1 (λb0 h0=>?_)]
   ·exact x
   ·unfold cZ at h0;split at h0
    ·rename_i a5;have:=I.inj b0 b c h0 h;omega
    simp_all
def ko(T:List Nat)(e:List D):List D:=e.mapIdx λi d=>if T.contains i then d else .any
theorem qP{T:List Nat}{e:List D}{i:Nat}:(ko T e)[i]? = (e[i]?).map λd=>if T.contains i then d else .any:=by simp[ko,List.getElem?_mapIdx]
theorem AP{T:List Nat}{e:List D}{x:aP}(h:∀n,x=.t n->n∈T):x.ev (ko T e)=x.ev e:=by
 cases x with
 |k d=>rfl
 |t n=>
  simp only[aP.ev,qP]
  simp_all
theorem Inv.step(I:Inv os n0 env sg wrs M0 Fz0 w0 uh S M Fz w a)(T:Tr P orc ops os p0 n0 env sg wrs)(O:ou P orc)(Y:fX ops S){k:Nat}{Q:Exit->Act->World->Prop}(hk:k<n0)(E:¬S k)
  (F:∀o e,ops[k]? = some o->e∈o.after->Region.binds .any e=true->S e.on) (W:∀i,S' i↔S i∨i=k) (K:Act->World->Prop)
  (hK:∀a' w' M' Fz',Inv os n0 env sg wrs M0 Fz0 w0 uh S' M' Fz' w' a'->K a' w'):wpOp P ops Q k K a w:=by
 have bc:=T.le;obtain ⟨ao,z⟩:=T.at (i:=k) (by omega);obtain ⟨o,ho,X⟩:=T.comp k ao z;have u:=T.step k ao z;have hE:dB (sg k) M Fz w (ko (yt ao) (env k)) a.tmps:=by
  refine ⟨by rw[I.Vl,<-T.B_ O (m:=k) (by omega)];simp[ko],λi d v Z h2=>?_⟩;rw[qP] at Z;simp only[cE] at Z;obtain ⟨d0,h3,h4⟩:=Z;by_cases ht:(yt ao).contains i=true
  ·rw[if_pos ht] at h4;subst h4;refine I.tmp i k (by omega) (λj x hj hx hd=>?_) d0 v h3 h2;by_cases a0:j=k
   ·simp_all
   ·rcases T.other Y z hx a0 E F with ⟨h5,h6⟩ | ⟨h5,h6⟩ | ⟨h5,_⟩
    ·simp_all
    ·grind
    simp_all
  ·rw[if_neg ht] at h4;subst h4;exact .any v
 have aa:gS (ko (yt ao) (env k)) ao.g=gS (env k) ao.g:=by
  cases hg:ao.g with
  |none=>rfl
  |some p=>
   obtain ⟨t,a9⟩:=p;have:(yt ao).contains t=true:=by grind [yt]
   simp only[gS,qP,this,if_true]
   simp_all
 unfold bx at X;split at X
 ·rename_i g s hg G;simp only[au] at X;subst X;simp only at u aa hE;have ab:bm P (orc o.dst) s (ko (yt ⟨o.dst,s,g⟩) (env k)) (sg k)=bm P (orc o.dst) s (env k) (sg k):=by
   refine zc (mU G) (λx hx=>AP (λn hn=>?_));subst hn;simp only[yt,gp,List.mem_filterMap]
   grind
  unfold fi at u;split at u
  ·rename_i hw;simp only at hw;have U:=oT (σ:=sg k) (M:=M) (Fz:=Fz) (w:=w) (ops:=ops) (o:=o) hE hg (by rw[aa];exact hw);simp only[cE] at u;obtain ⟨⟨d,bd,bU⟩,a1,h⟩:=u;simp only[aX] at h;obtain ⟨A,ad,af⟩:=h;subst ad af;have a2:(dz ⟨o.dst,s,g⟩ (env k) (sg k).length (sg (k+1)).length (wrs k)).cat=cat s:=by grind [dz]
   unfold wpOp;rw[ho];simp only[U,if_true];left;have HR:cat s=3->o.wp P a w K Q:=by
    intro a5;have R:=I.rel T Y hk z E F (by omega);have a6:dB (sg k) (cZ M (sg k).length) Fz w (ko (yt ⟨o.dst,s,g⟩) (env k)) a.tmps:=⟨hE.1,λi d v Z h2=>(hE.2 i d v Z h2).cut⟩;refine Mw (O o.dst) R a6 G (by rw[ab];exact a1) K λv w1 M1 be R1 hv EV _=>?_;obtain ⟨M',hI⟩:=I.HR (ao:=⟨o.dst,s,g⟩) T O Y hk z E F W A.symm (by omega) R1 hv EV
    grind
   rcases ur G with ⟨f,args,bh,of,bi,_,_,_,rfl⟩ | ⟨a7,ak,_⟩
   ·exact HR rfl
   ·have av:bm P (orc o.dst) s (ko (yt ⟨o.dst,s,g⟩) (env k)) (sg k)=some (d,sg (k+1),wrs k):=by simp_all
    have out:=EN (M:=M) (Fz:=Fz) (w:=w) (Gl.mono I.Ff.fz I.gl0) hE a7 ak av;generalize ax:sg (k+1)=s1 at out;generalize an:wrs k=w1 at out;cases out with
    |y _ hy=>obtain ⟨v,hr,hv⟩:=hy;unfold Oper.wp;rw[hr];exact hK _ _ M Fz (I.Xr (ao:=⟨o.dst,s,g⟩) T O Y hk z E F W A.symm ax an hv)
    |l bk bl hy=>
     obtain ⟨v,hr,hv⟩:=hy (λb off sz c cs bt hM hb=>by
      obtain ⟨o',Z,h2⟩:=I.blk b c hM k _ (by omega) hb (λi hi bu=>by
       by_cases a8:i=k
       ·simp_all
       ·obtain ⟨y,hy⟩:=T.at (i:=i) (by omega);rcases T.other Y z hy a8 E F with ⟨h5,h6⟩ | ⟨h5,h6⟩ | ⟨_,_,h5,_⟩
        ·simp_all
        ·grind
        ·exfalso;have bb:(dz ⟨o.dst,s,g⟩ (env k) (sg k).length (sg (k+1)).length (wrs k)).blk=some b:=by
          have:ZM s (env k)=ZM s (ko (yt ⟨o.dst,s,g⟩) (env k)):=by
           cases s with
           |load n x=>grind [ZM,AP,yt,sK]
           |_=>rfl
          grind [dz]
         grind [safe])
      obtain ⟨bv,T',rfl,h3,h4⟩:=h2
      grind)
     unfold Oper.wp;rw[hr];exact hK _ _ M Fz (I.Xr (ao:=⟨o.dst,s,g⟩) T O Y hk z E F W A.symm (by simp_all) an hv)
    |a _ hy=>obtain ⟨bw,v,hr,Z,hv⟩:=hy I.fz;unfold Oper.wp;rw[hr];exact hK _ _ _ Fz (I.alloc (ao:=⟨o.dst,s,g⟩) T O Y hk z E F W A.symm ax an Z hv)
    |g a5 _=>simp_all
  ·rename_i hw;simp only at hw;have U:=oT (σ:=sg k) (M:=M) (Fz:=Fz) (w:=w) (ops:=ops) (o:=o) hE hg (by rw[aa];exact hw);simp only[au,aX] at u;obtain ⟨A,ad,af⟩:=u;unfold wpOp;rw[ho];simp only[U,b_,cw];exact hK _ _ M Fz (I.Xr (ao:=⟨o.dst,s,g⟩) T O Y hk z E F W A.symm ad.symm af.symm V.undef)
  simp_all
 simp_all
end
end Go.Abs
end
section
namespace Go.Abs
variable[Gl]
section
variable{P:Program}{orc:gz}{ops:Array Oper}{os:List aH}{p0 n0:Nat}{env:Nat->List D}{sg:Nat->ar}{wrs:Nat->List Nat}
variable{M:Nat->Option Nat}{Fz:Nat->Prop}{w:World}{a:Act}
def Vr(N:Nat)(listed:Array Bool):Nat:=((List.range N).filter λj=>!listed.getD j false).length
def gG(listed:Array Bool)(i:Nat):Prop:=listed.getD i false=true
theorem Jw{listed:Array Bool}{k:Nat}(hk:k<listed.size)(i:Nat):gG (listed.setIfInBounds k true) i↔gG listed i∨i=k:=by
 unfold gG;by_cases h:k=i
 ·simp_all
 ·rw[getD_set_ne false h]
  grind
theorem Dv{N:Nat}{listed:Array Bool}{k:Nat}(hs:k<listed.size)(hk:k<N)(b:¬gG listed k):Vr N (listed.setIfInBounds k true)<Vr N listed:=by
 unfold Vr;have e:(List.range N).filter (λj=>!(listed.setIfInBounds k true).getD j false)=((List.range N).filter λj=>!listed.getD j false).filter λj=>j != k:=by
  rw[List.filter_filter];apply List.filter_congr;intro j _;have:=Jw hs (i:=j);unfold gG at this
  grind
 rw[e,List.length_filter_lt_length_iff_exists]
 grind [gG]
theorem vP{N:Nat}{listed:Array Bool}(h:Vr N listed=0):∀i,i<N->gG listed i:=by grind [Vr,List.filter_eq_nil_iff,gG]
theorem Vz{N:Nat}{listed:Array Bool}(h:∃i,i<N/\¬gG listed i):∃i,i<N/\¬gG listed i/\∀j,j<i->gG listed j:=by
 obtain ⟨i,b,d⟩:=h;induction i using Nat.strongRecOn with
 |_ i ih=>grind
theorem yR{listed:Array Bool}(g:listed.size=ops.size)(b:∀(j:Nat) o e,ops[j]? = some o->e∈o.after->Region.binds .any e=true->e.on<j)
  (h:Region.ready .any ops listed=[]):∀i,i<ops.size->gG listed i:=by
 intro i k;refine Classical.byContradiction λl=>?_;obtain ⟨j,m,n,d⟩:=Vz (N:=ops.size) ⟨i,k,l⟩;have f:ops[j]? = some ops[j]:=sI m;have:j∈Region.ready .any ops listed:=by
  rw[mem_ready];refine ⟨?_,ops[j],f,λe p q=>d e.on (b j _ e f p q)⟩
  grind [gG]
 simp_all
theorem cnt_ge(n0:Nat):∀m,((List.range (n0+m)).filter (λj=>decide (n0<=j))).length=m:=by
 intro m;induction m with
 |zero=>simp_all
 |succ m ih=>grind [List.range_succ]
theorem jc(m j:Nat):(Array.replicate m false).getD j false=false:=by
 simp only[yAV,yCb]
 grind
theorem Tw(O:ou P orc)(T:Tr P orc ops os p0 n0 env sg wrs)(q:∀i j,p0<=i->i<j->n0<=j->j<os.length->Dg ops i j)(g:∀(j:Nat) o e,ops[j]? = some o->e∈o.after->Region.binds .any e=true->e.on<j){Q:Exit->Act->World->Prop}
  (Y:∀f w' M' Fz',f.defers=a.defers->Rel (sg os.length) M' Fz' w'->dB (sg os.length) M' Fz' w' (env os.length) f.tmps->bH (sg 0) M Fz w (sg os.length) M' Fz' w'->Q .normal f w') :
  ∀ (b : Nat) (listed : Array Bool) (k : Nat) (M' : Nat -> Option Nat) (Fz' : Nat -> Prop) (w' : World) (f : Act), listed.size = ops.size -> n0 <= k -> k <= os.length -> (∀ i, i < ops.size -> (gG listed i ↔ i < k)) -> os.length - k <= b -> f.defers = a.defers ->
   Rel (sg k) M' Fz' w'->dB (sg k) M' Fz' w' (env k) f.tmps->bH (sg 0) M Fz w (sg k) M' Fz' w'->wpAny P .any ops Q b listed f w':=by
 have A:=T.len;intro b;induction b with
 |zero=>
  intro listed k M' Fz' w' f m hk r Z hf hd R E s;have n:k=os.length:=by omega
  subst n;refine ⟨?_,Y f w' M' Fz' hd R E s⟩;cases F:Region.ready .any ops listed with
  |nil=>rfl
  |cons j l=>
   have hm:j∈Region.ready .any ops listed:=by simp_all
   rw[mem_ready] at hm
   grind [gG]
 |succ b ih=>
  intro listed k M' Fz' w' f m hk r Z hf hd R E s;refine ⟨λF=>?_,λj G=>?_⟩
  ·have K:=yR m g F;have n:k=os.length:=by
    rcases sO k os.length with h | h
    ·grind
    ·omega
   grind
  ·rw[mem_ready] at G;obtain ⟨h1,o,L,t⟩:=G;have aa:j<ops.size:=(Cy.1 L).1;have hC:fX ops (gG listed):=by
    intro i N e hi d U W
    grind
   have ab:¬gG listed j:=by grind [gG]
   have ad:k<=j:=by simp_all
   have u:j=k:=by
    rcases sO k j with h | h
    ·have W:=q k j (by have:=T.ple;omega) h (by omega) (by omega);have:=W.ready hC (λN e d U v=>by rw[L] at d;simp only[au] at d;subst d;exact t e U v)
     grind
    ·omega
   subst u;obtain ⟨X,p⟩:=T.at (i:=j) (by omega);obtain ⟨N,d,x⟩:=T.comp j X p;refine JU O R E d x (T.step j X p) _ λa1 w1 M1 y af R1 E1 z ak=>?_;refine ih (listed.setIfInBounds j true) (j+1) M1 y w1 a1 (by grind) (by omega) (by omega) (λi hi=>?_) (by omega) (by simp_all) R1 E1 (s.trans z (T.cL O (by omega) (by omega)))
   grind [Jw]
theorem WH(O:ou P orc)(T:Tr P orc ops os p0 n0 env sg wrs)(t:∀i j,p0<=i->i<j->n0<=j->j<os.length->Dg ops i j)(l:∀(j:Nat) o e,ops[j]? = some o->e∈o.after->Region.binds .any e=true->e.on<j)(R:Rel (sg 0) M Fz w)(E:dB (sg 0) M Fz w (env p0) a.tmps){Q:Exit->Act->World->Prop}
  (hQ:∀p w' M' Fz',p.defers=a.defers->Rel (sg os.length) M' Fz' w'->dB (sg os.length) M' Fz' w' (env os.length) p.tmps->bH (sg 0) M Fz w (sg os.length) M' Fz' w'->Q .normal p w') :
  wpAny P .any ops Q (ops.size-p0) (Nv ops.size p0) a w:=by
 have an:=T.ple;have av:=T.len;have x:=T.le;have q:∀b,M b≠none->b<(sg 0).length:=λb h=>by
  cases hM:M b with
  |none=>simp_all
  |some c=>exact (R.lt hM).1
 have y:∀(d:Nat)(listed:Array Bool)(M':Nat->Option Nat)(Fz':Nat->Prop)(w':World)(p:Act),listed.size=ops.size->Vr ops.size listed<=d->fX ops (gG listed)->(∀i,i<p0->gG listed i)->(∀i,gG listed i->i<n0) ->
   Inv os n0 env sg wrs M Fz w a.defers (gG listed) M' Fz' w' p->wpAny P .any ops Q d listed p w':=by
  intro d;induction d with
  |zero=>
   intro listed M' Fz' w' p m hu K z u I;have r:=vP (N:=ops.size) (listed:=listed) (by omega);have hn:n0=os.length:=by
    rcases sO n0 os.length with h | h
    ·grind
    ·omega
   obtain ⟨U,W,v⟩:=I.done T O (λi f=>r i (by omega)) q;refine Tw O T t l hQ 0 listed n0 M' Fz' w' p m (cX _) x (λi f=>⟨λh=>u i h,λ_=>r i f⟩) (by omega) I.uh U W v
  |succ d ih=>
   intro listed M' Fz' w' p m hu K z u I;by_cases g:∀i,i<n0->gG listed i
   ·obtain ⟨U,W,v⟩:=I.done T O g q;refine Tw O T t l hQ (d+1) listed n0 M' Fz' w' p m (cX _) x (λi f=>⟨λh=>u i h,λh=>g i h⟩) ?_ I.uh U W v;have:os.length-n0<=Vr ops.size listed:=by
     unfold Vr;have e:(List.range ops.size).filter (λj=>!listed.getD j false)=(List.range ops.size).filter (λj=>decide (n0<=j)):=by
      apply List.filter_congr
      grind [gG]
     rw[e,show ops.size=n0+(os.length-n0) from by omega,cnt_ge];omega
    omega
   ·refine ⟨λhr=>?_,λj X=>?_⟩
    ·grind [yR]
    ·rw[mem_ready] at X;obtain ⟨h1,o,Y,Z⟩:=X;have aa:j<ops.size:=(Cy.1 Y).1;have A:¬gG listed j:=by
      grind [gG]
     have s:∀F e,ops[j]? = some F->e∈F.after->Region.binds .any e=true->gG listed e.on:=λF e n L ab=>by rw[Y] at n;simp only[au] at n;subst n;exact Z e L ab
     have ad:j<n0:=by
      rcases sO j n0 with h | h
      ·exact h
      ·refine absurd (λi f=>?_) g;rcases sO i p0 with G | G
       ·simp_all
       ·exact (t i j G (by omega) h (by omega)).ready K s
     refine I.step (S':=gG (listed.setIfInBounds j true)) T O K ad A s (λi=>Jw (by omega) i) _ λa1 w1 M1 af I1=>?_;refine ih (listed.setIfInBounds j true) M1 af w1 a1 (by grind) ?_ ?_ (λi f=>(Jw (by omega) i).2 (.inl (z i f))) ?_ I1
     ·have:=Dv (N:=ops.size) (listed:=listed) (k:=j) (by omega) aa A;omega
     ·intro i F e f n L hb;rw[Jw (by omega)] at f ⊢;rcases f with f | rfl
      ·exact .inl (K i F e f n L hb)
      simp_all
     grind [Jw]
 have m:∀k,(Nv ops.size k).size=ops.size:=by
  intro k;induction k with
  |zero=>simp[Nv]
  |succ k ih=>grind [Nv]
 have hl:∀k i,i<ops.size->(gG (Nv ops.size k) i↔i<k):=by
  intro k;induction k with
  |zero=>grind [Nv,gG,jc]
  |succ k ih=>
   intro i f;by_cases hk:k<ops.size
   ·grind [Nv,Jw]
   grind [Nv]
 have ax:∀i,gG (Nv ops.size p0) i->i<ops.size:=by grind [gG]
 have ak:∀k,k<=ops.size->Vr ops.size (Nv ops.size k)<=ops.size-k:=by
  intro k;induction k with
  |zero=>grind [Vr]
  |succ k ih=>
   intro hk;have:=Dv (N:=ops.size) (listed:=Nv ops.size k) (k:=k) (by grind) (by omega) (λh=>by grind)
   grind [Nv]
 refine y (ops.size-p0) _ M Fz w a (m _) (ak p0 (by omega)) ?_ (λi f=>(hl p0 i (by omega)).2 f) (λi f=>?_) (Inv.start R rfl E (λi f=>hl p0 i (by omega)) T O)
 ·intro j o e X Y L hb
  grind
 grind
end
end Go.Abs
end
section
namespace Go.Abs
variable[Gl]
def yu:mS->Exit
 |.normal=>.normal
 |.exit i=>if i % 2=0 then .exit (i / 2) else .goto (i / 2)
 |.ret=>.ret
theorem Nm(i:Nat):yu (.exit (2 * i))=.exit i:=by
 show (if 2 * i % 2=0 then Exit.exit (2 * i / 2) else Exit.goto (2 * i / 2))=_
 simp_all
theorem KZ(i:Nat):yu (.exit (2 * i+1))=.goto i:=by
 show (if (2 * i+1) % 2=0 then Exit.exit ((2 * i+1) / 2) else Exit.goto ((2 * i+1) / 2))=_
 grind
theorem Bh{i:Nat}(h:i % 2=0):yu (.exit i)=.exit (i / 2):=if_pos h
theorem Tf{i:Nat}(h:¬i % 2=0):yu (.exit i)=.goto (i / 2):=if_neg h
theorem qD{i:Nat}{R:Act->World->Prop}{Q:Exit->Act->World->Prop}{a:Act}{w:World}(h:Q (yu (.exit i)) a w):Exit.then R Q (yu (.exit i)) a w:=by
 by_cases b:i % 2=0
 ·rw[Bh b] at h ⊢;exact h
 ·rw[Tf b] at h ⊢;exact h
theorem EX{id:Nat}{Q:Exit->Act->World->Prop}{a:Act}{w:World}(h:Q .normal a w):Exit.inBlock id Q (yu (.exit (2 * id))) a w:=by rw[Nm];simp only[Exit.inBlock,if_true];exact h
theorem Ci{i id:Nat}{Q:Exit->Act->World->Prop}{a:Act}{w:World}(d:i≠2 * id)(h:Q (yu (.exit i)) a w):Exit.inBlock id Q (yu (.exit i)) a w:=by
 by_cases b:i % 2=0
 ·rw[Bh b] at h ⊢;simp only[Exit.inBlock]
  grind
 ·rw[Tf b] at h ⊢;exact h
section
variable{P:Program}{orc:gz}
theorem Tu{n:Nat}:∀(os:List aH)(n:Nat)(e e':List D)(σ σ':ar)(b:List d_),me P orc n os e σ=some (e',σ',b) ->
  ∃ (env : Nat -> List D) (sg : Nat -> ar) (wrs : Nat -> List Nat), env 0 = e /\ sg 0 = σ /\ env os.length = e' /\ sg os.length = σ' /\ b.length = os.length /\
   (∀(i:Nat) ao,os[i]? = some ao->fi P orc ao (env i) (sg i)=some (env (i+1),sg (i+1),wrs i)/\b[i]? = some (dz ao (env i) (sg i).length (sg (i+1)).length (wrs i))) /\
   (∀i,i<os.length->i<n->jt (sg i) (sg (i+1)) (wrs i)=true):=by
 intro os;induction os with
 |nil=>intro n e e' σ σ' b h;simp only[me,au,aX] at h;obtain ⟨rfl,rfl,rfl⟩:=h;exact ⟨λ_=>e,λ_=>σ,λ_=>[],rfl,rfl,rfl,rfl,rfl,λi ao h=>by simp at h,λi h=>by simp at h⟩
 |cons o os ih=>
  intro n e e' σ σ' b h;simp only[me] at h;split at h
  ·rename_i g d w1 s;split at h
   ·rename_i t;split at h
    ·rename_i j k f l;simp only[au,aX] at h;obtain ⟨rfl,rfl,rfl⟩:=h;obtain ⟨env,sg,wrs,u,v,m,p,q,x,y⟩:=ih (n-1) g j d k f l;refine ⟨λi=>match i with | 0=>e | i+1=>env i,λi=>match i with | 0=>σ | i+1=>sg i,λi=>match i with | 0=>w1 | i+1=>wrs i,rfl,rfl,m,p,by simp[q],λi ao r=>?_,λi r z=>?_⟩
     ·grind
     grind
    simp_all
   simp_all
  simp_all
theorem uR{ops:Array Oper}(h:Aa ops.toList=true)(j:Nat)(o:Oper)(e:Edge)(b:ops[j]? = some o)(d:e∈o.after)(f:Region.binds .any e=true):e.on<j:=by
 have g:j<ops.size:=(Cy.1 b).1;have i:=iR.1 h j (by simp_all)
 grind
theorem Mt{α d:Type}{f:α->Option d}:∀{l:List α}{r:List d},l.mapM f=some r->r.length=l.length/\∀(i:Nat) b,r[i]? = some b->∃a,l[i]? = some a/\f a=some b:=by
 intro l;induction l with
 |nil=>simp_all
 |cons a l ih=>grind [Option.bind_eq_some_iff]
theorem Nf(O:ou P orc):∀(os:List aH)(e e':List D)(σ σ':ar)(wr:List Nat),py P orc os e σ=some (e',σ',wr)->σ.length<=σ'.length/\∀b,b<σ.length->b∉wr->σ'[b]? = σ[b]?:=by
 intro os;induction os with
 |nil=>
  intro e e' σ σ' wr h;simp only[py,au,aX] at h
  simp_all
 |cons o os ih=>
  intro e e' σ σ' wr h;simp only[py] at h;split at h
  ·rename_i g d w1 f;split at h
   ·rename_i i j w2 k;simp only[au,aX] at h;obtain ⟨rfl,rfl,rfl⟩:=h;obtain ⟨l,m,_⟩:=gY O f
    grind
   simp_all
  simp_all
theorem Fb(O:ou P orc):∀(os:List aH)(n:Nat)(e e':List D)(σ σ':ar)(d:List d_),me P orc n os e σ=some (e',σ',d) ->
  σ.length<=σ'.length/\∀b,b<σ.length->b∉d.flatMap (·.wr)->σ'[b]? = σ[b]?:=by
 intro os;induction os with
 |nil=>
  intro n e e' σ σ' d h;simp only[me,au,aX] at h
  simp_all
 |cons o os ih=>
  intro n e e' σ σ' d h;simp only[me] at h;split at h
  ·rename_i j f w1 k;split at h
   ·split at h
    ·rename_i l m g p;simp only[au,aX] at h;obtain ⟨rfl,rfl,rfl⟩:=h;obtain ⟨q,r,_⟩:=gY O k;obtain ⟨s,t⟩:=ih _ j l f m g p;refine ⟨lK q s,λb u i=>?_⟩;simp only[yBz,gp,not_or] at i;rw[t b (by omega) i.2,r b u i.1]
    simp_all
   simp_all
  simp_all
theorem wz(O:ou P orc):∀(k:Nat)(c:aR)(e e':List D)(σ σ':ar)(wr wr':List Nat)(x:mS),kV P orc k c e σ wr=some (x,e',σ',wr') ->
  σ.length<=σ'.length/\(∀b∈wr,b∈wr')/\∀b,b<σ.length->b∉wr'->σ'[b]? = σ[b]?:=by
 intro k;induction k with
 |zero=>grind [kV]
 |succ k ih=>
  intro c e e' σ σ' wr wr' x h;cases c with
  |skip=>simp only[kV,au,aX] at h;simp_all
  |exit id=>simp only[kV,au,aX] at h;simp_all
  |ret=>simp only[kV,au,aX] at h;simp_all
  |stuck=>grind [kV]
  |lbl l=>grind [kV]
  |We l a r=>grind [kV]
  |Wc o m a b=>grind [kV]
  |Dc os=>
   simp only[kV,cE,aX] at h;obtain ⟨⟨g,d,w1⟩,f,_,_,rfl,rfl⟩:=h;obtain ⟨q,s⟩:=Nf O os _ _ _ _ _ f
   simp_all
  |GZ os i n p=>
   have one:∀n g d w1,ky P orc os i p n e σ=some (g,d,w1)->σ.length<=d.length/\∀b,b<σ.length->b∉w1->d[b]? = σ[b]?:=by
    intro n g d w1 f;unfold ky at f;split at f
    ·rename_i t u v j;split at f
     ·simp only[au,aX] at f;obtain ⟨_,rfl,rfl⟩:=f;exact Fb O os _ _ _ _ _ _ j
     simp_all
    simp_all
   grind [kV]
  |seq a b=>grind [kV]
  |cond o a b=>grind [kV]
  |block id b=>grind [kV]
  |loop b=>grind [kV]
theorem vK{ops:Array Oper}{os:List aH}(g:ops.toList.mapM (bx P ops)=some os):∀(i:Nat) o c,ops[i]? = some o->o.op≠.defer c:=by intro i o c e;obtain ⟨k,h⟩:=Mt g;rw[<-OD] at e;have l:=(gC.1 e).1;obtain ⟨b,j⟩:∃b,os[i]? = some b:=⟨_,eS (by omega)⟩;obtain ⟨m,d,f⟩:=h i b j;rw[e] at d;cases d;exact qL f c
theorem Ui(O:ou P orc){id:Nat}{ops:Array Oper}{os:List aH}{σ σ':ar}{M:Nat->Option Nat}{Fz:Nat->Prop}{w:World}{e e':List D}{a:Act}{wr:List Nat}{Q:Exit->Act->World->Prop}
  (k:ops.toList.mapM (bx P ops)=some os) (R:Rel σ M Fz w) (E:dB σ M Fz w e a.tmps) (h:py P orc os e σ=some (e',σ',wr))
  (l:∀b w' M' Fz',b.defers=a.defers->Rel σ' M' Fz' w'->dB σ' M' Fz' w' e' b.tmps->bH σ M Fz w σ' M' Fz' w'->Q .normal b w'):(Code.region id ops false).wq P Q a w:=by
 obtain ⟨d,f⟩:=Mt k;refine Uu (vK k) ?_;have g:ops.size=os.length:=by rw[d,Array.length_toList]
 rw[List.range_eq_range',g];exact ops_wp O os 0 σ σ' M Fz w e e' a wr (λj m n=>by obtain ⟨o,p,i⟩:=f j m n;exact ⟨o,by rw[Rz,<-OD];exact p,i⟩) R E h λb w' M' Fz' d f q r _=>⟨l b w' M' Fz' d f q r,by simp⟩
theorem PY{ops:Array Oper}:∀(k i j:Nat),i<=j->j<i+leads ops k i->Ej ops j=true:=by
 intro k;induction k with
 |zero=>grind [leads]
 |succ k ih=>
  intro i j d b;simp only[leads] at b;split at b
  ·rename_i h;by_cases e:i=j
   ·simp_all
   ·exact ih (i+1) j (by omega) (by omega)
  ·omega
theorem HQ{ops:Array Oper}{i:Nat}(h:i<lead ops):Region.noSelect ops=true/\Ej ops i=true:=by
 unfold lead at h;split at h
 ·rename_i b;exact ⟨b,PY ops.size 0 i (by omega) (by omega)⟩
 ·omega
def S_(Q:Exit->Act->World->Prop):Exit->Act->World->Prop:=λx a w=>x=.normal/\Q .normal a w
theorem PZ{ops:Array Oper}{Q:Exit->Act->World->Prop}{i:Nat}{a:Act}{w:World}{K:Act->World->Prop}(h:wpOp P ops (S_ Q) i K a w):wpOp P ops Q i K a w:=by
 unfold wpOp at *;split
 ·simp_all
 ·rename_i o d;simp only[d] at h;split
  ·rename_i f;simp only[f,if_true] at h;rcases h with h | ⟨_,g,w',h,_⟩
   ·left;unfold Oper.wp at *;generalize (execOp a.eval o).run P w=r at *;cases r with
    |ok n w'=>
     cases n <;> simp only[Oper.upon] at h ⊢ <;>
      first
       |exact h
       |exact Calls.mono h (λe w'' b=>by
         cases e with
         |returned v=>exact b
         |panicked c=>exact absurd b.1 (by simp)
         |outgrown=>obtain ⟨g,w',j,_⟩:=b;simp_all)
    |halt x w'=>
     cases x <;> simp only[Oper.upon] at h ⊢
     exact absurd h.1 (by simp)
   simp_all
  simp_all
theorem NA{ops:Array Oper}{Q:Exit->Act->World->Prop}{md:Region.Mode}:∀(b:Nat)(listed:Array Bool)(a:Act)(w:World),wpAny P md ops (S_ Q) b listed a w->wpAny P md ops Q b listed a w:=by
 intro b;induction b with
 |zero=>intro listed a w h;exact ⟨h.1,h.2.2⟩
 |succ b ih=>intro listed a w h;exact ⟨λd=>(h.1 d).2,λi e=>PZ (wpOp_mono (λf w' g=>ih _ f w' g) (h.2 i e))⟩
theorem lead_wp{ops:Array Oper}{Q:Exit->Act->World->Prop}{p:Nat}{w:World}(y:p<=lead ops)(l:p<=ops.size)(J:Nat->Act->Prop)
  (z:∀i o x a,i<p->ops[i]? = some o->(o.op=.move x∨o.op=.assign x)->o.guard=none->J i a->J (i+1) (a.put o.dst (a.eval x)))
  (g:∀a,J p a->wpAny P .any ops (S_ Q) (ops.size-p) (Nv ops.size p) a w):∀k a,k<=p->J (p-k) a->wpAny P .any ops (S_ Q) (ops.size-(p-k)) (Nv ops.size (p-k)) a w:=by
 intro k;induction k with
 |zero=>simp_all
 |succ k ih=>
  intro a hk h;obtain ⟨i,rfl⟩:∃i,p=i+(k+1):=⟨p-(k+1),by omega⟩;have m:i+(k+1)-(k+1)=i:=by omega
  have n:i+(k+1)-k=i+1:=by omega
  rw[m] at h ⊢;obtain ⟨e,d⟩:=HQ (ops:=ops) (i:=i) (by omega);simp only[Ej,bN] at d;obtain ⟨⟨f,q⟩,r⟩:=d;cases j:ops[i]? with
  |none=>simp_all
  |some o=>
   rw[j] at f;simp only[Option.map_some,Option.getD_some,isMv,bN,Option.isNone_iff_eq_none] at f;obtain ⟨s,t⟩:=f;have b:∃x,o.op=.move x∨o.op=.assign x:=by grind
   obtain ⟨x,b⟩:=b;have u:Go.Yields P ops o (a.eval x) a:=by left;refine ⟨by simp[Region.wanted,s],λw=>?_⟩;rcases b with b | b <;> simp[execOp,b]
   have v:ops.size-i=(ops.size-(i+1))+1:=by omega
   rw[v];refine wpAny_take j e q r (λc a w h=>absurd h.1 (by simp)) u ?_;have:=ih (a.put o.dst (a.eval x)) (by omega) (by simp_all);rw[n] at this;exact this
theorem draw_wp (u:P.follows .mixedOrders=true) (O:ou P orc) {id n:Nat} {ops:Array Oper} {os:List aH} {σ σ':ar} {M:Nat→Option Nat} {Fz:Nat→Prop} {w:World} {e e':List D} {a:Act} {W:List d_} {Q:Exit→Act→World→Prop}
  (hc:ops.toList.mapM (bx P ops)=some os) (m:Aa ops.toList=true) (R:Rel σ M Fz w) (E:dB σ M Fz w e a.tmps) (h:me P orc n os e σ=some (e',σ',W)) (hn:n≤os.length)
  (hp:e_ (PU ops.toList) W=true) (ht:np (PU ops.toList) (lead ops) n os.length=true) (X:lead ops≤n)
  (Y:∀g w' M' Fz',g.defers=a.defers→Rel σ' M' Fz' w'→dB σ' M' Fz' w' e' g.tmps→bH σ M Fz w σ' M' Fz' w'→Q .normal g w'):(Code.region id ops true).wq P Q a w:=by
 obtain ⟨r,Z⟩:=Mt hc
 obtain ⟨env,sg,wrs,k1,k2,k3,k4,k5,k6,k7⟩:=Tu (n:=n) os n e e' σ σ' W h
 subst k1 k2 k3 k4
 have v:os.length=ops.size:=by omega
 have mv:∀i o x,i<lead ops→ops[i]? = some o→(o.op=.move x∨o.op=.assign x)→o.guard=none→∃z,bW x=some z∧env (i+1)=oE (env i) o.dst (z.ev (env i))∧sg (i+1)=sg i∧wrs i=[]:=by
  intro i o x k A s U
  have F:i<os.length:=by omega
  obtain ⟨o',q,d⟩:=Z i _ (eS F)
  rw [OD,A] at q
  simp only [au] at q
  subst q
  have G:=(k6 i _ (eS F)).1
  unfold bx at d
  rw [U] at d
  simp only [z_] at d
  cases K:bW x with
  | none=>grind [comp,lJ]
  | some z =>
   have aa:comp P o.op o.type=some (.Ba z):=by
    grind [comp,lJ]
   rw [aa] at d
   simp only [au] at d
   rw [←d] at G
   simp only [fi,gS,bm,Option.map_some,au,aX] at G
   simp_all
 have ab:∀i j,lead ops≤i→i<j→n≤j→j<os.length→Dg ops i j:=fun i j af ad ak hj=>by
  have f:=iR.1 ht j (by simp_all)
  simp only [gF,bA] at f
  rcases f with f | f
  ·omega
  ·have t:=iR.1 f i (by simp_all)
   simp only [gF] at t
   grind [Nat.blt_eq,Dp]
 have T:Tr P orc ops os (lead ops) n env sg wrs:={
  len:=v
  comp:=fun j ao hj=>by simp_all
  step:=fun i ao k=>(k6 i ao k).1
  wrk:=fun i k=>k7 i (by omega) k
  le:=hn
  pair:=fun i j x y ad s hy=>by
   have hj:=(gC.1 hy).1
   have f:=iR.1 hp j (by simp_all)
   have t:=iR.1 f i (by simp_all)
   simp only [gF] at t
   grind [Dp]
  lead:=fun i k=>by
   obtain ⟨_,L⟩:=HQ k
   simp only [Ej,bN] at L
   cases A:ops[i]? with
   | none=>simp_all
   | some o =>
    have r:=L.1.1
    rw [A] at r
    simp only [Option.map_some,Option.getD_some,isMv,bN,Option.isNone_iff_eq_none] at r
    obtain ⟨U,an⟩:=r
    have s:∃x,o.op=.move x∨o.op=.assign x:=by
     grind
    obtain ⟨x,s⟩:=s
    grind
  ple:=X }
 refine xV u (vK hc) ?_
 replace Y:=fun g w' M' Fz' r Z f t=>(⟨Y g w' M' Fz' r Z f t,by simp⟩:mX Q .normal g w')
 have R1:Rel (sg 0) M Fz { w with drawn:=w.drawn+1 }:=R.heap rfl ⟨rfl,rfl,rfl⟩
 have EH:bH (sg 0) M Fz w (sg 0) M Fz { w with drawn:=w.drawn+1 }:=bH.heap R rfl ⟨rfl,rfl,rfl⟩
 refine NA _ _ _ _ ?_
 have l:=lead_wp (P:=P) (ops:=ops) (Q:=mX Q) (p:=lead ops) (w:={ w with drawn:=w.drawn+1 }) (cX _) (by omega)
  (fun i b=>dB (sg 0) M Fz { w with drawn:=w.drawn+1 } (env i) b.tmps∧b.defers=a.defers)
  (fun i o x b k A s U N=>by
   obtain ⟨z,K,f,t,_⟩:=mv i o x k A s U
   refine ⟨?_,by rw [←N.2]; cases o.dst <;> rfl⟩
   rw [f]
   exact N.1.put o.dst (my N.1 K))
  (fun b N=>by
   refine WH O T ab (uR m) R1 N.1 fun g w' M' Fz' hd R' E' EV=>⟨rfl,?_⟩
   exact Y g w' M' Fz' (by simp_all) R' E' (EH.trans EV (cX _)))
  (lead ops) a (cX _) (by rw [yCl]; exact ⟨E.mono EH,rfl⟩)
 rw [yCl,Nat.sub_zero] at l
 exact l
theorem Le(os:List aH):Wa os<=os.length:=by grind [Wa]
theorem FL(os:List aH):kB os<=os.length:=by
 induction os with
 |nil=>simp[kB]
 |cons o os ih=>grind [kB]
theorem Ji (W:P.follows .mixedOrders=true) (O:ou P orc):∀(k:Nat),
  (∀(c:Code) (ac:aR) (σ σ':ar) (M:Nat→Option Nat) (Fz:Nat→Prop) (w:World) (e e':List D) (a:Act) (wr wr':List Nat) (x:mS) (Q:Exit→Act→World→Prop),bM P c=some ac→Rel σ M Fz w→dB σ M Fz w e a.tmps →
   kV P orc k ac e σ wr=some (x,e',σ',wr')→(∀z w' M' Fz',z.defers=a.defers→Rel σ' M' Fz' w'→dB σ' M' Fz' w' e' z.tmps→bH σ M Fz w σ' M' Fz' w'→Q (yu x) z w')→c.wq P Q a w) ∧
  (∀(c:Code) (ac:aR) (σ σ':ar) (M:Nat→Option Nat) (Fz:Nat→Prop) (w:World) (e e':List D) (a:Act) (wr wr':List Nat) (x:mS) (Q:Exit→Act→World→Prop),bM P c=some ac→Rel σ M Fz w→dB σ M Fz w e a.tmps →
   kV P orc k (.loop ac) e σ wr=some (x,e',σ',wr')→(∀z w' M' Fz',z.defers=a.defers→Rel σ' M' Fz' w'→dB σ' M' Fz' w' e' z.tmps→bH σ M Fz w σ' M' Fz' w'→Q (yu x) z w')→Code.rq P c Q k a w):=by
 intro k
 induction k with
 | zero=>grind [kV]
 | succ k ih =>
  obtain ⟨q,ab⟩:=ih
  have L:∀(c:Code) (ac:aR) (σ σ':ar) (M:Nat→Option Nat) (Fz:Nat→Prop) (w:World) (e e':List D) (a:Act) (wr wr':List Nat) (x:mS) (Q:Exit→Act→World→Prop),bM P c=some ac→Rel σ M Fz w→dB σ M Fz w e a.tmps →
   kV P orc (k+1) (.loop ac) e σ wr=some (x,e',σ',wr')→(∀z w' M' Fz',z.defers=a.defers→Rel σ' M' Fz' w'→dB σ' M' Fz' w' e' z.tmps→bH σ M Fz w σ' M' Fz' w'→Q (yu x) z w')→Code.rq P c Q (k+1) a w:=by
   intro c ac σ σ' M Fz w e e' a wr wr' x Q d R E h t
   rw [JT]
   simp only [kV] at h
   split at h
   ·rename_i u f bU p
    have hl:=(wz O _ _ _ _ _ _ _ _ _ p).1
    refine q c ac σ f M Fz w e u a wr bU .normal _ d R E p fun v w1 A j hd F G m=>?_
    exact ab c ac f σ' A j w1 u e' v bU wr' x Q d F G h fun a2 w2 M2 N ad R2 E2 T=>t a2 w2 M2 N (by simp_all) R2 E2 (m.trans T hl)
   ·rename_i X
    have Y:x≠.normal:=fun Y=>by simp_all
    refine q c ac σ σ' M Fz w e e' a wr wr' x _ d R E h fun v w1 A j hd F G m=>?_
    have:=t v w1 A j hd F G m
    cases x with
    | normal=>simp_all
    | exit i=>grind [qD]
    | ret=>exact this
  refine ⟨?_,L⟩
  intro c ac σ σ' M Fz w e e' a wr wr' x Q d R E h t
  cases c with
  | skip =>
   simp only [bM,au] at d
   subst d
   simp only [kV,au,aX] at h
   obtain ⟨rfl,rfl,rfl,_⟩:=h
   exact wq_skip (t a w M Fz rfl R E (bH.refl R))
  | exit id =>
   simp only [bM,au] at d
   subst d
   simp only [kV,au,aX] at h
   grind [bH.refl,Nm,Go.wq_exit]
  | goto l =>
   simp only [bM,au] at d
   subst d
   simp only [kV,au,aX] at h
   grind [bH.refl,KZ,Go.wq_goto]
  | scope b =>
   grind [bM,Option.map_eq_some_iff,KT,kV]
  | rangeFunc g ps x y =>
   simp only [bM,au] at d
   subst d
   rcases Cc (bW g) ps.toList (bM P x) (bM P y) (x.calm&&y.calm) with ⟨_,_,_,_,_,_,_,e⟩ | e <;> rw [e] at h <;> simp [kV] at h
  | ret =>
   simp only [bM,au] at d
   subst d
   simp only [kV,au,aX] at h
   obtain ⟨rfl,rfl,rfl,_⟩:=h
   exact wq_ret (t a w M Fz rfl R E (bH.refl R))
  | region id ops Z =>
   simp only [bM] at d
   split at d
   ·rename_i os aa
    cases Z with
    | false =>
     simp only [b_,cw,au] at d
     subst d
     simp only [kV,cE,aX] at h
     obtain ⟨⟨u,f,w1⟩,p,rfl,rfl,rfl,_⟩:=h
     exact Ui O aa R E p t
    | true =>
     simp only [if_true] at d
     split at d
     ·rename_i U
      simp only [au] at d
      subst d
      have one:∀n u f w1,n≤os.length→ky P orc os (PU ops.toList) (lead ops) n e σ=some (u,f,w1)→x=.normal→u=e'→f=σ'→(Code.region id ops true).wq P Q a w:=by
       intro n u f w1 hn p Y he hs
       unfold ky at p
       split at p
       ·rename_i e2 aA is h2
        split at p
        ·rename_i s
         simp only [bN] at s
         simp only [au,aX] at p
         obtain ⟨rfl,rfl,rfl⟩:=p
         subst Y he hs
         exact draw_wp W O aa U R E h2 hn s.1.1 s.1.2 (CY s.2) t
        simp_all
       simp_all
      simp only [kV] at h
      split at h
      ·grind [FL]
      ·split at h
       ·grind [Le]
       grind
     grind [kV]
   grind [kV]
  | seq c1 c2 =>
   simp only [bM] at d
   split at d
   ·rename_i v a2 p h2
    simp only [au] at d
    subst d
    simp only [kV] at h
    split at h
    ·rename_i u f bU K
     have hl:=(wz O _ _ _ _ _ _ _ _ _ K).1
     refine Rc (q c1 v σ f M Fz w e u a wr bU .normal _ p R E K fun r w1 A j hd F G m=>?_)
     exact q c2 a2 f σ' A j w1 u e' r bU wr' x Q h2 F G h fun af w2 M2 N ad R2 E2 T=>t af w2 M2 N (by simp_all) R2 E2 (m.trans T hl)
    ·rename_i X
     have Y:x≠.normal:=fun Y=>by simp_all
     refine Rc (q c1 v σ σ' M Fz w e e' a wr wr' x _ p R E h fun r w1 A j hd F G m=>?_)
     have:=t r w1 A j hd F G m
     cases x with
     | normal=>simp_all
     | exit i=>grind [qD]
     | ret=>exact this
   simp_all
  | cond o c1 c2 =>
   simp only [bM] at d
   split at d
   ·rename_i oo v a2 h0 p h2
    simp only [au] at d
    subst d
    simp only [kV] at h
    have hv:=my E h0
    grind [Go.zY,pr,Go.ya]
   grind [kV]
  | block id c1 =>
   simp only [bM,cE] at d
   obtain ⟨v,p,rfl⟩:=d
   simp only [kV] at h
   refine MH ?_
   split at h
   ·rename_i i u f bU K
    split at h
    ·rename_i ak
     simp only [au,aX] at h
     obtain ⟨rfl,rfl,rfl,_⟩:=h
     refine q c1 v σ f M Fz w e u a wr bU (.exit i) _ p R E K fun r w1 A j hd F G m=>?_
     have:=t r w1 A j hd F G m
     rw [ak]
     exact EX this
    grind [Ci]
   ·rename_i X
    refine q c1 v σ σ' M Fz w e e' a wr wr' x _ p R E h fun r w1 A j hd F G m=>?_
    have:=t r w1 A j hd F G m
    cases x with
    | normal=>exact this
    | exit i=>grind
    | ret=>exact this
  | loop c1 =>
   simp only [bM,cE] at d
   obtain ⟨v,p,rfl⟩:=d
   exact uz (k+1) (L c1 v σ σ' M Fz w e e' a wr wr' x Q p R E h t)
  | _=>grind [bM,kV]
end
end Go.Abs
end
section
namespace Go.Abs
variable[Gl]
section
variable{P:Program}{σ σ0:ar}{M M0:Nat->Option Nat}{Fz Fz0:Nat->Prop}{w w0:World}
def Gi(M:Nat->Option Nat)(Fz:Nat->Prop)(n:Nat):Nat->Prop:=λc=>Fz c∨∃b,n<=b/\M b=some c
theorem yF(n:Nat):∀(k:Nat)(l:List C),(chunks n k l).length=k:=by
 intro k;induction k with
 |zero=>intro l;rfl
 |succ k ih=>grind [chunks]
theorem Fu{n:Nat}:∀(k:Nat)(l:List C),l.length=k * n->∀(i:Nat) e,(chunks n k l)[i]? = some e->e.length=n/\∀(j:Nat),j<n->e[j]? = l[i * n+j]?:=by
 intro k;induction k with
 |zero=>grind [chunks]
 |succ k ih=>
  intro l b i e h;rw[Nat.succ_mul] at b;cases i with
  |zero=>grind [chunks]
  |succ i=>grind [chunks]
theorem Bo{α d:Type}{f:α->Option d}:∀{l:List α}{r:List d},l.mapM f=some r->∀(i:Nat) a,l[i]? = some a->∃b,r[i]? = some b/\f a=some b:=by
 intro l;induction l with
 |nil=>simp_all
 |cons a l ih=>grind [Option.bind_eq_some_iff]
theorem Kj(R:Rel σ M Fz w){n:Nat}:∀(k:Nat)(d:D)(x:C)(v:Value),fN σ n k d=some x->V σ M Fz w d v->VC (Gi M Fz n) w x v:=by
 intro k;induction k with
 |zero=>grind [fN]
 |succ k ih=>
  intro d x v h u;cases d with
  |c y=>simp only[fN,au] at h;subst h;exact u.qC.mono (λc hc=>⟨.inl hc,rfl⟩)
  |ptr b off sz=>
   simp only[fN] at h;split at h
   ·rename_i A;split at h
    ·rename_i cs E;simp only[cE] at h;obtain ⟨l,F,rfl⟩:=h;obtain ⟨c,s,rfl⟩:=u.wP E;obtain ⟨m,_⟩:=OJ E;obtain ⟨g,T,U,X,Y⟩:=R.row s m;obtain ⟨m1,G⟩:=Mt F;have:=VC.cK (Fz:=Gi M Fz n) (w:=w) (cs:=l) (off:=off) c 0 (λj=>g[j]!) (.inr ⟨b,A,s⟩) (λj d K=>?_) (λj d K=>?_)
     ·simp_all
     ·obtain ⟨a,r,_⟩:=G j d K;have q:=(gC.1 r).1;have e:g[j]? = some (g[j]'(by omega)):=sI _;have W:g[j]! = g[j]'(by omega):=getElem!_pos g j (by omega);rw[Rz,cell_of_row w c j g T (0,0) U,e,W]
      grind
     ·obtain ⟨a,r,L⟩:=G j d K;have q:=(gC.1 r).1;have e:g[j]? = some (g[j]'(by omega)):=sI _
      grind
    simp_all
   simp_all
  |sl b off len aw sz=>
   simp only[fN] at h;split at h
   ·rename_i N;obtain ⟨A,ad,ax⟩:=N;split at h
    ·rename_i cs E;simp only[cE] at h;obtain ⟨l,F,rfl⟩:=h;rcases u.ft E with ⟨rfl,W,_,_,_⟩ | ⟨c,o,cap,af,T0,s,rfl,a0,ak,a1,an,_⟩
     ·subst W;exact VC.cJ (nn:=Nat.blt 0 0) (es:=[]) aw none 0 (λh=>by cases h) (λ_=>rfl) (λ_ _=>undef) (λ_ h=>by simp at h) (cX _) (λi j e d h=>by simp at h) (λi j e d h=>by simp at h)
     obtain ⟨m,Z⟩:=OJ E;obtain ⟨g,T,U,X,Y⟩:=R.row s m;obtain ⟨m1,G⟩:=Mt F;have aa:l.length=len * aw:=by grind
     have O:∀(i j:Nat)(e:List C)(d:C),(chunks aw len l)[i]? = some e->e[j]? = some d->j<aw/\i<len/\o=off/\∃a,cs[off+(i * aw+j)]? = some a/\fN σ n k a=some d:=by
      intro i j e d t z;obtain ⟨h3,h4⟩:=Fu len l aa i e t
      grind [yF]
     have:=VC.cJ (Fz:=Gi M Fz n) (w:=w) (nn:=Nat.blt 0 len) (es:=chunks aw len l) aw (some ⟨c,o,none⟩) cap (λ_=>rfl) (λh=>by cases h) (λi j=>g[o+i * aw+j]!) (λe he=>?_) (by grind [yF]) (λi j e d t z=>?_) (λi j e d t z=>?_)
     ·grind [yF]
     ·grind [List.mem_iff_getElem?,Fu]
     ·obtain ⟨K,hi,rfl,a,r,L⟩:=O i j e d t z;have q:=(gC.1 r).1;rw[<-Nat.add_assoc] at r q;have e1:g[o+i * aw+j]? = some (g[o+i * aw+j]'(by omega)):=sI _;have W:g[o+i * aw+j]! = g[o+i * aw+j]'(by omega):=getElem!_pos g _ (by omega);refine ⟨c,o,rfl,.inr ⟨b,A,s⟩,?_,?_⟩
      ·grind [Go.cell_of_row]
      grind
     ·obtain ⟨K,hi,rfl,a,r,L⟩:=O i j e d t z;have q:=(gC.1 r).1;rw[<-Nat.add_assoc] at r q;have e1:g[o+i * aw+j]? = some (g[o+i * aw+j]'(by omega)):=sI _
      grind
    simp_all
   simp_all
  |fn f first cap=>
   simp only[fN] at h;split at h
   ·rename_i l1 l2 t z;simp only[au] at h;subst h;obtain ⟨m1,G⟩:=Mt t;obtain ⟨m3,m4⟩:=Mt z;cases u with
    |fn vs ws k1 k2 u hw=>
     refine .fn vs ws (by omega) (by omega) (λi d v a b=>?_) (λi d v a b=>?_)
     ·grind
     grind
   simp_all
  |mp b=>
   simp only[fN] at h;split at h
   ·rename_i A;split at h
    ·rename_i es ab m;simp only[cE] at h;obtain ⟨l,F,rfl⟩:=h;obtain ⟨c,rfl,s⟩:=u.DM m;obtain ⟨g,ck,U,⟨Z,_⟩,av⟩:=R.Oi m s;obtain ⟨m1,G⟩:=Mt F;refine .Ng c ck g (.inr ⟨b,A,s⟩) U (by omega) (λi p e hi he=>?_) (λi p e hi he=>?_)
     ·grind [Option.map_eq_some_iff]
     grind [Option.map_eq_some_iff]
    simp_all
   simp_all
  |agg cs=>grind [fN]
  |aS vs=>grind [fN]
  |any=>grind [fN]
theorem N_(R:Rel σ M Fz w){n k:Nat}{d r:D}{v:Value}(h:pu σ n k d=some r)(e:V σ M Fz w d v)(σ':ar)(M':Nat->Option Nat):V σ' M' (Gi M Fz n) w r v:=by
 have plain:∀d,(fN σ n k d).map D.c=some r->V σ M Fz w d v->V σ' M' (Gi M Fz n) w r v:=by intro d h e;simp only[cE] at h;obtain ⟨x,f,rfl⟩:=h;exact .c (Kj R k d x v f e)
 cases d with
 |agg q=>
  simp only[pu,cE] at h;obtain ⟨l,j,rfl⟩:=h;obtain ⟨m1,m⟩:=Mt j;cases e with
  |agg o s e=>refine .agg o (by simp_all) (λi d v a b=>?_);simp only[mE,cE] at a;obtain ⟨x,f,rfl⟩:=a;obtain ⟨y,p,g⟩:=m i x f;exact .c (Kj R k y x v g (e i y v p b))
 |_=>exact plain _ h e
theorem IT(R:Rel σ M Fz w){n k:Nat}{d r:D}{v:Value}(h:wT σ n k d=some r)(e:V σ M Fz w d v)(σ':ar)(M':Nat->Option Nat):V σ' M' (Gi M Fz n) w r v:=by
 cases d with
 |aS ds=>
  simp only[wT,cE] at h;obtain ⟨l,f,rfl⟩:=h;obtain ⟨m1,j⟩:=Mt f;cases e with
  |aS g m e=>
   refine .aS g (by omega) (λi d v a b=>?_)
   grind [N_]
 |_=>grind [wT,N_]
theorem Rel.forget(R0:Rel σ0 M0 Fz0 w0)(R:Rel σ M Fz w)(s:bH σ0 M0 Fz0 w0 σ M Fz w)(G:∀b,b<σ0.length->σ[b]? = σ0[b]?) :
  Rel σ0 (cZ M σ0.length) (Gi M Fz σ0.length) w/\bH σ0 M0 Fz0 w0 σ0 (cZ M σ0.length) (Gi M Fz σ0.length) w:=by
 have K:mM σ0 σ:=λb A z=>⟨A,by grind,rfl⟩;have O:∀b,b<σ0.length->M b=M0 b:=λb z=>by
  obtain ⟨ab,h1,_,h2⟩:=s.keep b _ (eS z)
  simp_all
 refine ⟨⟨λb c h=>?_,λb U c h W=>?_,λc h=>?_,Gl.mono (λc h=>⟨.inl h,rfl⟩) R.gl⟩,⟨s.size,s.frame,λb c h=>?_,λc h=>⟨.inl (s.fz c h).1,(s.fz c h).2⟩,λc h=>?_,s.qo,λb A z=>⟨A,z,cX _,λ_=>?_⟩,s.out⟩⟩
 ·unfold cZ at h;split at h
  ·rename_i z;obtain ⟨h1,A,o,h2,h3,h4⟩:=R.blk b c h;have X:M0 b=some c:=by simp_all
   obtain ⟨_,u,o0,h5,_,h6⟩:=R0.blk b c X;have:u=A:=by simp_all
   subst this;refine ⟨λhf=>?_,u,o,h5,h3,?_⟩
   ·rcases hf with hf | ⟨U,E,Y⟩
    ·simp_all
    ·have:=R.inj b U c h Y;omega
   ·have Z:=(h4.down K h6).cut;have e:∀{d v},V σ0 (cZ M σ0.length) Fz w d v->V σ0 (cZ M σ0.length) (Gi M Fz σ0.length) w d v:=λh=>h.sub mM.refl (λ_ _ h=>h) (λc h=>⟨.inl h,rfl⟩) (λc j T fr h=>⟨j,h,rfl⟩);cases u with
    |cells cs=>obtain ⟨j,T,ho,hl,F⟩:=Z;exact ⟨j,T,ho,hl,λi d v x y=>⟨e (F i d v x y).1,(F i d v x y).2⟩⟩
    |map es aa=>obtain ⟨j,ho,hl,F⟩:=Z;exact ⟨j,ho,hl,λi k d n e' x y=>let ⟨a,b,c⟩:=F i k d n e' x y;⟨a,b,e c⟩⟩
    |gone n=>exact Z.elim
  simp_all
 ·unfold cZ at h W;split at h
  ·split at W
   ·exact R.inj b U c h W
   simp_all
  simp_all
 ·rcases h with h | ⟨b,_,h⟩
  ·exact R.fz c h
  ·exact (R.lt h).2
 ·grind [cZ]
 ·rcases h with h | ⟨b,_,h⟩
  ·exact s.ow c h
  ·rcases s.ld b c h with h | h
   ·simp_all
   omega
 ·have E:=(gC.1 z).1;simp only[cZ,if_pos E]
  simp_all
theorem one_ok{ds:List D}{vs:Array Value}(hs:vs.size=ds.length)(e:∀(i:Nat) d v,ds[i]? = some d->vs[i]? = some v->V σ M Fz w d v) :
  V σ M Fz w (one ds) (if h:vs.size=1 then vs[0] else .tuple vs):=by
 match ds,hs,e with
 |[d], hs, e=>
  have f:vs.size=1:=by omega
  rw[dif_pos f];exact e 0 d _ (by simp) (sI (by omega))
 |[], hs, e=>rw[dif_neg (by grind)];exact .aS vs hs e
 |a :: b :: l, hs, e=>rw[dif_neg (by grind)];exact .aS vs hs e
def Qx(b:Array Value):ResultVar->Sem Value
 |.tmp t=>pure (b.getD t undef)
 |.cell x t=>do loadVar t (<-asAddr (b.getD x undef))
theorem Qv(fn:Func)(b:Array Value):results fn b=(do
  let vs <-fn.results.mapM (Qx b)
  pure (if h:vs.size=1 then vs[0] else .tuple vs)):=by
 unfold results;congr 2
theorem jA(R:Rel σ M Fz w){env:List D}{a:Act}(E:dB σ M Fz w env a.tmps){fn:Func}{rs:List (Nat×Option (Option Nat))}{ds:List D}(k:fn.results.toList.mapM (LR P)=some rs)(hd:rs.mapM (Mu env σ)=some ds) :
  ∃v,(results fn a.tmps).run P w=.ok v w/\V σ M Fz w (one ds) v:=by
 have p:∀(l:List ResultVar)(rs:List (Nat×Option (Option Nat)))(ds:List D),l.mapM (LR P)=some rs->rs.mapM (Mu env σ)=some ds ->
   ∃vs:List Value,(l.mapM (Qx a.tmps)).run P w=.ok vs w/\vs.length=ds.length/\∀(i:Nat) d v,ds[i]? = some d->vs[i]? = some v->V σ M Fz w d v:=by
  intro l;induction l with
  |nil=>simp_all
  |cons x l ih=>
   intro rs ds q s;simp only[Vw,Option.pure_def,Option.bind_eq_bind,cM,au] at q;obtain ⟨r,k,z,A,rfl⟩:=q;simp only[Vw,Option.pure_def,Option.bind_eq_bind,cM,au] at s;obtain ⟨d,hd,F,G,rfl⟩:=s;obtain ⟨vs,O,W,h5⟩:=ih z F A G;have X:∃v,(Qx a.tmps x).run P w=.ok v w/\V σ M Fz w d v:=by
    cases x with
    |tmp t=>simp only[LR,au] at k;subst k;simp only[Mu] at hd;have g:=(gC.1 hd).1;have e:a.tmps[t]? = some (a.tmps[t]'(by rw[E.1];exact g)):=sI _;refine ⟨_,rfl,?_⟩;rw[yAV,e];exact E.2 t _ _ hd e
    |cell y t=>
     simp only[LR,cE] at k;obtain ⟨n,Y,rfl⟩:=k;simp only[Mu] at hd;split at hd
     ·rename_i b off sz U;simp only[cM] at hd;obtain ⟨Z,f,hg⟩:=hd;have g:=(gC.1 U).1;have e:a.tmps[y]? = some (a.tmps[y]'(by rw[E.1];exact g)):=sI _;have hv:=E.2 y _ _ U e;obtain ⟨c,hM,aa⟩:=hv.wP f;obtain ⟨K,_⟩:=OJ f;obtain ⟨h,T,hh,ab,L⟩:=R.row hM K;have j:∀(i:Nat) x,Z[i]? = some x->∃u,w.cell? ⟨c,0+i,none⟩=some u/\V σ M Fz w x u:=by
       intro i x m;have hi:=(gC.1 m).1;have e:h[i]? = some (h[i]'(by omega)):=sI _;exact ⟨_,by rw[Rz,cell_of_row w c i h T (0,0) hh];exact e,(L i _ _ m e).1⟩
      obtain ⟨v,o,N⟩:=yH (P:=P) Y hg j;refine ⟨v,?_,N⟩;rw[Rz] at o;have eg:a.tmps.getD y undef=.pointer (some ⟨c,off,none⟩):=by simp_all
      show (do loadVar t (<-asAddr (a.tmps.getD y undef)):Sem Value).run P w=_
      grind [Go.asAddr]
     simp_all
   obtain ⟨v,ad,af⟩:=X;refine ⟨v::vs,?_,by simp[W],λi d' v' hi ak=>?_⟩
   ·simp_all
   grind
 obtain ⟨vs,q,s,O⟩:=p _ _ _ k hd;refine ⟨_,?_,one_ok (vs:=vs.toArray) (by omega) (λi d v a b=>O i d v a (by simp_all))⟩
 grind [Qv,Go.Sem.run_bind,Array.mapM_eq_mapM_toList,Go.Sem.run_map,Go.Result.andThen_ok,Go.Sem.run_pure]
end
theorem func_ok{P:Program}(l:P.follows .mixedOrders=true){orc:wK}(O:vV P orc){g:FuncId}{fn:Func}{U:lh}{W:Bool}{k:Nat}{ds:List D}{σ σ':ar}{r:D}{wr:List Nat}
  (X:P.funcs[g]? = some fn) (t:iG P fn W=some U) (h:evF1 P orc k U ds σ=some (r,σ',wr)) :
  Ok P g ds σ r σ'/\σ.length<=σ'.length/\∀b,b<σ.length->b∉wr->σ'[b]? = σ[b]?:=by
 unfold iG at t;split at t
 ·rename_i c E;split at t
  ·rename_i ac rs Y Z;simp only[au] at t;subst t;unfold evF1 at h;split at h
   ·rename_i aa;have ab:∀env f bU x,(x=.normal∨x=.ret)->kV P (λ_=>orc) k ac (ds++List.replicate (fn.ntmps-ds.length) (.aS [])) σ []=some (x,env,f,bU) ->
      finish ⟨fn.params.size+fn.nfree,fn.ntmps,rs,ac,W⟩ σ env f bU=some (r,σ',wr)->Ok P g ds σ r σ'/\σ.length<=σ'.length/\∀b,b<σ.length->b∉wr->σ'[b]? = σ[b]?:=by
     intro env f bU x hx m e;obtain ⟨k1,_,k3⟩:=wz (orc:=λ_=>orc) (λ_=>O) _ _ _ _ _ _ _ _ _ m;unfold finish at e;split at e
     ·rename_i u n;dsimp only at n e;have ad:some (one u,f,bU.filter (·<σ.length))=some (r,σ',wr)->Ok P g ds σ r σ'/\σ.length<=σ'.length/\∀b,b<σ.length->b∉wr->σ'[b]? = σ[b]?:=by
       intro he;simp only[au,aX] at he;obtain ⟨rfl,rfl,rfl⟩:=he;refine ⟨λM Fz w j R hs F=>?_,k1,λb E hn=>k3 b E (λhw=>hn (by simp_all))⟩;refine calls_of_wp X E ?_;have G:dB σ M Fz w (ds++List.replicate (fn.ntmps-ds.length) (.aS [])) (j++Array.replicate (fn.ntmps-j.size) undef):=by
        refine ⟨by simp[hs],λi d v a b=>?_⟩;rw[yBy] at a;rw[Array.getElem?_append] at b;split at a
        ·grind
        ·rename_i hi;rw[if_neg (by omega)] at b
         grind [V.undef]
       refine Om ((Ji l (orc:=λ_=>orc) (λ_=>O) k).1 c ac σ f M Fz w _ env { tmps:=j++Array.replicate (fn.ntmps-j.size) undef,defers:=[] } [] bU x _ Y R G m λy w' M' Fz' hd s K L=>?_);obtain ⟨v,o,p⟩:=jA (P:=P) s K Z n;have post:y.defers=[]/\∃v,(results fn y.tmps).run P w'=.ok v w'/\∃z M'' Fz'',Ending.returned v=.returned z/\Rel f M'' Fz'' w'/\V f M'' Fz'' w' (one u) z/\bH σ M Fz w f M'' Fz'' w':=
        ⟨hd,v,o,v,M',Fz',rfl,s,p,L⟩
       rcases hx with rfl | rfl
       ·exact post
       ·exact post
      split at e
      ·rename_i A;simp only[bN] at A;split at e
       ·rename_i r' N;simp only[au,aX] at e;obtain ⟨rfl,rfl,rfl⟩:=e;have q:∀b,b<σ.length->f[b]? = σ[b]?:=by
         grind
        refine ⟨λM Fz w j R hs F=>?_,cX _,λ_ _ _=>rfl⟩;refine calls_of_wp X E ?_;have G:dB σ M Fz w (ds++List.replicate (fn.ntmps-ds.length) (.aS [])) (j++Array.replicate (fn.ntmps-j.size) undef):=by
         refine ⟨by simp[hs],λi d v a b=>?_⟩;rw[yBy] at a;rw[Array.getElem?_append] at b;split at a
         ·grind
         ·rename_i hi;rw[if_neg (by omega)] at b
          grind [V.undef]
        refine Om ((Ji l (orc:=λ_=>orc) (λ_=>O) k).1 c ac σ f M Fz w _ env { tmps:=j++Array.replicate (fn.ntmps-j.size) undef,defers:=[] } [] bU x _ Y R G m λy w' M' Fz' hd s K L=>?_);obtain ⟨v,o,p⟩:=jA (P:=P) s K Z n;obtain ⟨R2,T⟩:=Rel.forget R s L q;have post:y.defers=[]/\∃v,(results fn y.tmps).run P w'=.ok v w'/\∃z M'' Fz'',Ending.returned v=.returned z/\Rel σ M'' Fz'' w'/\V σ M'' Fz'' w' r' z/\bH σ M Fz w σ M'' Fz'' w':=
         ⟨hd,v,o,v,_,_,rfl,R2,IT s N p _ _,T⟩
        rcases hx with rfl | rfl
        ·exact post
        ·exact post
       simp_all
      simp_all
     simp_all
    grind
   simp_all
  simp_all
 simp_all
def TblOk(P:Program)(b:FuncId->Option lh):Prop:=∀g d,b g=some d->aV P g=true/\∃fn e,P.funcs[g]? = some fn/\iG P fn e=some d
theorem evF_ok{P:Program}(f:P.follows .mixedOrders=true){b:FuncId->Option lh}(i:TblOk P b){prim:wK}(j:vV P prim)(k:Nat):∀n,vV P (evF P b prim k n):=by
 intro n;induction n with
 |zero=>intro g ds σ r σ' wr h;grind [evF]
 |succ n ih=>
  intro g ds σ r σ' wr h;simp only[evF] at h;split at h
  ·rename_i UC d;simp only[au] at h;subst h;exact j g ds σ r σ' wr d
  ·split at h
   ·rename_i l e;obtain ⟨m,fn,o,p,q⟩:=i g l e
    grind [func_ok]
   simp_all
end Go.Abs
end
