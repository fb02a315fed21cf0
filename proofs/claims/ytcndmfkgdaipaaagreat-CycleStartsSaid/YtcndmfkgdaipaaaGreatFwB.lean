/- Lemmas. -/
import Derived.Test.YtcndmfkgdaipaaaGreatFwA
import Derived.LoopN
import Derived.LoopNIn
import Derived.Orders
import Derived.OrdersIn
import Derived.RangeFuncCalls
import Derived.RangeFuncLeaves
import GoSem.ClaimChange
import Derived.DataReads
import Derived.Below
set_option linter.all false
section
namespace Go.Abs
variable[Gl]
structure aH where
 dst:Option Nat
 op:kN
 g:Option (Nat×Bool)
 deriving Inhabited
def nC(env:List D):Option Nat->D->List D
 |some t,d=>env.set t d
 |none,_=>env
def g_(env:List D):Option (Nat×Bool)->Option Bool
 |none=>some true
 |some (t, want)=>
  match env[t]? with
  |some (.c (.lit (.bool b)))=>some (b == want)
  |some (.aV [])=>some false
  |_=>none
def fo(P:Program)(orc:fA)(o:aH)(env:List D)(Y:ar):Option (List D×ar×List Nat):=
 match g_ env o.g with
 |some true=>(bx P (orc o.dst) o.op env Y).map λr=>(nC env o.dst r.1,r.2.1,r.2.2)
 |some false=>some (nC env o.dst (.aV []),Y,[])
 |none=>none
def jN(P:Program)(orc:fA):List aH->List D->ar->Option (List D×ar×List Nat)
 |[],env,Y=>some (env,Y,[])
 |o :: os, env, Y=>
  match fo P orc o env Y with
  |some (b, Y1, w1)=>
   match jN P orc os b Y1 with
   |some (d,aC,w2)=>some (d,aC,w1++w2)
   |none=>none
  |none=>none
def zy(ops:Array Oper):Option (Nat×Bool)->Option (Option (Nat×Bool))
 |none=>some none
 |some (j, want)=>
  match (ops[j]?).bind (·.dst) with
  |some t=>some (some (t,want))
  |none=>none
def bp(P:Program)(ops:Array Oper)(o:Oper):Option aH:=
 match zy ops o.guard,comp P o.op o.type with
 |some g,some b=>some ⟨o.dst,b,g⟩
 |_,_=>none
section
variable{P:Program}{Y Y':ar}{M M':Nat->Option Nat}{Fz Fz':Nat->Prop}{w w':World}{env env':List D}{a:Act}{orc:xg}
theorem dB.mono(E:dB Y M Fz w env a.tmps)(j:bF Y M Fz w Y' M' Fz' w'):dB Y' M' Fz' w' env a.tmps:=
 ⟨E.1,λi d v o s=>(E.2 i d v o s).mono j⟩
theorem dB.put(E:dB Y M Fz w env a.tmps){d:D}{v:Value}(j:Option Nat)(z:V Y M Fz w d v):dB Y M Fz w (nC env j d) (a.put j v).tmps:=by
 cases j with
 |none=>exact E
 |some t=>
  refine ⟨by simp[Act.put,nC,E.1],λi u x o s=>?_⟩;simp only[nC,yBM] at o;simp only[Act.put,yAW] at s;by_cases e:t=i
  ·simp_all
  ·rw[if_neg e] at o s;exact E.2 i u x o s
theorem V.undef:V Y M Fz w (.aV []) undef:=.aV #[] rfl (λi d v h=>by simp at h)
theorem ow(E:dB Y M Fz w env a.tmps){ops:Array Oper}{o:Oper}{g:Option (Nat×Bool)}{b:Bool}(f:zy ops o.guard=some g)(h:g_ env g=some b) :
  Region.wanted o (yielded ops a.tmps)=b:=by
 unfold Region.wanted;cases i:o.guard with
 |none=>grind [zy,g_]
 |some p=>
  obtain ⟨j,k⟩:=p;rw[i] at f;simp only[zy] at f;split at f
  ·rename_i t m;simp only[au] at f;subst f;simp only[g_] at h;simp only[yielded,m,aw];split at h
   ·rename_i q hb;have d:=(fq.1 hb).1;have e:a.tmps[t]? = some (a.tmps[t]'(by rw[E.1];exact d)):=qB _;have:=(E.2 t _ _ hb e).ce
    simp_all
   ·rename_i hb;have d:=(fq.1 hb).1;have e:a.tmps[t]? = some (a.tmps[t]'(by rw[E.1];exact d)):=qB _;have l:=E.2 t _ _ hb e;generalize r:a.tmps[t]'(by grind)=x at l e;rw[e];simp only[au] at h;subst h;cases l with
    |aV s=>simp_all
   simp_all
  simp_all
def call_ok(E:dB Y M Fz w env a.tmps){o:Oper}{f:Operand}{args:Array Operand}{u:Array TypeId}{of:aT}{os:List aT}{g:FuncId}{ds:List D}
  (R:o.op=.call { callee:=.value f,args:=args,argTypes:=u }) (T:cf f=some of) (y:Kk args=some os)
  (z:(∃first cap,of.ev env=.c (.fn (.func g) first cap)/\ds=first.map .c++os.map (aT.ev env)++cap.map .c)\/(∃first cap,of.ev env=.fn (.func g) first cap/\ds=first++os.map (aT.ev env)++cap))
  (h:aW P g=true):∃b:Array Value,(execOp a.eval o).run P w=.ok (.enter g b) w/\b.size=ds.length/\∀(i:Nat) d v,ds[i]? = some d->b[i]? = some v->V Y M Fz w d v:=by
 obtain ⟨W,X⟩:=Jc E y;have p:=nE E T;have q:∀(first cap:List D)(b j:Array Value),a.eval f=.func (.func g) b j->ds=first++os.map (aT.ev env)++cap->b.size=first.length->j.size=cap.length ->
   (∀(i:Nat) d v,first[i]? = some d->b[i]? = some v->V Y M Fz w d v)->(∀(i:Nat) d v,cap[i]? = some d->j[i]? = some v->V Y M Fz w d v) ->
   ∃b:Array Value,(execOp a.eval o).run P w=.ok (.enter g b) w/\b.size=ds.length/\∀(i:Nat) d v,ds[i]? = some d->b[i]? = some v->V Y M Fz w d v:=by
  intro first cap b j e s A F k l
  refine ⟨b++args.map a.eval++j,?_,by simp_all,λi d v m t=>?_⟩
  ·unfold aW at h;split at h
   ·rename_i fn G;simp only[bG,HU,ne_eq] at h;obtain ⟨hb,K⟩:=h;have L:fn.body.isNone=false:=by simp_all
    simp only[execOp,R,resolve,e,Deferred.ofValue,Sem.run_bind,Sem.run_pure,Result.andThen_ok,invoke,callFunc,run_program,G,lA,K,L,cw,b_]
   simp_all
  grind
 rcases z with ⟨first,cap,N,s⟩ | ⟨first,cap,N,s⟩
 ·rw[N] at p;have r:=p.pV;generalize e:a.eval f=U at r;cases r with
  |fn b j A F k l=>
   refine q _ _ b j e s (by grind) (by grind) (λi d v m t=>?_) (λi d v m t=>?_)
   ·simp only[lS,cC] at m;obtain ⟨x,O,rfl⟩:=m;exact .c (k i x v O t)
   ·simp only[lS,cC] at m;obtain ⟨x,O,rfl⟩:=m;exact .c (l i x v O t)
 ·rw[N] at p;generalize e:a.eval f=U at p;cases p with
  |fn b j A F k l=>exact q _ _ b j e s A F k l
def Ni(O:rV P orc)(R:Rel Y M Fz w)(E:dB Y M Fz w env a.tmps){o:Oper}{ao:kN}{d:D}{wr:List Nat}{Q:Exit->Act->World->Prop}(A:comp P o.op o.type=some ao)
  (h:bx P orc ao env Y=some (d,Y',wr)) (K:Act->World->Prop)
  (t:∀v w' M' Fz',Rel Y' M' Fz' w'->V Y' M' Fz' w' d v->bF Y M Fz w Y' M' Fz' w'->Y.length<=Y'.length->K (a.put o.dst v) w'):o.wp P a w K Q:=by
 rcases uT A with ⟨f,args,F,of,os,j,G,k,rfl⟩ | ⟨l,i,_⟩
 ·simp only[bx] at h;have u:∀g ds,orc g ds Y=some (d,Y',wr) ->
    ((∃first cap,of.ev env=.c (.fn (.func g) first cap)/\ds=first.map .c++os.map (aT.ev env)++cap.map .c)\/(∃first cap,of.ev env=.fn (.func g) first cap/\ds=first++os.map (aT.ev env)++cap))->o.wp P a w K Q:=by
   intro g ds L m;obtain ⟨p,q,hl,_⟩:=O g ds Y d Y' wr L;obtain ⟨N,b,hs,r⟩:=call_ok (P:=P) E j G k m p;unfold Oper.wp;rw[b];refine (q M Fz w N R hs r).mono λe w' T=>?_
   grind
  grind
 ·obtain ⟨U,v,w',M',b,s,x,y,z,hl⟩:=evOp_ok R E l i h;unfold Oper.wp;rw[b];rcases s with rfl | ⟨rfl,rfl⟩
  ·exact t v w' M' Fz x y z hl
  ·exact t _ w' M' Fz x y z hl
def Dn{orc:fA}(O:lT P orc)(R:Rel Y M Fz w)(E:dB Y M Fz w env a.tmps){ops:Array Oper}{i:Nat}{o:Oper}{ao:aH}{wr:List Nat}{Q:Exit->Act->World->Prop}(hi:ops[i]? = some o)(f:bp P ops o=some ao)
  (h:fo P orc ao env Y=some (env',Y',wr)) (K:Act->World->Prop)
  (p:∀j w' M' Fz',j.defers=a.defers->Rel Y' M' Fz' w'->dB Y' M' Fz' w' env' j.tmps->bF Y M Fz w Y' M' Fz' w'->Y.length<=Y'.length->K j w'):wpOp P ops Q i K a w:=by
 unfold bp at f;split at f
 ·rename_i g s q k;simp only[au] at f;subst f;unfold fo at h;have e:∀v,(a.put o.dst v).defers=a.defers:=λv=>by cases o.dst <;> rfl
  split at h
  ·rename_i l;have b:=ow E q l;simp only[cC] at h;obtain ⟨⟨d,Y1,bV⟩,m,h⟩:=h;simp only[aU] at h;obtain ⟨rfl,rfl,rfl⟩:=h;unfold wpOp;rw[hi];simp only[b,if_true];exact .inl (Ni (O o.dst) R E k m K λv w' M' Fz' t u r hl=>p _ w' M' Fz' (e v) t ((E.mono r).put o.dst u) r hl)
  ·rename_i l;have b:=ow E q l;simp only[au,aU] at h;obtain ⟨rfl,rfl,rfl⟩:=h;unfold wpOp;rw[hi];simp only[b,b_,cw];exact p _ w M Fz (e _) R (E.put o.dst V.undef) (bF.refl R) (cP _)
  simp_all
 simp_all
theorem ops_wp{orc:fA}(O:lT P orc){ops:Array Oper}{Q:Exit->Act->World->Prop}:∀(os:List aH)(k:Nat)(Y Y':ar)(M:Nat->Option Nat)(Fz:Nat->Prop)(w:World)(env env':List D)(a:Act)(wr:List Nat),
  (∀j ao,os[j]? = some ao->∃o,ops[k+j]? = some o/\bp P ops o=some ao)->Rel Y M Fz w->dB Y M Fz w env a.tmps->jN P orc os env Y=some (env',Y',wr) ->
  (∀g w' M' Fz',g.defers=a.defers->Rel Y' M' Fz' w'->dB Y' M' Fz' w' env' g.tmps->bF Y M Fz w Y' M' Fz' w'->Y.length<=Y'.length->Q .normal g w') ->
  wpOps P ops Q (List.range' k os.length) a w:=by
 intro os;induction os with
 |nil=>intro k Y Y' M Fz w env env' a wr _ R E h i;simp only[jN,au,aU] at h;obtain ⟨rfl,rfl,_⟩:=h;exact i a w M Fz rfl R E (bF.refl R) (cP _)
 |cons ao os ih=>
  intro k Y Y' M Fz w env env' a wr b R E h i;simp only[jN] at h;split at h
  ·rename_i d Y1 w1 v;split at h
   ·rename_i e aC w2 x;simp only[au,aU] at h;obtain ⟨rfl,rfl,_⟩:=h;obtain ⟨o,X,l⟩:=b 0 ao (by simp);simp only[FA,List.range'_succ];rw[wpOps_cons];refine Dn O R E (by omega) l v _ λy w' z m σ A F p f=>?_;refine ih (k+1) Y1 aC z m w' d e y w2 (λj q Z=>?_) A F x λG r K s L N T t u=>?_
    ·obtain ⟨o',U,W⟩:=b (j+1) q (by simp_all)
     grind
    ·exact i G r K s (by simp_all) N T (p.trans t f) (jk f u)
   simp_all
  simp_all
end
end Go.Abs
end
section
namespace Go.Abs
variable[Gl]
def rW:kN->List aT
 |.AO x=>[x]
 |.pick c a b=>[c,a,b]
 |.gen op _=>op.operands.toList.filterMap cf
 |.box x=>[x]
 |.alloc _=>[]
 |.build _ e=>e.map (·.2.2)
 |.jh _ _ _ e=>e.map (·.2.2)
 |.load _ a=>[a]
 |.store _ a x=>[a,x]
 |.mM x=>[x]
 |.iT _ _ x=>[x]
 |.HW _ x=>[x]
 |.idx _ _ x i=>[x,i]
 |.VT _ x g hi=>x::(g.toList++hi.toList)
 |.len x=>[x]
 |.Zu x=>[x]
 |.mk _ _ _ l c=>[l,c]
 |.uC=>[]
 |.lookup _ _ m k _=>[m,k]
 |.yg _ m k x=>[m,k,x]
 |.extract x _=>[x]
 |.Ea _ f c=>f++c
 |.part _ _ x=>[x]
 |.Cx _ _ _ x i=>[x,i]
 |.append _ _ s x=>[s,x]
 |.copy _ d s=>[d,s]
 |.del _ m k=>[m,k]
 |.VH _ x g hi h=>[x,g,hi,h]
 |.DM _ x=>[x]
 |.clr _ _ x=>[x]
 |.call f as=>f::as
theorem Ck{env env':List D}:∀(ps:List (Nat×Nat×aT))(cs:List D),(∀x∈ps.map (·.2.2),x.ev env=x.ev env')->pN env cs ps=pN env' cs ps:=by
 intro ps;induction ps with
 |nil=>intro cs _;rfl
 |cons p ps ih=>
  intro cs h;obtain ⟨o,n,x⟩:=p;simp only[pN,h x (by simp)]
  simp_all
theorem xG{env env':List D}(d m:Nat)(o:Option aT)(h:∀x∈o.toList,x.ev env=x.ev env'):oq env d m o=oq env' d m o:=by
 cases o with
 |none=>rfl
 |some x=>grind [oq]
theorem Ms{P:Program}{op:Op}{ty:TypeId}{env env':List D}(d:∀cs b,op≠.select cs b)(h:∀x∈op.operands.toList.filterMap cf,x.ev env=x.ev env'):nO P op ty env=nO P op ty env':=by
 have e:∀x∈op.operands.toList,((cf x).map (aT.ev env))=((cf x).map (aT.ev env')):=by
  intro x e;cases f:cf x with
  |none=>rfl
  |some o=>grind
 unfold nO;have g:op.operands.toList.all (λx=>(((cf x).map (aT.ev env)).bind D.cX).isSome)=op.operands.toList.all (λx=>(((cf x).map (aT.ev env')).bind D.cX).isSome):=by grind
 grind [Go.execOp_congr]
def GH:kN->Prop
 |.gen op _=>∀d b,op≠.select d b
 |_=>True
theorem yI{P:Program}{orc:xg}{ao:kN}{env env':List D}{Y:ar}(hs:GH ao)(h:∀x∈rW ao,x.ev env=x.ev env'):bx P orc ao env Y=bx P orc ao env' Y:=by
 cases ao with
 |gen op ty=>simp only[bx,Ms hs h]
 |build z g=>simp only[bx,Ck g z h]
 |jh n l z g=>simp only[bx,Ck g _ h]
 |VT e x j hi=>
  simp only[bx,h x (by simp[rW])];have q:∀d m,oq env d m j=oq env' d m j:=λd m=>xG d m j (λy p=>h y (by grind [rW]));have r:∀d m,oq env d m hi=oq env' d m hi:=λd m=>xG d m hi (λy p=>h y (by grind [rW]))
  simp_all
 |Ea f a b=>grind [List.map_congr_left,rW,bx]
 |call f a=>grind [List.map_congr_left,rW,bx]
 |idx e o x i=>cases o <;> simp only[bx,h x (by simp[rW]),h i (by simp[rW])]
 |AO x=>grind [bx,rW]
 |pick c a b=>grind [bx,rW]
 |box x=>grind [bx,rW]
 |alloc z=>rfl
 |load n x=>grind [bx,rW]
 |store n x y=>grind [bx,rW]
 |mM x=>grind [bx,rW]
 |iT k n x=>grind [bx,rW]
 |HW o x=>grind [bx,rW]
 |len x=>grind [bx,rW]
 |Zu x=>grind [bx,rW]
 |mk e b z x y=>grind [bx,rW]
 |uC=>rfl
 |lookup k z x y o=>grind [bx,rW]
 |yg k x y z=>simp only[bx,h x (by simp[rW]),h y (by simp[rW]),h z (by simp[rW])]
 |extract x i=>grind [bx,rW]
 |part o n x=>grind [bx,rW]
 |Cx e l n x y=>grind [bx,rW]
 |append e b x y=>grind [bx,rW]
 |copy e x y=>simp only[bx,h x (by simp[rW]),h y (by simp[rW])]
 |del k x y=>grind [bx,rW]
 |VH e x y z u=>simp only[bx,h x (by simp[rW]),h y (by simp[rW]),h z (by simp[rW]),h u (by simp[rW])]
 |DM m x=>grind [bx,rW]
 |clr e z x=>grind [bx,rW]
def mj{P:Program}{op:Op}{ty:TypeId}{ao:kN}(h:comp P op ty=some ao):GH ao:=by
 rcases uT h with ⟨f,args,d,of,os,rfl,_,_,rfl⟩ | ⟨_,_,i⟩
 ·trivial
 ·cases ao with
  |gen e g=>
   intro j b k
   grind [XS]
  |_=>trivial
theorem Pq{P:Program}{orc:xg}(O:rV P orc){ao:kN}{env:List D}{Y Y':ar}{d:D}{wr:List Nat}(h:bx P orc ao env Y=some (d,Y',wr)) :
  Y.length<=Y'.length/\∀b,b<Y.length->b∉wr->Y'[b]? = Y[b]?:=by
 have same:Y'=Y->Y.length<=Y'.length/\∀b,b<Y.length->b∉wr->Y'[b]? = Y[b]?:=by simp_all
 have VF:∀g,Y'=Y++[g]->Y.length<=Y'.length/\∀b,b<Y.length->b∉wr->Y'[b]? = Y[b]?:=by grind
 have set:∀b g,Y'=Y.set b g->wr=[b]->Y.length<=Y'.length/\∀b,b<Y.length->b∉wr->Y'[b]? = Y[b]?:=by grind
 cases ao with
 |call f args=>
  simp only[bx] at h;split at h
  ·exact ⟨(O _ _ _ _ _ _ h).2.2.1,(O _ _ _ _ _ _ h).2.2.2⟩
  ·exact ⟨(O _ _ _ _ _ _ h).2.2.1,(O _ _ _ _ _ _ h).2.2.2⟩
  simp_all
 |AO x=>grind [bx]
 |pick c a b=>simp only[bx,cC,aU] at h;grind
 |gen op ty=>simp only[bx,cC,aU] at h;grind
 |box x=>simp only[bx,cC,aU] at h;grind
 |alloc z=>grind [bx]
 |build z j=>simp only[bx,cC,aU] at h;grind
 |jh n l z j=>simp only[bx,cC,aU] at h;grind
 |load n x=>
  simp only[bx] at h;split at h
  ·simp only[eY,c_,au,aU] at h;grind
  ·simp only[eY,c_,au,aU] at h;grind
  simp_all
 |store n x y=>grind [bx,Option.bind_eq_some_iff]
 |mM x=>grind [bx]
 |iT k n x=>simp only[bx,cC,aU] at h;grind
 |HW o x=>grind [bx]
 |idx e o x i=>
  cases o with
  |none=>
   simp only[bx,eY,c_] at h
   grind [Option.bind_eq_some_iff]
  |some len=>
   simp only[bx,eY,c_] at h;obtain ⟨_,_,_,_,h⟩:=h;split at h
   ·simp_all
   ·simp_all
   ·grind
   simp_all
 |VT e x p hi=>
  simp only[bx] at h;split at h
  ·simp only[eY,c_,au,aU] at h;grind
  ·grind [Option.bind_eq_some_iff]
  ·grind [Option.bind_eq_some_iff]
  simp_all
 |len x=>simp only[bx,cC,aU] at h;grind
 |Zu x=>simp only[bx,cC,aU] at h;grind
 |mk e b z x y=>grind [bx,Option.bind_eq_some_iff]
 |uC=>grind [bx]
 |lookup k z x y o=>
  simp only[bx,eY,c_,au,aU] at h
  grind
 |yg k x y z=>
  simp only[bx,eY,c_] at h
  grind [Option.bind_eq_some_iff]
 |del k x y=>
  simp only[bx,eY,c_] at h
  grind [Option.bind_eq_some_iff]
 |extract x i=>
  simp only[bx] at h
  grind
 |Ea f a b=>grind [bx]
 |part o n x=>
  simp only[bx] at h;split at h
  ·simp only[cC,aU] at h;grind
  simp_all
 |Cx e l n x y=>
  simp only[bx,eY,c_] at h;obtain ⟨_,_,_,_,h⟩:=h;split at h
  ·simp only[cC,aU] at h;grind
  simp_all
 |append e b x y=>
  simp only[bx,eY,c_] at h
  grind [Option.bind_eq_some_iff]
 |DM m x=>
  simp only[bx] at h;split at h
  ·split at h
   ·simp only[au,aU] at h;exact same h.2.1.symm
   ·simp at h
  ·simp at h
 |VH e x y z u=>
  simp only[bx] at h;split at h
  ·simp only[eY,c_] at h
   grind
  simp_all
 |clr e z x=>grind [bx,Option.bind_eq_some_iff]
 |copy e x y=>simp[bx] at h
end Go.Abs
end
section
namespace Go
def Code.calm:Code->Bool
 |.seq x y=>x.calm&&y.calm
 |.cond _ x y=>x.calm&&y.calm
 |.block _ c=>c.calm
 |.loop c=>c.calm
 |.region _ _ _=>true
 |.ret=>true
 |.exit _=>true
 |.goto _=>true
 |.label _=>true
 |.skip=>true
 |_=>false
end Go
namespace Go.Abs
variable[Gl]
structure eC where
 cat:Nat
 blk:Option Nat
 wr:List Nat
 dst:Option Nat
 rds:List Nat
 lo:Nat
 hi:Nat
 deriving Inhabited
def yx(o:aH):List Nat:=(rW o.op).filterMap (λ| .t n=>some n | _=>none)++(match o.g with | some (t,_)=>[t] | none=>[])
def dA(o:aH)(env:List D)(lo hi:Nat)(wr:List Nat):eC:=
  { cat := match g_ env o.g with | some true => cat o.op | _ => 0,
    blk:=match XB o.op env with | .ptr b _ _=>some b | _=>none,
    wr:=wr,dst:=o.dst,rds:=yx o,lo:=lo,hi:=hi }
def kC(Y Y':ar)(wr:List Nat):Bool:=
 wr.all λb=>match Y[b]?,Y'[b]? with
  |some x,some y=>x.sz == y.sz
  |_,_=>false
def lL(P:Program)(orc:fA):Nat->List aH->List D->ar->Option (List D×ar×List eC)
 |_,[],env,Y=>some (env,Y,[])
 |n, o :: os, env, Y=>
  match fo P orc o env Y with
  |some (b, Y1, w1)=>
   if n == 0 || kC Y Y1 w1 then
    match lL P orc (n-1) os b Y1 with
    |some (d,aC,is)=>some (d,aC,dA o env Y.length Y1.length w1::is)
    |none=>none
   else none
  |none=>none
def disj(b:Option Nat)(l:List Nat):Bool:=
 match b with
 |some t=>!l.contains t
 |none=>true
def safe(i:eC)(wr:List Nat):Bool:=
 wr.isEmpty || i.cat == 0 || i.cat == 2 || (i.cat == 1&&(match i.blk with | some b=>!wr.contains b | none=>true))
def outside(i:eC)(wr:List Nat):Bool:=wr.all λb=>b<i.lo || i.hi<=b
def apart(x y:eC):Bool:=
 disj x.dst y.rds&&disj y.dst x.rds&&(match x.dst,y.dst with | some s,some t=>s != t | _,_=>true)&&(safe x y.wr&&safe y x.wr)&&(outside x y.wr&&outside y x.wr)
def eT(b:List Nat)(d:List eC):Bool:=
 (List.range d.length).all λj=>(List.range j).all λi=>(b.getD j 0).testBit i || apart (d.getD i default) (d.getD j default)
def l_(b:List Nat)(p n m:Nat):Bool:=
 (List.range m).all λj=>j<n || (List.range j).all λi=>Nat.blt i p || (b.getD j 0).testBit i
def isMv(o:Oper):Bool:=
 o.guard.isNone&&(match o.op with
  |.move _ | .assign _=>true
  |_=>false)
def L_(n:Nat):Nat->Array Bool
 |0=>Array.replicate n false
 |i+1=>(L_ n i).setIfInBounds i true
def EE(ops:Array Oper)(i:Nat):Bool:=
 ((ops[i]?).map isMv).getD false&&Region.free .any ops (L_ ops.size i) i&&(Region.ready .any ops (L_ ops.size i)).contains i
def leads(ops:Array Oper):Nat->Nat->Nat
 |0,_=>0
 |k+1,i=>if EE ops i then leads ops k (i+1)+1 else 0
def lead(ops:Array Oper):Nat:=if Region.noSelect ops then leads ops ops.size 0 else 0
inductive aQ where
 |skip
 |Bb (ops:List aH)
 |HH (ops:List aH) (bef:List Nat) (n p:Nat)
 |seq (a b:aQ)
 |cond (c:aT) (thn els:aQ)
 |block (id:Nat) (body:aQ)
 |loop (body:aQ)
 |exit (id:Nat)
 |ret
 |stuck
 |lbl (l:Nat)
 |VV (l:Nat) (a r:aQ)
 |Wj (o:aT) (ps:List Nat) (a b:aQ)
 deriving Inhabited
def lblA:aQ->Option Nat
 |.seq a b=>match lblA a with | some l=>some l | none=>lblA b
 |.lbl l=>some l
 |_=>none
def QS(l:Nat):aQ->Option aQ
 |.seq a b=>match QS l a with | some r=>some (.seq r b) | none=>QS l b
 |.lbl d=>if (d == l)=true then some .skip else none
 |_=>none
def SN(a:aQ):aQ:=match lblA a with
 |some l=>match QS l a with | some r=>.VV l a r | none=>.stuck
 |none=>.stuck
def SG(o:Option aT)(ps:List Nat)(a b:Option aQ)(calm:Bool):aQ:=match o,a,b,calm with
 |some o,some a,some b,true=>.Wj o ps a b
 |_,_,_,_=>.stuck
def BS(o:Option aT)(ps:List Nat)(a b:Option aQ)(calm:Bool):(∃o' d e,o=some o'/\a=some d/\b=some e/\calm=true/\SG o ps a b calm=.Wj o' ps d e)\/SG o ps a b calm=.stuck:=by
 unfold SG
 grind
def KT(acc:List Nat)(o:Oper):Nat:=
 o.after.toList.foldl (λs e=>if Region.binds .any e then s ||| 2 ^ e.on ||| acc.getD e.on 0 else s) 0
def Qh(l:List Oper):List Nat:=l.foldl (λb o=>b++[KT b o]) []
def jL:List aH->Nat
 |[]=>0
 |o :: os => match o.op with
  |.append ..=>0
  |_=>jL os+1
def z_(l:List Oper):Bool:=(List.range l.length).all λj=>((l.getD j default).after.toList.all λe=>!Region.binds .any e || e.on<j)
def bD(P:Program):Code->Option aQ
 |.skip=>some .skip
 |.region _ ops d=>
  match ops.toList.mapM (bp P ops) with
  |some os=>if d then (if z_ ops.toList then some (.HH os (Qh ops.toList) (jL os) (lead ops)) else some .stuck) else some (.Bb os)
  |none=>some .stuck
 |.seq a b => match bD P a, bD P b with
  |some x,some y=>some (.seq x y)
  |_,_=>none
 |.cond c a b => match cf c, bD P a, bD P b with
  |some o,some x,some y=>some (.cond o x y)
  |_,_,_=>some .stuck
 |.block id b=>(bD P b).map (.block (2 * id))
 |.loop b=>(bD P b).map .loop
 |.exit id=>some (.exit (2 * id))
 |.goto l=>some (.exit (2 * l+1))
 |.label l=>some (.lbl l)
 |.scope b=>(bD P b).map SN
 |.rangeFunc g e x y=>some (SG (cf g) e.toList (bD P x) (bD P y) (x.calm&&y.calm))
 |.ret=>some .ret
 |_=>some .stuck
theorem dZ{P:Program}{g:Operand}{ps:Array Tmp}{x y:Code}{ac:aQ}(h:bD P (.rangeFunc g ps x y)=some ac):(∃o a b,cf g=some o/\bD P x=some a/\bD P y=some b/\(x.calm&&y.calm)=true/\ac=.Wj o ps.toList a b)\/ac=.stuck:=by simp only[bD,au] at h;subst h;exact BS _ _ _ _ _
structure kP where
 nparams:Nat
 ntmps:Nat
 results:List (Nat×Option (Option Nat))
 body:aQ
 cJ:Bool
 deriving Inhabited
def Nr(P:Program):ResultVar->Option (Nat×Option (Option Nat))
 |.tmp t=>some (t,none)
 |.cell a t=>(Fc P t).map λn=>(a,some n)
def il(P:Program)(f:Func)(cJ:Bool):Option kP:=
 match f.body with
 |some b=>
  match bD P b,f.results.toList.mapM (Nr P) with
  |some c,some rs=>some ⟨f.params.size+f.nfree,f.ntmps,rs,c,cJ⟩
  |_,_=>none
 |none=>none
inductive nr where
 |normal
 |exit (id:Nat)
 |ret
 deriving DecidableEq,Inhabited
def V_(os:List aH):Nat:=os.length-1-(os.reverse.takeWhile λo=>match o.op with | .call ..=>false | _=>true).length
def jO(P:Program)(orc:fA)(os:List aH)(b:List Nat)(p n:Nat)(env:List D)(Y:ar):Option (List D×ar×List Nat):=
 match lL P orc n os env Y with
 |some (env',Y',is)=>if eT b is&&l_ b p n os.length&&Nat.ble p n then some (env',Y',is.flatMap (·.wr)) else none
 |none=>none
def kB(P:Program)(orc:fA):Nat->aQ->List D->ar->List Nat->Option (nr×List D×ar×List Nat)
 |0,_,_,_,_=>none
 |_+1,.skip,env,Y,wr=>some (.normal,env,Y,wr)
 |_+1,.Bb os,env,Y,wr=>(jN P orc os env Y).map λr=>(.normal,r.1,r.2.1,r.2.2++wr)
 |_ + 1, .HH os e n p, env, Y, wr=>
  match jO P orc os e p n env Y with
  |some (env',Y',w)=>some (.normal,env',Y',w++wr)
  |none=>
   match jO P orc os e p (V_ os) env Y with
   |some (env',Y',w)=>some (.normal,env',Y',w++wr)
   |none=>
    match jO P orc os e p os.length env Y with
    |some (env',Y',w)=>some (.normal,env',Y',w++wr)
    |none=>none
 |k + 1, .seq a b, env, Y, wr=>
  match kB P orc k a env Y wr with
  |some (.normal,d,Y1,bV)=>kB P orc k b d Y1 bV
  |r=>r
 |k + 1, .cond c a b, env, Y, wr=>
  match gP (c.ev env) with
  |some true=>kB P orc k a env Y wr
  |some false=>kB P orc k b env Y wr
  |none=>none
 |k + 1, .block id b, env, Y, wr=>
  match kB P orc k b env Y wr with
  |some (.exit i,d,Y1,bV)=>if i=id then some (.normal,d,Y1,bV) else some (.exit i,d,Y1,bV)
  |r=>r
 |k + 1, .loop b, env, Y, wr=>
  match kB P orc k b env Y wr with
  |some (.normal,d,Y1,bV)=>kB P orc k (.loop b) d Y1 bV
  |r=>r
 |_+1,.exit id,env,Y,wr=>some (.exit id,env,Y,wr)
 |_+1,.ret,env,Y,wr=>some (.ret,env,Y,wr)
 |_+1,.stuck,_,_,_=>none
 |_+1,.lbl _,_,_,_=>none
 |_+1,.VV _ _ _,_,_,_=>none
 |_+1,.Wj _ _ _ _,_,_,_=>none
theorem IQ(a:aQ):(∃l r,QS l a=some r/\SN a=.VV l a r)\/SN a=.stuck:=by
 unfold SN
 grind
def chunks(n:Nat):Nat->List C->List (List C)
 |0,_=>[]
 |k+1,l=>l.take n::chunks n k (l.drop n)
def fW(Y:ar)(n:Nat):Nat->D->Option C
 |0,_=>none
 |k + 1, d=>
  match d with
  |.c x=>some x
  |.ptr b off sz=>
   if n<=b then
    match nW Y b sz with
    |some g=>(g.mapM (fW Y n k)).map λl=>.cD l off
    |none=>none
   else none
  |.sl b off len aB sz=>
   if n<=b/\0<aB/\off+len * aB<=sz then
    match nW Y b sz with
    |some g=>(((g.drop off).take (len * aB)).mapM (fW Y n k)).map λl=>.cJ (Nat.blt 0 len) (chunks aB len l)
    |none=>none
   else none
  |.fn f first cap=>
   match first.mapM (fW Y n k),cap.mapM (fW Y n k) with
   |some a,some b=>some (.fn f a b)
   |_,_=>none
  |.mp b=>
   if n<=b then
    match Y[b]? with
    |some (.map es _)=>(es.mapM λe=>(fW Y n k e.2.1).map λx=>(e.1,x)).map .No
    |_=>none
   else none
  |_=>none
def nL(Y:ar)(n k:Nat):D->Option D
 |.agg b=>(b.mapM (fW Y n k)).map λl=>.agg (l.map .c)
 |d=>(fW Y n k d).map .c
def xe(Y:ar)(n k:Nat):D->Option D
 |.aV ds=>(ds.mapM (nL Y n k)).map .aV
 |d=>nL Y n k d
def NZ(env:List D)(Y:ar):Nat×Option (Option Nat)->Option D
 |(t,none)=>env[t]?
 |(t, some n)=>
  match env[t]? with
  |some (.ptr b off sz)=>(nW Y b sz).bind λd=>uL n d off
  |_=>none
def one:List D->D
 |[d]=>d
 |ds=>.aV ds
def finish(f:kP)(Y0:ar)(env:List D)(Y:ar)(wr:List Nat):Option (D×ar×List Nat):=
 match f.results.mapM (NZ env Y) with
 |some ds=>
  let b:=wr.filter (·<Y0.length)
  if f.cJ&&b.isEmpty then
   match xe Y Y0.length 100 (one ds) with
   |some r=>some (r,Y0,[])
   |none=>some (one ds,Y,b)
  else some (one ds,Y,b)
 |none=>none
def evF1(P:Program)(orc:xg)(k:Nat)(f:kP)(ds:List D)(Y:ar):Option (D×ar×List Nat):=
 if ds.length=f.nparams then
  match kB P (λ_=>orc) k f.body (ds++List.replicate (f.ntmps-ds.length) (.aV [])) Y [] with
  |some (.normal,env,Y',wr)=>finish f Y env Y' wr
  |some (.ret,env,Y',wr)=>finish f Y env Y' wr
  |_=>none
 else none
def evF(P:Program)(b:FuncId->Option kP)(prim:xg)(k:Nat):Nat->xg
 |0=>λ_ _ _=>none
 |n + 1 => λg ds Y=>
  match prim g ds Y with
  |some r=>some r
  |none=>
   match b g with
   |some f=>evF1 P (evF P b prim k n) k f ds Y
   |none=>none
end Go.Abs
end
section
namespace Go
def Code.wq(P:Program)(c:Code)(Q:Exit->Act->World->Prop)(a:Act)(w:World):Prop:=
 c.wp P Q a w/\(c.calm=true->∀l n,c.wpIn (Fence.wide.inRound l) n P Q a w)
def kS(Q:Exit->Act->World->Prop):Exit->Act->World->Prop:=λe a w=>Q e a w/\e≠.outgrown
section
variable{P:Program}{ops:Array Oper}{Q:Exit->Act->World->Prop}{a:Act}{w:World}
def Ng{c:Code}(h:c.wq P Q a w):c.wp P Q a w:=h.1
def Vj:¬LetsOut (kS Q):=λ⟨_,_,h⟩=>h.2 rfl
theorem Yc(l n:Nat){o:Oper}{K:Act->World->Prop}(e:∀c,o.op≠.defer c)(h:o.wp P a w K Q):o.wpIn (Fence.wide.inRound l) n P a w K Q:=by
 refine ⟨λf _=>trivial,?_⟩;rw[Oper.semAt_eq _ _ _ e];unfold Oper.wp at h;generalize (execOp a.eval o).run P w=r at *;cases r with
 |ok g w'=>
  cases g with
  |value v=>exact h
  |skip=>exact h
  |defer d=>exact h
  |enter f args=>exact ⟨λb=>by simp[Fence.wide] at b,CallsIn.inRound l (callsIn_wide.2 h)⟩
  |row row args=>exact ⟨λb=>by simp[Fence.wide] at b,λc i _=>let ⟨v,w',r,s⟩:=h c i;⟨v,w',r,stepsIn_wide.2 s⟩⟩
  |_=>exact h.elim
 |halt b w'=>cases b <;> first | exact h | exact h.elim
def ED(l n:Nat){i:Nat}{a:Act}{w:World}{K:Act->World->Prop}(e:∀(i:Nat) o c,ops[i]? = some o->o.op≠.defer c)(g:¬LetsOut Q)(h:wpOp P ops Q i K a w):wpOpIn (Fence.wide.inRound l) n P ops Q i K a w:=by
 unfold wpOp at h;unfold wpOpIn;split at h
 ·rename_i b;simp only[b];exact h
 ·rename_i o b;simp only[b];split at h
  ·rename_i d;simp only[d,if_true];rcases h with h | h
   ·exact Yc l n (λc=>e i o c b) h
   ·exact absurd h.2 g
  ·rename_i d;simp only[d,b_,cw];exact ⟨λf _=>trivial,h⟩
theorem zt{F:Fence}{n:Nat}{i:Nat}{a:Act}{w:World}{K b:Act->World->Prop}(hk:∀a w,K a w->b a w)(h:wpOpIn F n P ops Q i K a w):wpOpIn F n P ops Q i b a w:=by
 cases d:ops[i]? with
 |none=>simp only[wpOpIn,d] at h ⊢;exact hk _ _ h
 |some o=>
  simp only[wpOpIn,d] at h ⊢;cases e:Region.wanted o (yielded ops a.tmps) with
  |true=>simp only[e,if_true] at h ⊢;exact Oper.wpIn_mono hk h
  |false=>simp only[e,b_,cw] at h ⊢;exact ⟨h.1,hk _ _ h.2⟩
theorem VO(l n:Nat)(d:∀(i:Nat) o c,ops[i]? = some o->o.op≠.defer c)(e:¬LetsOut Q):∀(b:List Nat)(a:Act)(w:World),wpOps P ops Q b a w->wpOpsIn (Fence.wide.inRound l) n P ops Q b a w:=by
 intro b;induction b with
 |nil=>intro a w h;exact h
 |cons i b ih=>intro a w h;rw[wpOps_cons] at h;rw[wpOpsIn_cons];exact zt (λa w=>ih a w) (ED l n d e h)
theorem UW(l n:Nat){md:Region.Mode}(d:∀(i:Nat) o c,ops[i]? = some o->o.op≠.defer c)(e:¬LetsOut Q):∀(b:Nat)(listed:Array Bool)(a:Act)(w:World),wpAny P md ops Q b listed a w->wpAnyIn (Fence.wide.inRound l) n P md ops Q b listed a w:=by
 intro b;induction b with
 |zero=>intro listed a w h;exact h
 |succ b ih=>intro listed a w h;exact ⟨h.1,λi hi=>zt (λa w=>ih _ a w) (ED l n d e (h.2 i hi))⟩
def Td{c:Code}{Q':Exit->Act->World->Prop}(h:c.wq P Q a w)(b:∀e a w,Q e a w->Q' e a w):c.wq P Q' a w:=
 ⟨wp_mono h.1 b,λd l n=>wpIn_mono (h.2 d l n) b⟩
def Hy{id:Nat}(b:∀(i:Nat) o c,ops[i]? = some o->o.op≠.defer c)(h:wpOps P ops (kS Q) (List.range ops.size) a w):(Code.region id ops false).wq P Q a w:=
 Td (Q:=kS Q) ⟨wp_region h,λ_ l n=>wpIn_region (VO l n b Vj _ _ _ h)⟩ λ_ _ _ h=>h.1
def xC{id:Nat}(hm:P.follows .mixedOrders=true)(b:∀(i:Nat) o c,ops[i]? = some o->o.op≠.defer c)
  (h:wpAny P .any ops (kS Q) ops.size (Array.replicate ops.size false) a { w with drawn:=w.drawn+1 }):(Code.region id ops true).wq P Q a w:=
 Td (Q:=kS Q) ⟨wp_region_any hm h,λ_ l n=>wpIn_region_any hm (UW l n b Vj _ _ _ _ h)⟩ λ_ _ _ h=>h.1
def wq_skip(h:Q .normal a w):Code.skip.wq P Q a w:=⟨wp_skip h,λ_ _ _=>wpIn_skip h⟩
def wq_label{l:Nat}(h:Q .normal a w):(Code.label l).wq P Q a w:=⟨wp_label h,λ_ _ _=>wpIn_label h⟩
theorem wq_exit{i:Nat}(h:Q (.exit i) a w):(Code.exit i).wq P Q a w:=⟨wp_exit h,λ_ _ _=>wpIn_exit h⟩
theorem wq_goto{i:Nat}(h:Q (.goto i) a w):(Code.goto i).wq P Q a w:=⟨wp_goto h,λ_ _ _=>wpIn_goto h⟩
def wq_ret(h:Q .ret a w):Code.ret.wq P Q a w:=⟨wp_ret h,λ_ _ _=>wpIn_ret h⟩
def vI{K b:Act->World->Prop}(hk:∀a w,K a w->b a w):∀e a w,Exit.then K Q e a w->Exit.then b Q e a w:=by intro e a w h;cases e <;> first | exact hk _ _ h | exact h
def Qc{x y:Code}(h:x.wq P (Exit.then (y.wq P Q) Q) a w):(Code.seq x y).wq P Q a w:=
 ⟨wp_seq (wp_mono h.1 (vI fun _ _ h=>h.1)),fun b l n=>by
  simp only [Code.calm,bG] at b
  exact wpIn_seq (wpIn_mono (h.2 b.1 l n) (vI fun _ _ h=>h.2 b.2 l n))⟩
theorem AM{c:Operand}{x y:Code}(b:a.eval c=.bool true)(h:x.wq P Q a w):(Code.cond c x y).wq P Q a w:=
 ⟨wp_cond_true b h.1,fun d l n=>by
  simp only [Code.calm,bG] at d
  exact wpIn_cond_true b (h.2 d.1 l n)⟩
theorem xL{c:Operand}{x y:Code}(b:a.eval c=.bool false)(h:y.wq P Q a w):(Code.cond c x y).wq P Q a w:=
 ⟨wp_cond_false b h.1,fun d l n=>by
  simp only [Code.calm,bG] at d
  exact wpIn_cond_false b (h.2 d.2 l n)⟩
def NU{id:Nat}{c:Code}(h:c.wq P (Exit.inBlock id Q) a w):(Code.block id c).wq P Q a w:=
 ⟨wp_block h.1,λb l n=>wpIn_block (h.2 b l n)⟩
def Code.rq(P:Program)(c:Code)(Q:Exit->Act->World->Prop):Nat->Act->World->Prop
 |0,_,_=>False
 |n+1,a,w=>c.wq P (Exit.then (Code.rq P c Q n) Q) a w
theorem Is{c:Code}{n:Nat}:Code.rq P c Q (n+1) a w=c.wq P (Exit.then (Code.rq P c Q n) Q) a w:=rfl
theorem Vd{c:Code}:∀(k:Nat)(a:Act)(w:World),Code.rq P c Q k a w->Code.rounds P c Q k a w:=by
 intro k;induction k with
 |zero=>intro a w h;exact h
 |succ k ih=>intro a w h;exact wp_mono h.1 (vI λa w=>ih a w)
theorem Oq{c:Code}(b:c.calm=true)(l n:Nat):∀(k:Nat)(a:Act)(w:World),Code.rq P c Q k a w->Code.roundsIn (Fence.wide.inRound l) n P c Q k a w:=by
 intro k;induction k with
 |zero=>intro a w h;exact h
 |succ k ih=>intro a w h;exact wpIn_mono (h.2 b l n) (vI λa w=>ih a w)
def uY{c:Code}(k:Nat)(h:Code.rq P c Q k a w):(Code.loop c).wq P Q a w:=
 ⟨wp_loop_rounds k (Vd k a w h),λb l n=>wpIn_loop_rounds k (Oq (c:=c) (show c.calm=true from b) l n k a w h)⟩
end
end Go
namespace Go.Abs
def zr{P:Program}{op:Op}{t:TypeId}{ao:kN}(h:comp P op t=some ao):∀c,op≠.defer c:=by rintro c rfl;simp[comp,lI] at h
theorem pM{P:Program}{ops:Array Oper}{o:Oper}{ao:aH}(h:bp P ops o=some ao):∀c,o.op≠.defer c:=by
 unfold bp at h;split at h
 ·rename_i b;exact zr b
 ·cases h
end Go.Abs
end
section
namespace Go.Abs
variable{Y Y':ar}{M M':Nat->Option Nat}{Fz Fz':Nat->Prop}{w w':World}{P:Program}
theorem gS{D c:Nat}{o:Obj}(h:c≠D):(w.putObj D o).heap[c]? = w.heap[c]?:=World.putObj_heap_other h
theorem V.off{B:Nat}{x:Option (List Deferred)}{o:Obj}(O:¬Fz B)(hD:w.heap[B]? = some (.deferred x)){d:D}{v:Value}(h:V Y M Fz w d v):V Y M Fz (w.putObj B o) d v:=by
 induction h with
 |c h=>exact .c (h.mono λc K=>⟨K,gS (λe=>O (by rw[<-e];exact K))⟩)
 |any v=>exact .any v
 |ptr a u h j i=>exact .ptr a u h j i
 |sl a n cap A u h j i=>
  refine .sl a n cap A u h j (λR=>?_);rcases i R with s | ⟨c,o,E,T,U,W,X,hl,hh,hb⟩
  ·exact .inl s
  ·exact .inr ⟨c,o,E,T,U,W,X,hl,by grind [gS]⟩
 |mp c u h i=>exact .mp c u h i
 |fn z σ s Z i hw F G=>exact .fn z σ s Z F G
 |agg z s i ih=>exact .agg z s ih
 |aV z s i ih=>exact .aV z s ih
theorem ca.off{D:Nat}{x:Option (List Deferred)}{o':Obj}(F:¬Fz D)(G:w.heap[D]? = some (.deferred x)){ob:Ob}{o:Obj}(h:ca Y M Fz w ob o):ca Y M Fz (w.putObj D o') ob o:=by
 cases ob with
 |cells K=>obtain ⟨j,T,A,hl,s⟩:=h;exact ⟨j,T,A,hl,λi d v u z=>⟨(s i d v u z).1.off F G,(s i d v u z).2⟩⟩
 |map O E=>obtain ⟨j,A,hl,s⟩:=h;exact ⟨j,A,hl,λi k d n e u z=>let ⟨a,b,c⟩:=s i k d n e u z;⟨a,b,c.off F G⟩⟩
 |gone n=>exact h.elim
variable[Gl]
theorem Rel.off{D:Nat}{x:Option (List Deferred)}{o':Obj}(R:Rel Y M Fz w)(hm:∀b,M b≠some D)(i:¬Fz D)(s:w.heap[D]? = some (.deferred x)):Rel Y M Fz (w.putObj D o'):={
 blk:=λb c h=>by obtain ⟨u,ob,o,h1,h2,z⟩:=R.blk b c h;exact ⟨u,ob,o,h1,by rw[gS (λe=>hm b (by rw[<-e];exact h))];exact h2,z.off i s⟩
 inj:=R.inj
 fz:=λc h=>by simpa using R.fz c h
 gl:=Gl.mono (λc j=>⟨j,gS (λe=>i (by rw[<-e];exact j))⟩) R.gl }
def mark(D:Nat):Deferred:={ target:=.collected D,args:=#[] }
def MkD(n:Nat)(M:Nat->Option Nat)(Fz:Nat->Prop)(w:World)(D:Nat):Prop:=
 n<=D/\D<w.heap.size/\(∀b,M b≠some D)/\¬Fz D/\w.heap[D]? = some (.deferred (some []))
theorem MkD.mono{n D:Nat}(E:bF Y M Fz w Y' M' Fz' w')(h:MkD n M Fz w D):MkD n M' Fz' w' D:=by
 obtain ⟨a,b,c,d,e⟩:=h;refine ⟨a,FG b E.size,λs j=>?_,λu=>?_,by rw[E.frame D b c];exact e⟩
 ·rcases E.lP s D j with ⟨o,i⟩ | i
  ·exact c o i
  ·omega
 ·rcases E.nF D u with i | ⟨o,i⟩ | i
  ·exact d i
  ·exact c o i
  ·omega
def Mk(n:Nat)(M:Nat->Option Nat)(Fz:Nat->Prop)(w:World)(ds b:List Deferred):Prop:=
 ∃d:List Nat,ds=d.map mark++b/\d.Nodup/\∀D∈d,MkD n M Fz w D
theorem Mk.refl(n:Nat)(ds:List Deferred):Mk n M Fz w ds ds:=⟨[],rfl,List.nodup_nil,λ_ h=>by cases h⟩
def Mk.of_eq{n:Nat}{ds i:List Deferred}(h:ds=i):Mk n M Fz w ds i:=h▸Mk.refl n ds
theorem Mk.mono{n:Nat}{ds i:List Deferred}(E:bF Y M Fz w Y' M' Fz' w')(h:Mk n M Fz w ds i):Mk n M' Fz' w' ds i:=
 let ⟨j,h1,h2,h3⟩:=h
 ⟨j,h1,h2,λD o=>(h3 D o).mono E⟩
def Mk.trans{n:Nat}{ds i j:List Deferred}(E:bF Y M Fz w Y' M' Fz' w')(U:n<=w.heap.size)(h:Mk n M Fz w i j)(F:Mk w.heap.size M' Fz' w' ds i):Mk n M' Fz' w' ds j:=by
 obtain ⟨G,K,O,A⟩:=h;obtain ⟨u,x,z,o⟩:=F;refine ⟨u++G,by rw[x,K];simp,?_,λD s=>?_⟩
 ·rw[List.nodup_append];refine ⟨z,O,λa R b hb e=>?_⟩;have:=(o a R).1;have:=(A b hb).2.1;omega
 ·rcases kL.1 s with s | s
  ·obtain ⟨a,b⟩:=o D s;exact ⟨by omega,b⟩
  ·exact (A D s).mono E
def KM(M:Nat->Option Nat)(Fz:Nat->Prop)(f:Nat->Option Nat)(e:Nat->Prop):Prop:=(∀b c,f b=some c->∃d,M d=some c)/\(∀c,e c->Fz c\/∃d,M d=some c)/\∀c,Fz c->e c
theorem KM.refl:KM M Fz M Fz:=⟨λb c h=>⟨b,h⟩,λc h=>.inl h,λc h=>h⟩
def KM.trans{s u:Nat->Option Nat}{x z:Nat->Prop}(h:KM M Fz s x)(i:KM s x u z):KM M Fz u z:=
 ⟨fun b c e=>let ⟨j,o⟩:=i.1 b c e; h.1 j c o,fun c e=>by
  rcases i.2.1 c e with e | ⟨j,o⟩
  ·exact h.2.1 c e
  ·exact .inr (h.1 j c o),fun c e=>i.2.2 c (h.2.2 c e)⟩
def Mk.wth{n:Nat}{ds i:List Deferred}{u:Nat->Option Nat}{x:Nat->Prop}(h:Mk n M Fz w ds i)(W:KM M Fz u x):Mk n u x w ds i:=by
 obtain ⟨z,A,E,F⟩:=h;refine ⟨z,A,E,λD G=>?_⟩;obtain ⟨a,b,c,d,e⟩:=F D G;refine ⟨a,b,λK o=>?_,λO=>?_,e⟩
 ·obtain ⟨s,j⟩:=W.1 K D o;exact c s j
 ·rcases W.2.1 D O with j | ⟨s,j⟩
  ·exact d j
  ·exact c s j
theorem Mk.XP{n k:Nat}{fn:Func}{i:Array Value}{R:Ending->World->Prop}:∀(o:List Nat) (w:World),Rel Y M Fz w->o.Nodup ->
  (∀D∈o,n≤D/\(∀b,M b≠some D)/\¬Fz D/\w.heap[D]? = some (.deferred (some []))) ->
  (∀w',Rel Y M Fz w'->w'.heap.size=w.heap.size->(w'.os=w.os/\w'.tape=w.tape/\w'.output=w.output)->(∀c:Nat,c<n->w'.heap[c]? = w.heap[c]?)->(∀(c:Nat) arr T u,w.heap[c]? = some (Obj.cells arr T u)->w'.heap[c]? = w.heap[c]?)->(∀c:Nat,Fz c->w'.heap[c]? = w.heap[c]?)->(∀d v,V Y M Fz w d v->V Y M Fz w' d v) ->
   ∃v,(results fn i).run P w'=.ok v w'/\R (.returned v) w') ->
  LeavesInM Fence.wide k P fn i R (o.map mark) .returning w:=by
 intro o
 induction o with
 | nil =>
  intro w R _ _ h
  exact h w R rfl ⟨rfl,rfl,rfl⟩ (fun _ _=>rfl) (fun _ _ _ _ _=>rfl) (fun _ _=>rfl) (fun _ _ h=>h)
 | cons D o ih =>
  intro w R x E h
  obtain ⟨a,b,c,d⟩:=E D (by simp)
  simp only [List.nodup_cons] at x
  refine ⟨by simp,.inl ⟨D,_,rfl,run_takeDeferred d,?_⟩⟩
  refine ih _ (R.off b c d) x.2 (fun F s=>?_) fun w' G K z O U W X=>?_
  ·obtain ⟨σ,Z,c',A⟩:=E F (by simp [s])
   exact ⟨σ,Z,c',by rw [gS (fun e=>x.1 (by rw [←e]; exact s))]; exact A⟩
  ·refine h w' G (by rw [K]; simp) ⟨z.1,z.2.1,z.2.2⟩ (fun q j=>?_) (fun q arr T u j=>?_) (fun q j=>?_) (fun A v hv=>X A v (hv.off c d))
   ·rw [O q j,gS (by omega)]
   ·have:q≠D:=fun e=>by rw [e,d] at j; cases j
    rw [U q arr T u (by rw [gS this]; exact j),gS this]
   ·rw [W q j,gS (fun e=>c (by rw [←e]; exact j))]
def bF.XP{w'':World}(E:bF Y M Fz w Y' M' Fz' w')(u:w''.heap.size=w'.heap.size)(s:w''.os=w'.os/\w''.tape=w'.tape/\w''.output=w'.output)(x:∀c:Nat,c<w.heap.size->w''.heap[c]? = w'.heap[c]?)
  (z:∀(c:Nat) arr T o,w'.heap[c]? = some (Obj.cells arr T o)->w''.heap[c]? = w'.heap[c]?) (A:∀c:Nat,Fz' c->w''.heap[c]? = w'.heap[c]?):bF Y M Fz w Y' M' Fz' w'':={
 size:=by rw[u];exact E.size
 frame:=λc i F=>by rw[x c i];exact E.frame c i F
 lP:=E.lP
 fz:=λc i=>⟨(E.fz c i).1,by rw[A c (E.fz c i).1];exact (E.fz c i).2⟩
 nF:=E.nF
 qe:=λc arr T o i=>by obtain ⟨j,h,hs⟩:=E.qe c arr T o i;exact ⟨j,by rw[z c j T o h];exact h,hs⟩
 keep:=E.keep
 out:=⟨s.1.trans E.out.1,s.2.1.trans E.out.2.1,s.2.2.trans E.out.2.2⟩ }
def Mk.end{k:Nat}{fn:Func}{i:Array Value}{ds:List Deferred}{Q:Ending->World->Prop}(o:Mk w.heap.size M' Fz' w' ds [])(R:Rel Y' M' Fz' w')(E:bF Y M Fz w Y' M' Fz' w')
  (h:∀w'',Rel Y' M' Fz' w''->bF Y M Fz w Y' M' Fz' w''->(∀d v,V Y' M' Fz' w' d v->V Y' M' Fz' w'' d v)->∃v,(results fn i).run P w''=.ok v w''/\Q (.returned v) w''):LeavesInM Fence.wide k P fn i Q ds .returning w':=by
 obtain ⟨s,u,x,z⟩:=o;rw[u,CD];refine Mk.XP (n:=w.heap.size) s w' R x (λD A=>?_) λw'' j F G K O U W=>h w'' j (E.XP F G K O U) W;obtain ⟨a,b,c,d,e⟩:=z D A;exact ⟨a,c,d,e⟩
omit [Gl] in
theorem nf{f:FuncId}{fn:Func}{c:Code}{args:Array Value}{R:Ending->World->Prop}(d:P.funcs[f]? = some fn)(hb:fn.body=some c)
  (h:c.wp P (λe a w'=>(e=.normal\/e=.ret)/\LeavesInM Fence.wide 0 P fn a.tmps R a.defers .returning w') { tmps:=args++Array.replicate (fn.ntmps-args.size) undef,defers:=[] } w):Calls P f args w R:=
 callsIn_wide.1 (callsIn_of_wp_marks (F:=Fence.wide) (n:=0) d hb trivial (wpIn_wide.2 (wp_mono h λe a w' b=>by
  rcases b with ⟨rfl | rfl,b⟩
  ·exact b
  ·exact b)) rfl)
end Go.Abs
end
section
namespace Go.Abs
variable[Gl]
structure KL (M:Nat->Option Nat) (Fz:Nat->Prop) (w:World) (M':Nat->Option Nat) (Fz':Nat->Prop) (w':World):Prop where
 size:w.heap.size<=w'.heap.size
 frame:∀c:Nat,c<w.heap.size->(∀b,M b≠some c)->w'.heap[c]? = w.heap[c]?
 ext:∀b c,M b=some c->M' b=some c
 lP:∀b c,M' b=some c->M b=some c\/w.heap.size<=c
 fz:∀c:Nat,Fz c->Fz' c/\w'.heap[c]? = w.heap[c]?
 nF:∀c,Fz' c->Fz c\/w.heap.size<=c
 qe:∀(c:Nat) arr T fr,w.heap[c]? = some (.cells arr T fr)->∃arr',w'.heap[c]? = some (.cells arr' T fr)/\arr'.size=arr.size
 out:w'.os=w.os/\w'.tape=w.tape/\w'.output=w.output
section
variable{Y Y':ar}{M M' M'':Nat->Option Nat}{Fz Fz' Fz'':Nat->Prop}{w w' w'':World}
theorem KL.refl:KL M Fz w M Fz w:={
 size:=cP _
 frame:=λ_ _ _=>rfl
 ext:=λ_ _ h=>h
 lP:=λ_ _ h=>.inl h
 fz:=λ_ h=>⟨h,rfl⟩
 nF:=λ_ h=>.inl h
 qe:=λc i T j h=>⟨i,h,rfl⟩
 out:=⟨rfl,rfl,rfl⟩ }
def KL.trans(A:KL M Fz w M' Fz' w')(B:KL M' Fz' w' M'' Fz'' w''):KL M Fz w M'' Fz'' w'':={
 size:=jk A.size B.size
 frame:=λc o u=>by
  rw[<-A.frame c o u];refine B.frame c (FG o A.size) (λb hb=>?_);rcases A.lP b c hb with i | i
  ·simp_all
  ·omega
 ext:=λb c h=>B.ext b c (A.ext b c h)
 lP:=λb c h=>by
  rcases B.lP b c h with i | i
  ·exact A.lP b c i
  ·exact .inr (jk A.size i)
 fz:=λc h=>⟨(B.fz c (A.fz c h).1).1,by rw[(B.fz c (A.fz c h).1).2,(A.fz c h).2]⟩
 nF:=λc h=>by
  rcases B.nF c h with i | i
  ·exact A.nF c i
  ·exact .inr (jk A.size i)
 qe:=λc j T s h=>by
  obtain ⟨x,h1,z⟩:=A.qe c j T s h;obtain ⟨E,h2,F⟩:=B.qe c x T s h1
  simp_all
 out:=⟨B.out.1.trans A.out.1,B.out.2.1.trans A.out.2.1,B.out.2.2.trans A.out.2.2⟩ }
def nB(Y Y':ar):Prop:=∀(b:Nat) ob,Y[b]? = some ob->∃d,Y'[b]? = some d/\d.sz=ob.sz
theorem nB.refl:nB Y Y:=λ_ i h=>⟨i,h,rfl⟩
theorem V.sub(s:nB Y Y')(z:∀b c,M b=some c->M' b=some c)(G:∀c:Nat,Fz c->Fz' c/\w'.heap[c]? = w.heap[c]?)
  (A:∀(c:Nat) arr T fr,w.heap[c]? = some (.cells arr T fr)->∃i,w'.heap[c]? = some (.cells i T fr)/\i.size=arr.size) {d:D} {v:Value} (h:V Y M Fz w d v):V Y' M' Fz' w' d v:=by
 induction h with
 |c h=>exact .c (h.mono G)
 |any v=>exact .any v
 |ptr a W h K u=>
  obtain ⟨j,E,hs⟩:=s _ _ h;refine .ptr a j E (by omega) (λX=>?_)
  grind
 |sl a n cap O W h K u=>
  obtain ⟨j,E,hs⟩:=s _ _ h;refine .sl a n cap O j E (by omega) (λX=>?_);rcases u (by omega) with x | ⟨c,o,arr,T,hM,ha,hn,hl,ho,σ,hb,hz⟩
  ·simp_all
  ·obtain ⟨i,Z,aa⟩:=A _ _ _ _ σ
   simp_all
 |mp c W h u=>obtain ⟨j,E,hs⟩:=s _ _ h;exact .mp c j E (λX=>z _ _ (u (by omega)))
 |fn F ws x h2 u hw R U=>exact .fn F ws x h2 R U
 |agg F x u ih=>exact .agg F x ih
 |aV F x u ih=>exact .aV F x ih
def V.ext(i:nB Y Y')(S:KL M Fz w M' Fz' w'){d:D}{v:Value}(h:V Y M Fz w d v):V Y' M' Fz' w' d v:=h.sub i S.ext S.fz S.qe
theorem ca.sub(A:nB Y Y')(s:∀b c,M b=some c->M' b=some c){ob:Ob}{o:Obj}(h:ca Y M Fz w ob o):ca Y' M' Fz w ob o:=by
 have e:∀{d v},V Y M Fz w d v->V Y' M' Fz w d v:=λh=>h.sub A s (λc h=>⟨h,rfl⟩) (λc j T K h=>⟨j,h,rfl⟩);cases ob with
 |cells O=>obtain ⟨j,T,E,hl,u⟩:=h;exact ⟨j,T,E,hl,λi d v x z=>⟨e (u i d v x z).1,(u i d v x z).2⟩⟩
 |map R F=>obtain ⟨j,E,hl,u⟩:=h;exact ⟨j,E,hl,λi k d n G x z=>let ⟨a,b,c⟩:=u i k d n G x z;⟨a,b,e c⟩⟩
 |gone n=>exact h.elim
theorem ca.ext(s:nB Y Y')(S:KL M Fz w M' Fz' w'){ob:Ob}{o:Obj}(h:ca Y M Fz w ob o):ca Y' M' Fz' w' ob o:=by
 cases ob with
 |cells F=>obtain ⟨j,T,A,hl,u⟩:=h;exact ⟨j,T,A,hl,λi d v x z=>⟨(u i d v x z).1.ext s S,(u i d v x z).2⟩⟩
 |map G E=>obtain ⟨j,A,hl,u⟩:=h;exact ⟨j,A,hl,λi k d n e x z=>let ⟨a,b,c⟩:=u i k d n e x z;⟨a,b,c.ext s S⟩⟩
 |gone n=>exact h.elim
theorem V.down(z:nB Y Y'){d:D}{v:Value}(h:V Y' M' Fz' w' d v):∀{A:Value},V Y M Fz w d A->V Y M' Fz' w' d v:=by
 induction h with
 |c h=>intro _ _;exact .c h
 |any v=>intro _ _;exact .any v
 |ptr a W h R x=>
  intro A o;cases o with
  |ptr a0 s j _ _=>obtain ⟨E,u,hs⟩:=z _ _ j;rw[h] at u;simp only[au] at u;subst u;exact .ptr a s j (by omega) (λX=>x (by omega))
 |sl a n cap U W h R x=>
  intro A o;cases o with
  |sl a0 n0 σ _ s j _ _=>obtain ⟨E,u,hs⟩:=z _ _ j;rw[h] at u;simp only[au] at u;subst u;exact .sl a n cap U s j (by omega) (λX=>x (by omega))
 |mp c W h x=>
  intro A o;cases o with
  |mp c0 s j _=>obtain ⟨E,u,hs⟩:=z _ _ j;rw[h] at u;simp only[au] at u;subst u;exact .mp c s j (λX=>x (by omega))
 |fn F ws G h2 x hw aa ab=>
  intro A o;cases o with
  |fn K ad Z k2 O af=>
   refine .fn F ws G h2 (λi d v a b=>?_) (λi d v a b=>?_)
   ·grind
   grind
 |agg F G x ih=>
  intro A o;cases o with
  |agg K Z O=>
   refine .agg F G (λi d v a b=>?_)
   grind
 |aV F G x ih=>
  intro A o;cases o with
  |aV K Z O=>
   refine .aV F G (λi d v a b=>?_)
   grind
theorem ca.down(x:nB Y Y'){ob:Ob}{o U:Obj}(h:ca Y' M' Fz' w' ob o)(R:ca Y M Fz w ob U):ca Y M' Fz' w' ob o:=by
 cases ob with
 |cells W=>obtain ⟨s,T,F,hl,A⟩:=h;obtain ⟨z,X,G,K,u⟩:=R;refine ⟨s,T,F,hl,λi d v j E=>⟨?_,(A i d v j E).2⟩⟩;have hi:=(fq.1 j).1;exact (A i d v j E).1.down x (u i d _ j (qB (by omega))).1
 |map σ O=>obtain ⟨s,F,hl,A⟩:=h;obtain ⟨z,G,K,u⟩:=R;refine ⟨s,F,hl,λi k d n e j E=>?_⟩;have hi:=(fq.1 j).1;obtain ⟨a,b,c⟩:=A i k d n e j E;exact ⟨a,b,c.down x (u i k d n _ j (qB (by omega))).2.2⟩
 |gone n=>exact h.elim
def cZ(M:Nat->Option Nat)(n:Nat):Nat->Option Nat:=λb=>if b<n then M b else none
theorem V.cut{d:D}{v:Value}(h:V Y M Fz w d v):V Y (cZ M Y.length) Fz w d v:=by
 induction h with
 |c h=>exact .c h
 |any v=>exact .any v
 |ptr a u h i j=>refine .ptr a u h i (λA=>?_);obtain ⟨c,O,R⟩:=j A;exact ⟨c,by simp only[cZ];grind,R⟩
 |sl a n cap E u h i j=>
  refine .sl a n cap E u h i (λA=>?_);rcases j A with s | ⟨c,o,F,T,O,x⟩
  ·simp_all
  ·exact .inr ⟨c,o,F,T,by simp only[cZ];grind,x⟩
 |mp c u h j=>exact .mp c u h (λA=>by simp only[cZ];grind)
 |fn z U s W j X G K=>exact .fn z U s W G K
 |agg z s j ih=>exact .agg z s ih
 |aV z s j ih=>exact .aV z s ih
theorem ca.cut{ob:Ob}{o:Obj}(h:ca Y M Fz w ob o):ca Y (cZ M Y.length) Fz w ob o:=by
 cases ob with
 |cells E=>obtain ⟨j,T,z,hl,s⟩:=h;exact ⟨j,T,z,hl,λi d v u x=>⟨(s i d v u x).1.cut,(s i d v u x).2⟩⟩
 |map F A=>obtain ⟨j,z,hl,s⟩:=h;exact ⟨j,z,hl,λi k d n e u x=>let ⟨a,b,c⟩:=s i k d n e u x;⟨a,b,c.cut⟩⟩
 |gone n=>exact h.elim
end
inductive CN (ops:Array Oper):Nat->Nat->Prop where
 |one {i j:Nat} {o:Oper} {e:Edge} (ho:ops[j]? = some o) (he:e∈o.after) (hb:Region.binds .any e=true) (hi:e.on=i):CN ops i j
 |more {i j k:Nat} {o:Oper} {e:Edge} (ho:ops[j]? = some o) (he:e∈o.after) (hb:Region.binds .any e=true) (hk:e.on=k) (h:CN ops i k):CN ops i j
def gg(ops:Array Oper)(S:Nat->Prop):Prop:=∀(j:Nat) o e,S j->ops[j]? = some o->e∈o.after->Region.binds .any e=true->S e.on
theorem CN.in{ops:Array Oper}{S:Nat->Prop}(u:gg ops S){i j:Nat}(h:CN ops i j)(x:S j):S i:=by
 induction h with
 |one o s hb hi=>exact hi▸u _ _ _ x o s hb
 |more o s hb hk h ih=>exact ih (hk▸u _ _ _ x o s hb)
theorem CN.ready{ops:Array Oper}{S:Nat->Prop}(x:gg ops S){i j:Nat}(h:CN ops i j)(z:∀o e,ops[j]? = some o->e∈o.after->Region.binds .any e=true->S e.on):S i:=by
 cases h with
 |one s u hb hi=>grind
 |more s u hb hk h=>exact h.in x (hk▸z _ _ s u hb)
def Zg{ops:Array Oper}{j:Nat}{o:Oper}(f:ops[j]? = some o){acc:List Nat}(d:∀k i,(acc.getD k 0).testBit i=true->CN ops i k){i:Nat}(h:(KT acc o).testBit i=true):CN ops i j:=by
 unfold KT at h;have g:∀(l:List Edge)(s:Nat),(∀e∈l,e∈o.after)->(s.testBit i=true->CN ops i j) ->
   (l.foldl (λs e=>if Region.binds .any e then s ||| 2 ^ e.on ||| acc.getD e.on 0 else s) s).testBit i=true->CN ops i j:=by
  intro l;induction l with
  |nil=>simp_all
  |cons e l ih=>
   intro s hl hs h;simp only[List.foldl_cons] at h;refine ih _ (λm p=>hl m (by grind)) ?_ h;intro hb;split at hb
   ·rename_i b;simp only[Nat.testBit_or,gE,Nat.testBit_two_pow,bz] at hb;rcases hb with (hb | hb) | hb
    ·simp_all
    ·exact .one f (hl e (by simp)) b hb
    ·exact .more f (hl e (by simp)) b rfl (d _ _ hb)
   simp_all
 grind
theorem Du{ops:Array Oper}{i j:Nat}(h:((Qh ops.toList).getD j 0).testBit i=true):CN ops i j:=by
 have g:∀(l pre:List Oper)(b:List Nat),ops.toList=pre++l->b.length=pre.length->(∀k i,(b.getD k 0).testBit i=true->CN ops i k) ->
   ∀k i,((l.foldl (λb o=>b++[KT b o]) b).getD k 0).testBit i=true->CN ops i k:=by
  intro l;induction l with
  |nil=>simp_all
  |cons o l ih=>
   intro pre b d e f k i h;simp only[List.foldl_cons] at h;refine ih (pre++[o]) (b++[KT b o]) (by simp_all) (by simp_all) ?_ k i h;intro k i hb;rw[Vo,yB6] at hb;split at hb
   ·simp_all
   ·rename_i hk;by_cases m:k=b.length
    ·subst m;simp at hb;refine Zg ?_ f hb;rw[<-TJ,d,e,Np (cP _)];simp
    grind
 exact g ops.toList [] [] rfl rfl (by simp) j i h
structure Tr (P:Program) (orc:fA) (ops:Array Oper) (os:List aH) (p0 n0:Nat) (env:Nat->List D) (sg:Nat->ar) (wrs:Nat->List Nat):Prop where
 len:os.length=ops.size
 comp:∀(j:Nat) ao,os[j]? = some ao->∃o,ops[j]? = some o/\bp P ops o=some ao
 step:∀(i:Nat) ao,os[i]? = some ao->fo P orc ao (env i) (sg i)=some (env (i+1),sg (i+1),wrs i)
 wrk:∀i,i<n0->kC (sg i) (sg (i+1)) (wrs i)=true
 le:n0<=os.length
 pair:∀(i j:Nat) x y,i<j->os[i]? = some x->os[j]? = some y->CN ops i j\/apart (dA x (env i) (sg i).length (sg (i+1)).length (wrs i)) (dA y (env j) (sg j).length (sg (j+1)).length (wrs j))=true
 lead:∀i,i<p0->sg (i+1)=sg i/\wrs i=[]
 ple:p0<=n0
section
variable{P:Program}{orc:fA}{ops:Array Oper}{os:List aH}{p0 n0:Nat}{env:Nat->List D}{sg:Nat->ar}{wrs:Nat->List Nat}
def gL(O:lT P orc){ao:aH}{e e':List D}{Y Y':ar}{wr:List Nat}(h:fo P orc ao e Y=some (e',Y',wr)) :
  Y.length<=Y'.length/\(∀b,b<Y.length->b∉wr->Y'[b]? = Y[b]?)/\∃d,e'=nC e ao.dst d:=by
 unfold fo at h;split at h
 ·simp only[cC] at h;obtain ⟨⟨d,Y1,bV⟩,f,h⟩:=h;simp only[aU] at h;obtain ⟨rfl,rfl,rfl⟩:=h;obtain ⟨g,i⟩:=Pq (O _) f
  grind
 ·grind
 simp_all
def Tr.at(T:Tr P orc ops os p0 n0 env sg wrs){i:Nat}(h:i<os.length):∃ao,os[i]? = some ao:=⟨_,dW h⟩
def Tr.frame(T:Tr P orc ops os p0 n0 env sg wrs)(O:lT P orc){i:Nat}(h:i<os.length) :
  (sg i).length<=(sg (i+1)).length/\∀b,b<(sg i).length->b∉wrs i->(sg (i+1))[b]? = (sg i)[b]?:=by
 obtain ⟨o,j⟩:=T.at h;obtain ⟨s,u,_⟩:=gL O (T.step i o j)
 simp_all
def Tr.sz1(T:Tr P orc ops os p0 n0 env sg wrs)(O:lT P orc){i:Nat}(h:i<n0):nB (sg i) (sg (i+1)):=by
 intro b s hb;have j:=(fq.1 hb).1;by_cases o:b∈wrs i
 ·have:=iK.1 (T.wrk i h) b o
  grind
 ·exact ⟨s,by rw[(T.frame O (FG h T.le)).2 b j o];exact hb,rfl⟩
theorem Tr.sz(T:Tr P orc ops os p0 n0 env sg wrs)(O:lT P orc){m m':Nat}(h:m<=m')(s:m'<=n0):nB (sg m) (sg m'):=by
 induction m' with
 |zero=>grind [nB.refl]
 |succ k ih=>
  by_cases e:m=k+1
  ·grind [nB.refl]
  ·intro b i hb;obtain ⟨j,o,s1⟩:=ih (by omega) (by omega) b i hb;obtain ⟨u,x,z⟩:=T.sz1 O (by omega) b j o
   simp_all
theorem Tr.cI(T:Tr P orc ops os p0 n0 env sg wrs)(O:lT P orc){m m':Nat}(h:m<=m')(i:m'<=os.length):(sg m).length<=(sg m').length:=by
 induction m' with
 |zero=>simp_all
 |succ k ih=>
  by_cases e:m=k+1
  ·simp_all
  ·exact jk (ih (by omega) (by omega)) (T.frame O (by omega)).1
theorem Tr.VN(T:Tr P orc ops os p0 n0 env sg wrs)(O:lT P orc){m m' b:Nat}(h:m<=m')(s:m'<=os.length)(hb:b<(sg m).length)(j:∀i,m<=i->i<m'->b∉wrs i) :
  (sg m')[b]? = (sg m)[b]?:=by
 induction m' with
 |zero=>simp_all
 |succ k ih=>
  by_cases e:m=k+1
  ·simp_all
  ·have o:=ih (by omega) (by omega) (λi hi hk=>j i hi (by omega));rw[<-o];exact (T.frame O (by omega)).2 b (FG hb (T.cI O (by omega) (by omega))) (j k (by omega) (by omega))
theorem Tr.BO(T:Tr P orc ops os p0 n0 env sg wrs)(O:lT P orc){m:Nat}(h:m<=os.length):(env m).length=(env 0).length:=by
 induction m with
 |zero=>rfl
 |succ k ih=>obtain ⟨o,j⟩:=T.at (i:=k) (by omega);obtain ⟨_,_,d,s⟩:=gL O (T.step k o j);rw[s,<-ih (by omega)];cases o.dst <;> simp[nC]
theorem Tr.Al(T:Tr P orc ops os p0 n0 env sg wrs)(O:lT P orc){m m' t:Nat}(h:m<=m')(z:m'<=os.length)(o:∀i ao,m<=i->i<m'->os[i]? = some ao->ao.dst≠some t) :
  (env m')[t]? = (env m)[t]?:=by
 induction m' with
 |zero=>simp_all
 |succ k ih=>
  by_cases e:m=k+1
  ·simp_all
  ·rw[<-ih (by omega) (by omega) (λi ao hi hk=>o i ao hi (by omega))];obtain ⟨ao,j⟩:=T.at (i:=k) (by omega);obtain ⟨_,_,d,x⟩:=gL O (T.step k ao j);rw[x];have:=o k ao (by omega) (by omega) j;cases u:ao.dst with
   |none=>rfl
   |some s=>grind [nC]
structure Inv (os:List aH) (n0:Nat) (env:Nat->List D) (sg:Nat->ar) (wrs:Nat->List Nat) (M0:Nat->Option Nat) (Fz0:Nat->Prop) (w0:World) (tP:List Deferred)
  (S:Nat->Prop) (M:Nat->Option Nat) (Fz:Nat->Prop) (w:World) (a:Act):Prop where
 TU:a.tmps.size=(env 0).length
 tP:a.defers=tP
 tmp:∀(t m:Nat),m<=n0->(∀i o,i<n0->os[i]? = some o->o.dst=some t->(i<m↔S i))->∀d v,(env m)[t]? = some d->a.tmps[t]? = some v->V (sg m) M Fz w d v
 own:∀b c,M b=some c->¬Fz c/\c<w.heap.size/\((b<(sg 0).length/\M0 b=some c)\/∃j,j<n0/\S j/\(sg j).length<=b/\b<(sg (j+1)).length)
 blk:∀b c,M b=some c->∀m ob,m<=n0->(sg m)[b]? = some ob->(∀i,i<n0->b∈wrs i->(i<m↔S i))->∃o,w.heap[c]? = some o/\ca (sg m) M Fz w ob o
 inj:∀b b' c,M b=some c->M b'=some c->b=b'
 fz:∀c,Fz c->c<w.heap.size
 Bc:KL M0 Fz0 w0 M Fz w
 gl0:Gl.ok Fz0 w0
def Inv.start{Y:ar}{M:Nat->Option Nat}{Fz:Nat->Prop}{w:World}{a:Act}(R:Rel Y M Fz w)(j:sg 0=Y)(E:dB Y M Fz w (env p0) a.tmps){S:Nat->Prop}(K:∀i,i<os.length->(S i↔i<p0))
  (T:Tr P orc ops os p0 n0 env sg wrs) (O:lT P orc):Inv os n0 env sg wrs M Fz w a.defers S M Fz w a:={
 TU:=by rw[E.1,T.BO O (jk T.ple T.le)]
 tP:=rfl
 tmp:=λt m x z d v h1 h2=>by
  have A:=T.le;have U:=T.ple;have σ:(env m)[t]? = (env p0)[t]?:=by
   rcases Nat.le_total m p0 with h | h
   ·exact (T.Al O (m:=m) (m':=p0) (t:=t) h (by omega) (λi W hi F s X=>by have:=(z i W (by omega) s X).2 ((K i (by omega)).2 F);omega)).symm
   ·exact T.Al O (m:=p0) (m':=m) (t:=t) h (by omega) (λi W hi Z s X=>by grind)
  rw[σ] at h1;have hv:V (sg 0) M Fz w d v:=j▸E.2 t d v h1 h2;exact hv.ext (T.sz O (Qf m) x) KL.refl
 own:=λb c h=>by have hl:=R.lt h;exact ⟨(R.blk b c h).1,hl.2,.inl ⟨by simp_all,h⟩⟩
 blk:=λb c h m ob x u z=>by
  have hl:=R.lt h;have A:=T.le;have:=T.VN O (m:=0) (m':=m) (b:=b) (by omega) (jk x T.le) (by simp_all) (λi _ hi hb=>by
   have G:=(K i (by omega)).1 ((z i (by omega) hb).1 hi);rw[(T.lead i G).2] at hb
   grind)
  rw[this,j] at u;obtain ⟨_,aa,o,h1,h2,G⟩:=R.blk b c h;rw[u] at h1;simp only[au] at h1;subst h1;exact ⟨o,h2,(j▸G:ca (sg 0) M Fz w ob o).ext (T.sz O (by omega) x) KL.refl⟩
 inj:=R.inj
 fz:=R.fz
 Bc:=KL.refl
 gl0:=R.gl }
def Inv.done{M0 M:Nat->Option Nat}{Fz0 Fz:Nat->Prop}{w0 w:World}{a:Act}{tP:List Deferred}{S:Nat->Prop}(I:Inv os n0 env sg wrs M0 Fz0 w0 tP S M Fz w a)(T:Tr P orc ops os p0 n0 env sg wrs)(O:lT P orc)
  (F:∀i,i<n0->S i) (G:∀b,M0 b≠none->b<(sg 0).length):Rel (sg n0) M Fz w/\dB (sg n0) M Fz w (env n0) a.tmps/\bF (sg 0) M0 Fz0 w0 (sg n0) M Fz w:=by
 refine ⟨⟨λb c h=>?_,I.inj,I.fz,Gl.mono I.Bc.fz I.gl0⟩,⟨by rw[I.TU,T.BO O T.le],λt d v u x=>I.tmp t n0 (cP _) (λi _ hi _ _=>⟨λ_=>F i hi,λ_=>hi⟩) d v u x⟩,?_⟩
 ·obtain ⟨u,x,s⟩:=I.own b c h;have hb:b<(sg n0).length:=by
   rcases s with ⟨s,_⟩ | ⟨j,K,_,_,s⟩
   ·exact FG s (T.cI O (by omega) T.le)
   ·exact FG s (T.cI O (by omega) T.le)
  have z:(sg n0)[b]? = some (sg n0)[b]:=dW hb;obtain ⟨o,X,σ⟩:=I.blk b c h n0 _ (cP _) z (λi hi _=>⟨λ_=>F i hi,λ_=>hi⟩)
  simp_all
 ·refine ⟨I.Bc.size,I.Bc.frame,λb c h=>?_,I.Bc.fz,λc h=>?_,I.Bc.qe,λb R hb=>?_,I.Bc.out⟩
  ·rcases I.Bc.lP b c h with h | h
   ·grind
   omega
  ·rcases I.Bc.nF c h with h | h
   ·simp_all
   omega
  ·obtain ⟨A,u,x⟩:=T.sz O (by omega) (cP n0) b R hb;refine ⟨A,u,by omega,λ_=>?_⟩;have U:=(fq.1 hb).1;cases W:M0 b with
   |some c=>exact I.Bc.ext b c W
   |none=>
    cases E:M b with
    |none=>rfl
    |some c=>
     obtain ⟨_,_,s⟩:=I.own b c E;rcases s with ⟨_,s⟩ | ⟨j,K,_,s,_⟩
     ·simp_all
     ·have:=T.cI O (m:=0) (m':=j) (by omega) (by have:=T.le;omega);omega
end
end Go.Abs
end
section
namespace Go.Abs
variable[Gl]
section
variable{P:Program}{orc:fA}{ops:Array Oper}{os:List aH}{p0 n0:Nat}{env:Nat->List D}{sg:Nat->ar}{wrs:Nat->List Nat}
variable{M0 M M':Nat->Option Nat}{Fz0 Fz Fz':Nat->Prop}{w0 w w':World}{a:Act}{tP:List Deferred}{S S':Nat->Prop}
def Tr.wr_lt(T:Tr P orc ops os p0 n0 env sg wrs){i b:Nat}(h:i<n0)(hb:b∈wrs i):b<(sg i).length:=by
 have:=iK.1 (T.wrk i h) b hb
 grind
def gB{x y:eC}(h:apart x y=true) :
  (∀t,x.dst=some t->t∉y.rds)/\(∀t,y.dst=some t->t∉x.rds)/\(∀t,x.dst=some t->y.dst≠some t)/\safe x y.wr=true/\safe y x.wr=true /\
   (∀b∈y.wr,¬(x.lo≤b/\b<x.hi))/\(∀b∈x.wr,¬(y.lo≤b/\b<y.hi)):=by
 simp only [apart,bG] at h
 obtain ⟨⟨⟨⟨j,k⟩,l⟩,e,f⟩,g,i⟩:=h
 refine ⟨fun t d=>?_,fun t d=>?_,fun t d m=>?_,e,f,fun b hb=>?_,fun b hb=>?_⟩
 ·grind [disj]
 ·grind [disj]
 ·simp_all
 ·have:=iK.1 g b hb
  grind
 ·have:=iK.1 i b hb
  grind
def Tr.other(T:Tr P orc ops os p0 n0 env sg wrs)(G:gg ops S){k i:Nat}{x y:aH}(K:os[k]? = some x)(O:os[i]? = some y)(j:i≠k)(s:¬S k)
    (u:∀o e,ops[k]? = some o->e∈o.after->Region.binds .any e=true->S e.on) :
    (i<k/\S i)\/(k<i/\¬S i) \/
      ((∀t,y.dst=some t->t∉yx x)/\(∀t,x.dst=some t->y.dst≠some t) /\
        safe (dA x (env k) (sg k).length (sg (k+1)).length (wrs k)) (wrs i)=true/\safe (dA y (env i) (sg i).length (sg (i+1)).length (wrs i)) (wrs k)=true /\
        (∀b∈wrs i,¬((sg k).length≤b/\b<(sg (k+1)).length))):=by
  rcases Nat.lt_or_gt_of_ne j with h | h
  · rcases T.pair i k y x h O K with hb | hb
    · exact .inl ⟨h,hb.ready G u⟩
    · obtain ⟨R,_,z,A,E,_,U⟩:=gB hb
      exact .inr (.inr ⟨R,fun t W F=>z t F W,E,A,U⟩)
  · rcases T.pair k i x y h K O with hb | hb
    · exact .inr (.inl ⟨h,fun X=>s (hb.in G X)⟩)
    · obtain ⟨_,σ,z,A,E,Z,_⟩:=gB hb
      exact .inr (.inr ⟨σ,z,A,E,Z⟩)
def Inv.next(I:Inv os n0 env sg wrs M0 Fz0 w0 tP S M Fz w a)(T:Tr P orc ops os p0 n0 env sg wrs)(O:lT P orc)(hC:gg ops S){k:Nat}{ao:aH}{d:D}{v:Value}(hk:k<n0)(A:os[k]? = some ao)(X:¬S k)
  (σ:∀o e,ops[k]? = some o->e∈o.after->Region.binds .any e=true->S e.on) (E:∀i,S' i↔S i\/i=k) (st:KL M Fz w M' Fz' w') (F:env (k+1)=nC (env k) ao.dst d)
  (hv:V (sg (k+1)) M' Fz' w' d v) (G:∀b b' c,M' b=some c->M' b'=some c->b=b') (Z:∀c,Fz' c->c<w'.heap.size)
  (K:∀b c,M' b=some c->¬Fz' c/\c<w'.heap.size/\(M b=some c\/((sg k).length<=b/\b<(sg (k+1)).length)))
  (R:∀b c,M' b=some c->∀m ob,m<=n0->(sg m)[b]? = some ob->(∀i,i<n0->b∈wrs i->(i<m↔S' i))->∃o,w'.heap[c]? = some o/\ca (sg m) M' Fz' w' ob o) :
  Inv os n0 env sg wrs M0 Fz0 w0 tP S' M' Fz' w' (a.put ao.dst v):={
 TU:=by rw[<-I.TU];cases ao.dst <;> simp[Act.put]
 tP:=by rw[<-I.tP];cases ao.dst <;> rfl
 tmp:=λt m hm hc d' v' u h2=>by
  by_cases ht:ao.dst=some t
  ·have af:k<m:=(hc k ao hk A ht).2 ((E k).2 (.inr rfl));have aa:=T.Al O (m:=k+1) (m':=m) (t:=t) (by omega) (jk hm T.le) (λi x hi ab hx U=>by
    have z:=(hc i x (by omega) hx U).1 ab;rcases (E i).1 z with z | z
    ·rcases T.other hC A hx (by omega) X σ with ⟨h,_⟩ | ⟨_,h⟩ | ⟨_,h,_⟩
     ·omega
     ·grind
     grind
    ·omega)
   rw[aa,F,ht] at u;rw[ht] at h2;simp only[nC,yBM] at u;simp only[Act.put,yAW] at h2;simp only[if_true] at u h2;split at u
   ·rename_i ak;rw[if_pos (by grind)] at h2;simp only[au] at u h2;subst u h2;exact hv.ext (T.sz O (by omega) hm) KL.refl
   grind
  ·have ad:a.tmps[t]? = some v':=by
    cases U:ao.dst with
    |none=>rw[U] at h2;exact h2
    |some s=>
     rw[U] at h2;simp only[Act.put,yAW] at h2
     grind
   refine (I.tmp t m hm (λi o hi ho U=>?_) d' v' u ad).ext nB.refl st
   grind
 own:=λb c h=>by
  obtain ⟨u,h2,W⟩:=K b c h;refine ⟨u,h2,?_⟩;rcases W with W | W
  ·rcases (I.own b c W).2.2 with h4 | ⟨j,hj,an,h4⟩
   ·simp_all
   grind
  grind
 blk:=R
 inj:=G
 fz:=Z
 Bc:=I.Bc.trans st
 gl0:=I.gl0 }
def Inv.WT(I:Inv os n0 env sg wrs M0 Fz0 w0 tP S M Fz w a)(T:Tr P orc ops os p0 n0 env sg wrs)(O:lT P orc)(F:gg ops S){k:Nat}{ao:aH}{d:D}{v:Value}(hk:k<n0)(s:os[k]? = some ao)(u:¬S k)
  (x:∀o e,ops[k]? = some o->e∈o.after->Region.binds .any e=true->S e.on) (z:∀i,S' i↔S i\/i=k) (j:env (k+1)=nC (env k) ao.dst d)
  (A:sg (k+1)=sg k) (G:wrs k=[]) (K:V (sg k) M Fz w d v):Inv os n0 env sg wrs M0 Fz0 w0 tP S' M Fz w (a.put ao.dst v):=by
 refine I.next T O F hk s u x z KL.refl j (A▸K) I.inj I.fz (λb c h=>⟨(I.own b c h).1,(I.own b c h).2.1,.inl h⟩) (λb c h m R U E W=>?_);refine I.blk b c h m R U E (λi hi hb=>?_)
 grind
theorem Inv.alloc(I:Inv os n0 env sg wrs M0 Fz0 w0 tP S M Fz w a)(T:Tr P orc ops os p0 n0 env sg wrs)(O:lT P orc)(hC:gg ops S){k:Nat}{ao:aH}{d:D}{v:Value}{ob:Ob}{o:Obj}(hk:k<n0)(F:os[k]? = some ao)(G:¬S k)
  (K:∀o e,ops[k]? = some o->e∈o.after->Region.binds .any e=true->S e.on) (R:∀i,S' i↔S i\/i=k) (U:env (k+1)=nC (env k) ao.dst d)
  (z:sg (k+1)=sg k++[ob]) (ak:wrs k=[]) (σ:ca (sg k++[ob]) (wV M (sg k).length w.heap.size) Fz (w.alloc o) ob o)
  (hv:V (sg k++[ob]) (wV M (sg k).length w.heap.size) Fz (w.alloc o) d v):Inv os n0 env sg wrs M0 Fz0 w0 tP S' (wV M (sg k).length w.heap.size) Fz (w.alloc o) (a.put ao.dst v):=by
 have X:M (sg k).length=none:=by
  cases h:M (sg k).length with
  |none=>rfl
  |some c=>
   rcases (I.own _ c h).2.2 with ⟨x,_⟩ | ⟨j,hj,an,x,A⟩
   ·have:=T.cI O (m:=0) (m':=k) (by omega) (by grind);omega
   ·have av:=T.le;rcases Wh j k with W | W | W
    ·have:=T.cI O (m:=j+1) (m':=k) (by omega) (by omega);omega
    ·simp_all
    ·have:=T.cI O (m:=k+1) (m':=j) (by omega) (by omega)
     grind
 have st:KL M Fz w (wV M (sg k).length w.heap.size) Fz (w.alloc o):=by
  refine ⟨by simp,λc Z _=>yBY w o c Z,λb c h=>?_,λb c h=>?_,λc h=>⟨h,yBY w o c (I.fz c h)⟩,λc h=>.inl h,
   λc aa T fr h=>⟨aa,by grind [Go.heap_alloc_old],rfl⟩,⟨rfl,rfl,rfl⟩⟩
  ·unfold wV
   grind
  grind [wV]
 have s:∀b c,wV M (sg k).length w.heap.size b=some c->(b=(sg k).length/\c=w.heap.size)\/M b=some c:=by
  intro b c h;unfold wV at h
  grind
 refine I.next T O hC hk F G K R st U (z▸hv) (λb b' c h h'=>?_) (λc h=>by have:=I.fz c h;simp;omega) (λb c h=>?_) (λb c h m ab hm u Z=>?_)
 ·rcases s b c h with ⟨rfl,rfl⟩ | x <;> rcases s b' _ h' with ⟨rfl,A⟩ | A
  ·rfl
  ·have:=(I.own _ _ A).2.1;omega
  ·have:=(I.own _ _ x).2.1;omega
  ·exact I.inj b b' c x A
 ·rcases s b c h with ⟨rfl,rfl⟩ | x
  ·exact ⟨λhf=>by have:=I.fz _ hf;omega,by simp,.inr ⟨cP _,by simp_all⟩⟩
  ·obtain ⟨A,W,_⟩:=I.own b c x;exact ⟨A,by simp;omega,.inl x⟩
 ·rcases s b c h with ⟨rfl,rfl⟩ | x
  ·have ax:k<m:=by
    rcases rU k m with h | h
    ·exact h
    ·have x:=T.cI O h (by grind)
     simp_all
   have ad:=T.VN O (m:=k+1) (m':=m) (b:=(sg k).length) (by omega) (jk hm T.le) (by simp_all) (λi hi af hb=>by
    have E:=(Z i (by omega) hb).1 af;rcases (R i).1 E with E | E
    ·obtain ⟨y,hy⟩:=T.at (i:=i) (by have:=T.le;omega);rcases T.other hC F hy (by omega) G K with ⟨h,_⟩ | ⟨_,h⟩ | ⟨_,_,_,_,h⟩
     ·omega
     ·simp_all
     grind
    ·omega)
   rw[ad,z] at u;simp at u;subst u;refine ⟨o,heap_alloc_new w o,σ.ext ?_ KL.refl⟩;rw[<-z];exact T.sz O (by omega) hm
  ·obtain ⟨o',A,W⟩:=I.blk b c x m ab hm u (λi hi hb=>by
    grind)
   exact ⟨o',by grind [Go.heap_alloc_old],W.ext nB.refl st⟩
end
end Go.Abs
end
section
namespace Go.Abs
variable[Gl]
section
variable{P:Program}{orc:fA}{ops:Array Oper}{os:List aH}{p0 n0:Nat}{env:Nat->List D}{sg:Nat->ar}{wrs:Nat->List Nat}
variable{M0 M M':Nat->Option Nat}{Fz0 Fz Fz':Nat->Prop}{w0 w w':World}{a:Act}{tP:List Deferred}{S S':Nat->Prop}
def Tr.Ih(T:Tr P orc ops os p0 n0 env sg wrs)(A:gg ops S){k i:Nat}{x:aH}(hk:k<n0)(E:os[k]? = some x)(j:¬S k)
  (s:∀o e,ops[k]? = some o->e∈o.after->Region.binds .any e=true->S e.on) (z:(dA x (env k) (sg k).length (sg (k+1)).length (wrs k)).cat=3) (hi:i<n0) (G:wrs i≠[]) (u:i≠k) :
  (i<k/\S i)\/(k<i/\¬S i):=by
 obtain ⟨y,F⟩:=T.at (i:=i) (by have:=T.le;omega);rcases T.other A E F u j s with h | h | ⟨_,_,h,_⟩
 ·simp_all
 ·simp_all
 grind [safe]
def Inv.rel(I:Inv os n0 env sg wrs M0 Fz0 w0 tP S M Fz w a)(T:Tr P orc ops os p0 n0 env sg wrs)(G:gg ops S){k:Nat}{x:aH}(hk:k<n0)(K:os[k]? = some x)(u:¬S k)
  (z:∀o e,ops[k]? = some o->e∈o.after->Region.binds .any e=true->S e.on) (j:(dA x (env k) (sg k).length (sg (k+1)).length (wrs k)).cat=3) :
  Rel (sg k) (cZ M (sg k).length) Fz w:={
 blk:=λb c h=>by
  unfold cZ at h;split at h
  ·rename_i hb;have s:(sg k)[b]? = some (sg k)[b]:=dW hb;obtain ⟨o,h1,A⟩:=I.blk b c h k _ (by omega) s (λi hi O=>by
    by_cases E:i=k
    ·simp_all
    ·rcases T.Ih G hk K u z j hi (λU=>by simp_all) E with ⟨h1,A⟩ | ⟨h1,A⟩
     ·simp_all
     grind)
   exact ⟨(I.own b c h).1,_,o,s,h1,A.cut⟩
  simp_all
 inj:=λb R c h F=>by
  unfold cZ at h F;split at h
  ·split at F
   ·exact I.inj b R c h F
   simp_all
  simp_all
 fz:=I.fz
 gl:=Gl.mono I.Bc.fz I.gl0 }
def Inv.Ih(I:Inv os n0 env sg wrs M0 Fz0 w0 tP S M Fz w a)(T:Tr P orc ops os p0 n0 env sg wrs)(O:lT P orc)(hC:gg ops S){k:Nat}{ao:aH}{d:D}{v:Value}{W:Nat->Option Nat}{E:Nat->Prop}{w1:World}(hk:k<n0)(ad:os[k]? = some ao)(af:¬S k)
  (ak:∀o e,ops[k]? = some o->e∈o.after->Region.binds .any e=true->S e.on) (an:∀i,S' i↔S i\/i=k) (av:env (k+1)=nC (env k) ao.dst d)
  (ax:(dA ao (env k) (sg k).length (sg (k+1)).length (wrs k)).cat=3) (X:Rel (sg (k+1)) W E w1) (hv:V (sg (k+1)) W E w1 d v) (R:bF (sg k) (cZ M (sg k).length) Fz w (sg (k+1)) W E w1) :
  ∃M',Inv os n0 env sg wrs M0 Fz0 w0 tP S' M' E w1 (a.put ao.dst v):=by
 have bd:=T.le;have hL:=(T.frame O (i:=k) (by omega)).1;have f1:∀b,b<(sg k).length->W b=M b:=by intro b hb;obtain ⟨be,s,_,x⟩:=R.keep b _ (dW hb);obtain ⟨bh,u,U⟩:=T.sz1 O hk b _ (dW hb);rw[s] at u;simp only[au] at u;subst u;rw[x U];simp only[cZ,if_pos hb]
 have f2:∀b,(sg k).length<=b->b<(sg (k+1)).length->M b=none:=by
  intro b s x;cases h:M b with
  |none=>rfl
  |some c=>
   rcases (I.own b c h).2.2 with ⟨u,_⟩ | ⟨j,hj,bi,u,U⟩
   ·have:=T.cI O (m:=0) (m':=k) (by omega) (by omega);omega
   ·rcases Wh j k with σ | σ | σ
    ·have:=T.cI O (m:=j+1) (m':=k) (by omega) (by omega);omega
    ·simp_all
    ·have:=T.cI O (m:=k+1) (m':=j) (by omega) (by omega);omega
 have f3:∀b c,W b=some c->b<(sg k).length\/w.heap.size<=c:=by
  intro b c h;by_cases hb:b<(sg k).length
  ·omega
  ·right;rcases R.lP b c h with ⟨b0,Z⟩ | Z
   ·exfalso;unfold cZ at Z;split at Z
    ·rename_i a5;have:=X.inj b b0 c h (by simp_all);omega
    simp_all
   omega
 let M':Nat->Option Nat:=λb=>if b<(sg (k+1)).length then W b else M b
 have F:∀b,b<(sg (k+1)).length->M' b=W b:=λb h=>by grind
 have G:∀b,¬b<(sg (k+1)).length->M' b=M b:=λb h=>by grind
 have K:∀b c,W b=some c->M' b=some c:=λb c h=>by rw[F b (X.lt h).1];exact h
 have nF:∀c,E c->Fz c\/w.heap.size<=c:=by
  intro c h;rcases R.nF c h with h | ⟨b,s⟩ | h
  ·simp_all
  ·exfalso;unfold cZ at s;split at s
   ·rename_i hb;exact (X.blk b c (by simp_all)).1 h
   simp_all
  omega
 have st:KL M Fz w M' E w1:=by
  refine ⟨R.size,λc hc hn=>R.frame c hc (λb hb=>?_),λb c h=>?_,λb c h=>?_,R.fz,nF,R.qe,R.out⟩
  ·grind [cZ]
  ·grind
  grind
 refine ⟨M',I.next T O hC hk ad af ak an st av (hv.sub nB.refl K (λc h=>⟨h,rfl⟩) (λc a6 T fr h=>⟨a6,h,rfl⟩)) (λb A c h h'=>?_) X.fz (λb c h=>?_) (λb c h m ob hm z hc=>?_)⟩
 ·have a7:∀b A,b<(sg (k+1)).length->¬A<(sg (k+1)).length->M' b=some c->M' A=some c->b=A:=by
   intro b A s x u U;rw[F b s] at u;rw[G A x] at U;rcases f3 b c u with σ | σ
   ·rw[f1 b σ] at u;exact I.inj b A c u U
   ·have:=(I.own A c U).2.1;omega
  by_cases s:b<(sg (k+1)).length
  ·by_cases x:A<(sg (k+1)).length
   ·rw[F b s] at h;rw[F A x] at h';exact X.inj b A c h h'
   grind
  ·by_cases x:A<(sg (k+1)).length
   ·grind
   ·rw[G b s] at h;rw[G A x] at h';exact I.inj b A c h h'
 ·by_cases s:b<(sg (k+1)).length
  ·rw[F b s] at h;refine ⟨(X.blk b c h).1,(X.lt h).2,?_⟩
   grind
  ·rw[G b s] at h;obtain ⟨x,u,_⟩:=I.own b c h;refine ⟨λhf=>?_,FG u R.size,.inl h⟩
   grind
 ·have a0:b∉wrs k->∀i,i<n0->b∈wrs i->(i<m↔S i):=by
   grind
  by_cases s:b<(sg (k+1)).length
  ·rw[F b s] at h;have a2:∀i,i<n0->b∈wrs i->i≠k->(i<k/\S i)\/(k<i/\¬S i):=λi hi hb a8=>T.Ih hC hk ad af ak ax hi (λhe=>by simp_all) a8;obtain ⟨_,bk,o1,x,u,U⟩:=X.blk b c h;by_cases a9:k<m
   ·have aa:=T.VN O (m:=k+1) (m':=m) (b:=b) (by omega) (jk hm T.le) s (λi hi bb hb=>by
     grind)
    rw[aa,x] at z;simp only[au] at z;subst z;exact ⟨o1,u,U.sub (T.sz O (by omega) hm) K⟩
   ·have a1:=(fq.1 z).1;have ab:b∉wrs k:=λhb=>a9 ((hc k hk hb).2 ((an k).2 (.inr rfl)));have aa:=T.VN O (m:=m) (m':=k+1) (b:=b) (by omega) (by omega) a1 (λi hi bb hb=>by
     grind)
    rw[aa,z] at x;simp only[au] at x;subst x;have bc:b<(sg k).length:=FG a1 (T.cI O (by omega) (by omega));rw[f1 b bc] at h;obtain ⟨o0,_,σ⟩:=I.blk b c h m ob hm z (a0 ab);exact ⟨o1,u,(U.down (T.sz O (by omega) (by omega)) σ).sub nB.refl K⟩
  ·rw[G b s] at h;have ab:b∉wrs k:=λhb=>by have:=T.wr_lt hk hb;omega
   obtain ⟨o,x,u⟩:=I.blk b c h m ob hm z (a0 ab);refine ⟨o,?_,u.ext nB.refl st⟩;rw[R.frame c (I.own b c h).2.1 (λb0 Z=>?_)]
   ·exact x
   ·unfold cZ at Z;split at Z
    ·rename_i a5;have:=I.inj b0 b c Z h;omega
    simp_all
def jM(T:List Nat)(e:List D):List D:=e.mapIdx λi d=>if T.contains i then d else .any
theorem pZ{T:List Nat}{e:List D}{i:Nat}:(jM T e)[i]? = (e[i]?).map λd=>if T.contains i then d else .any:=by simp[jM,List.getElem?_mapIdx]
theorem Ad{T:List Nat}{e:List D}{x:aT}(h:∀n,x=.t n->n∈T):x.ev (jM T e)=x.ev e:=by
 cases x with
 |k d=>rfl
 |t n=>
  simp only[aT.ev,pZ]
  simp_all
def Inv.step(I:Inv os n0 env sg wrs M0 Fz0 w0 tP S M Fz w a)(T:Tr P orc ops os p0 n0 env sg wrs)(O:lT P orc)(σ:gg ops S){k:Nat}{Q:Exit->Act->World->Prop}(hk:k<n0)(E:¬S k)
  (F:∀o e,ops[k]? = some o->e∈o.after->Region.binds .any e=true->S e.on) (W:∀i,S' i↔S i\/i=k) (K:Act->World->Prop)
  (hK:∀a' w' M' Fz',Inv os n0 env sg wrs M0 Fz0 w0 tP S' M' Fz' w' a'->K a' w'):wpOp P ops Q k K a w:=by
 have bc:=T.le;obtain ⟨ao,z⟩:=T.at (i:=k) (by omega);obtain ⟨o,ho,X⟩:=T.comp k ao z;have u:=T.step k ao z;have hE:dB (sg k) M Fz w (jM (yx ao) (env k)) a.tmps:=by
  refine ⟨by rw[I.TU,<-T.BO O (m:=k) (by omega)];simp[jM],λi d v Z h2=>?_⟩;rw[pZ] at Z;simp only[cC] at Z;obtain ⟨d0,h3,h4⟩:=Z;by_cases ht:(yx ao).contains i=true
  ·rw[if_pos ht] at h4;subst h4;refine I.tmp i k (by omega) (λj x hj hx hd=>?_) d0 v h3 h2;by_cases a0:j=k
   ·simp_all
   ·rcases T.other σ z hx a0 E F with ⟨h5,h6⟩ | ⟨h5,h6⟩ | ⟨h5,_⟩
    ·simp_all
    ·grind
    simp_all
  ·rw[if_neg ht] at h4;subst h4;exact .any v
 have aa:g_ (jM (yx ao) (env k)) ao.g=g_ (env k) ao.g:=by
  cases hg:ao.g with
  |none=>rfl
  |some p=>
   obtain ⟨t,a9⟩:=p;have:(yx ao).contains t=true:=by grind [yx]
   simp only[g_,pZ,this,if_true]
   simp_all
 unfold bp at X;split at X
 ·rename_i g s hg G;simp only[au] at X;subst X;simp only at u aa hE;have ab:bx P (orc o.dst) s (jM (yx ⟨o.dst,s,g⟩) (env k)) (sg k)=bx P (orc o.dst) s (env k) (sg k):=by
   refine yI (mj G) (λx hx=>Ad (λn hn=>?_));subst hn;simp only[yx,kL,List.mem_filterMap]
   grind
  unfold fo at u;split at u
  ·rename_i hw;simp only at hw;have U:=ow (Y:=sg k) (M:=M) (Fz:=Fz) (w:=w) (ops:=ops) (o:=o) hE hg (by rw[aa];exact hw);simp only[cC] at u;obtain ⟨⟨d,Y1,bV⟩,a1,h⟩:=u;simp only[aU] at h;obtain ⟨A,ad,af⟩:=h;subst ad af;have a2:(dA ⟨o.dst,s,g⟩ (env k) (sg k).length (sg (k+1)).length (wrs k)).cat=cat s:=by grind [dA]
   unfold wpOp;rw[ho];simp only[U,if_true];left;have Ih:cat s=3->o.wp P a w K Q:=by
    intro a5;have R:=I.rel T σ hk z E F (by omega);have a6:dB (sg k) (cZ M (sg k).length) Fz w (jM (yx ⟨o.dst,s,g⟩) (env k)) a.tmps:=⟨hE.1,λi d v Z h2=>(hE.2 i d v Z h2).cut⟩;refine Ni (O o.dst) R a6 G (by rw[ab];exact a1) K λv w1 M1 bd R1 hv EV _=>?_;obtain ⟨M',hI⟩:=I.Ih (ao:=⟨o.dst,s,g⟩) T O σ hk z E F W A.symm (by omega) R1 hv EV
    grind
   rcases uT G with ⟨f,args,be,of,bh,_,_,_,rfl⟩ | ⟨a7,ak,_⟩
   ·exact Ih rfl
   ·have av:bx P (orc o.dst) s (jM (yx ⟨o.dst,s,g⟩) (env k)) (sg k)=some (d,sg (k+1),wrs k):=by simp_all
    have out:=DL (M:=M) (Fz:=Fz) (w:=w) (Gl.mono I.Bc.fz I.gl0) hE a7 ak av;generalize ax:sg (k+1)=s1 at out;generalize an:wrs k=w1 at out;cases out with
    |y _ hy=>obtain ⟨v,hr,hv⟩:=hy;unfold Oper.wp;rw[hr];exact hK _ _ M Fz (I.WT (ao:=⟨o.dst,s,g⟩) T O σ hk z E F W A.symm ax an hv)
    |l bi bk hy=>
     obtain ⟨v,hr,hv⟩:=hy (λb off sz c cs bl hM hb=>by
      obtain ⟨o',Z,h2⟩:=I.blk b c hM k _ (by omega) hb (λi hi bt=>by
       by_cases a8:i=k
       ·simp_all
       ·obtain ⟨y,hy⟩:=T.at (i:=i) (by omega);rcases T.other σ z hy a8 E F with ⟨h5,h6⟩ | ⟨h5,h6⟩ | ⟨_,_,h5,_⟩
        ·simp_all
        ·grind
        ·exfalso;have bb:(dA ⟨o.dst,s,g⟩ (env k) (sg k).length (sg (k+1)).length (wrs k)).blk=some b:=by
          have:XB s (env k)=XB s (jM (yx ⟨o.dst,s,g⟩) (env k)):=by
           cases s with
           |load n x=>grind [XB,Ad,yx,rW]
           |_=>rfl
          grind [dA]
         grind [safe])
      obtain ⟨bu,T',rfl,h3,h4⟩:=h2
      grind)
     unfold Oper.wp;rw[hr];exact hK _ _ M Fz (I.WT (ao:=⟨o.dst,s,g⟩) T O σ hk z E F W A.symm (by simp_all) an hv)
    |a _ hy=>obtain ⟨bv,v,hr,Z,hv⟩:=hy I.fz;unfold Oper.wp;rw[hr];exact hK _ _ _ Fz (I.alloc (ao:=⟨o.dst,s,g⟩) T O σ hk z E F W A.symm ax an Z hv)
    |g a5 _=>simp_all
  ·rename_i hw;simp only at hw;have U:=ow (Y:=sg k) (M:=M) (Fz:=Fz) (w:=w) (ops:=ops) (o:=o) hE hg (by rw[aa];exact hw);simp only[au,aU] at u;obtain ⟨A,ad,af⟩:=u;unfold wpOp;rw[ho];simp only[U,b_,cw];exact hK _ _ M Fz (I.WT (ao:=⟨o.dst,s,g⟩) T O σ hk z E F W A.symm ad.symm af.symm V.undef)
  simp_all
 simp_all
end
end Go.Abs
end
section
namespace Go.Abs
variable[Gl]
section
variable{P:Program}{orc:fA}{ops:Array Oper}{os:List aH}{p0 n0:Nat}{env:Nat->List D}{sg:Nat->ar}{wrs:Nat->List Nat}
variable{M:Nat->Option Nat}{Fz:Nat->Prop}{w:World}{a:Act}
def Vv(N:Nat)(listed:Array Bool):Nat:=((List.range N).filter λj=>!listed.getD j false).length
def gD(listed:Array Bool)(i:Nat):Prop:=listed.getD i false=true
theorem Kv{listed:Array Bool}{k:Nat}(hk:k<listed.size)(i:Nat):gD (listed.setIfInBounds k true) i↔gD listed i\/i=k:=by
 unfold gD;by_cases h:k=i
 ·simp_all
 ·rw[getD_set_ne false h]
  grind
def CY{N:Nat}{listed:Array Bool}{k:Nat}(hs:k<listed.size)(hk:k<N)(b:¬gD listed k):Vv N (listed.setIfInBounds k true)<Vv N listed:=by
 unfold Vv;have e:(List.range N).filter (λj=>!(listed.setIfInBounds k true).getD j false)=((List.range N).filter λj=>!listed.getD j false).filter λj=>j != k:=by
  rw[List.filter_filter];apply List.filter_congr;intro j _;have:=Kv hs (i:=j);unfold gD at this
  grind
 rw[e,List.length_filter_lt_length_iff_exists]
 grind [gD]
def ug{N:Nat}{listed:Array Bool}(h:Vv N listed=0):∀i,i<N->gD listed i:=by grind [Vv,List.filter_eq_nil_iff,gD]
theorem UK{N:Nat}{listed:Array Bool}(h:∃i,i<N/\¬gD listed i):∃i,i<N/\¬gD listed i/\∀j,j<i->gD listed j:=by
 obtain ⟨i,hi,b⟩:=h;induction i using Nat.strongRecOn with
 |_ i ih=>grind
theorem yT{listed:Array Bool}(g:listed.size=ops.size)(b:∀(j:Nat) o e,ops[j]? = some o->e∈o.after->Region.binds .any e=true->e.on<j)
  (h:Region.ready .any ops listed=[]):∀i,i<ops.size->gD listed i:=by
 intro i hi;refine Classical.byContradiction λk=>?_;obtain ⟨j,l,m,d⟩:=UK (N:=ops.size) ⟨i,hi,k⟩;have f:ops[j]? = some ops[j]:=qB l;have:j∈Region.ready .any ops listed:=by
  rw[mem_ready];refine ⟨?_,ops[j],f,λe p hb=>d e.on (b j _ e f p hb)⟩
  grind [gD]
 simp_all
theorem cnt_ge(n0:Nat):∀m,((List.range (n0+m)).filter (λj=>decide (n0<=j))).length=m:=by
 intro m;induction m with
 |zero=>simp_all
 |succ m ih=>grind [List.range_succ]
theorem iR(m j:Nat):(Array.replicate m false).getD j false=false:=by
 simp only[yBc,yCv]
 grind
theorem SS(O:lT P orc)(T:Tr P orc ops os p0 n0 env sg wrs)(r:∀i j,p0<=i->i<j->n0<=j->j<os.length->CN ops i j)(g:∀(j:Nat) o e,ops[j]? = some o->e∈o.after->Region.binds .any e=true->e.on<j){Q:Exit->Act->World->Prop}
  (Z:∀f w' M' Fz',f.defers=a.defers->Rel (sg os.length) M' Fz' w'->dB (sg os.length) M' Fz' w' (env os.length) f.tmps->bF (sg 0) M Fz w (sg os.length) M' Fz' w'->Q .normal f w') :
  ∀ (b : Nat) (listed : Array Bool) (k : Nat) (M' : Nat -> Option Nat) (Fz' : Nat -> Prop) (w' : World) (f : Act), listed.size = ops.size -> n0 <= k -> k <= os.length -> (∀ i, i < ops.size -> (gD listed i ↔ i < k)) -> os.length - k <= b -> f.defers = a.defers ->
   Rel (sg k) M' Fz' w'->dB (sg k) M' Fz' w' (env k) f.tmps->bF (sg 0) M Fz w (sg k) M' Fz' w'->wpAny P .any ops Q b listed f w':=by
 have F:=T.len;intro b;induction b with
 |zero=>
  intro listed k M' Fz' w' f m hk s hS hf G R E t;have p:k=os.length:=by omega
  subst p;refine ⟨?_,Z f w' M' Fz' G R E t⟩;cases K:Region.ready .any ops listed with
  |nil=>rfl
  |cons j l=>
   have hm:j∈Region.ready .any ops listed:=by simp_all
   rw[mem_ready] at hm
   grind [gD]
 |succ b ih=>
  intro listed k M' Fz' w' f m hk s hS hf G R E t;refine ⟨λK=>?_,λj L=>?_⟩
  ·have N:=yT m g K;have p:k=os.length:=by
    rcases rU k os.length with h | h
    ·grind
    ·omega
   grind
  ·rw[mem_ready] at L;obtain ⟨h1,o,U,u⟩:=L;have aa:j<ops.size:=(CK.1 U).1;have hC:gg ops (gD listed):=by
    intro i W e hi d X hb
    grind
   have ab:¬gD listed j:=by grind [gD]
   have ad:k<=j:=by simp_all
   have v:j=k:=by
    rcases rU k j with h | h
    ·have hb:=r k j (by have:=T.ple;omega) h (by omega) (by omega);have:=hb.ready hC (λW e d X x=>by rw[U] at d;simp only[au] at d;subst d;exact u e X x)
     grind
    ·omega
   subst v;obtain ⟨σ,q⟩:=T.at (i:=j) (by omega);obtain ⟨W,d,y⟩:=T.comp j σ q;refine Dn O R E d y (T.step j σ q) _ λa1 w1 M1 z af R1 E1 A ak=>?_;refine ih (listed.setIfInBounds j true) (j+1) M1 z w1 a1 (by grind) (by omega) (by omega) (λi hi=>?_) (by omega) (by simp_all) R1 E1 (t.trans A (T.cI O (by omega) (by omega)))
   grind [Kv]
def Zp(O:lT P orc)(T:Tr P orc ops os p0 n0 env sg wrs)(t:∀i j,p0<=i->i<j->n0<=j->j<os.length->CN ops i j)(g:∀(j:Nat) o e,ops[j]? = some o->e∈o.after->Region.binds .any e=true->e.on<j)(R:Rel (sg 0) M Fz w)(E:dB (sg 0) M Fz w (env p0) a.tmps){Q:Exit->Act->World->Prop}
  (hQ:∀p w' M' Fz',p.defers=a.defers->Rel (sg os.length) M' Fz' w'->dB (sg os.length) M' Fz' w' (env os.length) p.tmps->bF (sg 0) M Fz w (sg os.length) M' Fz' w'->Q .normal p w') :
  wpAny P .any ops Q (ops.size-p0) (L_ ops.size p0) a w:=by
 have an:=T.ple;have av:=T.len;have x:=T.le;have q:∀b,M b≠none->b<(sg 0).length:=λb h=>by
  cases hM:M b with
  |none=>simp_all
  |some c=>exact (R.lt hM).1
 have y:∀(d:Nat)(listed:Array Bool)(M':Nat->Option Nat)(Fz':Nat->Prop)(w':World)(p:Act),listed.size=ops.size->Vv ops.size listed<=d->gg ops (gD listed)->(∀i,i<p0->gD listed i)->(∀i,gD listed i->i<n0) ->
   Inv os n0 env sg wrs M Fz w a.defers (gD listed) M' Fz' w' p->wpAny P .any ops Q d listed p w':=by
  intro d;induction d with
  |zero=>
   intro listed M' Fz' w' p l hu K z u I;have r:=ug (N:=ops.size) (listed:=listed) (by omega);have hn:n0=os.length:=by
    rcases rU n0 os.length with h | h
    ·grind
    ·omega
   obtain ⟨U,W,v⟩:=I.done T O (λi hi=>r i (by omega)) q;refine SS O T t g hQ 0 listed n0 M' Fz' w' p l (cP _) x (λi hi=>⟨λh=>u i h,λ_=>r i hi⟩) (by omega) I.tP U W v
  |succ d ih=>
   intro listed M' Fz' w' p l hu K z u I;by_cases f:∀i,i<n0->gD listed i
   ·obtain ⟨U,W,v⟩:=I.done T O f q;refine SS O T t g hQ (d+1) listed n0 M' Fz' w' p l (cP _) x (λi hi=>⟨λh=>u i h,λh=>f i h⟩) ?_ I.tP U W v;have:os.length-n0<=Vv ops.size listed:=by
     unfold Vv;have e:(List.range ops.size).filter (λj=>!listed.getD j false)=(List.range ops.size).filter (λj=>decide (n0<=j)):=by
      apply List.filter_congr
      grind [gD]
     rw[e,show ops.size=n0+(os.length-n0) from by omega,cnt_ge];omega
    omega
   ·refine ⟨λhr=>?_,λj X=>?_⟩
    ·grind [yT]
    ·rw[mem_ready] at X;obtain ⟨h1,o,σ,Z⟩:=X;have aa:j<ops.size:=(CK.1 σ).1;have A:¬gD listed j:=by
      grind [gD]
     have s:∀F e,ops[j]? = some F->e∈F.after->Region.binds .any e=true->gD listed e.on:=λF e m L ab=>by rw[σ] at m;simp only[au] at m;subst m;exact Z e L ab
     have ad:j<n0:=by
      rcases rU j n0 with h | h
      ·exact h
      ·refine absurd (λi hi=>?_) f;rcases rU i p0 with G | G
       ·simp_all
       ·exact (t i j G (by omega) h (by omega)).ready K s
     refine I.step (S':=gD (listed.setIfInBounds j true)) T O K ad A s (λi=>Kv (by omega) i) _ λa1 w1 M1 af I1=>?_;refine ih (listed.setIfInBounds j true) M1 af w1 a1 (by grind) ?_ ?_ (λi hi=>(Kv (by omega) i).2 (.inl (z i hi))) ?_ I1
     ·have:=CY (N:=ops.size) (listed:=listed) (k:=j) (by omega) aa A;omega
     ·intro i F e hi m L hb;rw[Kv (by omega)] at hi ⊢;rcases hi with hi | rfl
      ·exact .inl (K i F e hi m L hb)
      simp_all
     grind [Kv]
 have l:∀k,(L_ ops.size k).size=ops.size:=by
  intro k;induction k with
  |zero=>simp[L_]
  |succ k ih=>grind [L_]
 have hl:∀k i,i<ops.size->(gD (L_ ops.size k) i↔i<k):=by
  intro k;induction k with
  |zero=>grind [L_,gD,iR]
  |succ k ih=>
   intro i hi;by_cases hk:k<ops.size
   ·grind [L_,Kv]
   grind [L_]
 have ax:∀i,gD (L_ ops.size p0) i->i<ops.size:=by grind [gD]
 have ak:∀k,k<=ops.size->Vv ops.size (L_ ops.size k)<=ops.size-k:=by
  intro k;induction k with
  |zero=>grind [Vv]
  |succ k ih=>
   intro hk;have:=CY (N:=ops.size) (listed:=L_ ops.size k) (k:=k) (by grind) (by omega) (λh=>by grind)
   grind [L_]
 refine y (ops.size-p0) _ M Fz w a (l _) (ak p0 (by omega)) ?_ (λi hi=>(hl p0 i (by omega)).2 hi) (λi hi=>?_) (Inv.start R rfl E (λi hi=>hl p0 i (by omega)) T O)
 ·intro j o e X σ L hb
  grind
 grind
end
end Go.Abs
end
section
namespace Go.Abs
variable[Gl]
def y_:nr->Exit
 |.normal=>.normal
 |.exit i=>if i % 2=0 then .exit (i / 2) else .goto (i / 2)
 |.ret=>.ret
theorem Oc(i:Nat):y_ (.exit (2 * i))=.exit i:=by
 show (if 2 * i % 2=0 then Exit.exit (2 * i / 2) else Exit.goto (2 * i / 2))=_
 simp_all
theorem MU(i:Nat):y_ (.exit (2 * i+1))=.goto i:=by
 show (if (2 * i+1) % 2=0 then Exit.exit ((2 * i+1) / 2) else Exit.goto ((2 * i+1) / 2))=_
 grind
def BI{i:Nat}(h:i % 2=0):y_ (.exit i)=.exit (i / 2):=if_pos h
def SV{i:Nat}(h:¬i % 2=0):y_ (.exit i)=.goto (i / 2):=if_neg h
theorem qt{i:Nat}{R:Act->World->Prop}{Q:Exit->Act->World->Prop}{a:Act}{w:World}(h:Q (y_ (.exit i)) a w):Exit.then R Q (y_ (.exit i)) a w:=by
 by_cases b:i % 2=0
 ·rw[BI b] at h ⊢;exact h
 ·rw[SV b] at h ⊢;exact h
def Fu{id:Nat}{Q:Exit->Act->World->Prop}{a:Act}{w:World}(h:Q .normal a w):Exit.inBlock id Q (y_ (.exit (2 * id))) a w:=by rw[Oc];simp only[Exit.inBlock,if_true];exact h
theorem Cq{i id:Nat}{Q:Exit->Act->World->Prop}{a:Act}{w:World}(hi:i≠2 * id)(h:Q (y_ (.exit i)) a w):Exit.inBlock id Q (y_ (.exit i)) a w:=by
 by_cases b:i % 2=0
 ·rw[BI b] at h ⊢;simp only[Exit.inBlock]
  grind
 ·rw[SV b] at h ⊢;exact h
section
variable{P:Program}{orc:fA}
theorem SQ{n:Nat}:∀(os:List aH)(n:Nat)(e e':List D)(Y Y':ar)(b:List eC),lL P orc n os e Y=some (e',Y',b) ->
  ∃ (env : Nat -> List D) (sg : Nat -> ar) (wrs : Nat -> List Nat), env 0 = e /\ sg 0 = Y /\ env os.length = e' /\ sg os.length = Y' /\ b.length = os.length /\
   (∀(i:Nat) ao,os[i]? = some ao->fo P orc ao (env i) (sg i)=some (env (i+1),sg (i+1),wrs i)/\b[i]? = some (dA ao (env i) (sg i).length (sg (i+1)).length (wrs i))) /\
   (∀i,i<os.length->i<n->kC (sg i) (sg (i+1)) (wrs i)=true):=by
 intro os;induction os with
 |nil=>intro n e e' Y Y' b h;simp only[lL,au,aU] at h;obtain ⟨rfl,rfl,rfl⟩:=h;exact ⟨λ_=>e,λ_=>Y,λ_=>[],rfl,rfl,rfl,rfl,rfl,λi ao h=>by simp at h,λi h=>by simp at h⟩
 |cons o os ih=>
  intro n e e' Y Y' b h;simp only[lL] at h;split at h
  ·rename_i f Y1 w1 p;split at h
   ·rename_i q;split at h
    ·rename_i g aC d j;simp only[au,aU] at h;obtain ⟨rfl,rfl,rfl⟩:=h;obtain ⟨env,sg,wrs,r,s,k,l,m,t,u⟩:=ih (n-1) f g Y1 aC d j;refine ⟨λi=>match i with | 0=>e | i+1=>env i,λi=>match i with | 0=>Y | i+1=>sg i,λi=>match i with | 0=>w1 | i+1=>wrs i,rfl,rfl,k,l,by simp[m],λi ao hi=>?_,λi hi v=>?_⟩
     ·grind
     grind
    simp_all
   simp_all
  simp_all
def vo{ops:Array Oper}(h:z_ ops.toList=true)(j:Nat)(o:Oper)(e:Edge)(b:ops[j]? = some o)(d:e∈o.after)(hb:Region.binds .any e=true):e.on<j:=by
 have f:j<ops.size:=(CK.1 b).1;have g:=iK.1 h j (by simp_all)
 grind
theorem KJ{α d:Type}{f:α->Option d}:∀{l:List α}{r:List d},l.mapM f=some r->r.length=l.length/\∀(i:Nat) b,r[i]? = some b->∃a,l[i]? = some a/\f a=some b:=by
 intro l;induction l with
 |nil=>simp_all
 |cons a l ih=>grind [Option.bind_eq_some_iff]
theorem ME(O:lT P orc):∀(os:List aH)(e e':List D)(Y Y':ar)(wr:List Nat),jN P orc os e Y=some (e',Y',wr)->Y.length<=Y'.length/\∀b,b<Y.length->b∉wr->Y'[b]? = Y[b]?:=by
 intro os;induction os with
 |nil=>
  intro e e' Y Y' wr h;simp only[jN,au,aU] at h
  simp_all
 |cons o os ih=>
  intro e e' Y Y' wr h;simp only[jN] at h;split at h
  ·rename_i f Y1 w1 d;split at h
   ·rename_i g aC w2 i;simp only[au,aU] at h;obtain ⟨rfl,rfl,rfl⟩:=h;obtain ⟨j,k,_⟩:=gL O d
    grind
   simp_all
  simp_all
theorem ES(O:lT P orc):∀(os:List aH)(n:Nat)(e e':List D)(Y Y':ar)(d:List eC),lL P orc n os e Y=some (e',Y',d) ->
  Y.length<=Y'.length/\∀b,b<Y.length->b∉d.flatMap (·.wr)->Y'[b]? = Y[b]?:=by
 intro os;induction os with
 |nil=>
  intro n e e' Y Y' d h;simp only[lL,au,aU] at h
  simp_all
 |cons o os ih=>
  intro n e e' Y Y' d h;simp only[lL] at h;split at h
  ·rename_i i Y1 w1 j;split at h
   ·split at h
    ·rename_i k aC f l;simp only[au,aU] at h;obtain ⟨rfl,rfl,rfl⟩:=h;obtain ⟨m,p,_⟩:=gL O j;obtain ⟨q,r⟩:=ih _ i k Y1 aC f l;refine ⟨jk m q,λb hb g=>?_⟩;simp only[yBN,kL,not_or] at g;rw[r b (by omega) g.2,p b hb g.1]
    simp_all
   simp_all
  simp_all
theorem vK(O:lT P orc):∀(k:Nat)(c:aQ)(e e':List D)(Y Y':ar)(wr wr':List Nat)(x:nr),kB P orc k c e Y wr=some (x,e',Y',wr') ->
  Y.length<=Y'.length/\(∀b∈wr,b∈wr')/\∀b,b<Y.length->b∉wr'->Y'[b]? = Y[b]?:=by
 intro k;induction k with
 |zero=>grind [kB]
 |succ k ih=>
  intro c e e' Y Y' wr wr' x h;cases c with
  |skip=>simp only[kB,au,aU] at h;simp_all
  |exit id=>simp only[kB,au,aU] at h;simp_all
  |ret=>simp only[kB,au,aU] at h;simp_all
  |stuck=>grind [kB]
  |lbl l=>grind [kB]
  |VV l a r=>grind [kB]
  |Wj o j a b=>grind [kB]
  |Bb os=>
   simp only[kB,cC,aU] at h;obtain ⟨⟨f,Y1,w1⟩,d,_,_,rfl,rfl⟩:=h;obtain ⟨m,q⟩:=ME O os _ _ _ _ _ d
   simp_all
  |HH os g n p=>
   have one:∀n f Y1 w1,jO P orc os g p n e Y=some (f,Y1,w1)->Y.length<=Y1.length/\∀b,b<Y.length->b∉w1->Y1[b]? = Y[b]?:=by
    intro n f Y1 w1 d;unfold jO at d;split at d
    ·rename_i s aC t i;split at d
     ·simp only[au,aU] at d;obtain ⟨_,rfl,rfl⟩:=d;exact ES O os _ _ _ _ _ _ i
     simp_all
    simp_all
   grind [kB]
  |seq a b=>grind [kB]
  |cond o a b=>grind [kB]
  |block id b=>grind [kB]
  |loop b=>grind [kB]
def oe{ops:Array Oper}{os:List aH}(g:ops.toList.mapM (bp P ops)=some os):∀(i:Nat) o c,ops[i]? = some o->o.op≠.defer c:=by intro i o c e;obtain ⟨j,h⟩:=KJ g;rw[<-TJ] at e;have hi:=(fq.1 e).1;obtain ⟨b,hb⟩:∃b,os[i]? = some b:=⟨_,dW (by omega)⟩;obtain ⟨k,d,f⟩:=h i b hb;rw[e] at d;cases d;exact pM f c
def UP(O:lT P orc){id:Nat}{ops:Array Oper}{os:List aH}{Y Y':ar}{M:Nat->Option Nat}{Fz:Nat->Prop}{w:World}{e e':List D}{a:Act}{wr:List Nat}{Q:Exit->Act->World->Prop}
  (k:ops.toList.mapM (bp P ops)=some os) (R:Rel Y M Fz w) (E:dB Y M Fz w e a.tmps) (h:jN P orc os e Y=some (e',Y',wr))
  (l:∀b w' M' Fz',b.defers=a.defers->Rel Y' M' Fz' w'->dB Y' M' Fz' w' e' b.tmps->bF Y M Fz w Y' M' Fz' w'->Q .normal b w'):(Code.region id ops false).wq P Q a w:=by
 obtain ⟨d,f⟩:=KJ k;refine Hy (oe k) ?_;have g:ops.size=os.length:=by rw[d,yBl]
 rw[List.range_eq_range',g];exact ops_wp O os 0 Y Y' M Fz w e e' a wr (λj m p=>by obtain ⟨o,q,i⟩:=f j m p;exact ⟨o,by rw[PL,<-TJ];exact q,i⟩) R E h λb w' M' Fz' d f r s _=>⟨l b w' M' Fz' d f r s,by simp⟩
theorem PU{ops:Array Oper}:∀(k i j:Nat),i<=j->j<i+leads ops k i->EE ops j=true:=by
 intro k;induction k with
 |zero=>grind [leads]
 |succ k ih=>
  intro i j d b;simp only[leads] at b;split at b
  ·rename_i h;by_cases e:i=j
   ·simp_all
   ·exact ih (i+1) j (by omega) (by omega)
  ·omega
def GA{ops:Array Oper}{i:Nat}(h:i<lead ops):Region.noSelect ops=true/\EE ops i=true:=by
 unfold lead at h;split at h
 ·rename_i b;exact ⟨b,PU ops.size 0 i (by omega) (by omega)⟩
 ·omega
def Tb(Q:Exit->Act->World->Prop):Exit->Act->World->Prop:=λx a w=>x=.normal/\Q .normal a w
def QN{ops:Array Oper}{Q:Exit->Act->World->Prop}{i:Nat}{a:Act}{w:World}{K:Act->World->Prop}(h:wpOp P ops (Tb Q) i K a w):wpOp P ops Q i K a w:=by
 unfold wpOp at *;split
 ·simp_all
 ·rename_i o d;simp only[d] at h;split
  ·rename_i f;simp only[f,if_true] at h;rcases h with h | ⟨_,g,w',h,_⟩
   ·left;unfold Oper.wp at *;generalize (execOp a.eval o).run P w=r at *;cases r with
    |ok n w'=>
     cases n <;> simp only[Oper.upon] at h ⊢ <;>
      first
       |exact h
       |exact Calls.mono h (λe w'' b=>by
         cases e with
         |returned v=>exact b
         |panicked c=>exact absurd b.1 (by simp)
         |outgrown=>obtain ⟨g,w',j,_⟩:=b;simp_all)
    |halt x w'=>
     cases x <;> simp only[Oper.upon] at h ⊢
     exact absurd h.1 (by simp)
   simp_all
  simp_all
theorem NQ{ops:Array Oper}{Q:Exit->Act->World->Prop}{md:Region.Mode}:∀(b:Nat)(listed:Array Bool)(a:Act)(w:World),wpAny P md ops (Tb Q) b listed a w->wpAny P md ops Q b listed a w:=by
 intro b;induction b with
 |zero=>intro listed a w h;exact ⟨h.1,h.2.2⟩
 |succ b ih=>intro listed a w h;exact ⟨λd=>(h.1 d).2,λi hi=>QN (wpOp_mono (λe w' f=>ih _ e w' f) (h.2 i hi))⟩
theorem lead_wp{ops:Array Oper}{Q:Exit->Act->World->Prop}{p:Nat}{w:World}(z:p<=lead ops)(l:p<=ops.size)(J:Nat->Act->Prop)
  (A:∀i o x a,i<p->ops[i]? = some o->(o.op=.move x\/o.op=.assign x)->o.guard=none->J i a->J (i+1) (a.put o.dst (a.eval x)))
  (g:∀a,J p a->wpAny P .any ops (Tb Q) (ops.size-p) (L_ ops.size p) a w):∀k a,k<=p->J (p-k) a->wpAny P .any ops (Tb Q) (ops.size-(p-k)) (L_ ops.size (p-k)) a w:=by
 intro k;induction k with
 |zero=>simp_all
 |succ k ih=>
  intro a hk h;obtain ⟨i,rfl⟩:∃i,p=i+(k+1):=⟨p-(k+1),by omega⟩;have m:i+(k+1)-(k+1)=i:=by omega
  have q:i+(k+1)-k=i+1:=by omega
  rw[m] at h ⊢;obtain ⟨e,d⟩:=GA (ops:=ops) (i:=i) (by omega);simp only[EE,bG] at d;obtain ⟨⟨f,r⟩,s⟩:=d;cases j:ops[i]? with
  |none=>simp_all
  |some o=>
   rw[j] at f;simp only[Cs,OE,isMv,bG,Option.isNone_iff_eq_none] at f;obtain ⟨t,u⟩:=f;have b:∃x,o.op=.move x\/o.op=.assign x:=by grind
   obtain ⟨x,b⟩:=b;have v:Go.Yields P ops o (a.eval x) a:=by left;refine ⟨by simp[Region.wanted,t],λw=>?_⟩;rcases b with b | b <;> simp[execOp,b]
   have y:ops.size-i=(ops.size-(i+1))+1:=by omega
   rw[y];refine wpAny_take j e r s (λc a w h=>absurd h.1 (by simp)) v ?_;have:=ih (a.put o.dst (a.eval x)) (by omega) (by simp_all);rw[q] at this;exact this
def draw_wp(t:P.follows .mixedOrders=true)(O:lT P orc){id n:Nat}{ops:Array Oper}{os:List aH}{Y Y':ar}{M:Nat->Option Nat}{Fz:Nat->Prop}{w:World}{e e':List D}{a:Act}{U:List eC}{Q:Exit->Act->World->Prop}
  (hc:ops.toList.mapM (bp P ops)=some os) (l:z_ ops.toList=true) (R:Rel Y M Fz w) (E:dB Y M Fz w e a.tmps) (h:lL P orc n os e Y=some (e',Y',U)) (hn:n≤os.length)
  (hp:eT (Qh ops.toList) U=true) (ht:l_ (Qh ops.toList) (lead ops) n os.length=true) (W:lead ops≤n)
  (X:∀g w' M' Fz',g.defers=a.defers->Rel Y' M' Fz' w'->dB Y' M' Fz' w' e' g.tmps->bF Y M Fz w Y' M' Fz' w'->Q .normal g w'):(Code.region id ops true).wq P Q a w:=by
 obtain ⟨q,σ⟩:=KJ hc
 obtain ⟨env,sg,wrs,k1,k2,k3,k4,k5,k6,k7⟩:=SQ (n:=n) os n e e' Y Y' U h
 subst k1 k2 k3 k4
 have u:os.length=ops.size:=by omega
 have mv:∀i o x,i<lead ops->ops[i]? = some o->(o.op=.move x\/o.op=.assign x)->o.guard=none->∃v,cf x=some v/\env (i+1)=nC (env i) o.dst (v.ev (env i))/\sg (i+1)=sg i/\wrs i=[]:=by
  intro i o x hi z r N
  have A:i<os.length:=by omega
  obtain ⟨o',m,d⟩:=σ i _ (dW A)
  rw [TJ,z] at m
  simp only [au] at m
  subst m
  have F:=(k6 i _ (dW A)).1
  unfold bp at d
  rw [N] at d
  simp only [zy] at d
  cases G:cf x with
  | none=>grind [comp,lI]
  | some v =>
   have Z:comp P o.op o.type=some (.AO v):=by
    grind [comp,lI]
   rw [Z] at d
   simp only [au] at d
   rw [←d] at F
   simp only [fo,g_,bx,Cs,au,aU] at F
   simp_all
 have aa:∀i j,lead ops≤i->i<j->n≤j->j<os.length->CN ops i j:=fun i j ad ab af hj=>by
  have f:=iK.1 ht j (by simp_all)
  simp only [gE,bz] at f
  rcases f with f | f
  ·omega
  ·have s:=iK.1 f i (by simp_all)
   simp only [gE] at s
   grind [Nat.blt_eq,Du]
 have T:Tr P orc ops os (lead ops) n env sg wrs:={
  len:=u
  comp:=fun j ao hj=>by simp_all
  step:=fun i ao hi=>(k6 i ao hi).1
  wrk:=fun i hi=>k7 i (by omega) hi
  le:=hn
  pair:=fun i j x y ab r hy=>by
   have hj:=(fq.1 hy).1
   have f:=iK.1 hp j (by simp_all)
   have s:=iK.1 f i (by simp_all)
   simp only [gE] at s
   grind [Du]
  lead:=fun i hi=>by
   obtain ⟨_,K⟩:=GA hi
   simp only [EE,bG] at K
   cases z:ops[i]? with
   | none=>simp_all
   | some o =>
    have q:=K.1.1
    rw [z] at q
    simp only [Cs,OE,isMv,bG,Option.isNone_iff_eq_none] at q
    obtain ⟨N,ak⟩:=q
    have r:∃x,o.op=.move x\/o.op=.assign x:=by
     grind
    obtain ⟨x,r⟩:=r
    grind
  ple:=W }
 refine xC t (oe hc) ?_
 replace X:=fun g w' M' Fz' q σ f s=>(⟨X g w' M' Fz' q σ f s,by simp⟩:kS Q .normal g w')
 have R1:Rel (sg 0) M Fz { w with drawn:=w.drawn+1 }:=R.heap rfl ⟨rfl,rfl,rfl⟩
 have EH:bF (sg 0) M Fz w (sg 0) M Fz { w with drawn:=w.drawn+1 }:=bF.heap R rfl ⟨rfl,rfl,rfl⟩
 refine NQ _ _ _ _ ?_
 have k:=lead_wp (P:=P) (ops:=ops) (Q:=kS Q) (p:=lead ops) (w:={ w with drawn:=w.drawn+1 }) (cP _) (by omega)
  (fun i b=>dB (sg 0) M Fz { w with drawn:=w.drawn+1 } (env i) b.tmps/\b.defers=a.defers)
  (fun i o x b hi z r N L=>by
   obtain ⟨v,G,f,s,_⟩:=mv i o x hi z r N
   refine ⟨?_,by rw [←L.2]; cases o.dst <;> rfl⟩
   rw [f]
   exact L.1.put o.dst (nE L.1 G))
  (fun b L=>by
   refine Zp O T aa (vo l) R1 L.1 fun g w' M' Fz' hd R' E' EV=>⟨rfl,?_⟩
   exact X g w' M' Fz' (by simp_all) R' E' (EH.trans EV (cP _)))
  (lead ops) a (cP _) (by rw [yCw]; exact ⟨E.mono EH,rfl⟩)
 rw [yCw,yC5] at k
 exact k
theorem Me(os:List aH):V_ os<=os.length:=by grind [V_]
theorem Ed(os:List aH):jL os<=os.length:=by
 induction os with
 |nil=>simp[jL]
 |cons o os ih=>grind [jL]
theorem II(W:P.follows .mixedOrders=true)(O:lT P orc):∀(k:Nat),
  (∀(c:Code) (ac:aQ) (Y Y':ar) (M:Nat->Option Nat) (Fz:Nat->Prop) (w:World) (e e':List D) (a:Act) (wr wr':List Nat) (x:nr) (Q:Exit->Act->World->Prop),bD P c=some ac->Rel Y M Fz w->dB Y M Fz w e a.tmps ->
   kB P orc k ac e Y wr=some (x,e',Y',wr')->(∀v w' M' Fz',v.defers=a.defers->Rel Y' M' Fz' w'->dB Y' M' Fz' w' e' v.tmps->bF Y M Fz w Y' M' Fz' w'->Q (y_ x) v w')->c.wq P Q a w) /\
  (∀(c:Code) (ac:aQ) (Y Y':ar) (M:Nat->Option Nat) (Fz:Nat->Prop) (w:World) (e e':List D) (a:Act) (wr wr':List Nat) (x:nr) (Q:Exit->Act->World->Prop),bD P c=some ac->Rel Y M Fz w->dB Y M Fz w e a.tmps ->
   kB P orc k (.loop ac) e Y wr=some (x,e',Y',wr')->(∀v w' M' Fz',v.defers=a.defers->Rel Y' M' Fz' w'->dB Y' M' Fz' w' e' v.tmps->bF Y M Fz w Y' M' Fz' w'->Q (y_ x) v w')->Code.rq P c Q k a w):=by
 intro k
 induction k with
 | zero=>grind [kB]
 | succ k ih =>
  obtain ⟨p,ab⟩:=ih
  have L:∀(c:Code) (ac:aQ) (Y Y':ar) (M:Nat->Option Nat) (Fz:Nat->Prop) (w:World) (e e':List D) (a:Act) (wr wr':List Nat) (x:nr) (Q:Exit->Act->World->Prop),bD P c=some ac->Rel Y M Fz w->dB Y M Fz w e a.tmps ->
   kB P orc (k+1) (.loop ac) e Y wr=some (x,e',Y',wr')->(∀v w' M' Fz',v.defers=a.defers->Rel Y' M' Fz' w'->dB Y' M' Fz' w' e' v.tmps->bF Y M Fz w Y' M' Fz' w'->Q (y_ x) v w')->Code.rq P c Q (k+1) a w:=by
   intro c ac Y Y' M Fz w e e' a wr wr' x Q d R E h s
   rw [Is]
   simp only [kB] at h
   split at h
   ·rename_i t Y1 bV m
    have hl:=(vK O _ _ _ _ _ _ _ _ _ m).1
    refine p c ac Y Y1 M Fz w e t a wr bV .normal _ d R E m fun u w1 z f G A F j=>?_
    exact ab c ac Y1 Y' z f w1 t e' u bV wr' x Q d A F h fun a2 w2 M2 N ad R2 E2 T=>s a2 w2 M2 N (by simp_all) R2 E2 (j.trans T hl)
   ·rename_i X
    have σ:x≠.normal:=fun σ=>by simp_all
    refine p c ac Y Y' M Fz w e e' a wr wr' x _ d R E h fun u w1 z f G A F j=>?_
    have:=s u w1 z f G A F j
    cases x with
    | normal=>simp_all
    | exit i=>grind [qt]
    | ret=>exact this
  refine ⟨?_,L⟩
  intro c ac Y Y' M Fz w e e' a wr wr' x Q d R E h s
  cases c with
  | skip =>
   simp only [bD,au] at d
   subst d
   simp only [kB,au,aU] at h
   obtain ⟨rfl,rfl,rfl,_⟩:=h
   exact wq_skip (s a w M Fz rfl R E (bF.refl R))
  | exit id =>
   simp only [bD,au] at d
   subst d
   simp only [kB,au,aU] at h
   grind [bF.refl,Oc,Go.wq_exit]
  | goto l =>
   simp only [bD,au] at d
   subst d
   simp only [kB,au,aU] at h
   grind [bF.refl,MU,Go.wq_goto]
  | scope b =>
   grind [bD,Option.map_eq_some_iff,IQ,kB]
  | rangeFunc g ps x y =>
   simp only [bD,au] at d
   subst d
   rcases BS (cf g) ps.toList (bD P x) (bD P y) (x.calm&&y.calm) with ⟨_,_,_,_,_,_,_,e⟩ | e <;> rw [e] at h <;> simp [kB] at h
  | ret =>
   simp only [bD,au] at d
   subst d
   simp only [kB,au,aU] at h
   obtain ⟨rfl,rfl,rfl,_⟩:=h
   exact wq_ret (s a w M Fz rfl R E (bF.refl R))
  | region id ops Z =>
   simp only [bD] at d
   split at d
   ·rename_i os aa
    cases Z with
    | false =>
     simp only [b_,cw,au] at d
     subst d
     simp only [kB,cC,aU] at h
     obtain ⟨⟨t,Y1,w1⟩,m,rfl,rfl,rfl,_⟩:=h
     exact UP O aa R E m s
    | true =>
     simp only [if_true] at d
     split at d
     ·rename_i U
      simp only [au] at d
      subst d
      have one:∀n t Y1 w1,n≤os.length->jO P orc os (Qh ops.toList) (lead ops) n e Y=some (t,Y1,w1)->x=.normal->t=e'->Y1=Y'->(Code.region id ops true).wq P Q a w:=by
       intro n t Y1 w1 hn m σ he hs
       unfold jO at m
       split at m
       ·rename_i e2 aC is h2
        split at m
        ·rename_i r
         simp only [bG] at r
         simp only [au,aU] at m
         obtain ⟨rfl,rfl,rfl⟩:=m
         subst σ he hs
         exact draw_wp W O aa U R E h2 hn r.1.1 r.1.2 (CH r.2) s
        simp_all
       simp_all
      simp only [kB] at h
      split at h
      ·grind [Ed]
      ·split at h
       ·grind [Me]
       grind
     grind [kB]
   grind [kB]
  | seq c1 c2 =>
   simp only [bD] at d
   split at d
   ·rename_i u a2 m h2
    simp only [au] at d
    subst d
    simp only [kB] at h
    split at h
    ·rename_i t Y1 bV K
     have hl:=(vK O _ _ _ _ _ _ _ _ _ K).1
     refine Qc (p c1 u Y Y1 M Fz w e t a wr bV .normal _ m R E K fun q w1 z f G A F j=>?_)
     exact p c2 a2 Y1 Y' z f w1 t e' q bV wr' x Q h2 A F h fun af w2 M2 N ad R2 E2 T=>s af w2 M2 N (by simp_all) R2 E2 (j.trans T hl)
    ·rename_i X
     have σ:x≠.normal:=fun σ=>by simp_all
     refine Qc (p c1 u Y Y' M Fz w e e' a wr wr' x _ m R E h fun q w1 z f G A F j=>?_)
     have:=s q w1 z f G A F j
     cases x with
     | normal=>simp_all
     | exit i=>grind [qt]
     | ret=>exact this
   simp_all
  | cond o c1 c2 =>
   simp only [bD] at d
   split at d
   ·rename_i oo u a2 h0 m h2
    simp only [au] at d
    subst d
    simp only [kB] at h
    have hv:=nE E h0
    grind [Go.AM,oA,Go.xL]
   grind [kB]
  | block id c1 =>
   simp only [bD,cC] at d
   obtain ⟨u,m,rfl⟩:=d
   simp only [kB] at h
   refine NU ?_
   split at h
   ·rename_i i t Y1 bV K
    split at h
    ·rename_i ak
     simp only [au,aU] at h
     obtain ⟨rfl,rfl,rfl,_⟩:=h
     refine p c1 u Y Y1 M Fz w e t a wr bV (.exit i) _ m R E K fun q w1 z f G A F j=>?_
     have:=s q w1 z f G A F j
     rw [ak]
     exact Fu this
    grind [Cq]
   ·rename_i X
    refine p c1 u Y Y' M Fz w e e' a wr wr' x _ m R E h fun q w1 z f G A F j=>?_
    have:=s q w1 z f G A F j
    cases x with
    | normal=>exact this
    | exit i=>grind
    | ret=>exact this
  | loop c1 =>
   simp only [bD,cC] at d
   obtain ⟨u,m,rfl⟩:=d
   exact uY (k+1) (L c1 u Y Y' M Fz w e e' a wr wr' x Q m R E h s)
  | _=>grind [bD,kB]
end
end Go.Abs
end
section
namespace Go.Abs
variable[Gl]
section
variable{P:Program}{Y Y0:ar}{M M0:Nat->Option Nat}{Fz Fz0:Nat->Prop}{w w0:World}
def FT(M:Nat->Option Nat)(Fz:Nat->Prop)(n:Nat):Nat->Prop:=λc=>Fz c\/∃b,n<=b/\M b=some c
theorem yf(n:Nat):∀(k:Nat)(l:List C),(chunks n k l).length=k:=by
 intro k;induction k with
 |zero=>intro l;rfl
 |succ k ih=>grind [chunks]
theorem EM{n:Nat}:∀(k:Nat)(l:List C),l.length=k * n->∀(i:Nat) e,(chunks n k l)[i]? = some e->e.length=n/\∀(j:Nat),j<n->e[j]? = l[i * n+j]?:=by
 intro k;induction k with
 |zero=>grind [chunks]
 |succ k ih=>
  intro l hl i e h;rw[Nat.succ_mul] at hl;cases i with
  |zero=>grind [chunks]
  |succ i=>grind [chunks]
theorem Bu{α d:Type}{f:α->Option d}:∀{l:List α}{r:List d},l.mapM f=some r->∀(i:Nat) a,l[i]? = some a->∃b,r[i]? = some b/\f a=some b:=by
 intro l;induction l with
 |nil=>simp_all
 |cons a l ih=>grind [Option.bind_eq_some_iff]
theorem Ku(R:Rel Y M Fz w){n:Nat}:∀(k:Nat)(d:D)(x:C)(v:Value),fW Y n k d=some x->V Y M Fz w d v->VC (FT M Fz n) w x v:=by
 intro k;induction k with
 |zero=>grind [fW]
 |succ k ih=>
  intro d x v h u;cases d with
  |c y=>simp only[fW,au] at h;subst h;exact u.pV.mono (λc hc=>⟨.inl hc,rfl⟩)
  |ptr b off sz=>
   simp only[fW] at h;split at h
   ·rename_i hb;split at h
    ·rename_i cs A;simp only[cC] at h;obtain ⟨l,hl,rfl⟩:=h;obtain ⟨c,s,rfl⟩:=u.vM A;obtain ⟨m,_⟩:=Qv A;obtain ⟨g,T,N,U,W⟩:=R.row s m;obtain ⟨m1,E⟩:=KJ hl;have:=VC.cD (Fz:=FT M Fz n) (w:=w) (cs:=l) (off:=off) c 0 (λj=>g[j]!) (.inr ⟨b,hb,s⟩) (λj d F=>?_) (λj d F=>?_)
     ·simp_all
     ·obtain ⟨a,r,_⟩:=E j d F;have q:=(fq.1 r).1;have e:g[j]? = some (g[j]'(by omega)):=qB _;have O:g[j]! = g[j]'(by omega):=getElem!_pos g j (by omega);rw[PL,cell_of_row w c j g T (0,0) N,e,O]
      grind
     ·obtain ⟨a,r,G⟩:=E j d F;have q:=(fq.1 r).1;have e:g[j]? = some (g[j]'(by omega)):=qB _
      grind
    simp_all
   simp_all
  |sl b off len aB sz=>
   simp only[fW] at h;split at h
   ·rename_i K;obtain ⟨hb,aa,an⟩:=K;split at h
    ·rename_i cs A;simp only[cC] at h;obtain ⟨l,hl,rfl⟩:=h;rcases u.fU A with ⟨rfl,O,_,_,_⟩ | ⟨c,o,cap,ab,T0,s,rfl,av,ad,ax,af,_⟩
     ·subst O;exact VC.cJ (nn:=Nat.blt 0 0) (es:=[]) aB none 0 (λh=>by cases h) (λ_=>rfl) (λ_ _=>undef) (λ_ h=>by simp at h) (cP _) (λi j e d h=>by simp at h) (λi j e d h=>by simp at h)
     obtain ⟨m,X⟩:=Qv A;obtain ⟨g,T,N,U,W⟩:=R.row s m;obtain ⟨m1,E⟩:=KJ hl;have σ:l.length=len * aB:=by grind
     have L:∀(i j:Nat)(e:List C)(d:C),(chunks aB len l)[i]? = some e->e[j]? = some d->j<aB/\i<len/\o=off/\∃a,cs[off+(i * aB+j)]? = some a/\fW Y n k a=some d:=by
      intro i j e d t z;obtain ⟨h3,h4⟩:=EM len l σ i e t
      grind [yf]
     have:=VC.cJ (Fz:=FT M Fz n) (w:=w) (nn:=Nat.blt 0 len) (es:=chunks aB len l) aB (some ⟨c,o,none⟩) cap (λ_=>rfl) (λh=>by cases h) (λi j=>g[o+i * aB+j]!) (λe he=>?_) (by grind [yf]) (λi j e d t z=>?_) (λi j e d t z=>?_)
     ·grind [yf]
     ·grind [List.mem_iff_getElem?,EM]
     ·obtain ⟨F,hi,rfl,a,r,G⟩:=L i j e d t z;have q:=(fq.1 r).1;rw[<-yC8] at r q;have e1:g[o+i * aB+j]? = some (g[o+i * aB+j]'(by omega)):=qB _;have O:g[o+i * aB+j]! = g[o+i * aB+j]'(by omega):=getElem!_pos g _ (by omega);refine ⟨c,o,rfl,.inr ⟨b,hb,s⟩,?_,?_⟩
      ·grind [Go.cell_of_row]
      grind
     ·obtain ⟨F,hi,rfl,a,r,G⟩:=L i j e d t z;have q:=(fq.1 r).1;rw[<-yC8] at r q;have e1:g[o+i * aB+j]? = some (g[o+i * aB+j]'(by omega)):=qB _
      grind
    simp_all
   simp_all
  |fn f first cap=>
   simp only[fW] at h;split at h
   ·rename_i l1 l2 t z;simp only[au] at h;subst h;obtain ⟨m1,E⟩:=KJ t;obtain ⟨m3,m4⟩:=KJ z;cases u with
    |fn vs ws k1 k2 u hw=>
     refine .fn vs ws (by omega) (by omega) (λi d v a b=>?_) (λi d v a b=>?_)
     ·grind
     grind
   simp_all
  |mp b=>
   simp only[fW] at h;split at h
   ·rename_i hb;split at h
    ·rename_i es Z m;simp only[cC] at h;obtain ⟨l,hl,rfl⟩:=h;obtain ⟨c,rfl,s⟩:=u.Jl m;obtain ⟨g,ck,N,⟨X,_⟩,ak⟩:=R.SF m s;obtain ⟨m1,E⟩:=KJ hl;refine .No c ck g (.inr ⟨b,hb,s⟩) N (by omega) (λi p e hi he=>?_) (λi p e hi he=>?_)
     ·grind [Option.map_eq_some_iff]
     grind [Option.map_eq_some_iff]
    simp_all
   simp_all
  |agg cs=>grind [fW]
  |aV vs=>grind [fW]
  |any=>grind [fW]
theorem NK(R:Rel Y M Fz w){n k:Nat}{d r:D}{v:Value}(h:nL Y n k d=some r)(e:V Y M Fz w d v)(Y':ar)(M':Nat->Option Nat):V Y' M' (FT M Fz n) w r v:=by
 have plain:∀d,(fW Y n k d).map D.c=some r->V Y M Fz w d v->V Y' M' (FT M Fz n) w r v:=by intro d h e;simp only[cC] at h;obtain ⟨x,f,rfl⟩:=h;exact .c (Ku R k d x v f e)
 cases d with
 |agg p=>
  simp only[nL,cC] at h;obtain ⟨l,hl,rfl⟩:=h;obtain ⟨m1,j⟩:=KJ hl;cases e with
  |agg m q e=>refine .agg m (by simp_all) (λi d v a b=>?_);simp only[lS,cC] at a;obtain ⟨x,f,rfl⟩:=a;obtain ⟨y,o,g⟩:=j i x f;exact .c (Ku R k y x v g (e i y v o b))
 |_=>exact plain _ h e
theorem JX(R:Rel Y M Fz w){n k:Nat}{d r:D}{v:Value}(h:xe Y n k d=some r)(e:V Y M Fz w d v)(Y':ar)(M':Nat->Option Nat):V Y' M' (FT M Fz n) w r v:=by
 cases d with
 |aV ds=>
  simp only[xe,cC] at h;obtain ⟨l,hl,rfl⟩:=h;obtain ⟨m1,g⟩:=KJ hl;cases e with
  |aV f j e=>
   refine .aV f (by omega) (λi d v a b=>?_)
   grind [NK]
 |_=>grind [xe,NK]
def Rel.forget(R0:Rel Y0 M0 Fz0 w0)(R:Rel Y M Fz w)(s:bF Y0 M0 Fz0 w0 Y M Fz w)(F:∀b,b<Y0.length->Y[b]? = Y0[b]?) :
  Rel Y0 (cZ M Y0.length) (FT M Fz Y0.length) w/\bF Y0 M0 Fz0 w0 Y0 (cZ M Y0.length) (FT M Fz Y0.length) w:=by
 have G:nB Y0 Y:=λb z hb=>⟨z,by grind,rfl⟩;have K:∀b,b<Y0.length->M b=M0 b:=λb hb=>by
  obtain ⟨ab,h1,_,h2⟩:=s.keep b _ (dW hb)
  simp_all
 refine ⟨⟨λb c h=>?_,λb O c h U=>?_,λc h=>?_,Gl.mono (λc h=>⟨.inl h,rfl⟩) R.gl⟩,⟨s.size,s.frame,λb c h=>?_,λc h=>⟨.inl (s.fz c h).1,(s.fz c h).2⟩,λc h=>?_,s.qe,λb z hb=>⟨z,hb,cP _,λ_=>?_⟩,s.out⟩⟩
 ·unfold cZ at h;split at h
  ·rename_i hb;obtain ⟨h1,z,o,h2,h3,h4⟩:=R.blk b c h;have W:M0 b=some c:=by simp_all
   obtain ⟨_,u,o0,h5,_,h6⟩:=R0.blk b c W;have:u=z:=by simp_all
   subst this;refine ⟨λhf=>?_,u,o,h5,h3,?_⟩
   ·rcases hf with hf | ⟨O,A,X⟩
    ·simp_all
    ·have:=R.inj b O c h X;omega
   ·have σ:=(h4.down G h6).cut;have e:∀{d v},V Y0 (cZ M Y0.length) Fz w d v->V Y0 (cZ M Y0.length) (FT M Fz Y0.length) w d v:=λh=>h.sub nB.refl (λ_ _ h=>h) (λc h=>⟨.inl h,rfl⟩) (λc j T fr h=>⟨j,h,rfl⟩);cases u with
    |cells cs=>obtain ⟨j,T,Z,hl,E⟩:=σ;exact ⟨j,T,Z,hl,λi d v x y=>⟨e (E i d v x y).1,(E i d v x y).2⟩⟩
    |map es aa=>obtain ⟨j,Z,hl,E⟩:=σ;exact ⟨j,Z,hl,λi k d n e' x y=>let ⟨a,b,c⟩:=E i k d n e' x y;⟨a,b,e c⟩⟩
    |gone n=>exact σ.elim
  simp_all
 ·unfold cZ at h U;split at h
  ·split at U
   ·exact R.inj b O c h U
   simp_all
  simp_all
 ·rcases h with h | ⟨b,_,h⟩
  ·exact R.fz c h
  ·exact (R.lt h).2
 ·grind [cZ]
 ·rcases h with h | ⟨b,_,h⟩
  ·exact s.nF c h
  ·rcases s.lP b c h with h | h
   ·simp_all
   omega
 ·have A:=(fq.1 hb).1;simp only[cZ,if_pos A]
  simp_all
theorem one_ok{ds:List D}{vs:Array Value}(hs:vs.size=ds.length)(e:∀(i:Nat) d v,ds[i]? = some d->vs[i]? = some v->V Y M Fz w d v) :
  V Y M Fz w (one ds) (if h:vs.size=1 then vs[0] else .tuple vs):=by
 match ds,hs,e with
 |[d], hs, e=>
  have f:vs.size=1:=by omega
  rw[dif_pos f];exact e 0 d _ (by simp) (qB (by omega))
 |[], hs, e=>rw[dif_neg (by grind)];exact .aV vs hs e
 |a :: b :: l, hs, e=>rw[dif_neg (by grind)];exact .aV vs hs e
def Re(b:Array Value):ResultVar->Sem Value
 |.tmp t=>pure (b.getD t undef)
 |.cell x t=>do loadVar t (<-asAddr (b.getD x undef))
theorem Pk(fn:Func)(b:Array Value):results fn b=(do
  let vs <-fn.results.mapM (Re b)
  pure (if h:vs.size=1 then vs[0] else .tuple vs)):=by
 unfold results;congr 2
def js(R:Rel Y M Fz w){env:List D}{a:Act}(E:dB Y M Fz w env a.tmps){fn:Func}{rs:List (Nat×Option (Option Nat))}{ds:List D}(m:fn.results.toList.mapM (Nr P)=some rs)(f:rs.mapM (NZ env Y)=some ds) :
  ∃v,(results fn a.tmps).run P w=.ok v w/\V Y M Fz w (one ds) v:=by
 have q:∀(l:List ResultVar)(rs:List (Nat×Option (Option Nat)))(ds:List D),l.mapM (Nr P)=some rs->rs.mapM (NZ env Y)=some ds ->
   ∃vs:List Value,(l.mapM (Re a.tmps)).run P w=.ok vs w/\vs.length=ds.length/\∀(i:Nat) d v,ds[i]? = some d->vs[i]? = some v->V Y M Fz w d v:=by
  intro l;induction l with
  |nil=>simp_all
  |cons x l ih=>
   intro rs ds s z;simp only[US,yCf,eY,c_,au] at s;obtain ⟨r,m,A,F,rfl⟩:=s;simp only[US,yCf,eY,c_,au] at z;obtain ⟨d,f,G,K,rfl⟩:=z;obtain ⟨vs,U,X,h5⟩:=ih A G F K;have σ:∃v,(Re a.tmps x).run P w=.ok v w/\V Y M Fz w d v:=by
    cases x with
    |tmp t=>simp only[Nr,au] at m;subst m;simp only[NZ] at f;have h:=(fq.1 f).1;have e:a.tmps[t]? = some (a.tmps[t]'(by rw[E.1];exact h)):=qB _;refine ⟨_,rfl,?_⟩;rw[yBc,e];exact E.2 t _ _ f e
    |cell y t=>
     simp only[Nr,cC] at m;obtain ⟨n,Z,rfl⟩:=m;simp only[NZ] at f;split at f
     ·rename_i b off sz W;simp only[c_] at f;obtain ⟨cs,g,hg⟩:=f;have h:=(fq.1 W).1;have e:a.tmps[y]? = some (a.tmps[y]'(by rw[E.1];exact h)):=qB _;have hv:=E.2 y _ _ W e;obtain ⟨c,hM,aa⟩:=hv.vM g;obtain ⟨L,_⟩:=Qv g;obtain ⟨j,T,hh,ab,N⟩:=R.row hM L;have k:∀(i:Nat) x,cs[i]? = some x->∃u,w.cell? ⟨c,0+i,none⟩=some u/\V Y M Fz w x u:=by
       intro i x o;have hi:=(fq.1 o).1;have e:j[i]? = some (j[i]'(by omega)):=qB _;exact ⟨_,by rw[PL,cell_of_row w c i j T (0,0) hh];exact e,(N i _ _ o e).1⟩
      obtain ⟨v,p,O⟩:=za (P:=P) Z hg k;refine ⟨v,?_,O⟩;rw[PL] at p;have eg:a.tmps.getD y undef=.pointer (some ⟨c,off,none⟩):=by simp_all
      show (do loadVar t (<-asAddr (a.tmps.getD y undef)):Sem Value).run P w=_
      grind [Go.asAddr]
     simp_all
   obtain ⟨v,ad,af⟩:=σ;refine ⟨v::vs,?_,by simp[X],λi d' v' hi ak=>?_⟩
   ·simp_all
   grind
 obtain ⟨vs,s,z,U⟩:=q _ _ _ m f;refine ⟨_,?_,one_ok (vs:=vs.toArray) (by omega) (λi d v a b=>U i d v a (by simp_all))⟩
 grind [Pk,Go.Sem.run_bind,Array.mapM_eq_mapM_toList,Go.Sem.run_map,Go.Result.andThen_ok,Go.Sem.run_pure]
end
theorem func_ok{P:Program}(j:P.follows .mixedOrders=true){orc:xg}(O:rV P orc){g:FuncId}{fn:Func}{U:kP}{W:Bool}{k:Nat}{ds:List D}{Y Y':ar}{r:D}{wr:List Nat}
  (X:P.funcs[g]? = some fn) (t:il P fn W=some U) (h:evF1 P orc k U ds Y=some (r,Y',wr)) :
  Ok P g ds Y r Y'/\Y.length<=Y'.length/\∀b,b<Y.length->b∉wr->Y'[b]? = Y[b]?:=by
 unfold il at t;split at t
 ·rename_i c hb;split at t
  ·rename_i ac rs σ Z;simp only[au] at t;subst t;unfold evF1 at h;split at h
   ·rename_i aa;have ab:∀env Y1 bV x,(x=.normal\/x=.ret)->kB P (λ_=>orc) k ac (ds++List.replicate (fn.ntmps-ds.length) (.aV [])) Y []=some (x,env,Y1,bV) ->
      finish ⟨fn.params.size+fn.nfree,fn.ntmps,rs,ac,W⟩ Y env Y1 bV=some (r,Y',wr)->Ok P g ds Y r Y'/\Y.length<=Y'.length/\∀b,b<Y.length->b∉wr->Y'[b]? = Y[b]?:=by
     intro env Y1 bV x hx l e;obtain ⟨k1,_,k3⟩:=vK (orc:=λ_=>orc) (λ_=>O) _ _ _ _ _ _ _ _ _ l;unfold finish at e;split at e
     ·rename_i u m;dsimp only at m e;have ad:some (one u,Y1,bV.filter (·<Y.length))=some (r,Y',wr)->Ok P g ds Y r Y'/\Y.length<=Y'.length/\∀b,b<Y.length->b∉wr->Y'[b]? = Y[b]?:=by
       intro he;simp only[au,aU] at he;obtain ⟨rfl,rfl,rfl⟩:=he;refine ⟨λM Fz w f R hs E=>?_,k1,λb hb hn=>k3 b hb (λhw=>hn (by simp_all))⟩;refine calls_of_wp X hb ?_;have F:dB Y M Fz w (ds++List.replicate (fn.ntmps-ds.length) (.aV [])) (f++Array.replicate (fn.ntmps-f.size) undef):=by
        refine ⟨by simp[hs],λi d v a b=>?_⟩;rw[yB6] at a;rw[Array.getElem?_append] at b;split at a
        ·grind
        ·rename_i hi;rw[if_neg (by omega)] at b
         grind [V.undef]
       refine Ng ((II j (orc:=λ_=>orc) (λ_=>O) k).1 c ac Y Y1 M Fz w _ env { tmps:=f++Array.replicate (fn.ntmps-f.size) undef,defers:=[] } [] bV x _ σ R F l λy w' M' Fz' G s K L=>?_);obtain ⟨v,o,p⟩:=js (P:=P) s K Z m;have post:y.defers=[]/\∃v,(results fn y.tmps).run P w'=.ok v w'/\∃z M'' Fz'',Ending.returned v=.returned z/\Rel Y1 M'' Fz'' w'/\V Y1 M'' Fz'' w' (one u) z/\bF Y M Fz w Y1 M'' Fz'' w':=
        ⟨G,v,o,v,M',Fz',rfl,s,p,L⟩
       rcases hx with rfl | rfl
       ·exact post
       ·exact post
      split at e
      ·rename_i A;simp only[bG] at A;split at e
       ·rename_i r' N;simp only[au,aU] at e;obtain ⟨rfl,rfl,rfl⟩:=e;have q:∀b,b<Y.length->Y1[b]? = Y[b]?:=by
         grind
        refine ⟨λM Fz w f R hs E=>?_,cP _,λ_ _ _=>rfl⟩;refine calls_of_wp X hb ?_;have F:dB Y M Fz w (ds++List.replicate (fn.ntmps-ds.length) (.aV [])) (f++Array.replicate (fn.ntmps-f.size) undef):=by
         refine ⟨by simp[hs],λi d v a b=>?_⟩;rw[yB6] at a;rw[Array.getElem?_append] at b;split at a
         ·grind
         ·rename_i hi;rw[if_neg (by omega)] at b
          grind [V.undef]
        refine Ng ((II j (orc:=λ_=>orc) (λ_=>O) k).1 c ac Y Y1 M Fz w _ env { tmps:=f++Array.replicate (fn.ntmps-f.size) undef,defers:=[] } [] bV x _ σ R F l λy w' M' Fz' G s K L=>?_);obtain ⟨v,o,p⟩:=js (P:=P) s K Z m;obtain ⟨R2,T⟩:=Rel.forget R s L q;have post:y.defers=[]/\∃v,(results fn y.tmps).run P w'=.ok v w'/\∃z M'' Fz'',Ending.returned v=.returned z/\Rel Y M'' Fz'' w'/\V Y M'' Fz'' w' r' z/\bF Y M Fz w Y M'' Fz'' w':=
         ⟨G,v,o,v,_,_,rfl,R2,JX s N p _ _,T⟩
        rcases hx with rfl | rfl
        ·exact post
        ·exact post
       simp_all
      simp_all
     simp_all
    grind
   simp_all
  simp_all
 simp_all
def TblOk(P:Program)(b:FuncId->Option kP):Prop:=∀g d,b g=some d->aW P g=true/\∃fn e,P.funcs[g]? = some fn/\il P fn e=some d
theorem evF_ok{P:Program}(f:P.follows .mixedOrders=true){b:FuncId->Option kP}(i:TblOk P b){prim:xg}(j:rV P prim)(k:Nat):∀n,rV P (evF P b prim k n):=by
 intro n;induction n with
 |zero=>intro g ds Y r Y' wr h;grind [evF]
 |succ n ih=>
  intro g ds Y r Y' wr h;simp only[evF] at h;split at h
  ·rename_i UQ d;simp only[au] at h;subst h;exact j g ds Y r Y' wr d
  ·split at h
   ·rename_i l e;obtain ⟨m,fn,o,p,q⟩:=i g l e
    grind [func_ok]
   simp_all
inductive Sh where
 |int (k:IntKind)
 |bool
 |str
 |sl (e:List Sh)
 |no
 deriving Inhabited
inductive Shaped:Sh->C->Prop where
 |int {k:IntKind} {n:Int} (h:(Lit.int k n).wf=true):Shaped (.int k) (.lit (.int k n))
 |bool (b:Bool):Shaped .bool (.lit (.bool b))
 |str {s:ByteArray} (h:s.size<=maxLen):Shaped .str (.lit (.string s))
 |sl {e:List Sh} {es:List (List C)} (hl:es.length<=maxLen) (hn:∀x∈es,x.length=e.length) (h:∀(x:List C),x∈es->∀(j:Nat) s c,e[j]? = some s->x[j]? = some c->Shaped s c):Shaped (.sl e) (.cJ false es)
def fB(P:Program):Nat->TypeId->Option (List Sh)
 |0,_=>none
 |f + 1, t=>
  match P.underlying t with
  |some .bool=>some [.bool]
  |some (.int k)=>some [.int k]
  |some .string=>some [.str]
  |some (.slice e)=>
   match fB P f e with
   |some s=>if s.length=P.cellsOf e/\s≠[] then some [.sl s] else none
   |none=>none
  |some (.struct g)=>
   match g.toList.foldl (λb d=>match b,fB P f d.type with
    |some l,some s=>if d.offset=l.length/\s.length=P.cellsOf d.type then some (l++s) else none
    |_,_=>none) (some []) with
   |some l=>if l.length=P.cellsOf t then some l else none
   |none=>none
  |some (.array n e)=>
   match fB P f e with
   |some s=>if s.length=P.cellsOf e/\n * s.length=P.cellsOf t then some (List.replicate n s).flatten else none
   |none=>none
  |_=>none
def FD(w:World)(b:List Sh)(xs:List C)(cs:List Value):Prop:=
 xs.length=b.length/\cs.length=b.length/\(∀(i:Nat) s x,b[i]? = some s->xs[i]? = some x->Shaped s x) /\
  ∀(i:Nat) x v,xs[i]? = some x->cs[i]? = some v->VC (λc=>c<w.heap.size) w x v/\v.oneCell'=true
def FD.append{w:World}{s1 s2:List Sh}{j o:List C}{c1 u:List Value}(z:FD w s1 j c1)(A:FD w s2 o u):FD w (s1++s2) (j++o) (c1++u):=by
 obtain ⟨F,G,K,O⟩:=z;obtain ⟨R,U,W,X⟩:=A;refine ⟨by simp_all,by simp_all,λi s x hs E=>?_,λi x v E σ=>?_⟩
 ·grind
 grind
theorem FD.nil{w:World}:FD w [] [] []:=⟨rfl,rfl,λi s x h=>by simp at h,λi x v h=>by simp at h⟩
theorem FD.one{w:World}{s:Sh}{x:C}{v:Value}(u:Shaped s x)(z:VC (λc=>c<w.heap.size) w x v)(A:v.oneCell'=true):FD w [s] [x] [v]:=by
 refine ⟨rfl,rfl,λi E j hs o=>?_,λi j F o G=>?_⟩
 ·grind
 grind
theorem HX{w:World}{b:Nat}{a:Addr}{n:Nat}{cs:List Value}(h:w.cells? b a n=some cs):cs.length=n/\∀(j:Nat) v,cs[j]? = some v->w.cell? (a.add j)=some v:=by
 unfold World.cells? at h;split at h
 ·obtain ⟨d,e⟩:=KJ h
  grind
 simp_all
theorem Uu{α:Type}{n:Nat}{p:Nat->α->Prop}(h:∀i,i<n->∃a,p i a):∃l:List α,l.length=n/\∀(i:Nat) a,l[i]? = some a->p i a:=by
 induction n with
 |zero=>simp_all
 |succ n ih=>
  obtain ⟨l,d,e⟩:=ih (λi hi=>h i (by omega));obtain ⟨a,f⟩:=h n (by omega);refine ⟨l++[a],by simp[d],λi b hb=>?_⟩
  grind
def DR{H:Type}{enc:TypeId×Value->H}{P:Program}{w:World}{b:Nat->Bool}{g:Bool}{f:Nat}{t e:TypeId}{cs:List Value}{d:DataW H}{ps:List MemPlace}
  (r:P.underlying t=some (.slice e)) (h:DataW.trod enc P w 0 b g (f+1) t cs=some (d,ps)) :
  cs=[.slice none 0 0]\/∃a len cap,cs=[.slice (some a) len cap]/\len<=cap/\cap<=maxLen/\∀i,i<len->∃ci l m,w.cells? 0 (a.add (i * P.cellsOf e)) (P.cellsOf e)=some ci/\DataW.trod enc P w 0 b g f e ci=some (l,m):=by
 unfold DataW.trod at h;rw[r] at h;split at h <;> rename_i j <;> first
  |(simp only[au,reduceCtorEq] at j;done)
  |skip
 ·exact .inl rfl
 ·rename_i v a len cap;simp only[au,TypeDesc.slice.injEq] at j;subst j;simp only at h;split at h
  ·rename_i q;simp only[c_] at h;obtain ⟨o,p,_⟩:=h;refine .inr ⟨a,len,cap,rfl,q.2.1,q.2.2,λi hi=>?_⟩;obtain ⟨⟨l,m⟩,_,k⟩:=Bu p i i (List.getElem?_range hi);simp only[c_] at k;obtain ⟨ci,s,u⟩:=k;exact ⟨ci,l,m,s,u⟩
  ·simp at h
 ·simp at h
def CU{H:Type}{enc:TypeId×Value->H}{P:Program}{w:World}{b:Nat->Bool}{e:Bool}{f:Nat}{t:TypeId}{l:Array Field}{cs:List Value}{d:DataW H}{ps:List MemPlace}
  (r:P.underlying t=some (.struct l)) (h:DataW.trod enc P w 0 b e (f+1) t cs=some (d,ps)) :
  cs.length=P.cellsOf t/\∀j∈l.toList,∃m o,DataW.trod enc P w 0 b e f j.type ((cs.drop j.offset).take (P.cellsOf j.type))=some (m,o):=by
 unfold DataW.trod at h;rw[r] at h;split at h <;> rename_i g <;> first
  |(simp only[au,reduceCtorEq] at g;done)
  |skip
 ·simp only[au,TypeDesc.struct.injEq] at g;subst g;split at h
  ·rename_i hl;simp only[cC] at h;obtain ⟨u,p,_⟩:=h;refine ⟨hl,λj q=>?_⟩;obtain ⟨i,hi⟩:=yBR.1 q;obtain ⟨⟨m,o⟩,_,s⟩:=Bu p i j hi;exact ⟨m,o,s⟩
  ·simp at h
 ·exact absurd rfl (‹∀(k:Array Field),some (TypeDesc.struct l)=some (TypeDesc.struct k)->False› l)
def Dv{H:Type}{enc:TypeId×Value->H}{P:Program}{w:World}{b:Nat->Bool}{g:Bool}{f n:Nat}{t e:TypeId}{cs:List Value}{d:DataW H}{ps:List MemPlace}
  (q:P.underlying t=some (.array n e)) (h:DataW.trod enc P w 0 b g (f+1) t cs=some (d,ps)) :
  cs.length=P.cellsOf t/\∀i,i<n->∃k l,DataW.trod enc P w 0 b g f e ((cs.drop (i * P.cellsOf e)).take (P.cellsOf e))=some (k,l):=by
 unfold DataW.trod at h;rw[q] at h;split at h <;> rename_i j <;> first
  |(simp only[au,reduceCtorEq] at j;done)
  |skip
 ·simp only[au,TypeDesc.array.injEq] at j;obtain ⟨rfl,rfl⟩:=j;split at h
  ·rename_i hl;simp only[cC] at h;obtain ⟨s,m,_⟩:=h;refine ⟨hl,λi hi=>?_⟩;obtain ⟨⟨k,l⟩,_,r⟩:=Bu m i i (List.getElem?_range hi);exact ⟨k,l,r⟩
  ·simp at h
 ·exact absurd rfl (‹∀(o:Nat)(p:TypeId),some (TypeDesc.array n e)=some (TypeDesc.array o p)->False› n e)
theorem QL{H:Type}{enc:TypeId×Value->H}{P:Program}{w:World}{L:Nat->Bool}{aa:Bool}:∀(f:Nat)(N:Nat)(t:TypeId)(cs:List Value)(d:DataW H)(ps:List MemPlace)(O:List Sh),
  DataW.trod enc P w 0 L aa N t cs=some (d,ps)->fB P f t=some O->∃xs,FD w O xs cs:=by
 intro f;induction f with
 |zero=>grind [fB]
 |succ f ih=>
  intro N t cs d ps O v hs;cases N with
  |zero=>simp[DataW.trod] at v
  |succ N=>
   simp only[fB] at hs;split at hs
   ·
    rename_i A;simp only[au] at hs;subst hs;unfold DataW.trod at v;rw[A] at v;split at v <;> simp_all
    subst_vars
    exact ⟨_,FD.one (.bool _) (.lit _) rfl⟩
   ·
    rename_i k A;simp only[au] at hs;subst hs;unfold DataW.trod at v;rw[A] at v;split at v <;> simp_all
    obtain ⟨⟨rfl,ak⟩,_⟩:=v;exact ⟨_,FD.one (.int ak) (.lit _) rfl⟩
   ·
    rename_i A;simp only[au] at hs;subst hs;unfold DataW.trod at v;rw[A] at v;split at v <;> simp_all
    exact ⟨_,FD.one (.str v.1) (.lit _) rfl⟩
   ·
    rename_i e A;split at hs
    ·rename_i s R;split at hs
     ·rename_i o;obtain ⟨o,ab⟩:=o;simp only[au] at hs;subst hs;have a8:0<s.length:=TO.2 ab;rcases DR A v with rfl | ⟨r,len,cap,rfl,bd,be,T⟩
      ·refine ⟨[.cJ false []],FD.one (.sl (by simp) (λx h=>by simp at h) (λx h=>by simp at h)) ?_ rfl⟩;exact .cJ 0 none 0 (by simp) (λ_=>rfl) (λ_ _=>undef) (λe h=>by simp at h) (by simp) (λi j e d h=>by simp at h) (λi j e d h=>by simp at h)
      ·rw[<-o] at T;have an:∀i,i<len->∃(p:List C×List Value),w.cells? 0 (r.add (i * s.length)) s.length=some p.2/\FD w s p.1 p.2:=by
        intro i hi;obtain ⟨ci,Z,pi,E,z⟩:=T i hi;obtain ⟨xs,q⟩:=ih N e ci Z pi s z R;exact ⟨(xs,ci),E,q⟩
       obtain ⟨l,bh,G⟩:=Uu an;have U:0<len->r.spot=none/\r.block<w.heap.size:=by
        intro h0;obtain ⟨ci,Z,pi,E,_⟩:=T 0 h0;obtain ⟨h3,h4⟩:=HX E;have hc:=h4 0 _ (dW (by omega));have e0:(r.add (0 * s.length)).add 0=r:=by simp[Addr.add]
        rw[e0] at hc;exact ⟨World.cell?_spot hc,block_lt_of_cell hc⟩
       let g:Nat->Nat->Value:=λi j=>(((l[i]?).map (·.2)).bind (·[j]?)).getD undef
       have F:∀(i j:Nat)(x:List C)(c:C),(l.map (·.1))[i]? = some x->x[j]? = some c->r=⟨r.block,r.off,none⟩/\r.block<w.heap.size/\w.cell? ⟨r.block,r.off+i * s.length+j,none⟩=some (g i j) /\
         VC (λc=>c<w.heap.size) w c (g i j)/\(g i j).oneCell'=true:=by
        intro i j x c y hc;simp only[lS,cC] at y;obtain ⟨p,W,rfl⟩:=y;obtain ⟨E,z,h3,h4,h5⟩:=G i p W;have hi:i<len:=by grind
        obtain ⟨bi,bk⟩:=U (by omega);have bl:r=⟨r.block,r.off,none⟩:=by cases r;simp_all
        grind [HX,eW]
       have a9:(l.map (·.1)).length=len:=by grind
       refine ⟨[.cJ false (l.map (·.1))],FD.one (.sl (by omega) (λx y=>?_) (λx y j sj c E z=>?_)) ?_ rfl⟩
       ·simp only[iX] at y;obtain ⟨p,W,rfl⟩:=y;obtain ⟨i,hi⟩:=yBR.1 W;exact (G i p hi).2.1
       ·simp only[iX] at y;obtain ⟨p,W,rfl⟩:=y;obtain ⟨i,hi⟩:=yBR.1 W;exact (G i p hi).2.2.2.1 j sj c E z
       ·have:=VC.cJ (Fz:=λc=>c<w.heap.size) (w:=w) (nn:=false) (es:=l.map (·.1)) s.length (some r) cap (by simp) (λh=>by cases h) g (λx y=>?_) (by omega) (λi j x c E z=>?_) (λi j x c E z=>(F i j x c E z).2.2.2.1)
        ·grind
        ·simp only[iX] at y;obtain ⟨p,W,rfl⟩:=y;obtain ⟨i,hi⟩:=yBR.1 W;exact (G i p hi).2.1
        grind
     simp_all
    simp_all
   ·
    rename_i fs A;split at hs
    ·rename_i l hl;split at hs
     ·rename_i bt;simp only[au] at hs;subst hs;obtain ⟨E,z⟩:=CU A v;have X:∀(fl:List Field)(b:List Sh)(ax:List C),(∀u∈fl,u∈fs.toList)->b.length<=cs.length->FD w b ax (cs.take b.length) ->
        fl.foldl (λb u=>match b,fB P f u.type with
         |some l,some s=>if u.offset=l.length/\s.length=P.cellsOf u.type then some (l++s) else none
         |_,_=>none) (some b)=some l->l.length<=cs.length->∃xs,FD w l xs (cs.take l.length):=by
       intro fl;induction fl with
       |nil=>grind
       |cons u fl av=>
        intro b ax K bb a0 he a1;simp only[List.foldl_cons] at he;have a2:∀(gl:List Field),gl.foldl (λb u=>match b,fB P f u.type with
         |some l,some s=>if u.offset=l.length/\s.length=P.cellsOf u.type then some (l++s) else none
         |_,_=>none) none=none:=by
         intro gl;induction gl with
         |nil=>rfl
         |cons _ _ ih=>simp_all
        cases af:fB P f u.type with
        |none=>simp_all
        |some s=>
         rw[af] at he;simp only at he;split at he
         ·rename_i hc;obtain ⟨bc,o⟩:=hc;obtain ⟨Z,pi,hd⟩:=z u (K u (by simp));obtain ⟨xs,q⟩:=ih N u.type _ Z pi s hd af;have a5:b.length+s.length<=cs.length:=by
           have:=q.2.1
           grind
          refine av (b++s) (ax++xs) (λx y=>K x (by simp[y])) (by simp_all) ?_ he a1;have σ:cs.take (b++s).length=cs.take b.length++(cs.drop u.offset).take (P.cellsOf u.type):=by grind
          rw[σ];exact a0.append q
         simp_all
      obtain ⟨xs,q⟩:=X fs.toList [] [] (λ_ h=>h) (by simp) (by grind [FD.nil]) hl (by omega)
      grind
     simp_all
    simp_all
   ·
    rename_i n e A;split at hs
    ·rename_i s R;split at hs
     ·rename_i o;obtain ⟨o,bu⟩:=o;simp only[au] at hs;subst hs;obtain ⟨E,z⟩:=Dv A v;rw[<-o] at z;have X:∀m,m<=n->∃xs,FD w (List.replicate m s).flatten xs (cs.take (m * s.length)):=by
       intro m;induction m with
       |zero=>intro _;exact ⟨[],by grind [FD.nil]⟩
       |succ m a6=>
        intro hm;obtain ⟨xs,q⟩:=a6 (by omega);obtain ⟨Z,pi,hd⟩:=z m (by omega);obtain ⟨ys,a7⟩:=ih N e _ Z pi s hd R;refine ⟨xs++ys,?_⟩;have e1:(List.replicate (m+1) s).flatten=(List.replicate m s).flatten++s:=by grind [List.replicate_succ']
        rw[e1,Nat.succ_mul,List.take_add];exact q.append a7
      obtain ⟨xs,q⟩:=X n (cP _)
      grind
     simp_all
    simp_all
   simp_all
end Go.Abs
end
section
namespace Go.Abs
variable[Gl]
open Go.RowKit
def Rel.start(w:World)(i:Gl.ok (λc=>c<w.heap.size) w):Rel [] (λ_=>none) (λc=>c<w.heap.size) w:={
 blk:=λb c h=>by simp at h
 inj:=λb j c h=>by simp at h
 fz:=λc h=>h
 gl:=i }
def V.UN{w:World}{j:List Sh}{xs:List C}{vs:Array Value}(h:FD w j xs vs.toList){Y:ar}{M:Nat->Option Nat}:V Y M (λc=>c<w.heap.size) w (.agg (xs.map .c)) (.agg vs):=by obtain ⟨u,z,_,o⟩:=h;refine .agg vs (by simp_all) (λi d v a b=>?_);simp only[lS,cC] at a;obtain ⟨x,s,rfl⟩:=a;exact .c (o i x v s (by simp_all)).1
def bF.below{Y:ar}{M:Nat->Option Nat}{Fz:Nat->Prop}{w w':World}(R:Rel Y M Fz w)(hb:Below w.heap.size w w'):bF Y M Fz w Y M Fz w':={
 size:=hb.size
 frame:=λc j _=>hb.block c j
 lP:=λb c h=>.inl ⟨b,h⟩
 fz:=λc h=>⟨h,hb.block c (R.fz c h)⟩
 nF:=λc h=>.inl h
 qe:=λc i T s h=>⟨i,by rw[hb.block c (CK.1 h).1];exact h,rfl⟩
 keep:=λb o h=>⟨o,h,cP _,λ_=>rfl⟩
 out:=⟨hb.os,hb.tape,hb.output⟩ }
def Rel.below{Y:ar}{M:Nat->Option Nat}{Fz:Nat->Prop}{w w':World}(R:Rel Y M Fz w)(hb:Below w.heap.size w w'):Rel Y M Fz w':={
 blk:=λb c h=>by obtain ⟨i,ob,o,h2,h3,j⟩:=R.blk b c h;exact ⟨i,ob,o,h2,by rw[hb.block c (R.lt h).2];exact h3,j.mono (bF.below R hb)⟩
 inj:=R.inj
 fz:=λc h=>FG (R.fz c h) hb.size
 gl:=Gl.mono (bF.below R hb).fz R.gl }
noncomputable def Tm(P:Program)(b:List Nat)(g:FuncId):Option kP:=
 match P.funcs[g]? with
 |some fn=>if aW P g then il P fn (!b.contains g) else none
 |none=>none
def ZG(P:Program)(b:List Nat):TblOk P (Tm P b):=by
 intro g d h
 grind [Tm]
end Go.Abs
end
section
namespace Go.Abs
variable[Gl]
abbrev AL:=List (Nat×D)
def lk(t:Nat):AL->Option D
 |[]=>none
 |(s,d)::al=>match Nat.beq s t with | true=>some d | false=>lk t al
def xU(n:Nat)(al:AL):List D:=(List.range n).map λt=>(lk t al).getD .any
def Env(n:Nat)(al:AL)(e:List D):Prop:=e.length=n/\∀t d,lk t al=some d->e[t]? = some d
def ed(n:Nat)(Y:ar)(M:Nat->Option Nat)(Fz:Nat->Prop)(w:World)(al:AL)(b:Array Value):Prop:=
 b.size=n/\∀t d,lk t al=some d->∃v,b[t]? = some v/\V Y M Fz w d v
section
variable{P:Program}{orc:xg}{Y Y' Y1 aC:ar}{M M':Nat->Option Nat}{Fz Fz':Nat->Prop}{w w':World}{n:Nat}{al al1 al2:AL}
def ed.de{o:Array Value}(h:ed n Y M Fz w al o):dB Y M Fz w (xU n al) o/\Env n al (xU n al):=by
 refine ⟨⟨by simp[xU,h.1],λi d v a b=>?_⟩,by simp[xU],λt d u=>?_⟩
 ·simp only[xU,lS,cC] at a;obtain ⟨j,z,rfl⟩:=a;have:j=i:=by
   grind
  subst this;cases hl:lk j al with
  |none=>exact .any v
  |some d=>
   obtain ⟨A,s,E⟩:=h.2 j d hl
   simp_all
 ·obtain ⟨v,s,_⟩:=h.2 t d u;have x:t<n:=by have:=(CK.1 s).1;rw[h.1] at this;omega
  grind [xU]
theorem ed.RZ{i:Array Value}{e:List D}(h:dB Y M Fz w e i)(j:Env n al e):ed n Y M Fz w al i:=by
 refine ⟨by rw[h.1,j.1],λt d s=>?_⟩;have u:=j.2 t d s;have o:t<i.size:=by rw[h.1];grind
 exact ⟨i[t],qB o,h.2 t d _ u (qB o)⟩
def Sem(P:Program)(ac:aQ)(n:Nat)(al:AL)(Y:ar)(Q:nr->AL->ar->Prop):Prop:=
 ∀ (c : Code), bD P c = some ac -> ∀ (M : Nat -> Option Nat) (Fz : Nat -> Prop) (w : World) (a : Act) (K : Exit -> Act -> World -> Prop), Rel Y M Fz w -> ed n Y M Fz w al a.tmps ->
  (∀x b Y' d w' M' Fz',Q x b Y'->Mk w.heap.size M' Fz' w' d.defers a.defers->Rel Y' M' Fz' w'->ed n Y' M' Fz' w' b d.tmps->bF Y M Fz w Y' M' Fz' w'->Y.length<=Y'.length->K (y_ x) d w')->c.wq P K a w
def lm(P:Program)(ac:aQ)(k:Nat)(n:Nat)(al:AL)(Y:ar)(Q:nr->AL->ar->Prop):Prop:=
 ∀ (c : Code), bD P c = some ac -> ∀ (M : Nat -> Option Nat) (Fz : Nat -> Prop) (w : World) (a : Act) (K : Exit -> Act -> World -> Prop), Rel Y M Fz w -> ed n Y M Fz w al a.tmps ->
  (∀x b Y' d w' M' Fz',Q x b Y'->Mk w.heap.size M' Fz' w' d.defers a.defers->Rel Y' M' Fz' w'->ed n Y' M' Fz' w' b d.tmps->bF Y M Fz w Y' M' Fz' w'->Y.length<=Y'.length->K (y_ x) d w')->Code.rq P c K k a w
def Ej(d b:D):Prop:=∀Y M Fz w v,V Y M Fz w d v->V Y M Fz w b v
theorem Ej.refl(d:D):Ej d d:=λ_ _ _ _ _ h=>h
def Sub(al1:AL):AL->Prop
 |[]=>True
 |(t,d)::al2=>(∃b,lk t al1=some b/\Ej b d)/\Sub al1 al2
theorem Sub.get{al1 al2:AL}(h:Sub al1 al2){t:Nat}{d:D}(i:lk t al2=some d):∃d1,lk t al1=some d1/\Ej d1 d:=by
 induction al2 with
 |nil=>grind [lk]
 |cons p al2 ih=>
  obtain ⟨s,j⟩:=p;simp only[lk] at i;split at i
  ·rename_i hb;have:=dd hb;simp only[au] at i;subst this i;exact h.1
  ·exact ih h.2 i
theorem Sub.one{al1 al2:AL}{t:Nat}{d d1:D}(h:lk t al1=some d1)(i:Ej d1 d)(r:Sub al1 al2):Sub al1 ((t,d)::al2):=⟨⟨d1,h,i⟩,r⟩
theorem Sub.same{al1 al2:AL}{t:Nat}{d:D}(h:lk t al1=some d)(r:Sub al1 al2):Sub al1 ((t,d)::al2):=⟨⟨d,h,Ej.refl d⟩,r⟩
def ed.sub{i:Array Value}(h:ed n Y M Fz w al1 i)(hs:Sub al1 al2):ed n Y M Fz w al2 i:=
 ⟨h.1,fun t d j=>by
  obtain ⟨o,s,u⟩:=hs.get j
  obtain ⟨v,x,z⟩:=h.2 t o s
  exact ⟨v,x,u _ _ _ _ _ z⟩⟩
def D.low(m:Nat):D->Bool
 |.c _=>true
 |.any=>true
 |.ptr b _ _=>b<m
 |.sl b _ _ _ _=>b<m
 |.mp b=>b<m
 |.fn _ a b=>cW m a&&cW m b
 |.agg ds=>cW m ds
 |.aV ds=>cW m ds
where cW (m:Nat):List D->Bool
 |[]=>true
 |d::ds=>d.low m&&cW m ds
theorem D.a_{m:Nat}:∀{ds:List D},D.low.cW m ds=true->∀(i:Nat) d,ds[i]? = some d->d.low m=true:=by
 intro ds;induction ds with
 |nil=>simp_all
 |cons x ds ih=>
  intro h i d hi;simp only[D.low.cW,bG] at h
  grind
def Ob.low(m:Nat):Ob->Bool
 |.cells i=>D.low.cW m i
 |.map j _=>j.all λe=>e.2.1.low m
 |.gone _=>true
theorem V.Ev{m:Nat}{d:D}{v:Value}(h:V Y M Fz w d v)(hl:d.low m=true):V (Y.take m) (cZ M m) Fz w d v:=by
 induction h with
 |c h=>exact .c h
 |any v=>exact .any v
 |ptr a s h j o=>simp only[D.low,bz] at hl;exact .ptr a s (by simp_all) j (λz=>by grind [cZ])
 |sl a n cap A s h j o=>simp only[D.low,bz] at hl;exact .sl a n cap A s (by simp_all) j (λz=>by simpa[cZ,hl] using o z)
 |mp c s h o=>simp only[D.low,bz] at hl;exact .mp c s (by simp_all) (λz=>by grind [cZ])
 |fn u G x K o O E F=>simp only[D.low,bG] at hl;exact .fn u G x K (λi d v a b=>E i d v a b (D.a_ hl.1 i d a)) (λi d v a b=>F i d v a b (D.a_ hl.2 i d a))
 |agg u x o ih=>simp only[D.low] at hl;exact .agg u x (λi d v a b=>ih i d v a b (D.a_ hl i d a))
 |aV u x o ih=>simp only[D.low] at hl;exact .aV u x (λi d v a b=>ih i d v a b (D.a_ hl i d a))
def Rel.Ev{m:Nat}(R:Rel Y M Fz w)(hl:(Y.take m).all (Ob.low m)=true):Rel (Y.take m) (cZ M m) Fz w:=by
 refine ⟨λb c h=>?_,λb U c h F=>?_,R.fz,R.gl⟩
 ·unfold cZ at h;split at h
  ·rename_i hb;obtain ⟨W,z,o,σ,X,G⟩:=R.blk b c h;have A:(Y.take m)[b]? = some z:=by simp_all
   have j:z.low m=true:=iK.1 hl z (Av A);refine ⟨W,z,o,A,X,?_⟩;cases z with
   |cells Z=>obtain ⟨s,T,K,u,E⟩:=G;exact ⟨s,T,K,u,λi d v x y=>⟨(E i d v x y).1.Ev (D.a_ j i d x),(E i d v x y).2⟩⟩
   |map es O=>obtain ⟨s,K,u,E⟩:=G;refine ⟨s,K,u,λi k d n e x y=>?_⟩;obtain ⟨p,q,r⟩:=E i k d n e x y;simp only[Ob.low,iK] at j;exact ⟨p,q,r.Ev (j (k,d,n) (Av x))⟩
   |gone n=>exact G.elim
  simp_all
 ·unfold cZ at h F;split at h
  ·split at F
   ·exact R.inj b U c h F
   simp_all
  simp_all
def bF.Ev{m:Nat}(E:bF Y M Fz w Y1 M' Fz' w')(hm:Y.length<=m):bF Y M Fz w (Y1.take m) (cZ M' m) Fz' w':=by
 refine ⟨E.size,E.frame,λb c h=>?_,E.fz,E.nF,E.qe,λb j h=>?_,E.out⟩
 ·unfold cZ at h;split at h
  ·exact E.lP b c h
  simp_all
 ·obtain ⟨i,s,o,u⟩:=E.keep b j h;have hb:b<m:=FG (fq.1 h).1 hm;exact ⟨i,by simp_all,o,λx=>by simp only[cZ,if_pos hb];simp_all⟩
inductive Wk (k:Nat) (al1:AL) (Y1:ar):AL->ar->Prop where
 |refl:Wk k al1 Y1 al1 Y1
 |same {al2:AL} (h:Sub al1 al2):Wk k al1 Y1 al2 Y1
 |cut {al2:AL} (m:Nat) (hm:k<=m) (hs:m<=Y1.length) (h:Sub al1 al2) (hd:al2.all (λp=>p.2.low m)=true) (hl:(Y1.take m).all (Ob.low m)=true):Wk k al1 Y1 al2 (Y1.take m)
theorem mU{t:Nat}{d:D}:∀{al:AL},lk t al=some d->(t,d)∈al:=by
 intro al;induction al with
 |nil=>grind [lk]
 |cons p al ih=>grind [lk,Nat.eq_of_beq_eq_true]
theorem Wk.use{aC:ar}(h:Wk Y.length al1 Y1 al2 aC){i:Array Value}(R:Rel Y1 M' Fz' w')(A:ed n Y1 M' Fz' w' al1 i)(E:bF Y M Fz w Y1 M' Fz' w')(hl:Y.length<=Y1.length) :
  ∃j,Rel aC j Fz' w'/\ed n aC j Fz' w' al2 i/\bF Y M Fz w aC j Fz' w'/\Y.length<=aC.length/\KM M' Fz' j Fz':=by
 cases h with
 |refl=>exact ⟨M',R,A,E,hl,KM.refl⟩
 |same h=>exact ⟨M',R,A.sub h,E,hl,KM.refl⟩
 |cut m u hs h x o=>
  refine ⟨cZ M' m,R.Ev o,⟨A.1,λt d s=>?_⟩,E.Ev u,by simp_all,⟨λb c h=>⟨b,by simp only[cZ] at h;split at h <;> simp_all⟩,λc h=>.inl h,λc h=>h⟩⟩
  obtain ⟨v,z,F⟩:=(A.sub h).2 t d s;exact ⟨v,z,F.Ev (iK.1 x (t,d) (mU s))⟩
end
end Go.Abs
end
