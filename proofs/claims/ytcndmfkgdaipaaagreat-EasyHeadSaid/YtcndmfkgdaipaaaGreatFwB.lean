/- Lemmas. -/
import Derived.Test.YtcndmfkgdaipaaaGreatFwA
import Derived.LoopN
import Derived.LoopNIn
import Derived.Orders
import Derived.OrdersIn
import Derived.RangeFuncCalls
import Derived.RangeFuncLeaves
import GoSem.ClaimChange
import Derived.DataReads
import Derived.Below
set_option linter.all false
section
namespace Go.Abs
variable[Gl]
structure aG where
 dst:Option Nat
 op:ld
 g:Option (Nat×Bool)
 deriving Inhabited
def oB(env:List D):Option Nat->D->List D
 |some t,d=>env.set t d
 |none,_=>env
def hZ(env:List D):Option (Nat×Bool)->Option Bool
 |none=>some true
 |some (t, want)=>
  match env[t]? with
  |some (.c (.lit (.bool b)))=>some (b == want)
  |some (.aY [])=>some false
  |_=>none
def eY(P:Program)(orc:fo)(o:aG)(env:List D)(σ:ar):Option (List D×ar×List Nat):=
 match hZ env o.g with
 |some true=>(br P (orc o.dst) o.op env σ).map λr=>(oB env o.dst r.1,r.2.1,r.2.2)
 |some false=>some (oB env o.dst (.aY []),σ,[])
 |none=>none
def kc(P:Program)(orc:fo):List aG->List D->ar->Option (List D×ar×List Nat)
 |[],env,σ=>some (env,σ,[])
 |o :: os, env, σ=>
  match eY P orc o env σ with
  |some (b, σ1, w1)=>
   match kc P orc os b σ1 with
   |some (d,aD,w2)=>some (d,aD,w1++w2)
   |none=>none
  |none=>none
def Bs(ops:Array Oper):Option (Nat×Bool)->Option (Option (Nat×Bool))
 |none=>some none
 |some (j, want)=>
  match (ops[j]?).bind (·.dst) with
  |some t=>some (some (t,want))
  |none=>none
def bn(P:Program)(ops:Array Oper)(o:Oper):Option aG:=
 match Bs ops o.guard,comp P o.op o.type with
 |some g,some b=>some ⟨o.dst,b,g⟩
 |_,_=>none
section
variable{P:Program}{σ σ':ar}{M M':Nat->Option Nat}{Fz Fz':Nat->Prop}{w w':World}{env env':List D}{a:Act}{orc:xP}
theorem dA.mono(E:dA σ M Fz w env a.tmps)(j:bF σ M Fz w σ' M' Fz' w'):dA σ' M' Fz' w' env a.tmps:=
 ⟨E.1,λi d v o s=>(E.2 i d v o s).mono j⟩
theorem dA.put(E:dA σ M Fz w env a.tmps){d:D}{v:Value}(j:Option Nat)(z:V σ M Fz w d v):dA σ M Fz w (oB env j d) (a.put j v).tmps:=by
 cases j with
 |none=>exact E
 |some t=>
  refine ⟨by simp[Act.put,oB,E.1],λi u x o s=>?_⟩;simp only[oB,yBM] at o;simp only[Act.put,yAU] at s;by_cases e:t=i
  ·simp_all
  ·rw[if_neg e] at o s;exact E.2 i u x o s
theorem V.undef:V σ M Fz w (.aY []) undef:=.aY #[] rfl (λi d v h=>by simp at h)
theorem oK(E:dA σ M Fz w env a.tmps){ops:Array Oper}{o:Oper}{g:Option (Nat×Bool)}{b:Bool}(f:Bs ops o.guard=some g)(h:hZ env g=some b) :
  Region.wanted o (yielded ops a.tmps)=b:=by
 unfold Region.wanted;cases i:o.guard with
 |none=>grind [Bs,hZ]
 |some p=>
  obtain ⟨j,k⟩:=p;rw[i] at f;simp only[Bs] at f;split at f
  ·rename_i t m;simp only[au] at f;subst f;simp only[hZ] at h;simp only[yielded,m,ay];split at h
   ·rename_i q hb;have d:=(e_.1 hb).1;have e:a.tmps[t]? = some (a.tmps[t]'(by rw[E.1];exact d)):=rE _;have:=(E.2 t _ _ hb e).cj
    simp_all
   ·rename_i hb;have d:=(e_.1 hb).1;have e:a.tmps[t]? = some (a.tmps[t]'(by rw[E.1];exact d)):=rE _;have l:=E.2 t _ _ hb e;generalize r:a.tmps[t]'(by grind)=x at l e;rw[e];simp only[au] at h;subst h;cases l with
    |aY s=>simp_all
   simp_all
  simp_all
theorem call_ok(E:dA σ M Fz w env a.tmps){o:Oper}{f:Operand}{args:Array Operand}{u:Array TypeId}{y:aT}{os:List aT}{g:FuncId}{ds:List D}
  (T:o.op=.call { callee:=.value f,args:=args,argTypes:=u }) (U:cn f=some y) (z:KY args=some os)
  (A:(∃first cap,y.ev env=.c (.fn (.func g) first cap)/\ds=first.map .c++os.map (aT.ev env)++cap.map .c)\/(∃first cap,y.ev env=.fn (.func g) first cap/\ds=first++os.map (aT.ev env)++cap))
  (h:aZ P g=true):∃b:Array Value,(execOp a.eval o).run P w=.ok (.enter g b) w/\b.size=ds.length/\∀(i:Nat) d v,ds[i]? = some d->b[i]? = some v->V σ M Fz w d v:=by
 obtain ⟨X,Y⟩:=J_ E z;have p:=oA E U;have q:∀(first cap:List D)(b j:Array Value),a.eval f=.func (.func g) b j->ds=first++os.map (aT.ev env)++cap->b.size=first.length->j.size=cap.length ->
   (∀(i:Nat) d v,first[i]? = some d->b[i]? = some v->V σ M Fz w d v)->(∀(i:Nat) d v,cap[i]? = some d->j[i]? = some v->V σ M Fz w d v) ->
   ∃b:Array Value,(execOp a.eval o).run P w=.ok (.enter g b) w/\b.size=ds.length/\∀(i:Nat) d v,ds[i]? = some d->b[i]? = some v->V σ M Fz w d v:=by
  intro first cap b j e s F G k l
  refine ⟨b++args.map a.eval++j,?_,by simp_all,λi d v m t=>?_⟩
  ·unfold aZ at h;split at h
   ·rename_i fn K;simp only[bI,JY,ne_eq] at h;obtain ⟨hb,L⟩:=h;have N:fn.body.isNone=false:=by simp_all
    simp only[execOp,T,resolve,e,Deferred.ofValue,Sem.run_bind,Sem.run_pure,Result.andThen_ok,invoke,callFunc,run_program,K,nD,L,N,cA,b_]
   simp_all
  grind
 rcases A with ⟨first,cap,O,s⟩ | ⟨first,cap,O,s⟩
 ·rw[O] at p;have r:=p.qJ;generalize e:a.eval f=W at r;cases r with
  |fn b j F G k l=>
   refine q _ _ b j e s (by grind) (by grind) (λi d v m t=>?_) (λi d v m t=>?_)
   ·simp only[my,cB] at m;obtain ⟨x,R,rfl⟩:=m;exact .c (k i x v R t)
   ·simp only[my,cB] at m;obtain ⟨x,R,rfl⟩:=m;exact .c (l i x v R t)
 ·rw[O] at p;generalize e:a.eval f=W at p;cases p with
  |fn b j F G k l=>exact q _ _ b j e s F G k l
theorem Oo(O:sY P orc)(R:Rel σ M Fz w)(E:dA σ M Fz w env a.tmps){o:Oper}{ao:ld}{d:D}{wr:List Nat}{Q:Exit->Act->World->Prop}(F:comp P o.op o.type=some ao)
  (h:br P orc ao env σ=some (d,σ',wr)) (K:Act->World->Prop)
  (t:∀v w' M' Fz',Rel σ' M' Fz' w'->V σ' M' Fz' w' d v->bF σ M Fz w σ' M' Fz' w'->σ.length<=σ'.length->K (a.put o.dst v) w'):o.wp P a w K Q:=by
 rcases uX F with ⟨f,args,G,u,os,j,L,k,rfl⟩ | ⟨l,i,_⟩
 ·simp only[br] at h;have x:∀g ds,orc g ds σ=some (d,σ',wr) ->
    ((∃first cap,u.ev env=.c (.fn (.func g) first cap)/\ds=first.map .c++os.map (aT.ev env)++cap.map .c)\/(∃first cap,u.ev env=.fn (.func g) first cap/\ds=first++os.map (aT.ev env)++cap))->o.wp P a w K Q:=by
   intro g ds N m;obtain ⟨p,q,hl,_⟩:=O g ds σ d σ' wr N;obtain ⟨T,b,hs,r⟩:=call_ok (P:=P) E j L k m p;unfold Oper.wp;rw[b];refine (q M Fz w T R hs r).mono λe w' U=>?_
   grind
  grind
 ·obtain ⟨W,v,w',M',b,s,y,z,A,hl⟩:=evOp_ok R E l i h;unfold Oper.wp;rw[b];rcases s with rfl | ⟨rfl,rfl⟩
  ·exact t v w' M' Fz y z A hl
  ·exact t _ w' M' Fz y z A hl
theorem Em{orc:fo}(O:mq P orc)(R:Rel σ M Fz w)(E:dA σ M Fz w env a.tmps){ops:Array Oper}{i:Nat}{o:Oper}{ao:aG}{wr:List Nat}{Q:Exit->Act->World->Prop}(hi:ops[i]? = some o)(f:bn P ops o=some ao)
  (h:eY P orc ao env σ=some (env',σ',wr)) (K:Act->World->Prop)
  (p:∀j w' M' Fz',j.defers=a.defers->Rel σ' M' Fz' w'->dA σ' M' Fz' w' env' j.tmps->bF σ M Fz w σ' M' Fz' w'->σ.length<=σ'.length->K j w'):wpOp P ops Q i K a w:=by
 unfold bn at f;split at f
 ·rename_i g s q k;simp only[au] at f;subst f;unfold eY at h;have e:∀v,(a.put o.dst v).defers=a.defers:=λv=>by cases o.dst <;> rfl
  split at h
  ·rename_i l;have b:=oK E q l;simp only[cB] at h;obtain ⟨⟨d,σ1,bY⟩,m,h⟩:=h;simp only[aX] at h;obtain ⟨rfl,rfl,rfl⟩:=h;unfold wpOp;rw[hi];simp only[b,if_true];exact .inl (Oo (O o.dst) R E k m K λv w' M' Fz' t u r hl=>p _ w' M' Fz' (e v) t ((E.mono r).put o.dst u) r hl)
  ·rename_i l;have b:=oK E q l;simp only[au,aX] at h;obtain ⟨rfl,rfl,rfl⟩:=h;unfold wpOp;rw[hi];simp only[b,b_,cA];exact p _ w M Fz (e _) R (E.put o.dst V.undef) (bF.refl R) (cN _)
  simp_all
 simp_all
theorem ops_wp{orc:fo}(O:mq P orc){ops:Array Oper}{Q:Exit->Act->World->Prop}:∀(os:List aG)(k:Nat)(σ σ':ar)(M:Nat->Option Nat)(Fz:Nat->Prop)(w:World)(env env':List D)(a:Act)(wr:List Nat),
  (∀j ao,os[j]? = some ao->∃o,ops[k+j]? = some o/\bn P ops o=some ao)->Rel σ M Fz w->dA σ M Fz w env a.tmps->kc P orc os env σ=some (env',σ',wr) ->
  (∀g w' M' Fz',g.defers=a.defers->Rel σ' M' Fz' w'->dA σ' M' Fz' w' env' g.tmps->bF σ M Fz w σ' M' Fz' w'->σ.length<=σ'.length->Q .normal g w') ->
  wpOps P ops Q (List.range' k os.length) a w:=by
 intro os;induction os with
 |nil=>intro k σ σ' M Fz w env env' a wr _ R E h i;simp only[kc,au,aX] at h;obtain ⟨rfl,rfl,_⟩:=h;exact i a w M Fz rfl R E (bF.refl R) (cN _)
 |cons ao os ih=>
  intro k σ σ' M Fz w env env' a wr b R E h i;simp only[kc] at h;split at h
  ·rename_i d σ1 w1 v;split at h
   ·rename_i e aD w2 x;simp only[au,aX] at h;obtain ⟨rfl,rfl,_⟩:=h;obtain ⟨o,X,l⟩:=b 0 ao (by simp);simp only[HI,List.range'_succ];rw[wpOps_cons];refine Em O R E (by omega) l v _ λy w' z m Y A F p f=>?_;refine ih (k+1) σ1 aD z m w' d e y w2 (λj q Z=>?_) A F x λG r K s L N T t u=>?_
    ·obtain ⟨o',U,W⟩:=b (j+1) q (by simp_all)
     grind
    ·exact i G r K s (by simp_all) N T (p.trans t f) (kI f u)
   simp_all
  simp_all
end
end Go.Abs
end
section
namespace Go.Abs
variable[Gl]
def tn:ld->List aT
 |.BP x=>[x]
 |.pick c a b=>[c,a,b]
 |.gen op _=>op.operands.toList.filterMap cn
 |.box x=>[x]
 |.alloc _=>[]
 |.build _ e=>e.map (·.2.2)
 |.jj _ _ _ e=>e.map (·.2.2)
 |.load _ a=>[a]
 |.store _ a x=>[a,x]
 |.nV x=>[x]
 |.iO _ _ x=>[x]
 |.IC _ x=>[x]
 |.idx _ _ x i=>[x,i]
 |.WS _ x g hi=>x::(g.toList++hi.toList)
 |.len x=>[x]
 |.Yd x=>[x]
 |.mk _ _ _ l c=>[l,c]
 |.vz=>[]
 |.lookup _ _ m k _=>[m,k]
 |.zR _ m k x=>[m,k,x]
 |.extract x _=>[x]
 |.Fo _ f c=>f++c
 |.part _ _ x=>[x]
 |.DT _ _ _ x i=>[x,i]
 |.append _ _ s x=>[s,x]
 |.copy _ d s=>[d,s]
 |.del _ m k=>[m,k]
 |.Vd _ x g hi h=>[x,g,hi,h]
 |.Gg _ x=>[x]
 |.clr _ _ x=>[x]
 |.call f as=>f::as
theorem Di{env env':List D}:∀(ps:List (Nat×Nat×aT))(cs:List D),(∀x∈ps.map (·.2.2),x.ev env=x.ev env')->rz env cs ps=rz env' cs ps:=by
 intro ps;induction ps with
 |nil=>intro cs _;rfl
 |cons p ps ih=>
  intro cs h;obtain ⟨o,n,x⟩:=p;simp only[rz,h x (by simp)]
  simp_all
theorem yG{env env':List D}(d m:Nat)(o:Option aT)(h:∀x∈o.toList,x.ev env=x.ev env'):oX env d m o=oX env' d m o:=by
 cases o with
 |none=>rfl
 |some x=>grind [oX]
theorem Ow{P:Program}{op:Op}{ty:TypeId}{env env':List D}(d:∀cs b,op≠.select cs b)(h:∀x∈op.operands.toList.filterMap cn,x.ev env=x.ev env'):pA P op ty env=pA P op ty env':=by
 have e:∀x∈op.operands.toList,((cn x).map (aT.ev env))=((cn x).map (aT.ev env')):=by
  intro x e;cases f:cn x with
  |none=>rfl
  |some o=>grind
 unfold pA;have g:op.operands.toList.all (λx=>(((cn x).map (aT.ev env)).bind D.cZ).isSome)=op.operands.toList.all (λx=>(((cn x).map (aT.ev env')).bind D.cZ).isSome):=by grind
 grind [Go.execOp_congr]
def Ig:ld->Prop
 |.gen op _=>∀d b,op≠.select d b
 |_=>True
theorem zM{P:Program}{orc:xP}{ao:ld}{env env':List D}{σ:ar}(hs:Ig ao)(h:∀x∈tn ao,x.ev env=x.ev env'):br P orc ao env σ=br P orc ao env' σ:=by
 cases ao with
 |gen op ty=>simp only[br,Ow hs h]
 |build z g=>simp only[br,Di g z h]
 |jj n l z g=>simp only[br,Di g _ h]
 |WS e x j hi=>
  simp only[br,h x (by simp[tn])];have q:∀d m,oX env d m j=oX env' d m j:=λd m=>yG d m j (λy p=>h y (by grind [tn]));have r:∀d m,oX env d m hi=oX env' d m hi:=λd m=>yG d m hi (λy p=>h y (by grind [tn]))
  simp_all
 |Fo f a b=>grind [List.map_congr_left,tn,br]
 |call f a=>grind [List.map_congr_left,tn,br]
 |idx e o x i=>cases o <;> simp only[br,h x (by simp[tn]),h i (by simp[tn])]
 |BP x=>grind [br,tn]
 |pick c a b=>grind [br,tn]
 |box x=>grind [br,tn]
 |alloc z=>rfl
 |load n x=>grind [br,tn]
 |store n x y=>grind [br,tn]
 |nV x=>grind [br,tn]
 |iO k n x=>grind [br,tn]
 |IC o x=>grind [br,tn]
 |len x=>grind [br,tn]
 |Yd x=>grind [br,tn]
 |mk e b z x y=>grind [br,tn]
 |vz=>rfl
 |lookup k z x y o=>grind [br,tn]
 |zR k x y z=>simp only[br,h x (by simp[tn]),h y (by simp[tn]),h z (by simp[tn])]
 |extract x i=>grind [br,tn]
 |part o n x=>grind [br,tn]
 |DT e l n x y=>grind [br,tn]
 |append e b x y=>grind [br,tn]
 |copy e x y=>simp only[br,h x (by simp[tn]),h y (by simp[tn])]
 |del k x y=>grind [br,tn]
 |Vd e x y z u=>simp only[br,h x (by simp[tn]),h y (by simp[tn]),h z (by simp[tn]),h u (by simp[tn])]
 |Gg m x=>grind [br,tn]
 |clr e z x=>grind [br,tn]
theorem n_{P:Program}{op:Op}{ty:TypeId}{ao:ld}(h:comp P op ty=some ao):Ig ao:=by
 rcases uX h with ⟨f,args,d,i,os,rfl,_,_,rfl⟩ | ⟨_,_,j⟩
 ·trivial
 ·cases ao with
  |gen e g=>
   intro k b l
   grind [aah]
  |_=>trivial
theorem PI{P:Program}{orc:xP}(O:sY P orc){ao:ld}{env:List D}{σ σ':ar}{d:D}{wr:List Nat}(h:br P orc ao env σ=some (d,σ',wr)) :
  σ.length<=σ'.length/\∀b,b<σ.length->b∉wr->σ'[b]? = σ[b]?:=by
 have same:σ'=σ->σ.length<=σ'.length/\∀b,b<σ.length->b∉wr->σ'[b]? = σ[b]?:=by simp_all
 have Va:∀g,σ'=σ++[g]->σ.length<=σ'.length/\∀b,b<σ.length->b∉wr->σ'[b]? = σ[b]?:=by grind
 have set:∀b g,σ'=σ.set b g->wr=[b]->σ.length<=σ'.length/\∀b,b<σ.length->b∉wr->σ'[b]? = σ[b]?:=by grind
 cases ao with
 |call f args=>
  simp only[br] at h;split at h
  ·exact ⟨(O _ _ _ _ _ _ h).2.2.1,(O _ _ _ _ _ _ h).2.2.2⟩
  ·exact ⟨(O _ _ _ _ _ _ h).2.2.1,(O _ _ _ _ _ _ h).2.2.2⟩
  simp_all
 |BP x=>grind [br]
 |pick c a b=>simp only[br,cB,aX] at h;grind
 |gen op ty=>simp only[br,cB,aX] at h;grind
 |box x=>simp only[br,cB,aX] at h;grind
 |alloc z=>grind [br]
 |build z j=>simp only[br,cB,aX] at h;grind
 |jj n l z j=>simp only[br,cB,aX] at h;grind
 |load n x=>
  simp only[br] at h;split at h
  ·simp only[eS,dg,au,aX] at h;grind
  ·simp only[eS,dg,au,aX] at h;grind
  simp_all
 |store n x y=>grind [br,Option.bind_eq_some_iff]
 |nV x=>grind [br]
 |iO k n x=>simp only[br,cB,aX] at h;grind
 |IC o x=>grind [br]
 |idx e o x i=>
  cases o with
  |none=>
   simp only[br,eS,dg] at h
   grind [Option.bind_eq_some_iff]
  |some len=>
   simp only[br,eS,dg] at h;obtain ⟨_,_,_,_,h⟩:=h;split at h
   ·simp_all
   ·simp_all
   ·grind
   simp_all
 |WS e x p hi=>
  simp only[br] at h;split at h
  ·simp only[eS,dg,au,aX] at h;grind
  ·grind [Option.bind_eq_some_iff]
  ·grind [Option.bind_eq_some_iff]
  simp_all
 |len x=>simp only[br,cB,aX] at h;grind
 |Yd x=>simp only[br,cB,aX] at h;grind
 |mk e b z x y=>grind [br,Option.bind_eq_some_iff]
 |vz=>grind [br]
 |lookup k z x y o=>
  simp only[br,eS,dg,au,aX] at h
  grind
 |zR k x y z=>
  simp only[br,eS,dg] at h
  grind [Option.bind_eq_some_iff]
 |del k x y=>
  simp only[br,eS,dg] at h
  grind [Option.bind_eq_some_iff]
 |extract x i=>
  simp only[br] at h
  grind
 |Fo f a b=>grind [br]
 |part o n x=>
  simp only[br] at h;split at h
  ·simp only[cB,aX] at h;grind
  simp_all
 |DT e l n x y=>
  simp only[br,eS,dg] at h;obtain ⟨_,_,_,_,h⟩:=h;split at h
  ·simp only[cB,aX] at h;grind
  simp_all
 |append e b x y=>
  simp only[br,eS,dg] at h
  grind [Option.bind_eq_some_iff]
 |Gg m x=>
  simp only[br] at h;split at h
  ·split at h
   ·simp only[au,aX] at h;exact same h.2.1.symm
   ·simp at h
  ·simp at h
 |Vd e x y z u=>
  simp only[br] at h;split at h
  ·simp only[eS,dg] at h
   grind
  simp_all
 |clr e z x=>grind [br,Option.bind_eq_some_iff]
 |copy e x y=>simp[br] at h
end Go.Abs
end
section
namespace Go
def Code.calm:Code->Bool
 |.seq x y=>x.calm&&y.calm
 |.cond _ x y=>x.calm&&y.calm
 |.block _ c=>c.calm
 |.loop c=>c.calm
 |.region _ _ _=>true
 |.ret=>true
 |.exit _=>true
 |.goto _=>true
 |.label _=>true
 |.skip=>true
 |_=>false
end Go
namespace Go.Abs
variable[Gl]
structure dZ where
 cat:Nat
 blk:Option Nat
 wr:List Nat
 dst:Option Nat
 rds:List Nat
 lo:Nat
 hi:Nat
 deriving Inhabited
def zG(o:aG):List Nat:=(tn o.op).filterMap (λ| .t n=>some n | _=>none)++(match o.g with | some (t,_)=>[t] | none=>[])
def dx(o:aG)(env:List D)(lo hi:Nat)(wr:List Nat):dZ:=
  { cat := match hZ env o.g with | some true => cat o.op | _ => 0,
    blk:=match Xm o.op env with | .ptr b _ _=>some b | _=>none,
    wr:=wr,dst:=o.dst,rds:=zG o,lo:=lo,hi:=hi }
def kR(σ σ':ar)(wr:List Nat):Bool:=
 wr.all λb=>match σ[b]?,σ'[b]? with
  |some x,some y=>x.sz == y.sz
  |_,_=>false
def lM(P:Program)(orc:fo):Nat->List aG->List D->ar->Option (List D×ar×List dZ)
 |_,[],env,σ=>some (env,σ,[])
 |n, o :: os, env, σ=>
  match eY P orc o env σ with
  |some (b, σ1, w1)=>
   if n == 0 || kR σ σ1 w1 then
    match lM P orc (n-1) os b σ1 with
    |some (d,aD,is)=>some (d,aD,dx o env σ.length σ1.length w1::is)
    |none=>none
   else none
  |none=>none
def disj(b:Option Nat)(l:List Nat):Bool:=
 match b with
 |some t=>!l.contains t
 |none=>true
def safe(i:dZ)(wr:List Nat):Bool:=
 wr.isEmpty || i.cat == 0 || i.cat == 2 || (i.cat == 1&&(match i.blk with | some b=>!wr.contains b | none=>true))
def outside(i:dZ)(wr:List Nat):Bool:=wr.all λb=>b<i.lo || i.hi<=b
def apart(x y:dZ):Bool:=
 disj x.dst y.rds&&disj y.dst x.rds&&(match x.dst,y.dst with | some s,some t=>s != t | _,_=>true)&&(safe x y.wr&&safe y x.wr)&&(outside x y.wr&&outside y x.wr)
def eI(b:List Nat)(d:List dZ):Bool:=
 (List.range d.length).all λj=>(List.range j).all λi=>(b.getD j 0).testBit i || apart (d.getD i default) (d.getD j default)
def od(b:List Nat)(p n m:Nat):Bool:=
 (List.range m).all λj=>j<n || (List.range j).all λi=>Nat.blt i p || (b.getD j 0).testBit i
def isMv(o:Oper):Bool:=
 o.guard.isNone&&(match o.op with
  |.move _ | .assign _=>true
  |_=>false)
def OP(n:Nat):Nat->Array Bool
 |0=>Array.replicate n false
 |i+1=>(OP n i).setIfInBounds i true
def Fg(ops:Array Oper)(i:Nat):Bool:=
 ((ops[i]?).map isMv).getD false&&Region.free .any ops (OP ops.size i) i&&(Region.ready .any ops (OP ops.size i)).contains i
def leads(ops:Array Oper):Nat->Nat->Nat
 |0,_=>0
 |k+1,i=>if Fg ops i then leads ops k (i+1)+1 else 0
def lead(ops:Array Oper):Nat:=if Region.noSelect ops then leads ops ops.size 0 else 0
inductive aS where
 |skip
 |Ci (ops:List aG)
 |IY (ops:List aG) (bef:List Nat) (n p:Nat)
 |seq (a b:aS)
 |cond (c:aT) (thn els:aS)
 |block (id:Nat) (body:aS)
 |loop (body:aS)
 |exit (id:Nat)
 |ret
 |stuck
 |lbl (l:Nat)
 |WQ (l:Nat) (a r:aS)
 |WZ (o:aT) (ps:List Nat) (a b:aS)
 deriving Inhabited
def lblA:aS->Option Nat
 |.seq a b=>match lblA a with | some l=>some l | none=>lblA b
 |.lbl l=>some l
 |_=>none
def Sa(l:Nat):aS->Option aS
 |.seq a b=>match Sa l a with | some r=>some (.seq r b) | none=>Sa l b
 |.lbl d=>if (d == l)=true then some .skip else none
 |_=>none
def Ui(a:aS):aS:=match lblA a with
 |some l=>match Sa l a with | some r=>.WQ l a r | none=>.stuck
 |none=>.stuck
def SO(o:Option aT)(ps:List Nat)(a b:Option aS)(calm:Bool):aS:=match o,a,b,calm with
 |some o,some a,some b,true=>.WZ o ps a b
 |_,_,_,_=>.stuck
theorem Do(o:Option aT)(ps:List Nat)(a b:Option aS)(calm:Bool):(∃o' d e,o=some o'/\a=some d/\b=some e/\calm=true/\SO o ps a b calm=.WZ o' ps d e)\/SO o ps a b calm=.stuck:=by
 unfold SO
 grind
def OG(acc:List Nat)(o:Oper):Nat:=
 o.after.toList.foldl (λs e=>if Region.binds .any e then s ||| 2 ^ e.on ||| acc.getD e.on 0 else s) 0
def Rv(l:List Oper):List Nat:=l.foldl (λb o=>b++[OG b o]) []
def jZ:List aG->Nat
 |[]=>0
 |o :: os => match o.op with
  |.append ..=>0
  |_=>jZ os+1
def Be(l:List Oper):Bool:=(List.range l.length).all λj=>((l.getD j default).after.toList.all λe=>!Region.binds .any e || e.on<j)
def bE(P:Program):Code->Option aS
 |.skip=>some .skip
 |.region _ ops d=>
  match ops.toList.mapM (bn P ops) with
  |some os=>if d then (if Be ops.toList then some (.IY os (Rv ops.toList) (jZ os) (lead ops)) else some .stuck) else some (.Ci os)
  |none=>some .stuck
 |.seq a b => match bE P a, bE P b with
  |some x,some y=>some (.seq x y)
  |_,_=>none
 |.cond c a b => match cn c, bE P a, bE P b with
  |some o,some x,some y=>some (.cond o x y)
  |_,_,_=>some .stuck
 |.block id b=>(bE P b).map (.block (2 * id))
 |.loop b=>(bE P b).map .loop
 |.exit id=>some (.exit (2 * id))
 |.goto l=>some (.exit (2 * l+1))
 |.label l=>some (.lbl l)
 |.scope b=>(bE P b).map Ui
 |.rangeFunc g e x y=>some (SO (cn g) e.toList (bE P x) (bE P y) (x.calm&&y.calm))
 |.ret=>some .ret
 |_=>some .stuck
theorem dS{P:Program}{g:Operand}{ps:Array Tmp}{x y:Code}{ac:aS}(h:bE P (.rangeFunc g ps x y)=some ac):(∃o a b,cn g=some o/\bE P x=some a/\bE P y=some b/\(x.calm&&y.calm)=true/\ac=.WZ o ps.toList a b)\/ac=.stuck:=by simp only[bE,au] at h;subst h;exact Do _ _ _ _ _
structure lc where
 nparams:Nat
 ntmps:Nat
 results:List (Nat×Option (Option Nat))
 body:aS
 cJ:Bool
 deriving Inhabited
def MH(P:Program):ResultVar->Option (Nat×Option (Option Nat))
 |.tmp t=>some (t,none)
 |.cell a t=>(Gb P t).map λn=>(a,some n)
def iu(P:Program)(f:Func)(cJ:Bool):Option lc:=
 match f.body with
 |some b=>
  match bE P b,f.results.toList.mapM (MH P) with
  |some c,some rs=>some ⟨f.params.size+f.nfree,f.ntmps,rs,c,cJ⟩
  |_,_=>none
 |none=>none
inductive oe where
 |normal
 |exit (id:Nat)
 |ret
 deriving DecidableEq,Inhabited
def WW(os:List aG):Nat:=os.length-1-(os.reverse.takeWhile λo=>match o.op with | .call ..=>false | _=>true).length
def jP(P:Program)(orc:fo)(os:List aG)(b:List Nat)(p n:Nat)(env:List D)(σ:ar):Option (List D×ar×List Nat):=
 match lM P orc n os env σ with
 |some (env',σ',is)=>if eI b is&&od b p n os.length&&Nat.ble p n then some (env',σ',is.flatMap (·.wr)) else none
 |none=>none
def kN(P:Program)(orc:fo):Nat->aS->List D->ar->List Nat->Option (oe×List D×ar×List Nat)
 |0,_,_,_,_=>none
 |_+1,.skip,env,σ,wr=>some (.normal,env,σ,wr)
 |_+1,.Ci os,env,σ,wr=>(kc P orc os env σ).map λr=>(.normal,r.1,r.2.1,r.2.2++wr)
 |_ + 1, .IY os e n p, env, σ, wr=>
  match jP P orc os e p n env σ with
  |some (env',σ',w)=>some (.normal,env',σ',w++wr)
  |none=>
   match jP P orc os e p (WW os) env σ with
   |some (env',σ',w)=>some (.normal,env',σ',w++wr)
   |none=>
    match jP P orc os e p os.length env σ with
    |some (env',σ',w)=>some (.normal,env',σ',w++wr)
    |none=>none
 |k + 1, .seq a b, env, σ, wr=>
  match kN P orc k a env σ wr with
  |some (.normal,d,σ1,bY)=>kN P orc k b d σ1 bY
  |r=>r
 |k + 1, .cond c a b, env, σ, wr=>
  match iy (c.ev env) with
  |some true=>kN P orc k a env σ wr
  |some false=>kN P orc k b env σ wr
  |none=>none
 |k + 1, .block id b, env, σ, wr=>
  match kN P orc k b env σ wr with
  |some (.exit i,d,σ1,bY)=>if i=id then some (.normal,d,σ1,bY) else some (.exit i,d,σ1,bY)
  |r=>r
 |k + 1, .loop b, env, σ, wr=>
  match kN P orc k b env σ wr with
  |some (.normal,d,σ1,bY)=>kN P orc k (.loop b) d σ1 bY
  |r=>r
 |_+1,.exit id,env,σ,wr=>some (.exit id,env,σ,wr)
 |_+1,.ret,env,σ,wr=>some (.ret,env,σ,wr)
 |_+1,.stuck,_,_,_=>none
 |_+1,.lbl _,_,_,_=>none
 |_+1,.WQ _ _ _,_,_,_=>none
 |_+1,.WZ _ _ _ _,_,_,_=>none
theorem LI(a:aS):(∃l r,Sa l a=some r/\Ui a=.WQ l a r)\/Ui a=.stuck:=by
 unfold Ui
 grind
def chunks(n:Nat):Nat->List C->List (List C)
 |0,_=>[]
 |k+1,l=>l.take n::chunks n k (l.drop n)
def fO(σ:ar)(n:Nat):Nat->D->Option C
 |0,_=>none
 |k + 1, d=>
  match d with
  |.c x=>some x
  |.ptr b off sz=>
   if n<=b then
    match pg σ b sz with
    |some g=>(g.mapM (fO σ n k)).map λl=>.cC l off
    |none=>none
   else none
  |.sl b off len aA sz=>
   if n<=b/\0<aA/\off+len * aA<=sz then
    match pg σ b sz with
    |some g=>(((g.drop off).take (len * aA)).mapM (fO σ n k)).map λl=>.cJ (Nat.blt 0 len) (chunks aA len l)
    |none=>none
   else none
  |.fn f first cap=>
   match first.mapM (fO σ n k),cap.mapM (fO σ n k) with
   |some a,some b=>some (.fn f a b)
   |_,_=>none
  |.mp b=>
   if n<=b then
    match σ[b]? with
    |some (.map es _)=>(es.mapM λe=>(fO σ n k e.2.1).map λx=>(e.1,x)).map .NR
    |_=>none
   else none
  |_=>none
def oQ(σ:ar)(n k:Nat):D->Option D
 |.agg b=>(b.mapM (fO σ n k)).map λl=>.agg (l.map .c)
 |d=>(fO σ n k d).map .c
def x_(σ:ar)(n k:Nat):D->Option D
 |.aY ds=>(ds.mapM (oQ σ n k)).map .aY
 |d=>oQ σ n k d
def Ns(env:List D)(σ:ar):Nat×Option (Option Nat)->Option D
 |(t,none)=>env[t]?
 |(t, some n)=>
  match env[t]? with
  |some (.ptr b off sz)=>(pg σ b sz).bind λd=>uY n d off
  |_=>none
def one:List D->D
 |[d]=>d
 |ds=>.aY ds
def finish(f:lc)(σ0:ar)(env:List D)(σ:ar)(wr:List Nat):Option (D×ar×List Nat):=
 match f.results.mapM (Ns env σ) with
 |some ds=>
  let b:=wr.filter (·<σ0.length)
  if f.cJ&&b.isEmpty then
   match x_ σ σ0.length 100 (one ds) with
   |some r=>some (r,σ0,[])
   |none=>some (one ds,σ,b)
  else some (one ds,σ,b)
 |none=>none
def evF1(P:Program)(orc:xP)(k:Nat)(f:lc)(ds:List D)(σ:ar):Option (D×ar×List Nat):=
 if ds.length=f.nparams then
  match kN P (λ_=>orc) k f.body (ds++List.replicate (f.ntmps-ds.length) (.aY [])) σ [] with
  |some (.normal,env,σ',wr)=>finish f σ env σ' wr
  |some (.ret,env,σ',wr)=>finish f σ env σ' wr
  |_=>none
 else none
def evF(P:Program)(b:FuncId->Option lc)(prim:xP)(k:Nat):Nat->xP
 |0=>λ_ _ _=>none
 |n + 1 => λg ds σ=>
  match prim g ds σ with
  |some r=>some r
  |none=>
   match b g with
   |some f=>evF1 P (evF P b prim k n) k f ds σ
   |none=>none
end Go.Abs
end
section
namespace Go
def Code.wq(P:Program)(c:Code)(Q:Exit->Act->World->Prop)(a:Act)(w:World):Prop:=
 c.wp P Q a w/\(c.calm=true->∀l n,c.wpIn (Fence.wide.inRound l) n P Q a w)
def kW(Q:Exit->Act->World->Prop):Exit->Act->World->Prop:=λe a w=>Q e a w/\e≠.outgrown
section
variable{P:Program}{ops:Array Oper}{Q:Exit->Act->World->Prop}{a:Act}{w:World}
theorem Md{c:Code}(h:c.wq P Q a w):c.wp P Q a w:=h.1
theorem UC:¬LetsOut (kW Q):=λ⟨_,_,h⟩=>h.2 rfl
theorem Xl(l n:Nat){o:Oper}{K:Act->World->Prop}(e:∀c,o.op≠.defer c)(h:o.wp P a w K Q):o.wpIn (Fence.wide.inRound l) n P a w K Q:=by
 refine ⟨λf _=>trivial,?_⟩;rw[Oper.semAt_eq _ _ _ e];unfold Oper.wp at h;generalize (execOp a.eval o).run P w=r at *;cases r with
 |ok g w'=>
  cases g with
  |value v=>exact h
  |skip=>exact h
  |defer d=>exact h
  |enter f args=>exact ⟨λb=>by simp[Fence.wide] at b,CallsIn.inRound l (callsIn_wide.2 h)⟩
  |row row args=>exact ⟨λb=>by simp[Fence.wide] at b,λc i _=>let ⟨v,w',r,s⟩:=h c i;⟨v,w',r,stepsIn_wide.2 s⟩⟩
  |_=>exact h.elim
 |halt b w'=>cases b <;> first | exact h | exact h.elim
theorem Gy(l n:Nat){i:Nat}{a:Act}{w:World}{K:Act->World->Prop}(e:∀(i:Nat) o c,ops[i]? = some o->o.op≠.defer c)(g:¬LetsOut Q)(h:wpOp P ops Q i K a w):wpOpIn (Fence.wide.inRound l) n P ops Q i K a w:=by
 unfold wpOp at h;unfold wpOpIn;split at h
 ·rename_i b;simp only[b];exact h
 ·rename_i o b;simp only[b];split at h
  ·rename_i d;simp only[d,if_true];rcases h with h | h
   ·exact Xl l n (λc=>e i o c b) h
   ·exact absurd h.2 g
  ·rename_i d;simp only[d,b_,cA];exact ⟨λf _=>trivial,h⟩
theorem AF{F:Fence}{n:Nat}{i:Nat}{a:Act}{w:World}{K b:Act->World->Prop}(hk:∀a w,K a w->b a w)(h:wpOpIn F n P ops Q i K a w):wpOpIn F n P ops Q i b a w:=by
 cases d:ops[i]? with
 |none=>simp only[wpOpIn,d] at h ⊢;exact hk _ _ h
 |some o=>
  simp only[wpOpIn,d] at h ⊢;cases e:Region.wanted o (yielded ops a.tmps) with
  |true=>simp only[e,if_true] at h ⊢;exact Oper.wpIn_mono hk h
  |false=>simp only[e,b_,cA] at h ⊢;exact ⟨h.1,hk _ _ h.2⟩
theorem Wu(l n:Nat)(d:∀(i:Nat) o c,ops[i]? = some o->o.op≠.defer c)(e:¬LetsOut Q):∀(b:List Nat)(a:Act)(w:World),wpOps P ops Q b a w->wpOpsIn (Fence.wide.inRound l) n P ops Q b a w:=by
 intro b;induction b with
 |nil=>intro a w h;exact h
 |cons i b ih=>intro a w h;rw[wpOps_cons] at h;rw[wpOpsIn_cons];exact AF (λa w=>ih a w) (Gy l n d e h)
theorem UF(l n:Nat){md:Region.Mode}(d:∀(i:Nat) o c,ops[i]? = some o->o.op≠.defer c)(e:¬LetsOut Q):∀(b:Nat)(listed:Array Bool)(a:Act)(w:World),wpAny P md ops Q b listed a w->wpAnyIn (Fence.wide.inRound l) n P md ops Q b listed a w:=by
 intro b;induction b with
 |zero=>intro listed a w h;exact h
 |succ b ih=>intro listed a w h;exact ⟨h.1,λi hi=>AF (λa w=>ih _ a w) (Gy l n d e (h.2 i hi))⟩
theorem Uf{c:Code}{Q':Exit->Act->World->Prop}(h:c.wq P Q a w)(b:∀e a w,Q e a w->Q' e a w):c.wq P Q' a w:=
 ⟨wp_mono h.1 b,λd l n=>wpIn_mono (h.2 d l n) b⟩
theorem II{id:Nat}(b:∀(i:Nat) o c,ops[i]? = some o->o.op≠.defer c)(h:wpOps P ops (kW Q) (List.range ops.size) a w):(Code.region id ops false).wq P Q a w:=
 Uf (Q:=kW Q) ⟨wp_region h,λ_ l n=>wpIn_region (Wu l n b UC _ _ _ h)⟩ λ_ _ _ h=>h.1
theorem yO{id:Nat}(hm:P.follows .mixedOrders=true)(b:∀(i:Nat) o c,ops[i]? = some o->o.op≠.defer c)
  (h:wpAny P .any ops (kW Q) ops.size (Array.replicate ops.size false) a { w with drawn:=w.drawn+1 }):(Code.region id ops true).wq P Q a w:=
 Uf (Q:=kW Q) ⟨wp_region_any hm h,λ_ l n=>wpIn_region_any hm (UF l n b UC _ _ _ _ h)⟩ λ_ _ _ h=>h.1
theorem wq_skip(h:Q .normal a w):Code.skip.wq P Q a w:=⟨wp_skip h,λ_ _ _=>wpIn_skip h⟩
theorem wq_label{l:Nat}(h:Q .normal a w):(Code.label l).wq P Q a w:=⟨wp_label h,λ_ _ _=>wpIn_label h⟩
theorem wq_exit{i:Nat}(h:Q (.exit i) a w):(Code.exit i).wq P Q a w:=⟨wp_exit h,λ_ _ _=>wpIn_exit h⟩
theorem wq_goto{i:Nat}(h:Q (.goto i) a w):(Code.goto i).wq P Q a w:=⟨wp_goto h,λ_ _ _=>wpIn_goto h⟩
theorem wq_ret(h:Q .ret a w):Code.ret.wq P Q a w:=⟨wp_ret h,λ_ _ _=>wpIn_ret h⟩
theorem xc{K b:Act->World->Prop}(hk:∀a w,K a w->b a w):∀e a w,Exit.then K Q e a w->Exit.then b Q e a w:=by intro e a w h;cases e <;> first | exact hk _ _ h | exact h
theorem Qa{x y:Code}(h:x.wq P (Exit.then (y.wq P Q) Q) a w):(Code.seq x y).wq P Q a w:=
 ⟨wp_seq (wp_mono h.1 (xc fun _ _ h=>h.1)),fun b l n=>by
  simp only [Code.calm,bI] at b
  exact wpIn_seq (wpIn_mono (h.2 b.1 l n) (xc fun _ _ h=>h.2 b.2 l n))⟩
theorem AO{c:Operand}{x y:Code}(b:a.eval c=.bool true)(h:x.wq P Q a w):(Code.cond c x y).wq P Q a w:=
 ⟨wp_cond_true b h.1,fun d l n=>by
  simp only [Code.calm,bI] at d
  exact wpIn_cond_true b (h.2 d.1 l n)⟩
theorem yA{c:Operand}{x y:Code}(b:a.eval c=.bool false)(h:y.wq P Q a w):(Code.cond c x y).wq P Q a w:=
 ⟨wp_cond_false b h.1,fun d l n=>by
  simp only [Code.calm,bI] at d
  exact wpIn_cond_false b (h.2 d.2 l n)⟩
theorem Me{id:Nat}{c:Code}(h:c.wq P (Exit.inBlock id Q) a w):(Code.block id c).wq P Q a w:=
 ⟨wp_block h.1,λb l n=>wpIn_block (h.2 b l n)⟩
def Code.rq(P:Program)(c:Code)(Q:Exit->Act->World->Prop):Nat->Act->World->Prop
 |0,_,_=>False
 |n+1,a,w=>c.wq P (Exit.then (Code.rq P c Q n) Q) a w
theorem KQ{c:Code}{n:Nat}:Code.rq P c Q (n+1) a w=c.wq P (Exit.then (Code.rq P c Q n) Q) a w:=rfl
theorem Vg{c:Code}:∀(k:Nat)(a:Act)(w:World),Code.rq P c Q k a w->Code.rounds P c Q k a w:=by
 intro k;induction k with
 |zero=>intro a w h;exact h
 |succ k ih=>intro a w h;exact wp_mono h.1 (xc λa w=>ih a w)
theorem MP{c:Code}(b:c.calm=true)(l n:Nat):∀(k:Nat)(a:Act)(w:World),Code.rq P c Q k a w->Code.roundsIn (Fence.wide.inRound l) n P c Q k a w:=by
 intro k;induction k with
 |zero=>intro a w h;exact h
 |succ k ih=>intro a w h;exact wpIn_mono (h.2 b l n) (xc λa w=>ih a w)
theorem vp{c:Code}(k:Nat)(h:Code.rq P c Q k a w):(Code.loop c).wq P Q a w:=
 ⟨wp_loop_rounds k (Vg k a w h),λb l n=>wpIn_loop_rounds k (MP (c:=c) (show c.calm=true from b) l n k a w h)⟩
end
end Go
namespace Go.Abs
theorem AG{P:Program}{op:Op}{t:TypeId}{ao:ld}(h:comp P op t=some ao):∀c,op≠.defer c:=by rintro c rfl;simp[comp,lq] at h
theorem qD{P:Program}{ops:Array Oper}{o:Oper}{ao:aG}(h:bn P ops o=some ao):∀c,o.op≠.defer c:=by
 unfold bn at h;split at h
 ·rename_i b;exact AG b
 ·cases h
end Go.Abs
end
section
namespace Go.Abs
variable{σ σ':ar}{M M':Nat->Option Nat}{Fz Fz':Nat->Prop}{w w':World}{P:Program}
theorem il{D c:Nat}{o:Obj}(h:c≠D):(w.putObj D o).heap[c]? = w.heap[c]?:=World.putObj_heap_other h
theorem V.off{B:Nat}{x:Option (List Deferred)}{o:Obj}(O:¬Fz B)(hD:w.heap[B]? = some (.deferred x)){d:D}{v:Value}(h:V σ M Fz w d v):V σ M Fz (w.putObj B o) d v:=by
 induction h with
 |c h=>exact .c (h.mono λc K=>⟨K,il (λe=>O (by rw[<-e];exact K))⟩)
 |any v=>exact .any v
 |ptr a u h j i=>exact .ptr a u h j i
 |sl a n cap A u h j i=>
  refine .sl a n cap A u h j (λR=>?_);rcases i R with s | ⟨c,o,E,T,U,W,X,hl,hh,hb⟩
  ·exact .inl s
  ·exact .inr ⟨c,o,E,T,U,W,X,hl,by grind [il]⟩
 |mp c u h i=>exact .mp c u h i
 |fn z Y s Z i hw F G=>exact .fn z Y s Z F G
 |agg z s i ih=>exact .agg z s ih
 |aY z s i ih=>exact .aY z s ih
theorem ca.off{D:Nat}{x:Option (List Deferred)}{o':Obj}(F:¬Fz D)(G:w.heap[D]? = some (.deferred x)){ob:Ob}{o:Obj}(h:ca σ M Fz w ob o):ca σ M Fz (w.putObj D o') ob o:=by
 cases ob with
 |cells K=>obtain ⟨j,T,A,hl,s⟩:=h;exact ⟨j,T,A,hl,λi d v u z=>⟨(s i d v u z).1.off F G,(s i d v u z).2⟩⟩
 |map O E=>obtain ⟨j,A,hl,s⟩:=h;exact ⟨j,A,hl,λi k d n e u z=>let ⟨a,b,c⟩:=s i k d n e u z;⟨a,b,c.off F G⟩⟩
 |gone n=>exact h.elim
variable[Gl]
theorem Rel.off{D:Nat}{x:Option (List Deferred)}{o':Obj}(R:Rel σ M Fz w)(hm:∀b,M b≠some D)(i:¬Fz D)(s:w.heap[D]? = some (.deferred x)):Rel σ M Fz (w.putObj D o'):={
 blk:=λb c h=>by obtain ⟨u,ob,o,h1,h2,z⟩:=R.blk b c h;exact ⟨u,ob,o,h1,by rw[il (λe=>hm b (by rw[<-e];exact h))];exact h2,z.off i s⟩
 inj:=R.inj
 fz:=λc h=>by simpa using R.fz c h
 gl:=Gl.mono (λc j=>⟨j,il (λe=>i (by rw[<-e];exact j))⟩) R.gl }
def mark(D:Nat):Deferred:={ target:=.collected D,args:=#[] }
def MkD(n:Nat)(M:Nat->Option Nat)(Fz:Nat->Prop)(w:World)(D:Nat):Prop:=
 n<=D/\D<w.heap.size/\(∀b,M b≠some D)/\¬Fz D/\w.heap[D]? = some (.deferred (some []))
theorem MkD.mono{n D:Nat}(E:bF σ M Fz w σ' M' Fz' w')(h:MkD n M Fz w D):MkD n M' Fz' w' D:=by
 obtain ⟨a,b,c,d,e⟩:=h;refine ⟨a,GJ b E.size,λs j=>?_,λu=>?_,by rw[E.frame D b c];exact e⟩
 ·rcases E.lH s D j with ⟨o,i⟩ | i
  ·exact c o i
  ·omega
 ·rcases E.ol D u with i | ⟨o,i⟩ | i
  ·exact d i
  ·exact c o i
  ·omega
def Mk(n:Nat)(M:Nat->Option Nat)(Fz:Nat->Prop)(w:World)(ds b:List Deferred):Prop:=
 ∃d:List Nat,ds=d.map mark++b/\d.Nodup/\∀D∈d,MkD n M Fz w D
theorem Mk.refl(n:Nat)(ds:List Deferred):Mk n M Fz w ds ds:=⟨[],rfl,List.nodup_nil,λ_ h=>by cases h⟩
theorem Mk.of_eq{n:Nat}{ds i:List Deferred}(h:ds=i):Mk n M Fz w ds i:=h▸Mk.refl n ds
theorem Mk.mono{n:Nat}{ds i:List Deferred}(E:bF σ M Fz w σ' M' Fz' w')(h:Mk n M Fz w ds i):Mk n M' Fz' w' ds i:=
 let ⟨j,h1,h2,h3⟩:=h
 ⟨j,h1,h2,λD o=>(h3 D o).mono E⟩
theorem Mk.trans{n:Nat}{ds i j:List Deferred}(E:bF σ M Fz w σ' M' Fz' w')(U:n<=w.heap.size)(h:Mk n M Fz w i j)(F:Mk w.heap.size M' Fz' w' ds i):Mk n M' Fz' w' ds j:=by
 obtain ⟨G,K,O,A⟩:=h;obtain ⟨u,x,z,o⟩:=F;refine ⟨u++G,by rw[x,K];simp,?_,λD s=>?_⟩
 ·rw[List.nodup_append];refine ⟨z,O,λa R b hb e=>?_⟩;have:=(o a R).1;have:=(A b hb).2.1;omega
 ·rcases kB.1 s with s | s
  ·obtain ⟨a,b⟩:=o D s;exact ⟨by omega,b⟩
  ·exact (A D s).mono E
def LZ(M:Nat->Option Nat)(Fz:Nat->Prop)(f:Nat->Option Nat)(e:Nat->Prop):Prop:=(∀b c,f b=some c->∃d,M d=some c)/\(∀c,e c->Fz c\/∃d,M d=some c)/\∀c,Fz c->e c
theorem LZ.refl:LZ M Fz M Fz:=⟨λb c h=>⟨b,h⟩,λc h=>.inl h,λc h=>h⟩
theorem LZ.trans{s u:Nat->Option Nat}{x z:Nat->Prop}(h:LZ M Fz s x)(i:LZ s x u z):LZ M Fz u z:=
 ⟨fun b c e=>let ⟨j,o⟩:=i.1 b c e; h.1 j c o,fun c e=>by
  rcases i.2.1 c e with e | ⟨j,o⟩
  ·exact h.2.1 c e
  ·exact .inr (h.1 j c o),fun c e=>i.2.2 c (h.2.2 c e)⟩
theorem Mk.wth{n:Nat}{ds i:List Deferred}{u:Nat->Option Nat}{x:Nat->Prop}(h:Mk n M Fz w ds i)(W:LZ M Fz u x):Mk n u x w ds i:=by
 obtain ⟨z,A,E,F⟩:=h;refine ⟨z,A,E,λD G=>?_⟩;obtain ⟨a,b,c,d,e⟩:=F D G;refine ⟨a,b,λK o=>?_,λO=>?_,e⟩
 ·obtain ⟨s,j⟩:=W.1 K D o;exact c s j
 ·rcases W.2.1 D O with j | ⟨s,j⟩
  ·exact d j
  ·exact c s j
theorem Mk.ZL{n k:Nat}{fn:Func}{i:Array Value}{R:Ending->World->Prop}:∀(o:List Nat) (w:World),Rel σ M Fz w->o.Nodup ->
  (∀D∈o,n≤D/\(∀b,M b≠some D)/\¬Fz D/\w.heap[D]? = some (.deferred (some []))) ->
  (∀w',Rel σ M Fz w'->w'.heap.size=w.heap.size->(w'.os=w.os/\w'.tape=w.tape/\w'.output=w.output)->(∀c:Nat,c<n->w'.heap[c]? = w.heap[c]?)->(∀(c:Nat) arr T u,w.heap[c]? = some (Obj.cells arr T u)->w'.heap[c]? = w.heap[c]?)->(∀c:Nat,Fz c->w'.heap[c]? = w.heap[c]?)->(∀d v,V σ M Fz w d v->V σ M Fz w' d v) ->
   ∃v,(results fn i).run P w'=.ok v w'/\R (.returned v) w') ->
  LeavesInM Fence.wide k P fn i R (o.map mark) .returning w:=by
 intro o
 induction o with
 | nil =>
  intro w R _ _ h
  exact h w R rfl ⟨rfl,rfl,rfl⟩ (fun _ _=>rfl) (fun _ _ _ _ _=>rfl) (fun _ _=>rfl) (fun _ _ h=>h)
 | cons D o ih =>
  intro w R x E h
  obtain ⟨a,b,c,d⟩:=E D (by simp)
  simp only [List.nodup_cons] at x
  refine ⟨by simp,.inl ⟨D,_,rfl,run_takeDeferred d,?_⟩⟩
  refine ih _ (R.off b c d) x.2 (fun F s=>?_) fun w' G K z O U W X=>?_
  ·obtain ⟨Y,Z,c',A⟩:=E F (by simp [s])
   exact ⟨Y,Z,c',by rw [il (fun e=>x.1 (by rw [←e]; exact s))]; exact A⟩
  ·refine h w' G (by rw [K]; simp) ⟨z.1,z.2.1,z.2.2⟩ (fun q j=>?_) (fun q arr T u j=>?_) (fun q j=>?_) (fun A v hv=>X A v (hv.off c d))
   ·rw [O q j,il (by omega)]
   ·have:q≠D:=fun e=>by rw [e,d] at j; cases j
    rw [U q arr T u (by rw [il this]; exact j),il this]
   ·rw [W q j,il (fun e=>c (by rw [←e]; exact j))]
theorem bF.ZL{w'':World}(E:bF σ M Fz w σ' M' Fz' w')(u:w''.heap.size=w'.heap.size)(s:w''.os=w'.os/\w''.tape=w'.tape/\w''.output=w'.output)(x:∀c:Nat,c<w.heap.size->w''.heap[c]? = w'.heap[c]?)
  (z:∀(c:Nat) arr T o,w'.heap[c]? = some (Obj.cells arr T o)->w''.heap[c]? = w'.heap[c]?) (A:∀c:Nat,Fz' c->w''.heap[c]? = w'.heap[c]?):bF σ M Fz w σ' M' Fz' w'':={
 size:=by rw[u];exact E.size
 frame:=λc i F=>by rw[x c i];exact E.frame c i F
 lH:=E.lH
 fz:=λc i=>⟨(E.fz c i).1,by rw[A c (E.fz c i).1];exact (E.fz c i).2⟩
 ol:=E.ol
 rC:=λc arr T o i=>by obtain ⟨j,h,hs⟩:=E.rC c arr T o i;exact ⟨j,by rw[z c j T o h];exact h,hs⟩
 keep:=E.keep
 out:=⟨s.1.trans E.out.1,s.2.1.trans E.out.2.1,s.2.2.trans E.out.2.2⟩ }
theorem Mk.end{k:Nat}{fn:Func}{i:Array Value}{ds:List Deferred}{Q:Ending->World->Prop}(o:Mk w.heap.size M' Fz' w' ds [])(R:Rel σ' M' Fz' w')(E:bF σ M Fz w σ' M' Fz' w')
  (h:∀w'',Rel σ' M' Fz' w''->bF σ M Fz w σ' M' Fz' w''->(∀d v,V σ' M' Fz' w' d v->V σ' M' Fz' w'' d v)->∃v,(results fn i).run P w''=.ok v w''/\Q (.returned v) w''):LeavesInM Fence.wide k P fn i Q ds .returning w':=by
 obtain ⟨s,u,x,z⟩:=o;rw[u,DZ];refine Mk.ZL (n:=w.heap.size) s w' R x (λD A=>?_) λw'' j F G K O U W=>h w'' j (E.ZL F G K O U) W;obtain ⟨a,b,c,d,e⟩:=z D A;exact ⟨a,c,d,e⟩
omit [Gl] in
theorem nE{f:FuncId}{fn:Func}{c:Code}{args:Array Value}{R:Ending->World->Prop}(d:P.funcs[f]? = some fn)(hb:fn.body=some c)
  (h:c.wp P (λe a w'=>(e=.normal\/e=.ret)/\LeavesInM Fence.wide 0 P fn a.tmps R a.defers .returning w') { tmps:=args++Array.replicate (fn.ntmps-args.size) undef,defers:=[] } w):Calls P f args w R:=
 callsIn_wide.1 (callsIn_of_wp_marks (F:=Fence.wide) (n:=0) d hb trivial (wpIn_wide.2 (wp_mono h λe a w' b=>by
  rcases b with ⟨rfl | rfl,b⟩
  ·exact b
  ·exact b)) rfl)
end Go.Abs
end
section
namespace Go.Abs
variable[Gl]
structure LS (M:Nat->Option Nat) (Fz:Nat->Prop) (w:World) (M':Nat->Option Nat) (Fz':Nat->Prop) (w':World):Prop where
 size:w.heap.size<=w'.heap.size
 frame:∀c:Nat,c<w.heap.size->(∀b,M b≠some c)->w'.heap[c]? = w.heap[c]?
 ext:∀b c,M b=some c->M' b=some c
 lH:∀b c,M' b=some c->M b=some c\/w.heap.size<=c
 fz:∀c:Nat,Fz c->Fz' c/\w'.heap[c]? = w.heap[c]?
 ol:∀c,Fz' c->Fz c\/w.heap.size<=c
 rC:∀(c:Nat) arr T fr,w.heap[c]? = some (.cells arr T fr)->∃arr',w'.heap[c]? = some (.cells arr' T fr)/\arr'.size=arr.size
 out:w'.os=w.os/\w'.tape=w.tape/\w'.output=w.output
section
variable{σ σ':ar}{M M' M'':Nat->Option Nat}{Fz Fz' Fz'':Nat->Prop}{w w' w'':World}
theorem LS.refl:LS M Fz w M Fz w:={
 size:=cN _
 frame:=λ_ _ _=>rfl
 ext:=λ_ _ h=>h
 lH:=λ_ _ h=>.inl h
 fz:=λ_ h=>⟨h,rfl⟩
 ol:=λ_ h=>.inl h
 rC:=λc i T j h=>⟨i,h,rfl⟩
 out:=⟨rfl,rfl,rfl⟩ }
theorem LS.trans(A:LS M Fz w M' Fz' w')(B:LS M' Fz' w' M'' Fz'' w''):LS M Fz w M'' Fz'' w'':={
 size:=kI A.size B.size
 frame:=λc o u=>by
  rw[<-A.frame c o u];refine B.frame c (GJ o A.size) (λb hb=>?_);rcases A.lH b c hb with i | i
  ·simp_all
  ·omega
 ext:=λb c h=>B.ext b c (A.ext b c h)
 lH:=λb c h=>by
  rcases B.lH b c h with i | i
  ·exact A.lH b c i
  ·exact .inr (kI A.size i)
 fz:=λc h=>⟨(B.fz c (A.fz c h).1).1,by rw[(B.fz c (A.fz c h).1).2,(A.fz c h).2]⟩
 ol:=λc h=>by
  rcases B.ol c h with i | i
  ·exact A.ol c i
  ·exact .inr (kI A.size i)
 rC:=λc j T s h=>by
  obtain ⟨x,h1,z⟩:=A.rC c j T s h;obtain ⟨E,h2,F⟩:=B.rC c x T s h1
  simp_all
 out:=⟨B.out.1.trans A.out.1,B.out.2.1.trans A.out.2.1,B.out.2.2.trans A.out.2.2⟩ }
def oq(σ σ':ar):Prop:=∀(b:Nat) ob,σ[b]? = some ob->∃d,σ'[b]? = some d/\d.sz=ob.sz
theorem oq.refl:oq σ σ:=λ_ i h=>⟨i,h,rfl⟩
theorem V.sub(s:oq σ σ')(z:∀b c,M b=some c->M' b=some c)(G:∀c:Nat,Fz c->Fz' c/\w'.heap[c]? = w.heap[c]?)
  (A:∀(c:Nat) arr T fr,w.heap[c]? = some (.cells arr T fr)->∃i,w'.heap[c]? = some (.cells i T fr)/\i.size=arr.size) {d:D} {v:Value} (h:V σ M Fz w d v):V σ' M' Fz' w' d v:=by
 induction h with
 |c h=>exact .c (h.mono G)
 |any v=>exact .any v
 |ptr a W h K u=>
  obtain ⟨j,E,hs⟩:=s _ _ h;refine .ptr a j E (by omega) (λX=>?_)
  grind
 |sl a n cap O W h K u=>
  obtain ⟨j,E,hs⟩:=s _ _ h;refine .sl a n cap O j E (by omega) (λX=>?_);rcases u (by omega) with x | ⟨c,o,arr,T,hM,ha,hn,hl,ho,Y,hb,hz⟩
  ·simp_all
  ·obtain ⟨i,Z,aa⟩:=A _ _ _ _ Y
   simp_all
 |mp c W h u=>obtain ⟨j,E,hs⟩:=s _ _ h;exact .mp c j E (λX=>z _ _ (u (by omega)))
 |fn F ws x h2 u hw R U=>exact .fn F ws x h2 R U
 |agg F x u ih=>exact .agg F x ih
 |aY F x u ih=>exact .aY F x ih
theorem V.ext(i:oq σ σ')(S:LS M Fz w M' Fz' w'){d:D}{v:Value}(h:V σ M Fz w d v):V σ' M' Fz' w' d v:=h.sub i S.ext S.fz S.rC
theorem ca.sub(A:oq σ σ')(s:∀b c,M b=some c->M' b=some c){ob:Ob}{o:Obj}(h:ca σ M Fz w ob o):ca σ' M' Fz w ob o:=by
 have e:∀{d v},V σ M Fz w d v->V σ' M' Fz w d v:=λh=>h.sub A s (λc h=>⟨h,rfl⟩) (λc j T K h=>⟨j,h,rfl⟩);cases ob with
 |cells O=>obtain ⟨j,T,E,hl,u⟩:=h;exact ⟨j,T,E,hl,λi d v x z=>⟨e (u i d v x z).1,(u i d v x z).2⟩⟩
 |map R F=>obtain ⟨j,E,hl,u⟩:=h;exact ⟨j,E,hl,λi k d n G x z=>let ⟨a,b,c⟩:=u i k d n G x z;⟨a,b,e c⟩⟩
 |gone n=>exact h.elim
theorem ca.ext(s:oq σ σ')(S:LS M Fz w M' Fz' w'){ob:Ob}{o:Obj}(h:ca σ M Fz w ob o):ca σ' M' Fz' w' ob o:=by
 cases ob with
 |cells F=>obtain ⟨j,T,A,hl,u⟩:=h;exact ⟨j,T,A,hl,λi d v x z=>⟨(u i d v x z).1.ext s S,(u i d v x z).2⟩⟩
 |map G E=>obtain ⟨j,A,hl,u⟩:=h;exact ⟨j,A,hl,λi k d n e x z=>let ⟨a,b,c⟩:=u i k d n e x z;⟨a,b,c.ext s S⟩⟩
 |gone n=>exact h.elim
theorem V.down(z:oq σ σ'){d:D}{v:Value}(h:V σ' M' Fz' w' d v):∀{A:Value},V σ M Fz w d A->V σ M' Fz' w' d v:=by
 induction h with
 |c h=>intro _ _;exact .c h
 |any v=>intro _ _;exact .any v
 |ptr a W h R x=>
  intro A o;cases o with
  |ptr a0 s j _ _=>obtain ⟨E,u,hs⟩:=z _ _ j;rw[h] at u;simp only[au] at u;subst u;exact .ptr a s j (by omega) (λX=>x (by omega))
 |sl a n cap U W h R x=>
  intro A o;cases o with
  |sl a0 n0 Y _ s j _ _=>obtain ⟨E,u,hs⟩:=z _ _ j;rw[h] at u;simp only[au] at u;subst u;exact .sl a n cap U s j (by omega) (λX=>x (by omega))
 |mp c W h x=>
  intro A o;cases o with
  |mp c0 s j _=>obtain ⟨E,u,hs⟩:=z _ _ j;rw[h] at u;simp only[au] at u;subst u;exact .mp c s j (λX=>x (by omega))
 |fn F ws G h2 x hw aa ab=>
  intro A o;cases o with
  |fn K ad Z k2 O af=>
   refine .fn F ws G h2 (λi d v a b=>?_) (λi d v a b=>?_)
   ·grind
   grind
 |agg F G x ih=>
  intro A o;cases o with
  |agg K Z O=>
   refine .agg F G (λi d v a b=>?_)
   grind
 |aY F G x ih=>
  intro A o;cases o with
  |aY K Z O=>
   refine .aY F G (λi d v a b=>?_)
   grind
theorem ca.down(x:oq σ σ'){ob:Ob}{o U:Obj}(h:ca σ' M' Fz' w' ob o)(R:ca σ M Fz w ob U):ca σ M' Fz' w' ob o:=by
 cases ob with
 |cells W=>obtain ⟨s,T,F,hl,A⟩:=h;obtain ⟨z,X,G,K,u⟩:=R;refine ⟨s,T,F,hl,λi d v j E=>⟨?_,(A i d v j E).2⟩⟩;have hi:=(e_.1 j).1;exact (A i d v j E).1.down x (u i d _ j (rE (by omega))).1
 |map Y O=>obtain ⟨s,F,hl,A⟩:=h;obtain ⟨z,G,K,u⟩:=R;refine ⟨s,F,hl,λi k d n e j E=>?_⟩;have hi:=(e_.1 j).1;obtain ⟨a,b,c⟩:=A i k d n e j E;exact ⟨a,b,c.down x (u i k d n _ j (rE (by omega))).2.2⟩
 |gone n=>exact h.elim
def dd(M:Nat->Option Nat)(n:Nat):Nat->Option Nat:=λb=>if b<n then M b else none
theorem V.cut{d:D}{v:Value}(h:V σ M Fz w d v):V σ (dd M σ.length) Fz w d v:=by
 induction h with
 |c h=>exact .c h
 |any v=>exact .any v
 |ptr a u h i j=>refine .ptr a u h i (λA=>?_);obtain ⟨c,O,R⟩:=j A;exact ⟨c,by simp only[dd];grind,R⟩
 |sl a n cap E u h i j=>
  refine .sl a n cap E u h i (λA=>?_);rcases j A with s | ⟨c,o,F,T,O,x⟩
  ·simp_all
  ·exact .inr ⟨c,o,F,T,by simp only[dd];grind,x⟩
 |mp c u h j=>exact .mp c u h (λA=>by simp only[dd];grind)
 |fn z U s W j X G K=>exact .fn z U s W G K
 |agg z s j ih=>exact .agg z s ih
 |aY z s j ih=>exact .aY z s ih
theorem ca.cut{ob:Ob}{o:Obj}(h:ca σ M Fz w ob o):ca σ (dd M σ.length) Fz w ob o:=by
 cases ob with
 |cells E=>obtain ⟨j,T,z,hl,s⟩:=h;exact ⟨j,T,z,hl,λi d v u x=>⟨(s i d v u x).1.cut,(s i d v u x).2⟩⟩
 |map F A=>obtain ⟨j,z,hl,s⟩:=h;exact ⟨j,z,hl,λi k d n e u x=>let ⟨a,b,c⟩:=s i k d n e u x;⟨a,b,c.cut⟩⟩
 |gone n=>exact h.elim
end
inductive Dz (ops:Array Oper):Nat->Nat->Prop where
 |one {i j:Nat} {o:Oper} {e:Edge} (ho:ops[j]? = some o) (he:e∈o.after) (hb:Region.binds .any e=true) (hi:e.on=i):Dz ops i j
 |more {i j k:Nat} {o:Oper} {e:Edge} (ho:ops[j]? = some o) (he:e∈o.after) (hb:Region.binds .any e=true) (hk:e.on=k) (h:Dz ops i k):Dz ops i j
def fX(ops:Array Oper)(S:Nat->Prop):Prop:=∀(j:Nat) o e,S j->ops[j]? = some o->e∈o.after->Region.binds .any e=true->S e.on
theorem Dz.in{ops:Array Oper}{S:Nat->Prop}(u:fX ops S){i j:Nat}(h:Dz ops i j)(x:S j):S i:=by
 induction h with
 |one o s hb hi=>exact hi▸u _ _ _ x o s hb
 |more o s hb hk h ih=>exact ih (hk▸u _ _ _ x o s hb)
theorem Dz.ready{ops:Array Oper}{S:Nat->Prop}(x:fX ops S){i j:Nat}(h:Dz ops i j)(z:∀o e,ops[j]? = some o->e∈o.after->Region.binds .any e=true->S e.on):S i:=by
 cases h with
 |one s u hb hi=>grind
 |more s u hb hk h=>exact h.in x (hk▸z _ _ s u hb)
theorem Zw{ops:Array Oper}{j:Nat}{o:Oper}(f:ops[j]? = some o){acc:List Nat}(d:∀k i,(acc.getD k 0).testBit i=true->Dz ops i k){i:Nat}(h:(OG acc o).testBit i=true):Dz ops i j:=by
 unfold OG at h;have g:∀(l:List Edge)(s:Nat),(∀e∈l,e∈o.after)->(s.testBit i=true->Dz ops i j) ->
   (l.foldl (λs e=>if Region.binds .any e then s ||| 2 ^ e.on ||| acc.getD e.on 0 else s) s).testBit i=true->Dz ops i j:=by
  intro l;induction l with
  |nil=>simp_all
  |cons e l ih=>
   intro s hl hs h;simp only[List.foldl_cons] at h;refine ih _ (λm p=>hl m (by grind)) ?_ h;intro hb;split at hb
   ·rename_i b;simp only[Nat.testBit_or,gG,Nat.testBit_two_pow,bB] at hb;rcases hb with (hb | hb) | hb
    ·simp_all
    ·exact .one f (hl e (by simp)) b hb
    ·exact .more f (hl e (by simp)) b rfl (d _ _ hb)
   simp_all
 grind
theorem En{ops:Array Oper}{i j:Nat}(h:((Rv ops.toList).getD j 0).testBit i=true):Dz ops i j:=by
 have g:∀(l pre:List Oper)(b:List Nat),ops.toList=pre++l->b.length=pre.length->(∀k i,(b.getD k 0).testBit i=true->Dz ops i k) ->
   ∀k i,((l.foldl (λb o=>b++[OG b o]) b).getD k 0).testBit i=true->Dz ops i k:=by
  intro l;induction l with
  |nil=>simp_all
  |cons o l ih=>
   intro pre b d e f k i h;simp only[List.foldl_cons] at h;refine ih (pre++[o]) (b++[OG b o]) (by simp_all) (by simp_all) ?_ k i h;intro k i hb;rw[yAY,yB7] at hb;split at hb
   ·simp_all
   ·rename_i hk;by_cases m:k=b.length
    ·subst m;simp at hb;refine Zw ?_ f hb;rw[<-Ve,d,e,OM (cN _)];simp
    grind
 exact g ops.toList [] [] rfl rfl (by simp) j i h
end Go.Abs
end
section
namespace Go.Abs
variable[Gl]
structure Tr (P:Program) (orc:fo) (ops:Array Oper) (os:List aG) (p0 n0:Nat) (env:Nat->List D) (sg:Nat->ar) (wrs:Nat->List Nat):Prop where
 len:os.length=ops.size
 comp:∀(j:Nat) ao,os[j]? = some ao->∃o,ops[j]? = some o/\bn P ops o=some ao
 step:∀(i:Nat) ao,os[i]? = some ao->eY P orc ao (env i) (sg i)=some (env (i+1),sg (i+1),wrs i)
 wrk:∀i,i<n0->kR (sg i) (sg (i+1)) (wrs i)=true
 le:n0<=os.length
 pair:∀(i j:Nat) x y,i<j->os[i]? = some x->os[j]? = some y->Dz ops i j\/apart (dx x (env i) (sg i).length (sg (i+1)).length (wrs i)) (dx y (env j) (sg j).length (sg (j+1)).length (wrs j))=true
 lead:∀i,i<p0->sg (i+1)=sg i/\wrs i=[]
 ple:p0<=n0
section
variable{P:Program}{orc:fo}{ops:Array Oper}{os:List aG}{p0 n0:Nat}{env:Nat->List D}{sg:Nat->ar}{wrs:Nat->List Nat}
theorem gU(O:mq P orc){ao:aG}{e e':List D}{σ σ':ar}{wr:List Nat}(h:eY P orc ao e σ=some (e',σ',wr)) :
  σ.length<=σ'.length/\(∀b,b<σ.length->b∉wr->σ'[b]? = σ[b]?)/\∃d,e'=oB e ao.dst d:=by
 unfold eY at h;split at h
 ·simp only[cB] at h;obtain ⟨⟨d,σ1,bY⟩,f,h⟩:=h;simp only[aX] at h;obtain ⟨rfl,rfl,rfl⟩:=h;obtain ⟨g,i⟩:=PI (O _) f
  grind
 ·grind
 simp_all
theorem Tr.at(T:Tr P orc ops os p0 n0 env sg wrs){i:Nat}(h:i<os.length):∃ao,os[i]? = some ao:=⟨_,eO h⟩
theorem Tr.frame(T:Tr P orc ops os p0 n0 env sg wrs)(O:mq P orc){i:Nat}(h:i<os.length) :
  (sg i).length<=(sg (i+1)).length/\∀b,b<(sg i).length->b∉wrs i->(sg (i+1))[b]? = (sg i)[b]?:=by
 obtain ⟨o,j⟩:=T.at h;obtain ⟨s,u,_⟩:=gU O (T.step i o j)
 simp_all
theorem Tr.sz1(T:Tr P orc ops os p0 n0 env sg wrs)(O:mq P orc){i:Nat}(h:i<n0):oq (sg i) (sg (i+1)):=by
 intro b s hb;have j:=(e_.1 hb).1;by_cases o:b∈wrs i
 ·have:=iK.1 (T.wrk i h) b o
  grind
 ·exact ⟨s,by rw[(T.frame O (GJ h T.le)).2 b j o];exact hb,rfl⟩
theorem Tr.sz(T:Tr P orc ops os p0 n0 env sg wrs)(O:mq P orc){m m':Nat}(h:m<=m')(s:m'<=n0):oq (sg m) (sg m'):=by
 induction m' with
 |zero=>grind [oq.refl]
 |succ k ih=>
  by_cases e:m=k+1
  ·grind [oq.refl]
  ·intro b i hb;obtain ⟨j,o,s1⟩:=ih (by omega) (by omega) b i hb;obtain ⟨u,x,z⟩:=T.sz1 O (by omega) b j o
   simp_all
theorem Tr.cE(T:Tr P orc ops os p0 n0 env sg wrs)(O:mq P orc){m m':Nat}(h:m<=m')(i:m'<=os.length):(sg m).length<=(sg m').length:=by
 induction m' with
 |zero=>simp_all
 |succ k ih=>
  by_cases e:m=k+1
  ·simp_all
  ·exact kI (ih (by omega) (by omega)) (T.frame O (by omega)).1
theorem Tr.VQ(T:Tr P orc ops os p0 n0 env sg wrs)(O:mq P orc){m m' b:Nat}(h:m<=m')(s:m'<=os.length)(hb:b<(sg m).length)(j:∀i,m<=i->i<m'->b∉wrs i) :
  (sg m')[b]? = (sg m)[b]?:=by
 induction m' with
 |zero=>simp_all
 |succ k ih=>
  by_cases e:m=k+1
  ·simp_all
  ·have o:=ih (by omega) (by omega) (λi hi hk=>j i hi (by omega));rw[<-o];exact (T.frame O (by omega)).2 b (GJ hb (T.cE O (by omega) (by omega))) (j k (by omega) (by omega))
theorem Tr.Cj(T:Tr P orc ops os p0 n0 env sg wrs)(O:mq P orc){m:Nat}(h:m<=os.length):(env m).length=(env 0).length:=by
 induction m with
 |zero=>rfl
 |succ k ih=>obtain ⟨o,j⟩:=T.at (i:=k) (by omega);obtain ⟨_,_,d,s⟩:=gU O (T.step k o j);rw[s,<-ih (by omega)];cases o.dst <;> simp[oB]
theorem Tr.An(T:Tr P orc ops os p0 n0 env sg wrs)(O:mq P orc){m m' t:Nat}(h:m<=m')(z:m'<=os.length)(o:∀i ao,m<=i->i<m'->os[i]? = some ao->ao.dst≠some t) :
  (env m')[t]? = (env m)[t]?:=by
 induction m' with
 |zero=>simp_all
 |succ k ih=>
  by_cases e:m=k+1
  ·simp_all
  ·rw[<-ih (by omega) (by omega) (λi ao hi hk=>o i ao hi (by omega))];obtain ⟨ao,j⟩:=T.at (i:=k) (by omega);obtain ⟨_,_,d,x⟩:=gU O (T.step k ao j);rw[x];have:=o k ao (by omega) (by omega) j;cases u:ao.dst with
   |none=>rfl
   |some s=>grind [oB]
structure Inv (os:List aG) (n0:Nat) (env:Nat->List D) (sg:Nat->ar) (wrs:Nat->List Nat) (M0:Nat->Option Nat) (Fz0:Nat->Prop) (w0:World) (uA:List Deferred)
  (S:Nat->Prop) (M:Nat->Option Nat) (Fz:Nat->Prop) (w:World) (a:Act):Prop where
 Vy:a.tmps.size=(env 0).length
 uA:a.defers=uA
 tmp:∀(t m:Nat),m<=n0->(∀i o,i<n0->os[i]? = some o->o.dst=some t->(i<m↔S i))->∀d v,(env m)[t]? = some d->a.tmps[t]? = some v->V (sg m) M Fz w d v
 own:∀b c,M b=some c->¬Fz c/\c<w.heap.size/\((b<(sg 0).length/\M0 b=some c)\/∃j,j<n0/\S j/\(sg j).length<=b/\b<(sg (j+1)).length)
 blk:∀b c,M b=some c->∀m ob,m<=n0->(sg m)[b]? = some ob->(∀i,i<n0->b∈wrs i->(i<m↔S i))->∃o,w.heap[c]? = some o/\ca (sg m) M Fz w ob o
 inj:∀b b' c,M b=some c->M b'=some c->b=b'
 fz:∀c,Fz c->c<w.heap.size
 Ce:LS M0 Fz0 w0 M Fz w
 gl0:Gl.ok Fz0 w0
theorem Inv.start{σ:ar}{M:Nat->Option Nat}{Fz:Nat->Prop}{w:World}{a:Act}(R:Rel σ M Fz w)(j:sg 0=σ)(E:dA σ M Fz w (env p0) a.tmps){S:Nat->Prop}(K:∀i,i<os.length->(S i↔i<p0))
  (T:Tr P orc ops os p0 n0 env sg wrs) (O:mq P orc):Inv os n0 env sg wrs M Fz w a.defers S M Fz w a:={
 Vy:=by rw[E.1,T.Cj O (kI T.ple T.le)]
 uA:=rfl
 tmp:=λt m x z d v h1 h2=>by
  have A:=T.le;have U:=T.ple;have Y:(env m)[t]? = (env p0)[t]?:=by
   rcases Nat.le_total m p0 with h | h
   ·exact (T.An O (m:=m) (m':=p0) (t:=t) h (by omega) (λi W hi F s X=>by have:=(z i W (by omega) s X).2 ((K i (by omega)).2 F);omega)).symm
   ·exact T.An O (m:=p0) (m':=m) (t:=t) h (by omega) (λi W hi Z s X=>by grind)
  rw[Y] at h1;have hv:V (sg 0) M Fz w d v:=j▸E.2 t d v h1 h2;exact hv.ext (T.sz O (RP m) x) LS.refl
 own:=λb c h=>by have hl:=R.lt h;exact ⟨(R.blk b c h).1,hl.2,.inl ⟨by simp_all,h⟩⟩
 blk:=λb c h m ob x u z=>by
  have hl:=R.lt h;have A:=T.le;have:=T.VQ O (m:=0) (m':=m) (b:=b) (by omega) (kI x T.le) (by simp_all) (λi _ hi hb=>by
   have G:=(K i (by omega)).1 ((z i (by omega) hb).1 hi);rw[(T.lead i G).2] at hb
   grind)
  rw[this,j] at u;obtain ⟨_,aa,o,h1,h2,G⟩:=R.blk b c h;rw[u] at h1;simp only[au] at h1;subst h1;exact ⟨o,h2,(j▸G:ca (sg 0) M Fz w ob o).ext (T.sz O (by omega) x) LS.refl⟩
 inj:=R.inj
 fz:=R.fz
 Ce:=LS.refl
 gl0:=R.gl }
theorem Inv.done{M0 M:Nat->Option Nat}{Fz0 Fz:Nat->Prop}{w0 w:World}{a:Act}{uA:List Deferred}{S:Nat->Prop}(I:Inv os n0 env sg wrs M0 Fz0 w0 uA S M Fz w a)(T:Tr P orc ops os p0 n0 env sg wrs)(O:mq P orc)
  (F:∀i,i<n0->S i) (G:∀b,M0 b≠none->b<(sg 0).length):Rel (sg n0) M Fz w/\dA (sg n0) M Fz w (env n0) a.tmps/\bF (sg 0) M0 Fz0 w0 (sg n0) M Fz w:=by
 refine ⟨⟨λb c h=>?_,I.inj,I.fz,Gl.mono I.Ce.fz I.gl0⟩,⟨by rw[I.Vy,T.Cj O T.le],λt d v u x=>I.tmp t n0 (cN _) (λi _ hi _ _=>⟨λ_=>F i hi,λ_=>hi⟩) d v u x⟩,?_⟩
 ·obtain ⟨u,x,s⟩:=I.own b c h;have hb:b<(sg n0).length:=by
   rcases s with ⟨s,_⟩ | ⟨j,K,_,_,s⟩
   ·exact GJ s (T.cE O (by omega) T.le)
   ·exact GJ s (T.cE O (by omega) T.le)
  have z:(sg n0)[b]? = some (sg n0)[b]:=eO hb;obtain ⟨o,X,Y⟩:=I.blk b c h n0 _ (cN _) z (λi hi _=>⟨λ_=>F i hi,λ_=>hi⟩)
  simp_all
 ·refine ⟨I.Ce.size,I.Ce.frame,λb c h=>?_,I.Ce.fz,λc h=>?_,I.Ce.rC,λb R hb=>?_,I.Ce.out⟩
  ·rcases I.Ce.lH b c h with h | h
   ·grind
   omega
  ·rcases I.Ce.ol c h with h | h
   ·simp_all
   omega
  ·obtain ⟨A,u,x⟩:=T.sz O (by omega) (cN n0) b R hb;refine ⟨A,u,by omega,λ_=>?_⟩;have U:=(e_.1 hb).1;cases W:M0 b with
   |some c=>exact I.Ce.ext b c W
   |none=>
    cases E:M b with
    |none=>rfl
    |some c=>
     obtain ⟨_,_,s⟩:=I.own b c E;rcases s with ⟨_,s⟩ | ⟨j,K,_,s,_⟩
     ·simp_all
     ·have:=T.cE O (m:=0) (m':=j) (by omega) (by have:=T.le;omega);omega
end
end Go.Abs
end
section
namespace Go.Abs
variable[Gl]
section
variable{P:Program}{orc:fo}{ops:Array Oper}{os:List aG}{p0 n0:Nat}{env:Nat->List D}{sg:Nat->ar}{wrs:Nat->List Nat}
variable{M0 M M':Nat->Option Nat}{Fz0 Fz Fz':Nat->Prop}{w0 w w':World}{a:Act}{uA:List Deferred}{S S':Nat->Prop}
theorem Tr.wr_lt(T:Tr P orc ops os p0 n0 env sg wrs){i b:Nat}(h:i<n0)(hb:b∈wrs i):b<(sg i).length:=by
 have:=iK.1 (T.wrk i h) b hb
 grind
theorem gu{x y:dZ}(h:apart x y=true) :
  (∀t,x.dst=some t->t∉y.rds)/\(∀t,y.dst=some t->t∉x.rds)/\(∀t,x.dst=some t->y.dst≠some t)/\safe x y.wr=true/\safe y x.wr=true /\
   (∀b∈y.wr,¬(x.lo≤b/\b<x.hi))/\(∀b∈x.wr,¬(y.lo≤b/\b<y.hi)):=by
 simp only [apart,bI] at h
 obtain ⟨⟨⟨⟨j,k⟩,l⟩,e,f⟩,g,i⟩:=h
 refine ⟨fun t d=>?_,fun t d=>?_,fun t d m=>?_,e,f,fun b hb=>?_,fun b hb=>?_⟩
 ·grind [disj]
 ·grind [disj]
 ·simp_all
 ·have:=iK.1 g b hb
  grind
 ·have:=iK.1 i b hb
  grind
theorem Tr.other(T:Tr P orc ops os p0 n0 env sg wrs)(G:fX ops S){k i:Nat}{x y:aG}(K:os[k]? = some x)(O:os[i]? = some y)(j:i≠k)(s:¬S k)
    (u:∀o e,ops[k]? = some o->e∈o.after->Region.binds .any e=true->S e.on) :
    (i<k/\S i)\/(k<i/\¬S i) \/
      ((∀t,y.dst=some t->t∉zG x)/\(∀t,x.dst=some t->y.dst≠some t) /\
        safe (dx x (env k) (sg k).length (sg (k+1)).length (wrs k)) (wrs i)=true/\safe (dx y (env i) (sg i).length (sg (i+1)).length (wrs i)) (wrs k)=true /\
        (∀b∈wrs i,¬((sg k).length≤b/\b<(sg (k+1)).length))):=by
  rcases Nat.lt_or_gt_of_ne j with h | h
  · rcases T.pair i k y x h O K with hb | hb
    · exact .inl ⟨h,hb.ready G u⟩
    · obtain ⟨R,_,z,A,E,_,U⟩:=gu hb
      exact .inr (.inr ⟨R,fun t W F=>z t F W,E,A,U⟩)
  · rcases T.pair k i x y h K O with hb | hb
    · exact .inr (.inl ⟨h,fun X=>s (hb.in G X)⟩)
    · obtain ⟨_,Y,z,A,E,Z,_⟩:=gu hb
      exact .inr (.inr ⟨Y,z,A,E,Z⟩)
theorem Inv.next(I:Inv os n0 env sg wrs M0 Fz0 w0 uA S M Fz w a)(T:Tr P orc ops os p0 n0 env sg wrs)(O:mq P orc)(hC:fX ops S){k:Nat}{ao:aG}{d:D}{v:Value}(hk:k<n0)(A:os[k]? = some ao)(X:¬S k)
  (Y:∀o e,ops[k]? = some o->e∈o.after->Region.binds .any e=true->S e.on) (E:∀i,S' i↔S i\/i=k) (st:LS M Fz w M' Fz' w') (F:env (k+1)=oB (env k) ao.dst d)
  (hv:V (sg (k+1)) M' Fz' w' d v) (G:∀b b' c,M' b=some c->M' b'=some c->b=b') (Z:∀c,Fz' c->c<w'.heap.size)
  (K:∀b c,M' b=some c->¬Fz' c/\c<w'.heap.size/\(M b=some c\/((sg k).length<=b/\b<(sg (k+1)).length)))
  (R:∀b c,M' b=some c->∀m ob,m<=n0->(sg m)[b]? = some ob->(∀i,i<n0->b∈wrs i->(i<m↔S' i))->∃o,w'.heap[c]? = some o/\ca (sg m) M' Fz' w' ob o) :
  Inv os n0 env sg wrs M0 Fz0 w0 uA S' M' Fz' w' (a.put ao.dst v):={
 Vy:=by rw[<-I.Vy];cases ao.dst <;> simp[Act.put]
 uA:=by rw[<-I.uA];cases ao.dst <;> rfl
 tmp:=λt m hm hc d' v' u h2=>by
  by_cases ht:ao.dst=some t
  ·have af:k<m:=(hc k ao hk A ht).2 ((E k).2 (.inr rfl));have aa:=T.An O (m:=k+1) (m':=m) (t:=t) (by omega) (kI hm T.le) (λi x hi ab hx U=>by
    have z:=(hc i x (by omega) hx U).1 ab;rcases (E i).1 z with z | z
    ·rcases T.other hC A hx (by omega) X Y with ⟨h,_⟩ | ⟨_,h⟩ | ⟨_,h,_⟩
     ·omega
     ·grind
     grind
    ·omega)
   rw[aa,F,ht] at u;rw[ht] at h2;simp only[oB,yBM] at u;simp only[Act.put,yAU] at h2;simp only[if_true] at u h2;split at u
   ·rename_i ak;rw[if_pos (by grind)] at h2;simp only[au] at u h2;subst u h2;exact hv.ext (T.sz O (by omega) hm) LS.refl
   grind
  ·have ad:a.tmps[t]? = some v':=by
    cases U:ao.dst with
    |none=>rw[U] at h2;exact h2
    |some s=>
     rw[U] at h2;simp only[Act.put,yAU] at h2
     grind
   refine (I.tmp t m hm (λi o hi ho U=>?_) d' v' u ad).ext oq.refl st
   grind
 own:=λb c h=>by
  obtain ⟨u,h2,W⟩:=K b c h;refine ⟨u,h2,?_⟩;rcases W with W | W
  ·rcases (I.own b c W).2.2 with h4 | ⟨j,hj,an,h4⟩
   ·simp_all
   grind
  grind
 blk:=R
 inj:=G
 fz:=Z
 Ce:=I.Ce.trans st
 gl0:=I.gl0 }
theorem Inv.aae(I:Inv os n0 env sg wrs M0 Fz0 w0 uA S M Fz w a)(T:Tr P orc ops os p0 n0 env sg wrs)(O:mq P orc)(F:fX ops S){k:Nat}{ao:aG}{d:D}{v:Value}(hk:k<n0)(s:os[k]? = some ao)(u:¬S k)
  (x:∀o e,ops[k]? = some o->e∈o.after->Region.binds .any e=true->S e.on) (z:∀i,S' i↔S i\/i=k) (j:env (k+1)=oB (env k) ao.dst d)
  (A:sg (k+1)=sg k) (G:wrs k=[]) (K:V (sg k) M Fz w d v):Inv os n0 env sg wrs M0 Fz0 w0 uA S' M Fz w (a.put ao.dst v):=by
 refine I.next T O F hk s u x z LS.refl j (A▸K) I.inj I.fz (λb c h=>⟨(I.own b c h).1,(I.own b c h).2.1,.inl h⟩) (λb c h m R U E W=>?_);refine I.blk b c h m R U E (λi hi hb=>?_)
 grind
theorem Inv.alloc(I:Inv os n0 env sg wrs M0 Fz0 w0 uA S M Fz w a)(T:Tr P orc ops os p0 n0 env sg wrs)(O:mq P orc)(hC:fX ops S){k:Nat}{ao:aG}{d:D}{v:Value}{ob:Ob}{o:Obj}(hk:k<n0)(F:os[k]? = some ao)(G:¬S k)
  (K:∀o e,ops[k]? = some o->e∈o.after->Region.binds .any e=true->S e.on) (R:∀i,S' i↔S i\/i=k) (U:env (k+1)=oB (env k) ao.dst d)
  (z:sg (k+1)=sg k++[ob]) (ak:wrs k=[]) (Y:ca (sg k++[ob]) (ym M (sg k).length w.heap.size) Fz (w.alloc o) ob o)
  (hv:V (sg k++[ob]) (ym M (sg k).length w.heap.size) Fz (w.alloc o) d v):Inv os n0 env sg wrs M0 Fz0 w0 uA S' (ym M (sg k).length w.heap.size) Fz (w.alloc o) (a.put ao.dst v):=by
 have X:M (sg k).length=none:=by
  cases h:M (sg k).length with
  |none=>rfl
  |some c=>
   rcases (I.own _ c h).2.2 with ⟨x,_⟩ | ⟨j,hj,an,x,A⟩
   ·have:=T.cE O (m:=0) (m':=k) (by omega) (by grind);omega
   ·have av:=T.le;rcases WI j k with W | W | W
    ·have:=T.cE O (m:=j+1) (m':=k) (by omega) (by omega);omega
    ·simp_all
    ·have:=T.cE O (m:=k+1) (m':=j) (by omega) (by omega)
     grind
 have st:LS M Fz w (ym M (sg k).length w.heap.size) Fz (w.alloc o):=by
  refine ⟨by simp,λc Z _=>yBX w o c Z,λb c h=>?_,λb c h=>?_,λc h=>⟨h,yBX w o c (I.fz c h)⟩,λc h=>.inl h,
   λc aa T fr h=>⟨aa,by grind [Go.heap_alloc_old],rfl⟩,⟨rfl,rfl,rfl⟩⟩
  ·unfold ym
   grind
  grind [ym]
 have s:∀b c,ym M (sg k).length w.heap.size b=some c->(b=(sg k).length/\c=w.heap.size)\/M b=some c:=by
  intro b c h;unfold ym at h
  grind
 refine I.next T O hC hk F G K R st U (z▸hv) (λb b' c h h'=>?_) (λc h=>by have:=I.fz c h;simp;omega) (λb c h=>?_) (λb c h m ab hm u Z=>?_)
 ·rcases s b c h with ⟨rfl,rfl⟩ | x <;> rcases s b' _ h' with ⟨rfl,A⟩ | A
  ·rfl
  ·have:=(I.own _ _ A).2.1;omega
  ·have:=(I.own _ _ x).2.1;omega
  ·exact I.inj b b' c x A
 ·rcases s b c h with ⟨rfl,rfl⟩ | x
  ·exact ⟨λhf=>by have:=I.fz _ hf;omega,by simp,.inr ⟨cN _,by simp_all⟩⟩
  ·obtain ⟨A,W,_⟩:=I.own b c x;exact ⟨A,by simp;omega,.inl x⟩
 ·rcases s b c h with ⟨rfl,rfl⟩ | x
  ·have ax:k<m:=by
    rcases th k m with h | h
    ·exact h
    ·have x:=T.cE O h (by grind)
     simp_all
   have ad:=T.VQ O (m:=k+1) (m':=m) (b:=(sg k).length) (by omega) (kI hm T.le) (by simp_all) (λi hi af hb=>by
    have E:=(Z i (by omega) hb).1 af;rcases (R i).1 E with E | E
    ·obtain ⟨y,hy⟩:=T.at (i:=i) (by have:=T.le;omega);rcases T.other hC F hy (by omega) G K with ⟨h,_⟩ | ⟨_,h⟩ | ⟨_,_,_,_,h⟩
     ·omega
     ·simp_all
     grind
    ·omega)
   rw[ad,z] at u;simp at u;subst u;refine ⟨o,heap_alloc_new w o,Y.ext ?_ LS.refl⟩;rw[<-z];exact T.sz O (by omega) hm
  ·obtain ⟨o',A,W⟩:=I.blk b c x m ab hm u (λi hi hb=>by
    grind)
   exact ⟨o',by grind [Go.heap_alloc_old],W.ext oq.refl st⟩
end
end Go.Abs
end
section
namespace Go.Abs
variable[Gl]
section
variable{P:Program}{orc:fo}{ops:Array Oper}{os:List aG}{p0 n0:Nat}{env:Nat->List D}{sg:Nat->ar}{wrs:Nat->List Nat}
variable{M0 M M':Nat->Option Nat}{Fz0 Fz Fz':Nat->Prop}{w0 w w':World}{a:Act}{uA:List Deferred}{S S':Nat->Prop}
theorem Tr.IH(T:Tr P orc ops os p0 n0 env sg wrs)(A:fX ops S){k i:Nat}{x:aG}(hk:k<n0)(E:os[k]? = some x)(j:¬S k)
  (s:∀o e,ops[k]? = some o->e∈o.after->Region.binds .any e=true->S e.on) (z:(dx x (env k) (sg k).length (sg (k+1)).length (wrs k)).cat=3) (hi:i<n0) (G:wrs i≠[]) (u:i≠k) :
  (i<k/\S i)\/(k<i/\¬S i):=by
 obtain ⟨y,F⟩:=T.at (i:=i) (by have:=T.le;omega);rcases T.other A E F u j s with h | h | ⟨_,_,h,_⟩
 ·simp_all
 ·simp_all
 grind [safe]
theorem Inv.rel(I:Inv os n0 env sg wrs M0 Fz0 w0 uA S M Fz w a)(T:Tr P orc ops os p0 n0 env sg wrs)(G:fX ops S){k:Nat}{x:aG}(hk:k<n0)(K:os[k]? = some x)(u:¬S k)
  (z:∀o e,ops[k]? = some o->e∈o.after->Region.binds .any e=true->S e.on) (j:(dx x (env k) (sg k).length (sg (k+1)).length (wrs k)).cat=3) :
  Rel (sg k) (dd M (sg k).length) Fz w:={
 blk:=λb c h=>by
  unfold dd at h;split at h
  ·rename_i hb;have s:(sg k)[b]? = some (sg k)[b]:=eO hb;obtain ⟨o,h1,A⟩:=I.blk b c h k _ (by omega) s (λi hi O=>by
    by_cases E:i=k
    ·simp_all
    ·rcases T.IH G hk K u z j hi (λU=>by simp_all) E with ⟨h1,A⟩ | ⟨h1,A⟩
     ·simp_all
     grind)
   exact ⟨(I.own b c h).1,_,o,s,h1,A.cut⟩
  simp_all
 inj:=λb R c h F=>by
  unfold dd at h F;split at h
  ·split at F
   ·exact I.inj b R c h F
   simp_all
  simp_all
 fz:=I.fz
 gl:=Gl.mono I.Ce.fz I.gl0 }
theorem Inv.IH(I:Inv os n0 env sg wrs M0 Fz0 w0 uA S M Fz w a)(T:Tr P orc ops os p0 n0 env sg wrs)(O:mq P orc)(hC:fX ops S){k:Nat}{ao:aG}{d:D}{v:Value}{W:Nat->Option Nat}{E:Nat->Prop}{w1:World}(hk:k<n0)(ad:os[k]? = some ao)(af:¬S k)
  (ak:∀o e,ops[k]? = some o->e∈o.after->Region.binds .any e=true->S e.on) (an:∀i,S' i↔S i\/i=k) (av:env (k+1)=oB (env k) ao.dst d)
  (ax:(dx ao (env k) (sg k).length (sg (k+1)).length (wrs k)).cat=3) (X:Rel (sg (k+1)) W E w1) (hv:V (sg (k+1)) W E w1 d v) (R:bF (sg k) (dd M (sg k).length) Fz w (sg (k+1)) W E w1) :
  ∃M',Inv os n0 env sg wrs M0 Fz0 w0 uA S' M' E w1 (a.put ao.dst v):=by
 have bd:=T.le;have hL:=(T.frame O (i:=k) (by omega)).1;have f1:∀b,b<(sg k).length->W b=M b:=by intro b hb;obtain ⟨be,s,_,x⟩:=R.keep b _ (eO hb);obtain ⟨bh,u,U⟩:=T.sz1 O hk b _ (eO hb);rw[s] at u;simp only[au] at u;subst u;rw[x U];simp only[dd,if_pos hb]
 have f2:∀b,(sg k).length<=b->b<(sg (k+1)).length->M b=none:=by
  intro b s x;cases h:M b with
  |none=>rfl
  |some c=>
   rcases (I.own b c h).2.2 with ⟨u,_⟩ | ⟨j,hj,bi,u,U⟩
   ·have:=T.cE O (m:=0) (m':=k) (by omega) (by omega);omega
   ·rcases WI j k with Y | Y | Y
    ·have:=T.cE O (m:=j+1) (m':=k) (by omega) (by omega);omega
    ·simp_all
    ·have:=T.cE O (m:=k+1) (m':=j) (by omega) (by omega);omega
 have f3:∀b c,W b=some c->b<(sg k).length\/w.heap.size<=c:=by
  intro b c h;by_cases hb:b<(sg k).length
  ·omega
  ·right;rcases R.lH b c h with ⟨b0,Z⟩ | Z
   ·exfalso;unfold dd at Z;split at Z
    ·rename_i a5;have:=X.inj b b0 c h (by simp_all);omega
    simp_all
   omega
 let M':Nat->Option Nat:=λb=>if b<(sg (k+1)).length then W b else M b
 have F:∀b,b<(sg (k+1)).length->M' b=W b:=λb h=>by grind
 have G:∀b,¬b<(sg (k+1)).length->M' b=M b:=λb h=>by grind
 have K:∀b c,W b=some c->M' b=some c:=λb c h=>by rw[F b (X.lt h).1];exact h
 have ol:∀c,E c->Fz c\/w.heap.size<=c:=by
  intro c h;rcases R.ol c h with h | ⟨b,s⟩ | h
  ·simp_all
  ·exfalso;unfold dd at s;split at s
   ·rename_i hb;exact (X.blk b c (by simp_all)).1 h
   simp_all
  omega
 have st:LS M Fz w M' E w1:=by
  refine ⟨R.size,λc hc hn=>R.frame c hc (λb hb=>?_),λb c h=>?_,λb c h=>?_,R.fz,ol,R.rC,R.out⟩
  ·grind [dd]
  ·grind
  grind
 refine ⟨M',I.next T O hC hk ad af ak an st av (hv.sub oq.refl K (λc h=>⟨h,rfl⟩) (λc a6 T fr h=>⟨a6,h,rfl⟩)) (λb A c h h'=>?_) X.fz (λb c h=>?_) (λb c h m ob hm z hc=>?_)⟩
 ·have a7:∀b A,b<(sg (k+1)).length->¬A<(sg (k+1)).length->M' b=some c->M' A=some c->b=A:=by
   intro b A s x u U;rw[F b s] at u;rw[G A x] at U;rcases f3 b c u with Y | Y
   ·rw[f1 b Y] at u;exact I.inj b A c u U
   ·have:=(I.own A c U).2.1;omega
  by_cases s:b<(sg (k+1)).length
  ·by_cases x:A<(sg (k+1)).length
   ·rw[F b s] at h;rw[F A x] at h';exact X.inj b A c h h'
   grind
  ·by_cases x:A<(sg (k+1)).length
   ·grind
   ·rw[G b s] at h;rw[G A x] at h';exact I.inj b A c h h'
 ·by_cases s:b<(sg (k+1)).length
  ·rw[F b s] at h;refine ⟨(X.blk b c h).1,(X.lt h).2,?_⟩
   grind
  ·rw[G b s] at h;obtain ⟨x,u,_⟩:=I.own b c h;refine ⟨λhf=>?_,GJ u R.size,.inl h⟩
   grind
 ·have a0:b∉wrs k->∀i,i<n0->b∈wrs i->(i<m↔S i):=by
   grind
  by_cases s:b<(sg (k+1)).length
  ·rw[F b s] at h;have a2:∀i,i<n0->b∈wrs i->i≠k->(i<k/\S i)\/(k<i/\¬S i):=λi hi hb a8=>T.IH hC hk ad af ak ax hi (λhe=>by simp_all) a8;obtain ⟨_,bk,o1,x,u,U⟩:=X.blk b c h;by_cases a9:k<m
   ·have aa:=T.VQ O (m:=k+1) (m':=m) (b:=b) (by omega) (kI hm T.le) s (λi hi bb hb=>by
     grind)
    rw[aa,x] at z;simp only[au] at z;subst z;exact ⟨o1,u,U.sub (T.sz O (by omega) hm) K⟩
   ·have a1:=(e_.1 z).1;have ab:b∉wrs k:=λhb=>a9 ((hc k hk hb).2 ((an k).2 (.inr rfl)));have aa:=T.VQ O (m:=m) (m':=k+1) (b:=b) (by omega) (by omega) a1 (λi hi bb hb=>by
     grind)
    rw[aa,z] at x;simp only[au] at x;subst x;have bc:b<(sg k).length:=GJ a1 (T.cE O (by omega) (by omega));rw[f1 b bc] at h;obtain ⟨o0,_,Y⟩:=I.blk b c h m ob hm z (a0 ab);exact ⟨o1,u,(U.down (T.sz O (by omega) (by omega)) Y).sub oq.refl K⟩
  ·rw[G b s] at h;have ab:b∉wrs k:=λhb=>by have:=T.wr_lt hk hb;omega
   obtain ⟨o,x,u⟩:=I.blk b c h m ob hm z (a0 ab);refine ⟨o,?_,u.ext oq.refl st⟩;rw[R.frame c (I.own b c h).2.1 (λb0 Z=>?_)]
   ·exact x
   ·unfold dd at Z;split at Z
    ·rename_i a5;have:=I.inj b0 b c Z h;omega
    simp_all
def kh(T:List Nat)(e:List D):List D:=e.mapIdx λi d=>if T.contains i then d else .any
theorem rp{T:List Nat}{e:List D}{i:Nat}:(kh T e)[i]? = (e[i]?).map λd=>if T.contains i then d else .any:=by simp[kh,List.getElem?_mapIdx]
theorem Bz{T:List Nat}{e:List D}{x:aT}(h:∀n,x=.t n->n∈T):x.ev (kh T e)=x.ev e:=by
 cases x with
 |k d=>rfl
 |t n=>
  simp only[aT.ev,rp]
  simp_all
theorem Inv.step(I:Inv os n0 env sg wrs M0 Fz0 w0 uA S M Fz w a)(T:Tr P orc ops os p0 n0 env sg wrs)(O:mq P orc)(Y:fX ops S){k:Nat}{Q:Exit->Act->World->Prop}(hk:k<n0)(E:¬S k)
  (F:∀o e,ops[k]? = some o->e∈o.after->Region.binds .any e=true->S e.on) (W:∀i,S' i↔S i\/i=k) (K:Act->World->Prop)
  (hK:∀a' w' M' Fz',Inv os n0 env sg wrs M0 Fz0 w0 uA S' M' Fz' w' a'->K a' w'):wpOp P ops Q k K a w:=by
 have bc:=T.le;obtain ⟨ao,z⟩:=T.at (i:=k) (by omega);obtain ⟨o,ho,X⟩:=T.comp k ao z;have u:=T.step k ao z;have hE:dA (sg k) M Fz w (kh (zG ao) (env k)) a.tmps:=by
  refine ⟨by rw[I.Vy,<-T.Cj O (m:=k) (by omega)];simp[kh],λi d v Z h2=>?_⟩;rw[rp] at Z;simp only[cB] at Z;obtain ⟨d0,h3,h4⟩:=Z;by_cases ht:(zG ao).contains i=true
  ·rw[if_pos ht] at h4;subst h4;refine I.tmp i k (by omega) (λj x hj hx hd=>?_) d0 v h3 h2;by_cases a0:j=k
   ·simp_all
   ·rcases T.other Y z hx a0 E F with ⟨h5,h6⟩ | ⟨h5,h6⟩ | ⟨h5,_⟩
    ·simp_all
    ·grind
    simp_all
  ·rw[if_neg ht] at h4;subst h4;exact .any v
 have aa:hZ (kh (zG ao) (env k)) ao.g=hZ (env k) ao.g:=by
  cases hg:ao.g with
  |none=>rfl
  |some p=>
   obtain ⟨t,a9⟩:=p;have:(zG ao).contains t=true:=by grind [zG]
   simp only[hZ,rp,this,if_true]
   simp_all
 unfold bn at X;split at X
 ·rename_i g s hg G;simp only[au] at X;subst X;simp only at u aa hE;have ab:br P (orc o.dst) s (kh (zG ⟨o.dst,s,g⟩) (env k)) (sg k)=br P (orc o.dst) s (env k) (sg k):=by
   refine zM (n_ G) (λx hx=>Bz (λn hn=>?_));subst hn;simp only[zG,kB,List.mem_filterMap]
   grind
  unfold eY at u;split at u
  ·rename_i hw;simp only at hw;have U:=oK (σ:=sg k) (M:=M) (Fz:=Fz) (w:=w) (ops:=ops) (o:=o) hE hg (by rw[aa];exact hw);simp only[cB] at u;obtain ⟨⟨d,σ1,bY⟩,a1,h⟩:=u;simp only[aX] at h;obtain ⟨A,ad,af⟩:=h;subst ad af;have a2:(dx ⟨o.dst,s,g⟩ (env k) (sg k).length (sg (k+1)).length (wrs k)).cat=cat s:=by grind [dx]
   unfold wpOp;rw[ho];simp only[U,if_true];left;have IH:cat s=3->o.wp P a w K Q:=by
    intro a5;have R:=I.rel T Y hk z E F (by omega);have a6:dA (sg k) (dd M (sg k).length) Fz w (kh (zG ⟨o.dst,s,g⟩) (env k)) a.tmps:=⟨hE.1,λi d v Z h2=>(hE.2 i d v Z h2).cut⟩;refine Oo (O o.dst) R a6 G (by rw[ab];exact a1) K λv w1 M1 bd R1 hv EV _=>?_;obtain ⟨M',hI⟩:=I.IH (ao:=⟨o.dst,s,g⟩) T O Y hk z E F W A.symm (by omega) R1 hv EV
    grind
   rcases uX G with ⟨f,args,be,of,bh,_,_,_,rfl⟩ | ⟨a7,ak,_⟩
   ·exact IH rfl
   ·have av:br P (orc o.dst) s (kh (zG ⟨o.dst,s,g⟩) (env k)) (sg k)=some (d,sg (k+1),wrs k):=by simp_all
    have out:=EE (M:=M) (Fz:=Fz) (w:=w) (Gl.mono I.Ce.fz I.gl0) hE a7 ak av;generalize ax:sg (k+1)=s1 at out;generalize an:wrs k=w1 at out;cases out with
    |y _ hy=>obtain ⟨v,hr,hv⟩:=hy;unfold Oper.wp;rw[hr];exact hK _ _ M Fz (I.aae (ao:=⟨o.dst,s,g⟩) T O Y hk z E F W A.symm ax an hv)
    |l bi bk hy=>
     obtain ⟨v,hr,hv⟩:=hy (λb off sz c cs bl hM hb=>by
      obtain ⟨o',Z,h2⟩:=I.blk b c hM k _ (by omega) hb (λi hi bt=>by
       by_cases a8:i=k
       ·simp_all
       ·obtain ⟨y,hy⟩:=T.at (i:=i) (by omega);rcases T.other Y z hy a8 E F with ⟨h5,h6⟩ | ⟨h5,h6⟩ | ⟨_,_,h5,_⟩
        ·simp_all
        ·grind
        ·exfalso;have bb:(dx ⟨o.dst,s,g⟩ (env k) (sg k).length (sg (k+1)).length (wrs k)).blk=some b:=by
          have:Xm s (env k)=Xm s (kh (zG ⟨o.dst,s,g⟩) (env k)):=by
           cases s with
           |load n x=>grind [Xm,Bz,zG,tn]
           |_=>rfl
          grind [dx]
         grind [safe])
      obtain ⟨bu,T',rfl,h3,h4⟩:=h2
      grind)
     unfold Oper.wp;rw[hr];exact hK _ _ M Fz (I.aae (ao:=⟨o.dst,s,g⟩) T O Y hk z E F W A.symm (by simp_all) an hv)
    |a _ hy=>obtain ⟨bv,v,hr,Z,hv⟩:=hy I.fz;unfold Oper.wp;rw[hr];exact hK _ _ _ Fz (I.alloc (ao:=⟨o.dst,s,g⟩) T O Y hk z E F W A.symm ax an Z hv)
    |g a5 _=>simp_all
  ·rename_i hw;simp only at hw;have U:=oK (σ:=sg k) (M:=M) (Fz:=Fz) (w:=w) (ops:=ops) (o:=o) hE hg (by rw[aa];exact hw);simp only[au,aX] at u;obtain ⟨A,ad,af⟩:=u;unfold wpOp;rw[ho];simp only[U,b_,cA];exact hK _ _ M Fz (I.aae (ao:=⟨o.dst,s,g⟩) T O Y hk z E F W A.symm ad.symm af.symm V.undef)
  simp_all
 simp_all
end
end Go.Abs
end
section
namespace Go.Abs
variable[Gl]
section
variable{P:Program}{orc:fo}{ops:Array Oper}{os:List aG}{p0 n0:Nat}{env:Nat->List D}{sg:Nat->ar}{wrs:Nat->List Nat}
variable{M:Nat->Option Nat}{Fz:Nat->Prop}{w:World}{a:Act}
def UZ(N:Nat)(listed:Array Bool):Nat:=((List.range N).filter λj=>!listed.getD j false).length
def gF(listed:Array Bool)(i:Nat):Prop:=listed.getD i false=true
theorem JD{listed:Array Bool}{k:Nat}(hk:k<listed.size)(i:Nat):gF (listed.setIfInBounds k true) i↔gF listed i\/i=k:=by
 unfold gF;by_cases h:k=i
 ·simp_all
 ·rw[getD_set_ne false h]
  grind
theorem Eh{N:Nat}{listed:Array Bool}{k:Nat}(hs:k<listed.size)(hk:k<N)(b:¬gF listed k):UZ N (listed.setIfInBounds k true)<UZ N listed:=by
 unfold UZ;have e:(List.range N).filter (λj=>!(listed.setIfInBounds k true).getD j false)=((List.range N).filter λj=>!listed.getD j false).filter λj=>j != k:=by
  rw[List.filter_filter];apply List.filter_congr;intro j _;have:=JD hs (i:=j);unfold gF at this
  grind
 rw[e,List.length_filter_lt_length_iff_exists]
 grind [gF]
theorem vA{N:Nat}{listed:Array Bool}(h:UZ N listed=0):∀i,i<N->gF listed i:=by grind [UZ,List.filter_eq_nil_iff,gF]
theorem Uz{N:Nat}{listed:Array Bool}(h:∃i,i<N/\¬gF listed i):∃i,i<N/\¬gF listed i/\∀j,j<i->gF listed j:=by
 obtain ⟨i,hi,b⟩:=h;induction i using Nat.strongRecOn with
 |_ i ih=>grind
theorem yX{listed:Array Bool}(g:listed.size=ops.size)(b:∀(j:Nat) o e,ops[j]? = some o->e∈o.after->Region.binds .any e=true->e.on<j)
  (h:Region.ready .any ops listed=[]):∀i,i<ops.size->gF listed i:=by
 intro i hi;refine Classical.byContradiction λk=>?_;obtain ⟨j,l,m,d⟩:=Uz (N:=ops.size) ⟨i,hi,k⟩;have f:ops[j]? = some ops[j]:=rE l;have:j∈Region.ready .any ops listed:=by
  rw[mem_ready];refine ⟨?_,ops[j],f,λe p hb=>d e.on (b j _ e f p hb)⟩
  grind [gF]
 simp_all
theorem cnt_ge(n0:Nat):∀m,((List.range (n0+m)).filter (λj=>decide (n0<=j))).length=m:=by
 intro m;induction m with
 |zero=>simp_all
 |succ m ih=>grind [List.range_succ]
theorem iT(m j:Nat):(Array.replicate m false).getD j false=false:=by
 simp only[yBb,yCw]
 grind
theorem Tp(O:mq P orc)(T:Tr P orc ops os p0 n0 env sg wrs)(r:∀i j,p0<=i->i<j->n0<=j->j<os.length->Dz ops i j)(g:∀(j:Nat) o e,ops[j]? = some o->e∈o.after->Region.binds .any e=true->e.on<j){Q:Exit->Act->World->Prop}
  (Z:∀f w' M' Fz',f.defers=a.defers->Rel (sg os.length) M' Fz' w'->dA (sg os.length) M' Fz' w' (env os.length) f.tmps->bF (sg 0) M Fz w (sg os.length) M' Fz' w'->Q .normal f w') :
  ∀ (b : Nat) (listed : Array Bool) (k : Nat) (M' : Nat -> Option Nat) (Fz' : Nat -> Prop) (w' : World) (f : Act), listed.size = ops.size -> n0 <= k -> k <= os.length -> (∀ i, i < ops.size -> (gF listed i ↔ i < k)) -> os.length - k <= b -> f.defers = a.defers ->
   Rel (sg k) M' Fz' w'->dA (sg k) M' Fz' w' (env k) f.tmps->bF (sg 0) M Fz w (sg k) M' Fz' w'->wpAny P .any ops Q b listed f w':=by
 have F:=T.len;intro b;induction b with
 |zero=>
  intro listed k M' Fz' w' f m hk s hS hf G R E t;have p:k=os.length:=by omega
  subst p;refine ⟨?_,Z f w' M' Fz' G R E t⟩;cases K:Region.ready .any ops listed with
  |nil=>rfl
  |cons j l=>
   have hm:j∈Region.ready .any ops listed:=by simp_all
   rw[mem_ready] at hm
   grind [gF]
 |succ b ih=>
  intro listed k M' Fz' w' f m hk s hS hf G R E t;refine ⟨λK=>?_,λj L=>?_⟩
  ·have N:=yX m g K;have p:k=os.length:=by
    rcases th k os.length with h | h
    ·grind
    ·omega
   grind
  ·rw[mem_ready] at L;obtain ⟨h1,o,U,u⟩:=L;have aa:j<ops.size:=(DQ.1 U).1;have hC:fX ops (gF listed):=by
    intro i W e hi d X hb
    grind
   have ab:¬gF listed j:=by grind [gF]
   have ad:k<=j:=by simp_all
   have v:j=k:=by
    rcases th k j with h | h
    ·have hb:=r k j (by have:=T.ple;omega) h (by omega) (by omega);have:=hb.ready hC (λW e d X x=>by rw[U] at d;simp only[au] at d;subst d;exact u e X x)
     grind
    ·omega
   subst v;obtain ⟨Y,q⟩:=T.at (i:=j) (by omega);obtain ⟨W,d,y⟩:=T.comp j Y q;refine Em O R E d y (T.step j Y q) _ λa1 w1 M1 z af R1 E1 A ak=>?_;refine ih (listed.setIfInBounds j true) (j+1) M1 z w1 a1 (by grind) (by omega) (by omega) (λi hi=>?_) (by omega) (by simp_all) R1 E1 (t.trans A (T.cE O (by omega) (by omega)))
   grind [JD]
theorem XU(O:mq P orc)(T:Tr P orc ops os p0 n0 env sg wrs)(t:∀i j,p0<=i->i<j->n0<=j->j<os.length->Dz ops i j)(g:∀(j:Nat) o e,ops[j]? = some o->e∈o.after->Region.binds .any e=true->e.on<j)(R:Rel (sg 0) M Fz w)(E:dA (sg 0) M Fz w (env p0) a.tmps){Q:Exit->Act->World->Prop}
  (hQ:∀p w' M' Fz',p.defers=a.defers->Rel (sg os.length) M' Fz' w'->dA (sg os.length) M' Fz' w' (env os.length) p.tmps->bF (sg 0) M Fz w (sg os.length) M' Fz' w'->Q .normal p w') :
  wpAny P .any ops Q (ops.size-p0) (OP ops.size p0) a w:=by
 have an:=T.ple;have av:=T.len;have x:=T.le;have q:∀b,M b≠none->b<(sg 0).length:=λb h=>by
  cases hM:M b with
  |none=>simp_all
  |some c=>exact (R.lt hM).1
 have y:∀(d:Nat)(listed:Array Bool)(M':Nat->Option Nat)(Fz':Nat->Prop)(w':World)(p:Act),listed.size=ops.size->UZ ops.size listed<=d->fX ops (gF listed)->(∀i,i<p0->gF listed i)->(∀i,gF listed i->i<n0) ->
   Inv os n0 env sg wrs M Fz w a.defers (gF listed) M' Fz' w' p->wpAny P .any ops Q d listed p w':=by
  intro d;induction d with
  |zero=>
   intro listed M' Fz' w' p l hu K z u I;have r:=vA (N:=ops.size) (listed:=listed) (by omega);have hn:n0=os.length:=by
    rcases th n0 os.length with h | h
    ·grind
    ·omega
   obtain ⟨U,W,v⟩:=I.done T O (λi hi=>r i (by omega)) q;refine Tp O T t g hQ 0 listed n0 M' Fz' w' p l (cN _) x (λi hi=>⟨λh=>u i h,λ_=>r i hi⟩) (by omega) I.uA U W v
  |succ d ih=>
   intro listed M' Fz' w' p l hu K z u I;by_cases f:∀i,i<n0->gF listed i
   ·obtain ⟨U,W,v⟩:=I.done T O f q;refine Tp O T t g hQ (d+1) listed n0 M' Fz' w' p l (cN _) x (λi hi=>⟨λh=>u i h,λh=>f i h⟩) ?_ I.uA U W v;have:os.length-n0<=UZ ops.size listed:=by
     unfold UZ;have e:(List.range ops.size).filter (λj=>!listed.getD j false)=(List.range ops.size).filter (λj=>decide (n0<=j)):=by
      apply List.filter_congr
      grind [gF]
     rw[e,show ops.size=n0+(os.length-n0) from by omega,cnt_ge];omega
    omega
   ·refine ⟨λhr=>?_,λj X=>?_⟩
    ·grind [yX]
    ·rw[mem_ready] at X;obtain ⟨h1,o,Y,Z⟩:=X;have aa:j<ops.size:=(DQ.1 Y).1;have A:¬gF listed j:=by
      grind [gF]
     have s:∀F e,ops[j]? = some F->e∈F.after->Region.binds .any e=true->gF listed e.on:=λF e m L ab=>by rw[Y] at m;simp only[au] at m;subst m;exact Z e L ab
     have ad:j<n0:=by
      rcases th j n0 with h | h
      ·exact h
      ·refine absurd (λi hi=>?_) f;rcases th i p0 with G | G
       ·simp_all
       ·exact (t i j G (by omega) h (by omega)).ready K s
     refine I.step (S':=gF (listed.setIfInBounds j true)) T O K ad A s (λi=>JD (by omega) i) _ λa1 w1 M1 af I1=>?_;refine ih (listed.setIfInBounds j true) M1 af w1 a1 (by grind) ?_ ?_ (λi hi=>(JD (by omega) i).2 (.inl (z i hi))) ?_ I1
     ·have:=Eh (N:=ops.size) (listed:=listed) (k:=j) (by omega) aa A;omega
     ·intro i F e hi m L hb;rw[JD (by omega)] at hi ⊢;rcases hi with hi | rfl
      ·exact .inl (K i F e hi m L hb)
      simp_all
     grind [JD]
 have l:∀k,(OP ops.size k).size=ops.size:=by
  intro k;induction k with
  |zero=>simp[OP]
  |succ k ih=>grind [OP]
 have hl:∀k i,i<ops.size->(gF (OP ops.size k) i↔i<k):=by
  intro k;induction k with
  |zero=>grind [OP,gF,iT]
  |succ k ih=>
   intro i hi;by_cases hk:k<ops.size
   ·grind [OP,JD]
   grind [OP]
 have ax:∀i,gF (OP ops.size p0) i->i<ops.size:=by grind [gF]
 have ak:∀k,k<=ops.size->UZ ops.size (OP ops.size k)<=ops.size-k:=by
  intro k;induction k with
  |zero=>grind [UZ]
  |succ k ih=>
   intro hk;have:=Eh (N:=ops.size) (listed:=OP ops.size k) (k:=k) (by grind) (by omega) (λh=>by grind)
   grind [OP]
 refine y (ops.size-p0) _ M Fz w a (l _) (ak p0 (by omega)) ?_ (λi hi=>(hl p0 i (by omega)).2 hi) (λi hi=>?_) (Inv.start R rfl E (λi hi=>hl p0 i (by omega)) T O)
 ·intro j o e X Y L hb
  grind
 grind
end
end Go.Abs
end
section
namespace Go.Abs
variable[Gl]
def zI:oe->Exit
 |.normal=>.normal
 |.exit i=>if i % 2=0 then .exit (i / 2) else .goto (i / 2)
 |.ret=>.ret
theorem Nw(i:Nat):zI (.exit (2 * i))=.exit i:=by
 show (if 2 * i % 2=0 then Exit.exit (2 * i / 2) else Exit.goto (2 * i / 2))=_
 simp_all
theorem My(i:Nat):zI (.exit (2 * i+1))=.goto i:=by
 show (if (2 * i+1) % 2=0 then Exit.exit ((2 * i+1) / 2) else Exit.goto ((2 * i+1) / 2))=_
 grind
theorem Cq{i:Nat}(h:i % 2=0):zI (.exit i)=.exit (i / 2):=if_pos h
theorem Tx{i:Nat}(h:¬i % 2=0):zI (.exit i)=.goto (i / 2):=if_neg h
theorem qz{i:Nat}{R:Act->World->Prop}{Q:Exit->Act->World->Prop}{a:Act}{w:World}(h:Q (zI (.exit i)) a w):Exit.then R Q (zI (.exit i)) a w:=by
 by_cases b:i % 2=0
 ·rw[Cq b] at h ⊢;exact h
 ·rw[Tx b] at h ⊢;exact h
theorem Ew{id:Nat}{Q:Exit->Act->World->Prop}{a:Act}{w:World}(h:Q .normal a w):Exit.inBlock id Q (zI (.exit (2 * id))) a w:=by rw[Nw];simp only[Exit.inBlock,if_true];exact h
theorem Dl{i id:Nat}{Q:Exit->Act->World->Prop}{a:Act}{w:World}(hi:i≠2 * id)(h:Q (zI (.exit i)) a w):Exit.inBlock id Q (zI (.exit i)) a w:=by
 by_cases b:i % 2=0
 ·rw[Cq b] at h ⊢;simp only[Exit.inBlock]
  grind
 ·rw[Tx b] at h ⊢;exact h
section
variable{P:Program}{orc:fo}
theorem Ul{n:Nat}:∀(os:List aG)(n:Nat)(e e':List D)(σ σ':ar)(b:List dZ),lM P orc n os e σ=some (e',σ',b) ->
  ∃ (env : Nat -> List D) (sg : Nat -> ar) (wrs : Nat -> List Nat), env 0 = e /\ sg 0 = σ /\ env os.length = e' /\ sg os.length = σ' /\ b.length = os.length /\
   (∀(i:Nat) ao,os[i]? = some ao->eY P orc ao (env i) (sg i)=some (env (i+1),sg (i+1),wrs i)/\b[i]? = some (dx ao (env i) (sg i).length (sg (i+1)).length (wrs i))) /\
   (∀i,i<os.length->i<n->kR (sg i) (sg (i+1)) (wrs i)=true):=by
 intro os;induction os with
 |nil=>intro n e e' σ σ' b h;simp only[lM,au,aX] at h;obtain ⟨rfl,rfl,rfl⟩:=h;exact ⟨λ_=>e,λ_=>σ,λ_=>[],rfl,rfl,rfl,rfl,rfl,λi ao h=>by simp at h,λi h=>by simp at h⟩
 |cons o os ih=>
  intro n e e' σ σ' b h;simp only[lM] at h;split at h
  ·rename_i f σ1 w1 p;split at h
   ·rename_i q;split at h
    ·rename_i g aD d j;simp only[au,aX] at h;obtain ⟨rfl,rfl,rfl⟩:=h;obtain ⟨env,sg,wrs,r,s,k,l,m,t,u⟩:=ih (n-1) f g σ1 aD d j;refine ⟨λi=>match i with | 0=>e | i+1=>env i,λi=>match i with | 0=>σ | i+1=>sg i,λi=>match i with | 0=>w1 | i+1=>wrs i,rfl,rfl,k,l,by simp[m],λi ao hi=>?_,λi hi v=>?_⟩
     ·grind
     grind
    simp_all
   simp_all
  simp_all
theorem wA{ops:Array Oper}(h:Be ops.toList=true)(j:Nat)(o:Oper)(e:Edge)(b:ops[j]? = some o)(d:e∈o.after)(hb:Region.binds .any e=true):e.on<j:=by
 have f:j<ops.size:=(DQ.1 b).1;have g:=iK.1 h j (by simp_all)
 grind
theorem LV{α d:Type}{f:α->Option d}:∀{l:List α}{r:List d},l.mapM f=some r->r.length=l.length/\∀(i:Nat) b,r[i]? = some b->∃a,l[i]? = some a/\f a=some b:=by
 intro l;induction l with
 |nil=>simp_all
 |cons a l ih=>grind [Option.bind_eq_some_iff]
theorem NM(O:mq P orc):∀(os:List aG)(e e':List D)(σ σ':ar)(wr:List Nat),kc P orc os e σ=some (e',σ',wr)->σ.length<=σ'.length/\∀b,b<σ.length->b∉wr->σ'[b]? = σ[b]?:=by
 intro os;induction os with
 |nil=>
  intro e e' σ σ' wr h;simp only[kc,au,aX] at h
  simp_all
 |cons o os ih=>
  intro e e' σ σ' wr h;simp only[kc] at h;split at h
  ·rename_i f σ1 w1 d;split at h
   ·rename_i g aD w2 i;simp only[au,aX] at h;obtain ⟨rfl,rfl,rfl⟩:=h;obtain ⟨j,k,_⟩:=gU O d
    grind
   simp_all
  simp_all
theorem Ez(O:mq P orc):∀(os:List aG)(n:Nat)(e e':List D)(σ σ':ar)(d:List dZ),lM P orc n os e σ=some (e',σ',d) ->
  σ.length<=σ'.length/\∀b,b<σ.length->b∉d.flatMap (·.wr)->σ'[b]? = σ[b]?:=by
 intro os;induction os with
 |nil=>
  intro n e e' σ σ' d h;simp only[lM,au,aX] at h
  simp_all
 |cons o os ih=>
  intro n e e' σ σ' d h;simp only[lM] at h;split at h
  ·rename_i i σ1 w1 j;split at h
   ·split at h
    ·rename_i k aD f l;simp only[au,aX] at h;obtain ⟨rfl,rfl,rfl⟩:=h;obtain ⟨m,p,_⟩:=gU O j;obtain ⟨q,r⟩:=ih _ i k σ1 aD f l;refine ⟨kI m q,λb hb g=>?_⟩;simp only[yBN,kB,not_or] at g;rw[r b (by omega) g.2,p b hb g.1]
    simp_all
   simp_all
  simp_all
theorem xa(O:mq P orc):∀(k:Nat)(c:aS)(e e':List D)(σ σ':ar)(wr wr':List Nat)(x:oe),kN P orc k c e σ wr=some (x,e',σ',wr') ->
  σ.length<=σ'.length/\(∀b∈wr,b∈wr')/\∀b,b<σ.length->b∉wr'->σ'[b]? = σ[b]?:=by
 intro k;induction k with
 |zero=>grind [kN]
 |succ k ih=>
  intro c e e' σ σ' wr wr' x h;cases c with
  |skip=>simp only[kN,au,aX] at h;simp_all
  |exit id=>simp only[kN,au,aX] at h;simp_all
  |ret=>simp only[kN,au,aX] at h;simp_all
  |stuck=>grind [kN]
  |lbl l=>grind [kN]
  |WQ l a r=>grind [kN]
  |WZ o j a b=>grind [kN]
  |Ci os=>
   simp only[kN,cB,aX] at h;obtain ⟨⟨f,σ1,w1⟩,d,_,_,rfl,rfl⟩:=h;obtain ⟨m,q⟩:=NM O os _ _ _ _ _ d
   simp_all
  |IY os g n p=>
   have one:∀n f σ1 w1,jP P orc os g p n e σ=some (f,σ1,w1)->σ.length<=σ1.length/\∀b,b<σ.length->b∉w1->σ1[b]? = σ[b]?:=by
    intro n f σ1 w1 d;unfold jP at d;split at d
    ·rename_i s aD t i;split at d
     ·simp only[au,aX] at d;obtain ⟨_,rfl,rfl⟩:=d;exact Ez O os _ _ _ _ _ _ i
     simp_all
    simp_all
   grind [kN]
  |seq a b=>grind [kN]
  |cond o a b=>grind [kN]
  |block id b=>grind [kN]
  |loop b=>grind [kN]
theorem oN{ops:Array Oper}{os:List aG}(g:ops.toList.mapM (bn P ops)=some os):∀(i:Nat) o c,ops[i]? = some o->o.op≠.defer c:=by intro i o c e;obtain ⟨j,h⟩:=LV g;rw[<-Ve] at e;have hi:=(e_.1 e).1;obtain ⟨b,hb⟩:∃b,os[i]? = some b:=⟨_,eO (by omega)⟩;obtain ⟨k,d,f⟩:=h i b hb;rw[e] at d;cases d;exact qD f c
theorem UO(O:mq P orc){id:Nat}{ops:Array Oper}{os:List aG}{σ σ':ar}{M:Nat->Option Nat}{Fz:Nat->Prop}{w:World}{e e':List D}{a:Act}{wr:List Nat}{Q:Exit->Act->World->Prop}
  (k:ops.toList.mapM (bn P ops)=some os) (R:Rel σ M Fz w) (E:dA σ M Fz w e a.tmps) (h:kc P orc os e σ=some (e',σ',wr))
  (l:∀b w' M' Fz',b.defers=a.defers->Rel σ' M' Fz' w'->dA σ' M' Fz' w' e' b.tmps->bF σ M Fz w σ' M' Fz' w'->Q .normal b w'):(Code.region id ops false).wq P Q a w:=by
 obtain ⟨d,f⟩:=LV k;refine II (oN k) ?_;have g:ops.size=os.length:=by rw[d,yBn]
 rw[List.range_eq_range',g];exact ops_wp O os 0 σ σ' M Fz w e e' a wr (λj m p=>by obtain ⟨o,q,i⟩:=f j m p;exact ⟨o,by rw[Ri,<-Ve];exact q,i⟩) R E h λb w' M' Fz' d f r s _=>⟨l b w' M' Fz' d f r s,by simp⟩
theorem RJ{ops:Array Oper}:∀(k i j:Nat),i<=j->j<i+leads ops k i->Fg ops j=true:=by
 intro k;induction k with
 |zero=>grind [leads]
 |succ k ih=>
  intro i j d b;simp only[leads] at b;split at b
  ·rename_i h;by_cases e:i=j
   ·simp_all
   ·exact ih (i+1) j (by omega) (by omega)
  ·omega
theorem IL{ops:Array Oper}{i:Nat}(h:i<lead ops):Region.noSelect ops=true/\Fg ops i=true:=by
 unfold lead at h;split at h
 ·rename_i b;exact ⟨b,RJ ops.size 0 i (by omega) (by omega)⟩
 ·omega
def SI(Q:Exit->Act->World->Prop):Exit->Act->World->Prop:=λx a w=>x=.normal/\Q .normal a w
theorem Rm{ops:Array Oper}{Q:Exit->Act->World->Prop}{i:Nat}{a:Act}{w:World}{K:Act->World->Prop}(h:wpOp P ops (SI Q) i K a w):wpOp P ops Q i K a w:=by
 unfold wpOp at *;split
 ·simp_all
 ·rename_i o d;simp only[d] at h;split
  ·rename_i f;simp only[f,if_true] at h;rcases h with h | ⟨_,g,w',h,_⟩
   ·left;unfold Oper.wp at *;generalize (execOp a.eval o).run P w=r at *;cases r with
    |ok n w'=>
     cases n <;> simp only[Oper.upon] at h ⊢ <;>
      first
       |exact h
       |exact Calls.mono h (λe w'' b=>by
         cases e with
         |returned v=>exact b
         |panicked c=>exact absurd b.1 (by simp)
         |outgrown=>obtain ⟨g,w',j,_⟩:=b;simp_all)
    |halt x w'=>
     cases x <;> simp only[Oper.upon] at h ⊢
     exact absurd h.1 (by simp)
   simp_all
  simp_all
theorem Mt{ops:Array Oper}{Q:Exit->Act->World->Prop}{md:Region.Mode}:∀(b:Nat)(listed:Array Bool)(a:Act)(w:World),wpAny P md ops (SI Q) b listed a w->wpAny P md ops Q b listed a w:=by
 intro b;induction b with
 |zero=>intro listed a w h;exact ⟨h.1,h.2.2⟩
 |succ b ih=>intro listed a w h;exact ⟨λd=>(h.1 d).2,λi hi=>Rm (wpOp_mono (λe w' f=>ih _ e w' f) (h.2 i hi))⟩
theorem lead_wp{ops:Array Oper}{Q:Exit->Act->World->Prop}{p:Nat}{w:World}(z:p<=lead ops)(l:p<=ops.size)(J:Nat->Act->Prop)
  (A:∀i o x a,i<p->ops[i]? = some o->(o.op=.move x\/o.op=.assign x)->o.guard=none->J i a->J (i+1) (a.put o.dst (a.eval x)))
  (g:∀a,J p a->wpAny P .any ops (SI Q) (ops.size-p) (OP ops.size p) a w):∀k a,k<=p->J (p-k) a->wpAny P .any ops (SI Q) (ops.size-(p-k)) (OP ops.size (p-k)) a w:=by
 intro k;induction k with
 |zero=>simp_all
 |succ k ih=>
  intro a hk h;obtain ⟨i,rfl⟩:∃i,p=i+(k+1):=⟨p-(k+1),by omega⟩;have m:i+(k+1)-(k+1)=i:=by omega
  have q:i+(k+1)-k=i+1:=by omega
  rw[m] at h ⊢;obtain ⟨e,d⟩:=IL (ops:=ops) (i:=i) (by omega);simp only[Fg,bI] at d;obtain ⟨⟨f,r⟩,s⟩:=d;cases j:ops[i]? with
  |none=>simp_all
  |some o=>
   rw[j] at f;simp only[DJ,SE,isMv,bI,Option.isNone_iff_eq_none] at f;obtain ⟨t,u⟩:=f;have b:∃x,o.op=.move x\/o.op=.assign x:=by grind
   obtain ⟨x,b⟩:=b;have v:Go.Yields P ops o (a.eval x) a:=by left;refine ⟨by simp[Region.wanted,t],λw=>?_⟩;rcases b with b | b <;> simp[execOp,b]
   have y:ops.size-i=(ops.size-(i+1))+1:=by omega
   rw[y];refine wpAny_take j e r s (λc a w h=>absurd h.1 (by simp)) v ?_;have:=ih (a.put o.dst (a.eval x)) (by omega) (by simp_all);rw[q] at this;exact this
theorem draw_wp(t:P.follows .mixedOrders=true)(O:mq P orc){id n:Nat}{ops:Array Oper}{os:List aG}{σ σ':ar}{M:Nat->Option Nat}{Fz:Nat->Prop}{w:World}{e e':List D}{a:Act}{U:List dZ}{Q:Exit->Act->World->Prop}
  (hc:ops.toList.mapM (bn P ops)=some os) (l:Be ops.toList=true) (R:Rel σ M Fz w) (E:dA σ M Fz w e a.tmps) (h:lM P orc n os e σ=some (e',σ',U)) (hn:n≤os.length)
  (hp:eI (Rv ops.toList) U=true) (ht:od (Rv ops.toList) (lead ops) n os.length=true) (W:lead ops≤n)
  (X:∀g w' M' Fz',g.defers=a.defers->Rel σ' M' Fz' w'->dA σ' M' Fz' w' e' g.tmps->bF σ M Fz w σ' M' Fz' w'->Q .normal g w'):(Code.region id ops true).wq P Q a w:=by
 obtain ⟨q,Y⟩:=LV hc
 obtain ⟨env,sg,wrs,k1,k2,k3,k4,k5,k6,k7⟩:=Ul (n:=n) os n e e' σ σ' U h
 subst k1 k2 k3 k4
 have u:os.length=ops.size:=by omega
 have mv:∀i o x,i<lead ops->ops[i]? = some o->(o.op=.move x\/o.op=.assign x)->o.guard=none->∃v,cn x=some v/\env (i+1)=oB (env i) o.dst (v.ev (env i))/\sg (i+1)=sg i/\wrs i=[]:=by
  intro i o x hi z r N
  have A:i<os.length:=by omega
  obtain ⟨o',m,d⟩:=Y i _ (eO A)
  rw [Ve,z] at m
  simp only [au] at m
  subst m
  have F:=(k6 i _ (eO A)).1
  unfold bn at d
  rw [N] at d
  simp only [Bs] at d
  cases G:cn x with
  | none=>grind [comp,lq]
  | some v =>
   have Z:comp P o.op o.type=some (.BP v):=by
    grind [comp,lq]
   rw [Z] at d
   simp only [au] at d
   rw [←d] at F
   simp only [eY,hZ,br,DJ,au,aX] at F
   simp_all
 have aa:∀i j,lead ops≤i->i<j->n≤j->j<os.length->Dz ops i j:=fun i j ad ab af hj=>by
  have f:=iK.1 ht j (by simp_all)
  simp only [gG,bB] at f
  rcases f with f | f
  ·omega
  ·have s:=iK.1 f i (by simp_all)
   simp only [gG] at s
   grind [Nat.blt_eq,En]
 have T:Tr P orc ops os (lead ops) n env sg wrs:={
  len:=u
  comp:=fun j ao hj=>by simp_all
  step:=fun i ao hi=>(k6 i ao hi).1
  wrk:=fun i hi=>k7 i (by omega) hi
  le:=hn
  pair:=fun i j x y ab r hy=>by
   have hj:=(e_.1 hy).1
   have f:=iK.1 hp j (by simp_all)
   have s:=iK.1 f i (by simp_all)
   simp only [gG] at s
   grind [En]
  lead:=fun i hi=>by
   obtain ⟨_,K⟩:=IL hi
   simp only [Fg,bI] at K
   cases z:ops[i]? with
   | none=>simp_all
   | some o =>
    have q:=K.1.1
    rw [z] at q
    simp only [DJ,SE,isMv,bI,Option.isNone_iff_eq_none] at q
    obtain ⟨N,ak⟩:=q
    have r:∃x,o.op=.move x\/o.op=.assign x:=by
     grind
    obtain ⟨x,r⟩:=r
    grind
  ple:=W }
 refine yO t (oN hc) ?_
 replace X:=fun g w' M' Fz' q Y f s=>(⟨X g w' M' Fz' q Y f s,by simp⟩:kW Q .normal g w')
 have R1:Rel (sg 0) M Fz { w with drawn:=w.drawn+1 }:=R.heap rfl ⟨rfl,rfl,rfl⟩
 have EH:bF (sg 0) M Fz w (sg 0) M Fz { w with drawn:=w.drawn+1 }:=bF.heap R rfl ⟨rfl,rfl,rfl⟩
 refine Mt _ _ _ _ ?_
 have k:=lead_wp (P:=P) (ops:=ops) (Q:=kW Q) (p:=lead ops) (w:={ w with drawn:=w.drawn+1 }) (cN _) (by omega)
  (fun i b=>dA (sg 0) M Fz { w with drawn:=w.drawn+1 } (env i) b.tmps/\b.defers=a.defers)
  (fun i o x b hi z r N L=>by
   obtain ⟨v,G,f,s,_⟩:=mv i o x hi z r N
   refine ⟨?_,by rw [←L.2]; cases o.dst <;> rfl⟩
   rw [f]
   exact L.1.put o.dst (oA L.1 G))
  (fun b L=>by
   refine XU O T aa (wA l) R1 L.1 fun g w' M' Fz' hd R' E' EV=>⟨rfl,?_⟩
   exact X g w' M' Fz' (by simp_all) R' E' (EH.trans EV (cN _)))
  (lead ops) a (cN _) (by rw [yC4]; exact ⟨E.mono EH,rfl⟩)
 rw [yC4,yC3] at k
 exact k
theorem MM(os:List aG):WW os<=os.length:=by grind [WW]
theorem FP(os:List aG):jZ os<=os.length:=by
 induction os with
 |nil=>simp[jZ]
 |cons o os ih=>grind [jZ]
theorem Lx(W:P.follows .mixedOrders=true)(O:mq P orc):∀(k:Nat),
  (∀(c:Code) (ac:aS) (σ σ':ar) (M:Nat->Option Nat) (Fz:Nat->Prop) (w:World) (e e':List D) (a:Act) (wr wr':List Nat) (x:oe) (Q:Exit->Act->World->Prop),bE P c=some ac->Rel σ M Fz w->dA σ M Fz w e a.tmps ->
   kN P orc k ac e σ wr=some (x,e',σ',wr')->(∀v w' M' Fz',v.defers=a.defers->Rel σ' M' Fz' w'->dA σ' M' Fz' w' e' v.tmps->bF σ M Fz w σ' M' Fz' w'->Q (zI x) v w')->c.wq P Q a w) /\
  (∀(c:Code) (ac:aS) (σ σ':ar) (M:Nat->Option Nat) (Fz:Nat->Prop) (w:World) (e e':List D) (a:Act) (wr wr':List Nat) (x:oe) (Q:Exit->Act->World->Prop),bE P c=some ac->Rel σ M Fz w->dA σ M Fz w e a.tmps ->
   kN P orc k (.loop ac) e σ wr=some (x,e',σ',wr')->(∀v w' M' Fz',v.defers=a.defers->Rel σ' M' Fz' w'->dA σ' M' Fz' w' e' v.tmps->bF σ M Fz w σ' M' Fz' w'->Q (zI x) v w')->Code.rq P c Q k a w):=by
 intro k
 induction k with
 | zero=>grind [kN]
 | succ k ih =>
  obtain ⟨p,ab⟩:=ih
  have L:∀(c:Code) (ac:aS) (σ σ':ar) (M:Nat->Option Nat) (Fz:Nat->Prop) (w:World) (e e':List D) (a:Act) (wr wr':List Nat) (x:oe) (Q:Exit->Act->World->Prop),bE P c=some ac->Rel σ M Fz w->dA σ M Fz w e a.tmps ->
   kN P orc (k+1) (.loop ac) e σ wr=some (x,e',σ',wr')->(∀v w' M' Fz',v.defers=a.defers->Rel σ' M' Fz' w'->dA σ' M' Fz' w' e' v.tmps->bF σ M Fz w σ' M' Fz' w'->Q (zI x) v w')->Code.rq P c Q (k+1) a w:=by
   intro c ac σ σ' M Fz w e e' a wr wr' x Q d R E h s
   rw [KQ]
   simp only [kN] at h
   split at h
   ·rename_i t σ1 bY m
    have hl:=(xa O _ _ _ _ _ _ _ _ _ m).1
    refine p c ac σ σ1 M Fz w e t a wr bY .normal _ d R E m fun u w1 z f G A F j=>?_
    exact ab c ac σ1 σ' z f w1 t e' u bY wr' x Q d A F h fun a2 w2 M2 N ad R2 E2 T=>s a2 w2 M2 N (by simp_all) R2 E2 (j.trans T hl)
   ·rename_i X
    have Y:x≠.normal:=fun Y=>by simp_all
    refine p c ac σ σ' M Fz w e e' a wr wr' x _ d R E h fun u w1 z f G A F j=>?_
    have:=s u w1 z f G A F j
    cases x with
    | normal=>simp_all
    | exit i=>grind [qz]
    | ret=>exact this
  refine ⟨?_,L⟩
  intro c ac σ σ' M Fz w e e' a wr wr' x Q d R E h s
  cases c with
  | skip =>
   simp only [bE,au] at d
   subst d
   simp only [kN,au,aX] at h
   obtain ⟨rfl,rfl,rfl,_⟩:=h
   exact wq_skip (s a w M Fz rfl R E (bF.refl R))
  | exit id =>
   simp only [bE,au] at d
   subst d
   simp only [kN,au,aX] at h
   grind [bF.refl,Nw,Go.wq_exit]
  | goto l =>
   simp only [bE,au] at d
   subst d
   simp only [kN,au,aX] at h
   grind [bF.refl,My,Go.wq_goto]
  | scope b =>
   grind [bE,Option.map_eq_some_iff,LI,kN]
  | rangeFunc g ps x y =>
   simp only [bE,au] at d
   subst d
   rcases Do (cn g) ps.toList (bE P x) (bE P y) (x.calm&&y.calm) with ⟨_,_,_,_,_,_,_,e⟩ | e <;> rw [e] at h <;> simp [kN] at h
  | ret =>
   simp only [bE,au] at d
   subst d
   simp only [kN,au,aX] at h
   obtain ⟨rfl,rfl,rfl,_⟩:=h
   exact wq_ret (s a w M Fz rfl R E (bF.refl R))
  | region id ops Z =>
   simp only [bE] at d
   split at d
   ·rename_i os aa
    cases Z with
    | false =>
     simp only [b_,cA,au] at d
     subst d
     simp only [kN,cB,aX] at h
     obtain ⟨⟨t,σ1,w1⟩,m,rfl,rfl,rfl,_⟩:=h
     exact UO O aa R E m s
    | true =>
     simp only [if_true] at d
     split at d
     ·rename_i U
      simp only [au] at d
      subst d
      have one:∀n t σ1 w1,n≤os.length->jP P orc os (Rv ops.toList) (lead ops) n e σ=some (t,σ1,w1)->x=.normal->t=e'->σ1=σ'->(Code.region id ops true).wq P Q a w:=by
       intro n t σ1 w1 hn m Y he hs
       unfold jP at m
       split at m
       ·rename_i e2 aD is h2
        split at m
        ·rename_i r
         simp only [bI] at r
         simp only [au,aX] at m
         obtain ⟨rfl,rfl,rfl⟩:=m
         subst Y he hs
         exact draw_wp W O aa U R E h2 hn r.1.1 r.1.2 (DC r.2) s
        simp_all
       simp_all
      simp only [kN] at h
      split at h
      ·grind [FP]
      ·split at h
       ·grind [MM]
       grind
     grind [kN]
   grind [kN]
  | seq c1 c2 =>
   simp only [bE] at d
   split at d
   ·rename_i u a2 m h2
    simp only [au] at d
    subst d
    simp only [kN] at h
    split at h
    ·rename_i t σ1 bY K
     have hl:=(xa O _ _ _ _ _ _ _ _ _ K).1
     refine Qa (p c1 u σ σ1 M Fz w e t a wr bY .normal _ m R E K fun q w1 z f G A F j=>?_)
     exact p c2 a2 σ1 σ' z f w1 t e' q bY wr' x Q h2 A F h fun af w2 M2 N ad R2 E2 T=>s af w2 M2 N (by simp_all) R2 E2 (j.trans T hl)
    ·rename_i X
     have Y:x≠.normal:=fun Y=>by simp_all
     refine Qa (p c1 u σ σ' M Fz w e e' a wr wr' x _ m R E h fun q w1 z f G A F j=>?_)
     have:=s q w1 z f G A F j
     cases x with
     | normal=>simp_all
     | exit i=>grind [qz]
     | ret=>exact this
   simp_all
  | cond o c1 c2 =>
   simp only [bE] at d
   split at d
   ·rename_i oo u a2 h0 m h2
    simp only [au] at d
    subst d
    simp only [kN] at h
    have hv:=oA E h0
    grind [Go.AO,pj,Go.yA]
   grind [kN]
  | block id c1 =>
   simp only [bE,cB] at d
   obtain ⟨u,m,rfl⟩:=d
   simp only [kN] at h
   refine Me ?_
   split at h
   ·rename_i i t σ1 bY K
    split at h
    ·rename_i ak
     simp only [au,aX] at h
     obtain ⟨rfl,rfl,rfl,_⟩:=h
     refine p c1 u σ σ1 M Fz w e t a wr bY (.exit i) _ m R E K fun q w1 z f G A F j=>?_
     have:=s q w1 z f G A F j
     rw [ak]
     exact Ew this
    grind [Dl]
   ·rename_i X
    refine p c1 u σ σ' M Fz w e e' a wr wr' x _ m R E h fun q w1 z f G A F j=>?_
    have:=s q w1 z f G A F j
    cases x with
    | normal=>exact this
    | exit i=>grind
    | ret=>exact this
  | loop c1 =>
   simp only [bE,cB] at d
   obtain ⟨u,m,rfl⟩:=d
   exact vp (k+1) (L c1 u σ σ' M Fz w e e' a wr wr' x Q m R E h s)
  | _=>grind [bE,kN]
end
end Go.Abs
end
section
namespace Go.Abs
variable[Gl]
section
variable{P:Program}{σ σ0:ar}{M M0:Nat->Option Nat}{Fz Fz0:Nat->Prop}{w w0:World}
def HJ(M:Nat->Option Nat)(Fz:Nat->Prop)(n:Nat):Nat->Prop:=λc=>Fz c\/∃b,n<=b/\M b=some c
theorem zw(n:Nat):∀(k:Nat)(l:List C),(chunks n k l).length=k:=by
 intro k;induction k with
 |zero=>intro l;rfl
 |succ k ih=>grind [chunks]
theorem Gt{n:Nat}:∀(k:Nat)(l:List C),l.length=k * n->∀(i:Nat) e,(chunks n k l)[i]? = some e->e.length=n/\∀(j:Nat),j<n->e[j]? = l[i * n+j]?:=by
 intro k;induction k with
 |zero=>grind [chunks]
 |succ k ih=>
  intro l hl i e h;rw[Nat.succ_mul] at hl;cases i with
  |zero=>grind [chunks]
  |succ i=>grind [chunks]
theorem Cp{α d:Type}{f:α->Option d}:∀{l:List α}{r:List d},l.mapM f=some r->∀(i:Nat) a,l[i]? = some a->∃b,r[i]? = some b/\f a=some b:=by
 intro l;induction l with
 |nil=>simp_all
 |cons a l ih=>grind [Option.bind_eq_some_iff]
theorem JL(R:Rel σ M Fz w){n:Nat}:∀(k:Nat)(d:D)(x:C)(v:Value),fO σ n k d=some x->V σ M Fz w d v->VC (HJ M Fz n) w x v:=by
 intro k;induction k with
 |zero=>grind [fO]
 |succ k ih=>
  intro d x v h u;cases d with
  |c y=>simp only[fO,au] at h;subst h;exact u.qJ.mono (λc hc=>⟨.inl hc,rfl⟩)
  |ptr b off sz=>
   simp only[fO] at h;split at h
   ·rename_i hb;split at h
    ·rename_i cs A;simp only[cB] at h;obtain ⟨l,hl,rfl⟩:=h;obtain ⟨c,s,rfl⟩:=u.xh A;obtain ⟨m,_⟩:=RX A;obtain ⟨g,T,N,U,W⟩:=R.row s m;obtain ⟨m1,E⟩:=LV hl;have:=VC.cC (Fz:=HJ M Fz n) (w:=w) (cs:=l) (off:=off) c 0 (λj=>g[j]!) (.inr ⟨b,hb,s⟩) (λj d F=>?_) (λj d F=>?_)
     ·simp_all
     ·obtain ⟨a,r,_⟩:=E j d F;have q:=(e_.1 r).1;have e:g[j]? = some (g[j]'(by omega)):=rE _;have O:g[j]! = g[j]'(by omega):=getElem!_pos g j (by omega);rw[Ri,cell_of_row w c j g T (0,0) N,e,O]
      grind
     ·obtain ⟨a,r,G⟩:=E j d F;have q:=(e_.1 r).1;have e:g[j]? = some (g[j]'(by omega)):=rE _
      grind
    simp_all
   simp_all
  |sl b off len aA sz=>
   simp only[fO] at h;split at h
   ·rename_i K;obtain ⟨hb,aa,an⟩:=K;split at h
    ·rename_i cs A;simp only[cB] at h;obtain ⟨l,hl,rfl⟩:=h;rcases u.fW A with ⟨rfl,O,_,_,_⟩ | ⟨c,o,cap,ab,T0,s,rfl,av,ad,ax,af,_⟩
     ·subst O;exact VC.cJ (nn:=Nat.blt 0 0) (es:=[]) aA none 0 (λh=>by cases h) (λ_=>rfl) (λ_ _=>undef) (λ_ h=>by simp at h) (cN _) (λi j e d h=>by simp at h) (λi j e d h=>by simp at h)
     obtain ⟨m,X⟩:=RX A;obtain ⟨g,T,N,U,W⟩:=R.row s m;obtain ⟨m1,E⟩:=LV hl;have Y:l.length=len * aA:=by grind
     have L:∀(i j:Nat)(e:List C)(d:C),(chunks aA len l)[i]? = some e->e[j]? = some d->j<aA/\i<len/\o=off/\∃a,cs[off+(i * aA+j)]? = some a/\fO σ n k a=some d:=by
      intro i j e d t z;obtain ⟨h3,h4⟩:=Gt len l Y i e t
      grind [zw]
     have:=VC.cJ (Fz:=HJ M Fz n) (w:=w) (nn:=Nat.blt 0 len) (es:=chunks aA len l) aA (some ⟨c,o,none⟩) cap (λ_=>rfl) (λh=>by cases h) (λi j=>g[o+i * aA+j]!) (λe he=>?_) (by grind [zw]) (λi j e d t z=>?_) (λi j e d t z=>?_)
     ·grind [zw]
     ·grind [List.mem_iff_getElem?,Gt]
     ·obtain ⟨F,hi,rfl,a,r,G⟩:=L i j e d t z;have q:=(e_.1 r).1;rw[<-yC7] at r q;have e1:g[o+i * aA+j]? = some (g[o+i * aA+j]'(by omega)):=rE _;have O:g[o+i * aA+j]! = g[o+i * aA+j]'(by omega):=getElem!_pos g _ (by omega);refine ⟨c,o,rfl,.inr ⟨b,hb,s⟩,?_,?_⟩
      ·grind [Go.cell_of_row]
      grind
     ·obtain ⟨F,hi,rfl,a,r,G⟩:=L i j e d t z;have q:=(e_.1 r).1;rw[<-yC7] at r q;have e1:g[o+i * aA+j]? = some (g[o+i * aA+j]'(by omega)):=rE _
      grind
    simp_all
   simp_all
  |fn f first cap=>
   simp only[fO] at h;split at h
   ·rename_i l1 l2 t z;simp only[au] at h;subst h;obtain ⟨m1,E⟩:=LV t;obtain ⟨m3,m4⟩:=LV z;cases u with
    |fn vs ws k1 k2 u hw=>
     refine .fn vs ws (by omega) (by omega) (λi d v a b=>?_) (λi d v a b=>?_)
     ·grind
     grind
   simp_all
  |mp b=>
   simp only[fO] at h;split at h
   ·rename_i hb;split at h
    ·rename_i es Z m;simp only[cB] at h;obtain ⟨l,hl,rfl⟩:=h;obtain ⟨c,rfl,s⟩:=u.KF m;obtain ⟨g,ck,N,⟨X,_⟩,ak⟩:=R.SU m s;obtain ⟨m1,E⟩:=LV hl;refine .NR c ck g (.inr ⟨b,hb,s⟩) N (by omega) (λi p e hi he=>?_) (λi p e hi he=>?_)
     ·grind [Option.map_eq_some_iff]
     grind [Option.map_eq_some_iff]
    simp_all
   simp_all
  |agg cs=>grind [fO]
  |aY vs=>grind [fO]
  |any=>grind [fO]
theorem Nh(R:Rel σ M Fz w){n k:Nat}{d r:D}{v:Value}(h:oQ σ n k d=some r)(e:V σ M Fz w d v)(σ':ar)(M':Nat->Option Nat):V σ' M' (HJ M Fz n) w r v:=by
 have plain:∀d,(fO σ n k d).map D.c=some r->V σ M Fz w d v->V σ' M' (HJ M Fz n) w r v:=by intro d h e;simp only[cB] at h;obtain ⟨x,f,rfl⟩:=h;exact .c (JL R k d x v f e)
 cases d with
 |agg p=>
  simp only[oQ,cB] at h;obtain ⟨l,hl,rfl⟩:=h;obtain ⟨m1,j⟩:=LV hl;cases e with
  |agg m q e=>refine .agg m (by simp_all) (λi d v a b=>?_);simp only[my,cB] at a;obtain ⟨x,f,rfl⟩:=a;obtain ⟨y,o,g⟩:=j i x f;exact .c (JL R k y x v g (e i y v o b))
 |_=>exact plain _ h e
theorem LM(R:Rel σ M Fz w){n k:Nat}{d r:D}{v:Value}(h:x_ σ n k d=some r)(e:V σ M Fz w d v)(σ':ar)(M':Nat->Option Nat):V σ' M' (HJ M Fz n) w r v:=by
 cases d with
 |aY ds=>
  simp only[x_,cB] at h;obtain ⟨l,hl,rfl⟩:=h;obtain ⟨m1,g⟩:=LV hl;cases e with
  |aY f j e=>
   refine .aY f (by omega) (λi d v a b=>?_)
   grind [Nh]
 |_=>grind [x_,Nh]
theorem Rel.forget(R0:Rel σ0 M0 Fz0 w0)(R:Rel σ M Fz w)(s:bF σ0 M0 Fz0 w0 σ M Fz w)(F:∀b,b<σ0.length->σ[b]? = σ0[b]?) :
  Rel σ0 (dd M σ0.length) (HJ M Fz σ0.length) w/\bF σ0 M0 Fz0 w0 σ0 (dd M σ0.length) (HJ M Fz σ0.length) w:=by
 have G:oq σ0 σ:=λb z hb=>⟨z,by grind,rfl⟩;have K:∀b,b<σ0.length->M b=M0 b:=λb hb=>by
  obtain ⟨ab,h1,_,h2⟩:=s.keep b _ (eO hb)
  simp_all
 refine ⟨⟨λb c h=>?_,λb O c h U=>?_,λc h=>?_,Gl.mono (λc h=>⟨.inl h,rfl⟩) R.gl⟩,⟨s.size,s.frame,λb c h=>?_,λc h=>⟨.inl (s.fz c h).1,(s.fz c h).2⟩,λc h=>?_,s.rC,λb z hb=>⟨z,hb,cN _,λ_=>?_⟩,s.out⟩⟩
 ·unfold dd at h;split at h
  ·rename_i hb;obtain ⟨h1,z,o,h2,h3,h4⟩:=R.blk b c h;have W:M0 b=some c:=by simp_all
   obtain ⟨_,u,o0,h5,_,h6⟩:=R0.blk b c W;have:u=z:=by simp_all
   subst this;refine ⟨λhf=>?_,u,o,h5,h3,?_⟩
   ·rcases hf with hf | ⟨O,A,X⟩
    ·simp_all
    ·have:=R.inj b O c h X;omega
   ·have Y:=(h4.down G h6).cut;have e:∀{d v},V σ0 (dd M σ0.length) Fz w d v->V σ0 (dd M σ0.length) (HJ M Fz σ0.length) w d v:=λh=>h.sub oq.refl (λ_ _ h=>h) (λc h=>⟨.inl h,rfl⟩) (λc j T fr h=>⟨j,h,rfl⟩);cases u with
    |cells cs=>obtain ⟨j,T,Z,hl,E⟩:=Y;exact ⟨j,T,Z,hl,λi d v x y=>⟨e (E i d v x y).1,(E i d v x y).2⟩⟩
    |map es aa=>obtain ⟨j,Z,hl,E⟩:=Y;exact ⟨j,Z,hl,λi k d n e' x y=>let ⟨a,b,c⟩:=E i k d n e' x y;⟨a,b,e c⟩⟩
    |gone n=>exact Y.elim
  simp_all
 ·unfold dd at h U;split at h
  ·split at U
   ·exact R.inj b O c h U
   simp_all
  simp_all
 ·rcases h with h | ⟨b,_,h⟩
  ·exact R.fz c h
  ·exact (R.lt h).2
 ·grind [dd]
 ·rcases h with h | ⟨b,_,h⟩
  ·exact s.ol c h
  ·rcases s.lH b c h with h | h
   ·simp_all
   omega
 ·have A:=(e_.1 hb).1;simp only[dd,if_pos A]
  simp_all
theorem one_ok{ds:List D}{vs:Array Value}(hs:vs.size=ds.length)(e:∀(i:Nat) d v,ds[i]? = some d->vs[i]? = some v->V σ M Fz w d v) :
  V σ M Fz w (one ds) (if h:vs.size=1 then vs[0] else .tuple vs):=by
 match ds,hs,e with
 |[d], hs, e=>
  have f:vs.size=1:=by omega
  rw[dif_pos f];exact e 0 d _ (by simp) (rE (by omega))
 |[], hs, e=>rw[dif_neg (by grind)];exact .aY vs hs e
 |a :: b :: l, hs, e=>rw[dif_neg (by grind)];exact .aY vs hs e
def QX(b:Array Value):ResultVar->Sem Value
 |.tmp t=>pure (b.getD t undef)
 |.cell x t=>do loadVar t (<-asAddr (b.getD x undef))
theorem PO(fn:Func)(b:Array Value):results fn b=(do
  let vs <-fn.results.mapM (QX b)
  pure (if h:vs.size=1 then vs[0] else .tuple vs)):=by
 unfold results;congr 2
theorem jr(R:Rel σ M Fz w){env:List D}{a:Act}(E:dA σ M Fz w env a.tmps){fn:Func}{rs:List (Nat×Option (Option Nat))}{ds:List D}(m:fn.results.toList.mapM (MH P)=some rs)(f:rs.mapM (Ns env σ)=some ds) :
  ∃v,(results fn a.tmps).run P w=.ok v w/\V σ M Fz w (one ds) v:=by
 have q:∀(l:List ResultVar)(rs:List (Nat×Option (Option Nat)))(ds:List D),l.mapM (MH P)=some rs->rs.mapM (Ns env σ)=some ds ->
   ∃vs:List Value,(l.mapM (QX a.tmps)).run P w=.ok vs w/\vs.length=ds.length/\∀(i:Nat) d v,ds[i]? = some d->vs[i]? = some v->V σ M Fz w d v:=by
  intro l;induction l with
  |nil=>simp_all
  |cons x l ih=>
   intro rs ds s z;simp only[UG,yCg,eS,dg,au] at s;obtain ⟨r,m,A,F,rfl⟩:=s;simp only[UG,yCg,eS,dg,au] at z;obtain ⟨d,f,G,K,rfl⟩:=z;obtain ⟨vs,U,X,h5⟩:=ih A G F K;have Y:∃v,(QX a.tmps x).run P w=.ok v w/\V σ M Fz w d v:=by
    cases x with
    |tmp t=>simp only[MH,au] at m;subst m;simp only[Ns] at f;have h:=(e_.1 f).1;have e:a.tmps[t]? = some (a.tmps[t]'(by rw[E.1];exact h)):=rE _;refine ⟨_,rfl,?_⟩;rw[yBb,e];exact E.2 t _ _ f e
    |cell y t=>
     simp only[MH,cB] at m;obtain ⟨n,Z,rfl⟩:=m;simp only[Ns] at f;split at f
     ·rename_i b off sz W;simp only[dg] at f;obtain ⟨cs,g,hg⟩:=f;have h:=(e_.1 W).1;have e:a.tmps[y]? = some (a.tmps[y]'(by rw[E.1];exact h)):=rE _;have hv:=E.2 y _ _ W e;obtain ⟨c,hM,aa⟩:=hv.xh g;obtain ⟨L,_⟩:=RX g;obtain ⟨j,T,hh,ab,N⟩:=R.row hM L;have k:∀(i:Nat) x,cs[i]? = some x->∃u,w.cell? ⟨c,0+i,none⟩=some u/\V σ M Fz w x u:=by
       intro i x o;have hi:=(e_.1 o).1;have e:j[i]? = some (j[i]'(by omega)):=rE _;exact ⟨_,by rw[Ri,cell_of_row w c i j T (0,0) hh];exact e,(N i _ _ o e).1⟩
      obtain ⟨v,p,O⟩:=zZ (P:=P) Z hg k;refine ⟨v,?_,O⟩;rw[Ri] at p;have eg:a.tmps.getD y undef=.pointer (some ⟨c,off,none⟩):=by simp_all
      show (do loadVar t (<-asAddr (a.tmps.getD y undef)):Sem Value).run P w=_
      grind [Go.asAddr]
     simp_all
   obtain ⟨v,ad,af⟩:=Y;refine ⟨v::vs,?_,by simp[X],λi d' v' hi ak=>?_⟩
   ·simp_all
   grind
 obtain ⟨vs,s,z,U⟩:=q _ _ _ m f;refine ⟨_,?_,one_ok (vs:=vs.toArray) (by omega) (λi d v a b=>U i d v a (by simp_all))⟩
 grind [PO,Go.Sem.run_bind,Array.mapM_eq_mapM_toList,Go.Sem.run_map,Go.Result.andThen_ok,Go.Sem.run_pure]
end
theorem func_ok{P:Program}(j:P.follows .mixedOrders=true){orc:xP}(O:sY P orc){g:FuncId}{fn:Func}{U:lc}{W:Bool}{k:Nat}{ds:List D}{σ σ':ar}{r:D}{wr:List Nat}
  (X:P.funcs[g]? = some fn) (t:iu P fn W=some U) (h:evF1 P orc k U ds σ=some (r,σ',wr)) :
  Ok P g ds σ r σ'/\σ.length<=σ'.length/\∀b,b<σ.length->b∉wr->σ'[b]? = σ[b]?:=by
 unfold iu at t;split at t
 ·rename_i c hb;split at t
  ·rename_i ac rs Y Z;simp only[au] at t;subst t;unfold evF1 at h;split at h
   ·rename_i aa;have ab:∀env σ1 bY x,(x=.normal\/x=.ret)->kN P (λ_=>orc) k ac (ds++List.replicate (fn.ntmps-ds.length) (.aY [])) σ []=some (x,env,σ1,bY) ->
      finish ⟨fn.params.size+fn.nfree,fn.ntmps,rs,ac,W⟩ σ env σ1 bY=some (r,σ',wr)->Ok P g ds σ r σ'/\σ.length<=σ'.length/\∀b,b<σ.length->b∉wr->σ'[b]? = σ[b]?:=by
     intro env σ1 bY x hx l e;obtain ⟨k1,_,k3⟩:=xa (orc:=λ_=>orc) (λ_=>O) _ _ _ _ _ _ _ _ _ l;unfold finish at e;split at e
     ·rename_i u m;dsimp only at m e;have ad:some (one u,σ1,bY.filter (·<σ.length))=some (r,σ',wr)->Ok P g ds σ r σ'/\σ.length<=σ'.length/\∀b,b<σ.length->b∉wr->σ'[b]? = σ[b]?:=by
       intro he;simp only[au,aX] at he;obtain ⟨rfl,rfl,rfl⟩:=he;refine ⟨λM Fz w f R hs E=>?_,k1,λb hb hn=>k3 b hb (λhw=>hn (by simp_all))⟩;refine calls_of_wp X hb ?_;have F:dA σ M Fz w (ds++List.replicate (fn.ntmps-ds.length) (.aY [])) (f++Array.replicate (fn.ntmps-f.size) undef):=by
        refine ⟨by simp[hs],λi d v a b=>?_⟩;rw[yB7] at a;rw[Array.getElem?_append] at b;split at a
        ·grind
        ·rename_i hi;rw[if_neg (by omega)] at b
         grind [V.undef]
       refine Md ((Lx j (orc:=λ_=>orc) (λ_=>O) k).1 c ac σ σ1 M Fz w _ env { tmps:=f++Array.replicate (fn.ntmps-f.size) undef,defers:=[] } [] bY x _ Y R F l λy w' M' Fz' G s K L=>?_);obtain ⟨v,o,p⟩:=jr (P:=P) s K Z m;have post:y.defers=[]/\∃v,(results fn y.tmps).run P w'=.ok v w'/\∃z M'' Fz'',Ending.returned v=.returned z/\Rel σ1 M'' Fz'' w'/\V σ1 M'' Fz'' w' (one u) z/\bF σ M Fz w σ1 M'' Fz'' w':=
        ⟨G,v,o,v,M',Fz',rfl,s,p,L⟩
       rcases hx with rfl | rfl
       ·exact post
       ·exact post
      split at e
      ·rename_i A;simp only[bI] at A;split at e
       ·rename_i r' N;simp only[au,aX] at e;obtain ⟨rfl,rfl,rfl⟩:=e;have q:∀b,b<σ.length->σ1[b]? = σ[b]?:=by
         grind
        refine ⟨λM Fz w f R hs E=>?_,cN _,λ_ _ _=>rfl⟩;refine calls_of_wp X hb ?_;have F:dA σ M Fz w (ds++List.replicate (fn.ntmps-ds.length) (.aY [])) (f++Array.replicate (fn.ntmps-f.size) undef):=by
         refine ⟨by simp[hs],λi d v a b=>?_⟩;rw[yB7] at a;rw[Array.getElem?_append] at b;split at a
         ·grind
         ·rename_i hi;rw[if_neg (by omega)] at b
          grind [V.undef]
        refine Md ((Lx j (orc:=λ_=>orc) (λ_=>O) k).1 c ac σ σ1 M Fz w _ env { tmps:=f++Array.replicate (fn.ntmps-f.size) undef,defers:=[] } [] bY x _ Y R F l λy w' M' Fz' G s K L=>?_);obtain ⟨v,o,p⟩:=jr (P:=P) s K Z m;obtain ⟨R2,T⟩:=Rel.forget R s L q;have post:y.defers=[]/\∃v,(results fn y.tmps).run P w'=.ok v w'/\∃z M'' Fz'',Ending.returned v=.returned z/\Rel σ M'' Fz'' w'/\V σ M'' Fz'' w' r' z/\bF σ M Fz w σ M'' Fz'' w':=
         ⟨G,v,o,v,_,_,rfl,R2,LM s N p _ _,T⟩
        rcases hx with rfl | rfl
        ·exact post
        ·exact post
       simp_all
      simp_all
     simp_all
    grind
   simp_all
  simp_all
 simp_all
def TblOk(P:Program)(b:FuncId->Option lc):Prop:=∀g d,b g=some d->aZ P g=true/\∃fn e,P.funcs[g]? = some fn/\iu P fn e=some d
theorem evF_ok{P:Program}(f:P.follows .mixedOrders=true){b:FuncId->Option lc}(i:TblOk P b){prim:xP}(j:sY P prim)(k:Nat):∀n,sY P (evF P b prim k n):=by
 intro n;induction n with
 |zero=>intro g ds σ r σ' wr h;grind [evF]
 |succ n ih=>
  intro g ds σ r σ' wr h;simp only[evF] at h;split at h
  ·rename_i Wf d;simp only[au] at h;subst h;exact j g ds σ r σ' wr d
  ·split at h
   ·rename_i l e;obtain ⟨m,fn,o,p,q⟩:=i g l e
    grind [func_ok]
   simp_all
end Go.Abs
end
section
namespace Go.Abs
variable[Gl]
inductive Sh where
 |int (k:IntKind)
 |bool
 |str
 |sl (e:List Sh)
 |no
 deriving Inhabited
inductive Shaped:Sh->C->Prop where
 |int {k:IntKind} {n:Int} (h:(Lit.int k n).wf=true):Shaped (.int k) (.lit (.int k n))
 |bool (b:Bool):Shaped .bool (.lit (.bool b))
 |str {s:ByteArray} (h:s.size<=maxLen):Shaped .str (.lit (.string s))
 |sl {e:List Sh} {es:List (List C)} (hl:es.length<=maxLen) (hn:∀x∈es,x.length=e.length) (h:∀(x:List C),x∈es->∀(j:Nat) s c,e[j]? = some s->x[j]? = some c->Shaped s c):Shaped (.sl e) (.cJ false es)
def ff(P:Program):Nat->TypeId->Option (List Sh)
 |0,_=>none
 |f + 1, t=>
  match P.underlying t with
  |some .bool=>some [.bool]
  |some (.int k)=>some [.int k]
  |some .string=>some [.str]
  |some (.slice e)=>
   match ff P f e with
   |some s=>if s.length=P.cellsOf e/\s≠[] then some [.sl s] else none
   |none=>none
  |some (.struct g)=>
   match g.toList.foldl (λb d=>match b,ff P f d.type with
    |some l,some s=>if d.offset=l.length/\s.length=P.cellsOf d.type then some (l++s) else none
    |_,_=>none) (some []) with
   |some l=>if l.length=P.cellsOf t then some l else none
   |none=>none
  |some (.array n e)=>
   match ff P f e with
   |some s=>if s.length=P.cellsOf e/\n * s.length=P.cellsOf t then some (List.replicate n s).flatten else none
   |none=>none
  |_=>none
def GM(w:World)(b:List Sh)(xs:List C)(cs:List Value):Prop:=
 xs.length=b.length/\cs.length=b.length/\(∀(i:Nat) s x,b[i]? = some s->xs[i]? = some x->Shaped s x) /\
  ∀(i:Nat) x v,xs[i]? = some x->cs[i]? = some v->VC (λc=>c<w.heap.size) w x v/\v.oneCell'=true
theorem GM.append{w:World}{s1 s2:List Sh}{j o:List C}{c1 u:List Value}(z:GM w s1 j c1)(A:GM w s2 o u):GM w (s1++s2) (j++o) (c1++u):=by
 obtain ⟨F,G,K,O⟩:=z;obtain ⟨R,U,W,X⟩:=A;refine ⟨by simp_all,by simp_all,λi s x hs E=>?_,λi x v E Y=>?_⟩
 ·grind
 grind
theorem GM.nil{w:World}:GM w [] [] []:=⟨rfl,rfl,λi s x h=>by simp at h,λi x v h=>by simp at h⟩
theorem GM.one{w:World}{s:Sh}{x:C}{v:Value}(u:Shaped s x)(z:VC (λc=>c<w.heap.size) w x v)(A:v.oneCell'=true):GM w [s] [x] [v]:=by
 refine ⟨rfl,rfl,λi E j hs o=>?_,λi j F o G=>?_⟩
 ·grind
 grind
theorem Ik{w:World}{b:Nat}{a:Addr}{n:Nat}{cs:List Value}(h:w.cells? b a n=some cs):cs.length=n/\∀(j:Nat) v,cs[j]? = some v->w.cell? (a.add j)=some v:=by
 unfold World.cells? at h;split at h
 ·obtain ⟨d,e⟩:=LV h
  grind
 simp_all
theorem Vk{α:Type}{n:Nat}{p:Nat->α->Prop}(h:∀i,i<n->∃a,p i a):∃l:List α,l.length=n/\∀(i:Nat) a,l[i]? = some a->p i a:=by
 induction n with
 |zero=>simp_all
 |succ n ih=>
  obtain ⟨l,d,e⟩:=ih (λi hi=>h i (by omega));obtain ⟨a,f⟩:=h n (by omega);refine ⟨l++[a],by simp[d],λi b hb=>?_⟩
  grind
theorem EP{H:Type}{enc:TypeId×Value->H}{P:Program}{w:World}{b:Nat->Bool}{g:Bool}{f:Nat}{t e:TypeId}{cs:List Value}{d:DataW H}{ps:List MemPlace}
  (r:P.underlying t=some (.slice e)) (h:DataW.trod enc P w 0 b g (f+1) t cs=some (d,ps)) :
  cs=[.slice none 0 0]\/∃a len cap,cs=[.slice (some a) len cap]/\len<=cap/\cap<=maxLen/\∀i,i<len->∃ci l m,w.cells? 0 (a.add (i * P.cellsOf e)) (P.cellsOf e)=some ci/\DataW.trod enc P w 0 b g f e ci=some (l,m):=by
 unfold DataW.trod at h;rw[r] at h;split at h <;> rename_i j <;> first
  |(simp only[au,reduceCtorEq] at j;done)
  |skip
 ·exact .inl rfl
 ·rename_i v a len cap;simp only[au,TypeDesc.slice.injEq] at j;subst j;simp only at h;split at h
  ·rename_i q;simp only[dg] at h;obtain ⟨o,p,_⟩:=h;refine .inr ⟨a,len,cap,rfl,q.2.1,q.2.2,λi hi=>?_⟩;obtain ⟨⟨l,m⟩,_,k⟩:=Cp p i i (List.getElem?_range hi);simp only[dg] at k;obtain ⟨ci,s,u⟩:=k;exact ⟨ci,l,m,s,u⟩
  ·simp at h
 ·simp at h
theorem DD{H:Type}{enc:TypeId×Value->H}{P:Program}{w:World}{b:Nat->Bool}{e:Bool}{f:Nat}{t:TypeId}{l:Array Field}{cs:List Value}{d:DataW H}{ps:List MemPlace}
  (r:P.underlying t=some (.struct l)) (h:DataW.trod enc P w 0 b e (f+1) t cs=some (d,ps)) :
  cs.length=P.cellsOf t/\∀j∈l.toList,∃m o,DataW.trod enc P w 0 b e f j.type ((cs.drop j.offset).take (P.cellsOf j.type))=some (m,o):=by
 unfold DataW.trod at h;rw[r] at h;split at h <;> rename_i g <;> first
  |(simp only[au,reduceCtorEq] at g;done)
  |skip
 ·simp only[au,TypeDesc.struct.injEq] at g;subst g;split at h
  ·rename_i hl;simp only[cB] at h;obtain ⟨u,p,_⟩:=h;refine ⟨hl,λj q=>?_⟩;obtain ⟨i,hi⟩:=yBR.1 q;obtain ⟨⟨m,o⟩,_,s⟩:=Cp p i j hi;exact ⟨m,o,s⟩
  ·simp at h
 ·exact absurd rfl (‹∀(k:Array Field),some (TypeDesc.struct l)=some (TypeDesc.struct k)->False› l)
theorem Gr{H:Type}{enc:TypeId×Value->H}{P:Program}{w:World}{b:Nat->Bool}{g:Bool}{f n:Nat}{t e:TypeId}{cs:List Value}{d:DataW H}{ps:List MemPlace}
  (q:P.underlying t=some (.array n e)) (h:DataW.trod enc P w 0 b g (f+1) t cs=some (d,ps)) :
  cs.length=P.cellsOf t/\∀i,i<n->∃k l,DataW.trod enc P w 0 b g f e ((cs.drop (i * P.cellsOf e)).take (P.cellsOf e))=some (k,l):=by
 unfold DataW.trod at h;rw[q] at h;split at h <;> rename_i j <;> first
  |(simp only[au,reduceCtorEq] at j;done)
  |skip
 ·simp only[au,TypeDesc.array.injEq] at j;obtain ⟨rfl,rfl⟩:=j;split at h
  ·rename_i hl;simp only[cB] at h;obtain ⟨s,m,_⟩:=h;refine ⟨hl,λi hi=>?_⟩;obtain ⟨⟨k,l⟩,_,r⟩:=Cp m i i (List.getElem?_range hi);exact ⟨k,l,r⟩
  ·simp at h
 ·exact absurd rfl (‹∀(o:Nat)(p:TypeId),some (TypeDesc.array n e)=some (TypeDesc.array o p)->False› n e)
theorem Qb{H:Type}{enc:TypeId×Value->H}{P:Program}{w:World}{L:Nat->Bool}{aa:Bool}:∀(f:Nat)(N:Nat)(t:TypeId)(cs:List Value)(d:DataW H)(ps:List MemPlace)(O:List Sh),
  DataW.trod enc P w 0 L aa N t cs=some (d,ps)->ff P f t=some O->∃xs,GM w O xs cs:=by
 intro f;induction f with
 |zero=>grind [ff]
 |succ f ih=>
  intro N t cs d ps O v hs;cases N with
  |zero=>simp[DataW.trod] at v
  |succ N=>
   simp only[ff] at hs;split at hs
   ·
    rename_i A;simp only[au] at hs;subst hs;unfold DataW.trod at v;rw[A] at v;split at v <;> simp_all
    subst_vars
    exact ⟨_,GM.one (.bool _) (.lit _) rfl⟩
   ·
    rename_i k A;simp only[au] at hs;subst hs;unfold DataW.trod at v;rw[A] at v;split at v <;> simp_all
    obtain ⟨⟨rfl,ak⟩,_⟩:=v;exact ⟨_,GM.one (.int ak) (.lit _) rfl⟩
   ·
    rename_i A;simp only[au] at hs;subst hs;unfold DataW.trod at v;rw[A] at v;split at v <;> simp_all
    exact ⟨_,GM.one (.str v.1) (.lit _) rfl⟩
   ·
    rename_i e A;split at hs
    ·rename_i s R;split at hs
     ·rename_i o;obtain ⟨o,ab⟩:=o;simp only[au] at hs;subst hs;have a8:0<s.length:=WT.2 ab;rcases EP A v with rfl | ⟨r,len,cap,rfl,bd,be,T⟩
      ·refine ⟨[.cJ false []],GM.one (.sl (by simp) (λx h=>by simp at h) (λx h=>by simp at h)) ?_ rfl⟩;exact .cJ 0 none 0 (by simp) (λ_=>rfl) (λ_ _=>undef) (λe h=>by simp at h) (by simp) (λi j e d h=>by simp at h) (λi j e d h=>by simp at h)
      ·rw[<-o] at T;have an:∀i,i<len->∃(p:List C×List Value),w.cells? 0 (r.add (i * s.length)) s.length=some p.2/\GM w s p.1 p.2:=by
        intro i hi;obtain ⟨ci,Z,pi,E,z⟩:=T i hi;obtain ⟨xs,q⟩:=ih N e ci Z pi s z R;exact ⟨(xs,ci),E,q⟩
       obtain ⟨l,bh,G⟩:=Vk an;have U:0<len->r.spot=none/\r.block<w.heap.size:=by
        intro h0;obtain ⟨ci,Z,pi,E,_⟩:=T 0 h0;obtain ⟨h3,h4⟩:=Ik E;have hc:=h4 0 _ (eO (by omega));have e0:(r.add (0 * s.length)).add 0=r:=by simp[Addr.add]
        rw[e0] at hc;exact ⟨World.cell?_spot hc,block_lt_of_cell hc⟩
       let g:Nat->Nat->Value:=λi j=>(((l[i]?).map (·.2)).bind (·[j]?)).getD undef
       have F:∀(i j:Nat)(x:List C)(c:C),(l.map (·.1))[i]? = some x->x[j]? = some c->r=⟨r.block,r.off,none⟩/\r.block<w.heap.size/\w.cell? ⟨r.block,r.off+i * s.length+j,none⟩=some (g i j) /\
         VC (λc=>c<w.heap.size) w c (g i j)/\(g i j).oneCell'=true:=by
        intro i j x c y hc;simp only[my,cB] at y;obtain ⟨p,W,rfl⟩:=y;obtain ⟨E,z,h3,h4,h5⟩:=G i p W;have hi:i<len:=by grind
        obtain ⟨bi,bk⟩:=U (by omega);have bl:r=⟨r.block,r.off,none⟩:=by cases r;simp_all
        grind [Ik,eK]
       have a9:(l.map (·.1)).length=len:=by grind
       refine ⟨[.cJ false (l.map (·.1))],GM.one (.sl (by omega) (λx y=>?_) (λx y j sj c E z=>?_)) ?_ rfl⟩
       ·simp only[iP] at y;obtain ⟨p,W,rfl⟩:=y;obtain ⟨i,hi⟩:=yBR.1 W;exact (G i p hi).2.1
       ·simp only[iP] at y;obtain ⟨p,W,rfl⟩:=y;obtain ⟨i,hi⟩:=yBR.1 W;exact (G i p hi).2.2.2.1 j sj c E z
       ·have:=VC.cJ (Fz:=λc=>c<w.heap.size) (w:=w) (nn:=false) (es:=l.map (·.1)) s.length (some r) cap (by simp) (λh=>by cases h) g (λx y=>?_) (by omega) (λi j x c E z=>?_) (λi j x c E z=>(F i j x c E z).2.2.2.1)
        ·grind
        ·simp only[iP] at y;obtain ⟨p,W,rfl⟩:=y;obtain ⟨i,hi⟩:=yBR.1 W;exact (G i p hi).2.1
        grind
     simp_all
    simp_all
   ·
    rename_i fs A;split at hs
    ·rename_i l hl;split at hs
     ·rename_i bt;simp only[au] at hs;subst hs;obtain ⟨E,z⟩:=DD A v;have X:∀(fl:List Field)(b:List Sh)(ax:List C),(∀u∈fl,u∈fs.toList)->b.length<=cs.length->GM w b ax (cs.take b.length) ->
        fl.foldl (λb u=>match b,ff P f u.type with
         |some l,some s=>if u.offset=l.length/\s.length=P.cellsOf u.type then some (l++s) else none
         |_,_=>none) (some b)=some l->l.length<=cs.length->∃xs,GM w l xs (cs.take l.length):=by
       intro fl;induction fl with
       |nil=>grind
       |cons u fl av=>
        intro b ax K bb a0 he a1;simp only[List.foldl_cons] at he;have a2:∀(gl:List Field),gl.foldl (λb u=>match b,ff P f u.type with
         |some l,some s=>if u.offset=l.length/\s.length=P.cellsOf u.type then some (l++s) else none
         |_,_=>none) none=none:=by
         intro gl;induction gl with
         |nil=>rfl
         |cons _ _ ih=>simp_all
        cases af:ff P f u.type with
        |none=>simp_all
        |some s=>
         rw[af] at he;simp only at he;split at he
         ·rename_i hc;obtain ⟨bc,o⟩:=hc;obtain ⟨Z,pi,hd⟩:=z u (K u (by simp));obtain ⟨xs,q⟩:=ih N u.type _ Z pi s hd af;have a5:b.length+s.length<=cs.length:=by
           have:=q.2.1
           grind
          refine av (b++s) (ax++xs) (λx y=>K x (by simp[y])) (by simp_all) ?_ he a1;have Y:cs.take (b++s).length=cs.take b.length++(cs.drop u.offset).take (P.cellsOf u.type):=by grind
          rw[Y];exact a0.append q
         simp_all
      obtain ⟨xs,q⟩:=X fs.toList [] [] (λ_ h=>h) (by simp) (by grind [GM.nil]) hl (by omega)
      grind
     simp_all
    simp_all
   ·
    rename_i n e A;split at hs
    ·rename_i s R;split at hs
     ·rename_i o;obtain ⟨o,bu⟩:=o;simp only[au] at hs;subst hs;obtain ⟨E,z⟩:=Gr A v;rw[<-o] at z;have X:∀m,m<=n->∃xs,GM w (List.replicate m s).flatten xs (cs.take (m * s.length)):=by
       intro m;induction m with
       |zero=>intro _;exact ⟨[],by grind [GM.nil]⟩
       |succ m a6=>
        intro hm;obtain ⟨xs,q⟩:=a6 (by omega);obtain ⟨Z,pi,hd⟩:=z m (by omega);obtain ⟨ys,a7⟩:=ih N e _ Z pi s hd R;refine ⟨xs++ys,?_⟩;have e1:(List.replicate (m+1) s).flatten=(List.replicate m s).flatten++s:=by grind [List.replicate_succ']
        rw[e1,Nat.succ_mul,List.take_add];exact q.append a7
      obtain ⟨xs,q⟩:=X n (cN _)
      grind
     simp_all
    simp_all
   simp_all
end Go.Abs
end
section
namespace Go.Abs
variable[Gl]
open Go.RowKit
theorem Rel.start(w:World)(i:Gl.ok (λc=>c<w.heap.size) w):Rel [] (λ_=>none) (λc=>c<w.heap.size) w:={
 blk:=λb c h=>by simp at h
 inj:=λb j c h=>by simp at h
 fz:=λc h=>h
 gl:=i }
theorem V.VP{w:World}{j:List Sh}{xs:List C}{vs:Array Value}(h:GM w j xs vs.toList){σ:ar}{M:Nat->Option Nat}:V σ M (λc=>c<w.heap.size) w (.agg (xs.map .c)) (.agg vs):=by obtain ⟨u,z,_,o⟩:=h;refine .agg vs (by simp_all) (λi d v a b=>?_);simp only[my,cB] at a;obtain ⟨x,s,rfl⟩:=a;exact .c (o i x v s (by simp_all)).1
theorem bF.below{σ:ar}{M:Nat->Option Nat}{Fz:Nat->Prop}{w w':World}(R:Rel σ M Fz w)(hb:Below w.heap.size w w'):bF σ M Fz w σ M Fz w':={
 size:=hb.size
 frame:=λc j _=>hb.block c j
 lH:=λb c h=>.inl ⟨b,h⟩
 fz:=λc h=>⟨h,hb.block c (R.fz c h)⟩
 ol:=λc h=>.inl h
 rC:=λc i T s h=>⟨i,by rw[hb.block c (DQ.1 h).1];exact h,rfl⟩
 keep:=λb o h=>⟨o,h,cN _,λ_=>rfl⟩
 out:=⟨hb.os,hb.tape,hb.output⟩ }
theorem Rel.below{σ:ar}{M:Nat->Option Nat}{Fz:Nat->Prop}{w w':World}(R:Rel σ M Fz w)(hb:Below w.heap.size w w'):Rel σ M Fz w':={
 blk:=λb c h=>by obtain ⟨i,ob,o,h2,h3,j⟩:=R.blk b c h;exact ⟨i,ob,o,h2,by rw[hb.block c (R.lt h).2];exact h3,j.mono (bF.below R hb)⟩
 inj:=R.inj
 fz:=λc h=>GJ (R.fz c h) hb.size
 gl:=Gl.mono (bF.below R hb).fz R.gl }
noncomputable def Su(P:Program)(b:List Nat)(g:FuncId):Option lc:=
 match P.funcs[g]? with
 |some fn=>if aZ P g then iu P fn (!b.contains g) else none
 |none=>none
theorem aab(P:Program)(b:List Nat):TblOk P (Su P b):=by
 intro g d h
 grind [Su]
end Go.Abs
end
section
namespace Go.Abs
variable[Gl]
abbrev AL:=List (Nat×D)
def lk(t:Nat):AL->Option D
 |[]=>none
 |(s,d)::al=>match Nat.beq s t with | true=>some d | false=>lk t al
def yC(n:Nat)(al:AL):List D:=(List.range n).map λt=>(lk t al).getD .any
def Env(n:Nat)(al:AL)(e:List D):Prop:=e.length=n/\∀t d,lk t al=some d->e[t]? = some d
def dY(n:Nat)(σ:ar)(M:Nat->Option Nat)(Fz:Nat->Prop)(w:World)(al:AL)(b:Array Value):Prop:=
 b.size=n/\∀t d,lk t al=some d->∃v,b[t]? = some v/\V σ M Fz w d v
section
variable{P:Program}{orc:xP}{σ σ' σ1 aD:ar}{M M':Nat->Option Nat}{Fz Fz':Nat->Prop}{w w':World}{n:Nat}{al al1 al2:AL}
theorem dY.dh{o:Array Value}(h:dY n σ M Fz w al o):dA σ M Fz w (yC n al) o/\Env n al (yC n al):=by
 refine ⟨⟨by simp[yC,h.1],λi d v a b=>?_⟩,by simp[yC],λt d u=>?_⟩
 ·simp only[yC,my,cB] at a;obtain ⟨j,z,rfl⟩:=a;have:j=i:=by
   grind
  subst this;cases hl:lk j al with
  |none=>exact .any v
  |some d=>
   obtain ⟨A,s,E⟩:=h.2 j d hl
   simp_all
 ·obtain ⟨v,s,_⟩:=h.2 t d u;have x:t<n:=by have:=(DQ.1 s).1;rw[h.1] at this;omega
  grind [yC]
theorem dY.SH{i:Array Value}{e:List D}(h:dA σ M Fz w e i)(j:Env n al e):dY n σ M Fz w al i:=by
 refine ⟨by rw[h.1,j.1],λt d s=>?_⟩;have u:=j.2 t d s;have o:t<i.size:=by rw[h.1];grind
 exact ⟨i[t],rE o,h.2 t d _ u (rE o)⟩
def Sem(P:Program)(ac:aS)(n:Nat)(al:AL)(σ:ar)(Q:oe->AL->ar->Prop):Prop:=
 ∀ (c : Code), bE P c = some ac -> ∀ (M : Nat -> Option Nat) (Fz : Nat -> Prop) (w : World) (a : Act) (K : Exit -> Act -> World -> Prop), Rel σ M Fz w -> dY n σ M Fz w al a.tmps ->
  (∀x b σ' d w' M' Fz',Q x b σ'->Mk w.heap.size M' Fz' w' d.defers a.defers->Rel σ' M' Fz' w'->dY n σ' M' Fz' w' b d.tmps->bF σ M Fz w σ' M' Fz' w'->σ.length<=σ'.length->K (zI x) d w')->c.wq P K a w
def lW(P:Program)(ac:aS)(k:Nat)(n:Nat)(al:AL)(σ:ar)(Q:oe->AL->ar->Prop):Prop:=
 ∀ (c : Code), bE P c = some ac -> ∀ (M : Nat -> Option Nat) (Fz : Nat -> Prop) (w : World) (a : Act) (K : Exit -> Act -> World -> Prop), Rel σ M Fz w -> dY n σ M Fz w al a.tmps ->
  (∀x b σ' d w' M' Fz',Q x b σ'->Mk w.heap.size M' Fz' w' d.defers a.defers->Rel σ' M' Fz' w'->dY n σ' M' Fz' w' b d.tmps->bF σ M Fz w σ' M' Fz' w'->σ.length<=σ'.length->K (zI x) d w')->Code.rq P c K k a w
def E_(d b:D):Prop:=∀σ M Fz w v,V σ M Fz w d v->V σ M Fz w b v
theorem E_.refl(d:D):E_ d d:=λ_ _ _ _ _ h=>h
def Sub(al1:AL):AL->Prop
 |[]=>True
 |(t,d)::al2=>(∃b,lk t al1=some b/\E_ b d)/\Sub al1 al2
theorem Sub.get{al1 al2:AL}(h:Sub al1 al2){t:Nat}{d:D}(i:lk t al2=some d):∃d1,lk t al1=some d1/\E_ d1 d:=by
 induction al2 with
 |nil=>grind [lk]
 |cons p al2 ih=>
  obtain ⟨s,j⟩:=p;simp only[lk] at i;split at i
  ·rename_i hb;have:=dj hb;simp only[au] at i;subst this i;exact h.1
  ·exact ih h.2 i
theorem Sub.one{al1 al2:AL}{t:Nat}{d d1:D}(h:lk t al1=some d1)(i:E_ d1 d)(r:Sub al1 al2):Sub al1 ((t,d)::al2):=⟨⟨d1,h,i⟩,r⟩
theorem Sub.same{al1 al2:AL}{t:Nat}{d:D}(h:lk t al1=some d)(r:Sub al1 al2):Sub al1 ((t,d)::al2):=⟨⟨d,h,E_.refl d⟩,r⟩
theorem dY.sub{i:Array Value}(h:dY n σ M Fz w al1 i)(hs:Sub al1 al2):dY n σ M Fz w al2 i:=
 ⟨h.1,fun t d j=>by
  obtain ⟨o,s,u⟩:=hs.get j
  obtain ⟨v,x,z⟩:=h.2 t o s
  exact ⟨v,x,u _ _ _ _ _ z⟩⟩
def D.low(m:Nat):D->Bool
 |.c _=>true
 |.any=>true
 |.ptr b _ _=>b<m
 |.sl b _ _ _ _=>b<m
 |.mp b=>b<m
 |.fn _ a b=>cU m a&&cU m b
 |.agg ds=>cU m ds
 |.aY ds=>cU m ds
where cU (m:Nat):List D->Bool
 |[]=>true
 |d::ds=>d.low m&&cU m ds
theorem D.ba{m:Nat}:∀{ds:List D},D.low.cU m ds=true->∀(i:Nat) d,ds[i]? = some d->d.low m=true:=by
 intro ds;induction ds with
 |nil=>simp_all
 |cons x ds ih=>
  intro h i d hi;simp only[D.low.cU,bI] at h
  grind
def Ob.low(m:Nat):Ob->Bool
 |.cells i=>D.low.cU m i
 |.map j _=>j.all λe=>e.2.1.low m
 |.gone _=>true
theorem V.FD{m:Nat}{d:D}{v:Value}(h:V σ M Fz w d v)(hl:d.low m=true):V (σ.take m) (dd M m) Fz w d v:=by
 induction h with
 |c h=>exact .c h
 |any v=>exact .any v
 |ptr a s h j o=>simp only[D.low,bB] at hl;exact .ptr a s (by simp_all) j (λz=>by grind [dd])
 |sl a n cap A s h j o=>simp only[D.low,bB] at hl;exact .sl a n cap A s (by simp_all) j (λz=>by simpa[dd,hl] using o z)
 |mp c s h o=>simp only[D.low,bB] at hl;exact .mp c s (by simp_all) (λz=>by grind [dd])
 |fn u G x K o O E F=>simp only[D.low,bI] at hl;exact .fn u G x K (λi d v a b=>E i d v a b (D.ba hl.1 i d a)) (λi d v a b=>F i d v a b (D.ba hl.2 i d a))
 |agg u x o ih=>simp only[D.low] at hl;exact .agg u x (λi d v a b=>ih i d v a b (D.ba hl i d a))
 |aY u x o ih=>simp only[D.low] at hl;exact .aY u x (λi d v a b=>ih i d v a b (D.ba hl i d a))
theorem Rel.FD{m:Nat}(R:Rel σ M Fz w)(hl:(σ.take m).all (Ob.low m)=true):Rel (σ.take m) (dd M m) Fz w:=by
 refine ⟨λb c h=>?_,λb U c h F=>?_,R.fz,R.gl⟩
 ·unfold dd at h;split at h
  ·rename_i hb;obtain ⟨W,z,o,Y,X,G⟩:=R.blk b c h;have A:(σ.take m)[b]? = some z:=by simp_all
   have j:z.low m=true:=iK.1 hl z (BB A);refine ⟨W,z,o,A,X,?_⟩;cases z with
   |cells Z=>obtain ⟨s,T,K,u,E⟩:=G;exact ⟨s,T,K,u,λi d v x y=>⟨(E i d v x y).1.FD (D.ba j i d x),(E i d v x y).2⟩⟩
   |map es O=>obtain ⟨s,K,u,E⟩:=G;refine ⟨s,K,u,λi k d n e x y=>?_⟩;obtain ⟨p,q,r⟩:=E i k d n e x y;simp only[Ob.low,iK] at j;exact ⟨p,q,r.FD (j (k,d,n) (BB x))⟩
   |gone n=>exact G.elim
  simp_all
 ·unfold dd at h F;split at h
  ·split at F
   ·exact R.inj b U c h F
   simp_all
  simp_all
theorem bF.FD{m:Nat}(E:bF σ M Fz w σ1 M' Fz' w')(hm:σ.length<=m):bF σ M Fz w (σ1.take m) (dd M' m) Fz' w':=by
 refine ⟨E.size,E.frame,λb c h=>?_,E.fz,E.ol,E.rC,λb j h=>?_,E.out⟩
 ·unfold dd at h;split at h
  ·exact E.lH b c h
  simp_all
 ·obtain ⟨i,s,o,u⟩:=E.keep b j h;have hb:b<m:=GJ (e_.1 h).1 hm;exact ⟨i,by simp_all,o,λx=>by simp only[dd,if_pos hb];simp_all⟩
inductive Wk (k:Nat) (al1:AL) (σ1:ar):AL->ar->Prop where
 |refl:Wk k al1 σ1 al1 σ1
 |same {al2:AL} (h:Sub al1 al2):Wk k al1 σ1 al2 σ1
 |cut {al2:AL} (m:Nat) (hm:k<=m) (hs:m<=σ1.length) (h:Sub al1 al2) (hd:al2.all (λp=>p.2.low m)=true) (hl:(σ1.take m).all (Ob.low m)=true):Wk k al1 σ1 al2 (σ1.take m)
theorem nF{t:Nat}{d:D}:∀{al:AL},lk t al=some d->(t,d)∈al:=by
 intro al;induction al with
 |nil=>grind [lk]
 |cons p al ih=>grind [lk,Nat.eq_of_beq_eq_true]
theorem Wk.use{aD:ar}(h:Wk σ.length al1 σ1 al2 aD){i:Array Value}(R:Rel σ1 M' Fz' w')(A:dY n σ1 M' Fz' w' al1 i)(E:bF σ M Fz w σ1 M' Fz' w')(hl:σ.length<=σ1.length) :
  ∃j,Rel aD j Fz' w'/\dY n aD j Fz' w' al2 i/\bF σ M Fz w aD j Fz' w'/\σ.length<=aD.length/\LZ M' Fz' j Fz':=by
 cases h with
 |refl=>exact ⟨M',R,A,E,hl,LZ.refl⟩
 |same h=>exact ⟨M',R,A.sub h,E,hl,LZ.refl⟩
 |cut m u hs h x o=>
  refine ⟨dd M' m,R.FD o,⟨A.1,λt d s=>?_⟩,E.FD u,by simp_all,⟨λb c h=>⟨b,by simp only[dd] at h;split at h <;> simp_all⟩,λc h=>.inl h,λc h=>h⟩⟩
  obtain ⟨v,z,F⟩:=(A.sub h).2 t d s;exact ⟨v,z,F.FD (iK.1 x (t,d) (nF s))⟩
end
end Go.Abs
end
