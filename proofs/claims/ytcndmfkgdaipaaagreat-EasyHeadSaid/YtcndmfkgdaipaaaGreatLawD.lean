/- Lemmas. -/
import Derived.Test.YtcndmfkgdaipaaaGreatLawC
import Derived.Test.YtcndmfkgdaipaaaGreatLawB
import Derived.KernelRfl
set_option linter.all false
open Go.IntKind (i64 u64)
section
namespace Go.Plain
open Go.Abs
theorem Kj{s:bg}(hs:nZ s)(k:bq s):PG 5000 s=some true:=by
 obtain ⟨r,e,h⟩:=rZ s hs
 simp_all
theorem Ic(x a b:Int):∃v,zcp 5000 x a b=some v:=by
 unfold zcp;split
 ·simp_all
 ·split <;> exact ⟨_,rfl⟩
theorem Pe(x:Int):∃v,gL 5000 x=some v:=by
 obtain ⟨r,e⟩:=Ic x 0 1099511627776;unfold gL Ov
 simp_all
theorem Vs{s:bg}(hs:nZ s)(k:bq s)(j:aJ)(d:Int)(use:List Int):∃v,Ev 5000 s j d use=some v:=by
 have g:∃v,Av 5000 d j.cT=some v:=by unfold Av;split <;> exact ⟨_,rfl⟩
 obtain ⟨ag,p⟩:=g;obtain ⟨i,r⟩:=Ic j.aK 0 64;unfold Ev zO;rw[Kj hs k,ay,if_neg (by simp)];simp only[fN,p,r,ay];have m:∀q:Int,∃v:Int×Int×Int×Int,(if ((decide (j.cw≥0))&&(decide (j.cw<(use.length:Int))))=true then
    (aC use j.cw).bind λt=>(gL 5000 t).bind λu=>some ((i64.wrap (s.am.lj * ag)),(i64.wrap (s.am.cW * i)),(i64.wrap (s.am.fH * q)),(i64.wrap (s.am.bQ * u)))
   else some ((i64.wrap (s.am.lj * ag)),(i64.wrap (s.am.cW * i)),(i64.wrap (s.am.fH * q)),(i64.wrap (s.am.bQ * 0))))=some v:=λq=>by
  by_cases o:((decide (j.cw≥0))&&(decide (j.cw<(use.length:Int))))=true
  ·have a:=o;simp only[bI,bB] at a;obtain ⟨h,e⟩:=Hb (l:=use) a.1 a.2;obtain ⟨f,y⟩:=Pe (use[j.cw.toNat]'h)
   simp_all
  ·rw[if_neg o];simp_all
 by_cases hq:((decide (j.Queue≥0))&&(decide (j.Queue<(s.aq.length:Int))))=true
 ·have hq':=hq;simp only[bI,bB] at hq';obtain ⟨h,e⟩:=Hb (l:=s.aq) hq'.1 hq'.2;rw[if_pos hq,e,ay];obtain ⟨v,ev⟩:=m (s.aq[j.Queue.toNat]'h).fH
  simp_all
 ·rw[if_neg hq];obtain ⟨v,ev⟩:=m 0
  simp_all
def Ur(s:bg)(n:jO)(j:aJ):K3:=(qP 5000 s j n).getD (0,0,0)
theorem keyP_ok{s:bg}(hs:nZ s)(k:bq s)(n:jO)(j:aJ):qP 5000 s j n=some (Ur s n j):=by
 have:∃v,qP 5000 s j n=some v:=by
  obtain ⟨v,e⟩:=Vs hs k j n.aP n.jA;unfold qP
  simp_all
 grind [Ur]
theorem Us{s:bg}(hs:nZ s)(k:bq s)(n:jO){L:List aJ}(hL:∀j∈L,gj j)(hl:L.length<40) :
  bS (ze0 5000 L s n) λr=>r.Perm L:=by
 unfold ze0;rw[Kj hs k,ay,if_neg (by simp),Tz (by omega),ay];refine jC L.length (λi x=>x=((i:Int),(L.map (Ur s n)).take i++List.replicate (L.length-i) (0,0,0))) (λi x f hi a d=>?_) (λx f a=>?_) (by simp) (by omega)
 ·subst a;have hl:((L.map (Ur s n)).take i).length=i:=by grind
  have e:List.replicate (L.length-i) ((0,0,0):K3)=(0,0,0)::List.replicate (L.length-(i+1)) (0,0,0):=by rw[show L.length-i=(L.length-(i+1))+1 by omega,List.replicate_succ]
  simp only;rw[if_pos (cX hi),cf hi,ay,keyP_ok hs k,ay,e,dV (by rw[hl]),Dw,jI (by rw[hl]),bY (by omega)]
  grind [List.take_add_one]
 ·subst a;rw[yBO (by simp),yC4,List.replicate_zero,DZ];simp only;have z:∀x:aJ,GH x 0 (L.length:Int)=some []:=λx=>by
   unfold GH
   grind
  rw[if_neg (by simp),z,ay];refine (Qt (N:=5000) (p:=L.map (Ur s n)) (by simp_all) (by omega)).bind λr d=>?_;obtain ⟨hp,hw⟩:=d;rw[yH] at hp;have h:r.length=L.length:=by rw[hp.length_eq,sS]
  have m:∀x∈r,0<=x/\x<L.length:=λx a=>by
   have:=TY (p:=L.map (Ur s n)) (x:=x) (by grind)
   grind [Tc]
  let J:Int->aJ:=λx=>L.getD x.toNat { Id:=0,cw:=0,Queue:=0,aK:=0,aw:=({ bG:=0,Mem:=0,bK:=0,bM:=0 }:aE),aQ:=0,aF:=[],State:=0,Ok:=false,cQ:=false,aL:=0,cT:=0,Start:=0,End:=0,Array:=0 }
  have o:∀x∈r,aC L x=some (J x):=λx a=>by grind [Hb]
  refine jC r.length (λi x=>x=((i:Int),(r.map J).take i)) (λi x f hi a d=>?_) (λx f a=>?_) (by simp) (by omega)
  ·subst a;have t:gj (J r[i]):=by
    grind [Hb]
   simp only;rw[if_pos (cX hi),cf hi,ay,o _ (bH hi),ay];have u:zaG 5000 (J r[i]).aF=some (J r[i]).aF:=GP (by grind [gj.mF]);rw[u,ay,Dt (by grind),ay,bY (by omega)];refine d _ (by rw[List.take_add_one,eO (by grind)];simp)
  ·subst a;simp only;rw[if_neg (by simp),bm,yBO (by simp)];have g:(Wj L.length).map J=L:=by
    apply yCt
    ·simp[Wj]
    grind [Wj]
   grind
section
variable{l:List aJ}(hl:l.length<=300)(hs:bZ l)
def DepP(l:List aJ)(d:Ht):Prop:=∃j∈l,j.Id=d.aW/\(j.State=5\/j.State=6)/\(d.Ok=true->j.State=5/\j.Ok=true)
include hl in
theorem find_d(id:Int):bS (wM 5000 id l) λr=>(r.2=false/\∀j∈l,j.Id≠id)\/∃(i:Nat)(h:i<l.length),l[i].Id=id/\r=(l[i],true):=by
 unfold wM;refine yE l (λ_ j=>j.Id≠id) (λi f h _ a=>?_) (λf h=>?_) (by omega)
 ·simp only[cX h,if_true,cf h,ay,bY (show i<1000000 by omega),bz,bm,nD]
  grind
 ·simp only[eU,b_,cA,bm];exact .inl ⟨trivial,Er (A:=λ(j:aJ)=>j.Id≠id) h⟩
include hl hs in
theorem Y_{d:Ht}{i:Nat}(hi:i<l.length)(e:l[i].Id=d.aW):DepP l d↔(l[i].State=5\/l[i].State=6)/\(d.Ok=true->l[i].State=5/\l[i].Ok=true):=by
 constructor
 ·rintro ⟨j,hj,h1,h2,h3⟩;obtain ⟨t,a,rfl⟩:=jc hj;have:=hs.inj a hi (h1.trans e.symm)
  simp_all
 ·rintro ⟨h2,h3⟩;exact ⟨l[i],bH hi,e,h2,h3⟩
include hl hs in
theorem met_ok{j:aJ}(o:j.aF.length<=10):gz (qo 5000 j l) (∀d∈j.aF,DepP l d):=by
 unfold qo;refine Ra j.aF (DepP l) _ (λh=>h) (λi f hi Q h1 h2=>?_) (λf h=>?_) (by omega)
 ·rw[if_pos (cX hi),cf hi,ay];refine (find_d hl _).bind λr a=>?_;rw[fN];rcases a with ⟨a,hn⟩ | ⟨t,g,e,rfl⟩
  ·rw[if_pos (by simp[a])];show bS (if true=true then _ else _) _;rw[if_pos rfl,bm];exact h2 λ⟨j,hj,e,_⟩=>hn j hj e
  ·have m:=Y_ hl hs g e;unfold ED WX;simp only[ay];rw[if_neg (by simp),bY (show i<1000000 by omega)]
   grind [bm]
 ·simp only[eU,b_,cA];exact tj h
def Gk(l:List aJ)(j:aJ):Bool:=(j.State == 1)&&(qo 5000 j l).getD false
theorem YJ{T:Type}(st:T->Int)(met:T->Option Bool):∀l:List T,(∀a∈l,∃b,met a=some b)->FO st met l=some (l.filter λa=>(st a == 1)&&(met a).getD false)
 |[],_=>rfl
 |a :: l, h => by
  have ih:=YJ st met l λx d=>h x (pp _ d);obtain ⟨b,e⟩:=h a (sV ..);unfold FO
  grind
include hl hs in
theorem SJ(d:∀j∈l,j.aF.length<=10):fj 5000 l=some (l.filter (Gk l)):=by unfold fj YO;rw[show Nat.ble l.length 1000000=true from Nat.ble_eq▸(by omega)];exact YJ _ _ l λa h=>by obtain ⟨b,e,_⟩:=met_ok hl hs (d a h);simp_all
end
theorem SS{R:Type}{K:List aJ->Option R}:∀(r d:List aJ),d.length+r.length<=1000 ->
  lpR (λ(e:aJ) (f:List aJ) g=>
  (bX f ([e]:List aJ)).bind λi=>
  g i) K r d=K (d++r)
 |[],d,_=>by simp[lpR]
 |a :: r, d, h => by simp only[HI] at h;unfold lpR;rw[Dt (by grind),ay,SS r _ (by grind)];simp
theorem Mb{R:Type}{b:(Int×Int->Option R)->Int×Int->Option R}{Q:R->Prop}{l:List aJ}(hl:l.length<=300)(P:aJ->Bool)
  (hs:∀f (c i:Nat) (h:i<l.length),c<=i->bS (f (((if P l[i] then c+1 else c:Nat):Int),((i+1:Nat):Int))) Q->bS (b f ((c:Int),(i:Int))) Q)
  (e:∀f,bS (b f ((l.countP P:Int),(l.length:Int))) Q):bS (bD b 5000 (0,0)) Q:=by
 refine jC l.length (λi x=>x=(((l.take i).countP P:Int),(i:Int))) (λi x f hi a d=>?_) (λx f a=>?_) (by simp) (by omega)
 ·subst a;refine hs f _ i hi (kI List.countP_le_length (by grind)) (d _ ?_)
  grind [List.take_add_one]
 simp_all
def hasB(x:Int):Bool:=(x == 3) || (x == 4)
theorem Vo{l:List aJ}(hl:l.length<=300)(q:Int):lA 5000 l q=some (l.countP λj=>(j.Queue == q)&&hasB j.State:Int):=by
 unfold lA;apply bS.eq;rw[jT];refine Mb hl (λj=>(j.Queue == q)&&hasB j.State) (λf c i hi d a=>?_) (λf=>?_)
 ·simp only[fN];rw[if_pos (cX hi),cf hi,ay,bY (show i<1000000 by omega),bY (show c<1000000 by omega)];unfold eo;by_cases h:(l[i].Queue == q)=true
  ·rw[if_pos h,ay,ay];simp only[h,yC8] at a;show bS (if hasB l[i].State=true then _ else _) _
   grind
  simp_all
 ·simp only;rw[if_neg (by simp),bm,bm]
theorem of_eq{l:List aJ}(hl:l.length<=300)(q u:Int):Au 5000 l q u=some (l.countP λj=>((j.Queue == q)&&(j.cw == u))&&hasB j.State:Int):=by
 unfold Au;apply bS.eq;rw[jT];refine Mb hl (λj=>((j.Queue == q)&&(j.cw == u))&&hasB j.State) (λf c i hi d a=>?_) (λf=>?_)
 ·simp only[fN];rw[if_pos (cX hi),cf hi,ay,bY (show i<1000000 by omega),bY (show c<1000000 by omega)];unfold eo;by_cases h:((l[i].Queue == q)&&(l[i].cw == u))=true
  ·rw[if_pos h,ay,ay];simp only[h,yC8] at a;show bS (if hasB l[i].State=true then _ else _) _
   grind
  grind
 ·simp only;rw[if_neg (by simp),bm,bm]
theorem Hz{s:bg}(hs:nZ s)(k:bq s){l:List aJ}(hl:l.length<=300)(j:aJ):∃b,mo 5000 s l j=some b:=by
 unfold mo wk;by_cases hq:0<=j.Queue/\j.Queue<s.aq.length
 ·obtain ⟨a,e⟩:=Hb (l:=s.aq) hq.1 hq.2;rw[if_pos (by simp_all),Kj hs k,ay,ay,if_neg (by simp),e,ay,Vo hl,ay,of_eq hl,ay];split <;> exact ⟨_,rfl⟩
 ·rw[if_neg (by simp_all),ay,if_pos (by simp)]
  simp_all
theorem eL{F:List aE}{A:List bO}:(cG F A).length=F.length:=by
 induction A generalizing F with
 |nil=>rfl
 |cons a A ih=>have:=ih (F:=kZ F a);rw[zeQ] at this;exact this
theorem qw{A:List bO}:∀{F:List aE}{i:Nat}(h:i<F.length)(d:i<(cG F A).length)(c:Nat),cmp c (cG F A)[i]=cmp c F[i]-cR A i c:=by
 induction A with
 |nil=>grind [cG,cR]
 |cons a A ih=>
  intro F i h d c;have hl:i<(kZ F a).length:=by grind [zeQ]
  have:=ih (F:=kZ F a) hl (by grind [eL]) c;rw[ni,qv,Cz,CH] at this;rw[zdM];have e:(cG F (a::A))[i]=(cG (kZ F a) A)[i]'(by grind):=rfl
  grind
def others(A:List bO)(id:Int):List bO:=A.filter λb=>decide (b.aW≠id)
def Bg(x what:Int):Option Int:=
 if what=1/\x=1 then some 2 else if what=2/\x=2 then some 1 else if what=3/\x=1 then some 3 else if what=4/\x=3 then some 1 else if what=5/\x=3 then some 4 else if what=6/\x=3 then some 4
 else if what=6/\FK x then some 6 else if what=7/\(x=3\/x=4) then some 5 else if what=8/\x=4 then some 6 else none
theorem Wc(x what:Int):wY 5000 x what=some ((Bg x what).getD 0,(Bg x what).isSome):=by
 unfold wY Bg;simp only[fN,Qo,eo,ay,bI,nD];by_cases h1:what=1/\x=1
 ·simp_all
 rw[if_neg h1,if_neg h1];by_cases h2:what=2/\x=2
 ·simp_all
 rw[if_neg h2,if_neg h2];by_cases h3:what=3/\x=1
 ·simp_all
 rw[if_neg h3,if_neg h3]
 grind
def HasS(x:Int):Prop:=x=3\/x=4
instance (x:Int):Decidable (HasS x):=by unfold HasS;infer_instance
def mL(x:Int):Prop:=x=5\/x=6
instance (x:Int):Decidable (mL x):=by unfold mL;infer_instance
theorem Wp(x:Int):WX 5000 x=some (decide (mL x)):=by unfold WX;congr 1;rw[Bool.eq_iff_iff];rw[bB];simp only[gG,nD,mL]
def ig(j:aJ)(what a:Int)(ok:Bool)(ns:Int):aJ:=
  { j with
    State:=ns
    aL:=j.aL+1
    Ok:=if what=5 then ok else if what=6\/what=8\/what=7/\j.State=3 then false else j.Ok
    cQ:=if what=6 then true else if what=7 then false else j.cQ
    Start:=if what=3 then a else if what=4 then 0 else j.Start
    End:=if mL ns then a else j.End }
theorem PZ{j:aJ}(h:gj j){what i:Int}(hn:0<=i/\i<=1099511627776)(ok:Bool){ns:Int}(hs:Bg j.State what=some ns)(A:j.aL<281474976710656):gj (ig j what i ok ns):=by
 have p:=h.version;have r:=h.start;have t:=h.fin;have u:=h.state.start;have v:=h.state.fin;have y:=h.state.ok;have z:=h.state.kill;have g:(what=1/\j.State=1/\ns=2)\/(what=2/\j.State=2/\ns=1)\/(what=3/\j.State=1/\ns=3)\/(what=4/\j.State=3/\ns=1)\/(what=5/\j.State=3/\ns=4)\/(what=6/\j.State=3/\ns=4)\/(what=6/\FK j.State/\ns=6)\/(what=7/\(j.State=3\/j.State=4)/\ns=5)\/(what=8/\j.State=4/\ns=6):=by
  unfold Bg at hs;split at hs
  ·simp_all
  split at hs
  ·simp_all
  split at hs
  ·simp_all
  split at hs
  ·simp_all
  split at hs
  ·simp_all
  split at hs
  ·simp_all
  grind
 have f:j.State<4->j.Ok=false:=λm=>by grind
 have d:j.State<4->j.cQ=false:=λm=>by grind
 have o:FK j.State->j.State<3:=λhw=>by rcases hw with e | e <;> omega
 refine ⟨h.id,h.user,h.queue,h.many,h.need,h.o_,h.wall,h.mF,h.after,by grind [ig],h.born,?_,?_,h.arr,?_⟩
 ·simp only[ig];omega
 ·simp only[ig];omega
 ·have st0:j.State<3->j.Start=0:=λm=>yCr λq=>by omega
  have a:j.State<5->j.End=0:=λm=>yCr λq=>by omega
  rcases g with ⟨rfl,e,rfl⟩ | ⟨rfl,e,rfl⟩ | ⟨rfl,e,rfl⟩ | ⟨rfl,e,rfl⟩ | ⟨rfl,e,rfl⟩ | ⟨rfl,e,rfl⟩ | ⟨rfl,e,rfl⟩ | ⟨rfl,e,rfl⟩ | ⟨rfl,e,rfl⟩
  ·constructor <;> simp[ig,mL,f (by omega),d (by omega),st0 (by omega),a (by omega)]
  ·constructor <;> simp[ig,mL,f (by omega),d (by omega),st0 (by omega),a (by omega)]
  ·constructor <;> simp[ig,mL,f (by omega),d (by omega),st0 (by omega),a (by omega)]
  ·constructor <;> simp[ig,mL,f (by omega),d (by omega),a (by omega)]
  ·constructor <;> simp[ig,mL,d (by omega),a (by omega)]
  ·constructor <;> simp[ig,mL,a (by omega)]
  ·have:=o e;constructor <;> simp[ig,mL,f (by omega),d (by omega),st0 (by omega),a (by omega)]
  ·constructor <;> simp[ig,mL]
  ·constructor <;> simp[ig,mL]
theorem YT{j:aJ}(h:gj j){what a:Int}(hn:0<=a/\a<=1099511627776)(ok:Bool) :
  bS (wo 5000 j what a ok) λr=>(r.2≠0/\(Bg j.State what=none\/j.aL=281474976710656))\/∃ns,Bg j.State what=some ns/\j.aL<281474976710656/\r=(ig j what a ok ns,0):=by
 have e:=h.version;have m:=h.mF;unfold wo;dsimp only[fN];rw[wi h,ay,if_neg (by simp)];simp only[Ps,ay];rw[if_neg (by simp_all),Wc,ay];cases hs:Bg j.State what with
 |none=>rw[if_pos (by simp),bm];simp_all
 |some ns=>
  dsimp only[Option.isSome,Option.getD];rw[if_neg (by simp),bz];refine ⟨λf=>by grind [bm],λf=>?_⟩;simp only[nD] at f;rw[show zaG 5000 j.aF=some j.aF from GP (by omega),ay,wr (x:=j.aL+1) (by omega) (by omega)];simp only[Wp,ay,nD,JY,ne_eq,iF,bB];have fin:∀(o k:Bool)(t:Int),o=(if what=5 then ok else if what=6\/what=8\/what=7/\j.State=3 then false else j.Ok)->k=(if what=6 then true else if what=7 then false else j.cQ)->t=(if what=3 then a else if what=4 then 0 else j.Start) ->
    bS (if mL ns then some (({ Id:=j.Id,cw:=j.cw,Queue:=j.Queue,aK:=j.aK,aw:=j.aw,aQ:=j.aQ,aF:=j.aF,State:=ns,Ok:=o,cQ:=k,aL:=j.aL+1,cT:=j.cT,Start:=t,End:=a,Array:=j.Array }:aJ),(0:Int)) else some (({ Id:=j.Id,cw:=j.cw,Queue:=j.Queue,aK:=j.aK,aw:=j.aw,aQ:=j.aQ,aF:=j.aF,State:=ns,Ok:=o,cQ:=k,aL:=j.aL+1,cT:=j.cT,Start:=t,End:=j.End,Array:=j.Array }:aJ),(0:Int)))
     λr=>(r.2≠0/\((some ns:Option Int)=none\/j.aL=281474976710656))\/∃d,(some ns:Option Int)=some d/\j.aL<281474976710656/\r=(ig j what a ok d,0):=λo k t g hk i=>by
   subst g hk i;rw[bz];refine ⟨λq=>?_,λq=>?_⟩ <;> rw[bm] <;> refine .inr ⟨ns,rfl,by omega,?_⟩ <;> simp only[ig,q,if_true,cA]
  grind
structure AS (st:bT) (F:List aE):Prop where
 NK:BC F.length st.ae
 yT:F.length<=300
 W_:∀r∈F,aO r
 nodes:0<=st.aB.aj
 now:0<=st.aP/\st.aP<=1099511627776
theorem good_of{s:bg}{st:bT}(q:aV s st):BC s.aj.length st.ae:=λa d=>by obtain ⟨j,hj,P⟩:=q.cr.mem a d;exact ⟨P.pz.shares,by rw[P.need];exact (q.bj.each j hj).ok.need⟩
theorem OQ{s:bg}{st:bT}(q:aV s st):∀r∈cG s.aj st.ae,aO r:=λr a=>by
 obtain ⟨i,hi,rfl⟩:=jc a;have hn:i<s.aj.length:=by grind [eL]
 refine wW.2 λc=>?_;rw[qw hn hi c];have h1:=(pu q.cr q.spec.nodes.ok).2 i hn c;have h2:=xu (good_of q) i c;have h3:=wW.1 (q.spec.nodes.ok _ (bH hn)) c;omega
variable{s:bg}{st st':bT}
theorem gq.up{j:aJ}(h:gq s st j)(o:st.Next<=st'.Next)(i:st'.aP=st.aP):gq s st' j:=
 ⟨h.ok,by have:=h.next;omega,h.user,h.queue,by rw[i];exact h.born,by rw[i];exact h.start,by rw[i];exact h.fin,h.version⟩
theorem eX.up{j:aJ}{a:bO}(h:eX s st j a)(e:st'.aP=st.aP):eX s st' j a:=⟨h.Eb,h.need,h.pz,by rw[e];exact h.now⟩
theorem mem_set{l:List aJ}{k:Nat}{j x:aJ}(h:x∈l.set k j):x=j\/x∈l:=by grind
theorem idsC{l:List aJ}{k:Nat}(hk:k<l.length){j:aJ}(e:j.Id=l[k].Id){d:Int}(h:∃i∈l,i.Id=d):∃i∈l.set k j,i.Id=d:=by grind [List.mem_iff_getElem]
theorem Ox{l:List aJ}(hs:bZ l){k:Nat}(hk:k<l.length){j x:aJ}(h:x∈l.set k j):x=j\/x∈l/\x.Id≠l[k].Id:=by
 obtain ⟨m,hm,rfl⟩:=jc h;rw[yBz] at hm;by_cases c:k=m
 ·simp_all
 ·rw[yB2 c];exact .inr ⟨bH _,λe=>c (hs.inj hm hk e).symm⟩
structure ZJ (s:bg) (st:bT) (o j:aJ):Prop where
 id:j.Id=o.Id
 Po:gq s st j
 fits:j.State<5->jg 5000 s j.Queue j.aK j.aw=some true
 after:j.aF=o.aF
 live:j.State<5->o.State<5
theorem ZJ.waits{k:Nat}(hk:k<st.ah.length){j:aJ}(r:ZJ s st st.ah[k] j)(q:aV s st)(e:st'.ah=st.ah.set k j):∀x∈st'.ah,Iw s st' x:=by
 intro x o hs;rw[e] at o;have up:∀d,(∃i∈st.ah,i.Id=d)->∃i∈st'.ah,i.Id=d:=λd h=>by rw[e];exact idsC hk r.id h
 rcases mem_set o with rfl | o
 ·refine ⟨r.fits hs,λd u=>up _ ?_⟩;rw[r.after] at u;exact (q.waits _ (bH hk) (r.live hs)).after d u
 ·have:=q.waits x o hs;exact ⟨this.fits,λd u=>up _ (this.after d u)⟩
theorem ZJ.bj{k:Nat}(hk:k<st.ah.length){j:aJ}(r:ZJ s st st.ah[k] j)(q:aV s st)(e:st'.ah=st.ah.set k j)(u:st'.Next=st.Next)(o:st'.aP=st.aP):dz s st':=by
 refine ⟨by rw[e,yBz];exact q.bj.len,λx i=>?_,by rw[e];exact PD q.bj.bL hk r.id⟩;rw[e] at i;rcases mem_set i with rfl | i
 ·exact r.Po.up (by omega) o
 ·exact (q.bj.each x i).up (by omega) o
theorem asc_at{A:List bO}(h:BK A):∀i (hi:i<A.length),∀m (h:m<A.length),m+1=i->A[m].aW<A[i].aW:=λi hi m hm e=>by
 have:=yBa.1 h m i (by simp_all) (by simp_all) (by omega)
 simp_all
end Go.Plain
end
section
namespace Go.Plain
open Go.Abs
theorem NU{α:Type}{L:List (Int×α)}(hn:(L.map Prod.fst).Nodup){k:Int}{a:α}(h:(k,a)∈L):dq L k=some a:=by
 induction L with
 |nil=>cases h
 |cons p L ih=>
  obtain ⟨d,e⟩:=p;rw[sy,List.nodup_cons] at hn;simp only[dq]
  grind
theorem Ie{α:Type}{L:List (Int×α)}{k:Int}{a:α}(h:dq L k=some a):(k,a)∈L:=by
 induction L with
 |nil=>simp[dq] at h
 |cons p L ih=>grind [Go.Abs.dq]
theorem IR{α:Type}{L M:List (Int×α)}(h:L.Perm M)(hn:(M.map Prod.fst).Nodup)(k:Int):dq L k=dq M k:=by
 have d:(L.map Prod.fst).Nodup:=((h.map Prod.fst).nodup_iff).2 hn;cases hl:dq L k with
 |some a=>grind [NU,Ie]
 |none=>
  cases hm:dq M k with
  |none=>rfl
  |some a=>grind [NU,Ie]
theorem Yj{L:List (Int×bO)}{A:List bO}(h:L.Perm (mapA A))(a:BK A):a_ 5000 L=a_ 5000 (mapA A):=by
 have d:((mapA A).map Prod.fst).Nodup:=by
  have e:(mapA A).map Prod.fst=A.map (·.aW):=by simp[mapA]
  rw[e];exact a.imp λh=>by omega
 have f:A_ (λk=>k) L=A_ (λk=>k) (mapA A):=by
  unfold A_;have c:(L.length<=1000000/\(L.map Prod.fst).Nodup/\∀p∈L,(Lit.int .i64 p.1).wf=true)↔((mapA A).length<=1000000/\((mapA A).map Prod.fst).Nodup/\∀p∈mapA A,(Lit.int .i64 p.1).wf=true):=by grind [List.Perm.length_eq]
  by_cases g:(L.length<=1000000/\(L.map Prod.fst).Nodup/\∀p∈L,(Lit.int .i64 p.1).wf=true)
  ·rw[if_pos g,if_pos (c.1 g)]
   grind [Go.mergeSort_of_perm_i]
  grind
 grind [Go.Abs.a_,IR]
section
variable{s:bg}{st:bT}(q:aV s st){L:List (Int×bO)}(hL:L.Perm (mapA st.ae))
include q hL
theorem zF:R_ 5000 st.aB.aq st.ah L st.aP st.Next st.dw st.az st.jA st.aB.aj=some st:=by have hw:=WM q;have:=shown_of (Yv hw q);unfold R_ at this ⊢;rw[Yj hL (CA q)];exact this
omit hL in
theorem HY{a b:aJ}(d:a∈st.ah)(hb:b∈st.ah)(h:a.Id=b.Id):a=b:=by
 obtain ⟨i,hi,rfl⟩:=jc d;obtain ⟨j,hj,rfl⟩:=jc hb;have:=q.bj.bL.inj hi hj h
 simp_all
theorem readyV(h30:st.ah.length<=30):∃r,zdc 5000 st.aB.aq st.ah L s.aj s.aH s.aq s.aU s.am.lj s.am.cW s.am.fH s.am.bQ s.bW s.Mode s.ah s.kf s.aI s.bp s.dk s.In s.Out s.bV st.aP st.Next st.dw st.az st.jA st.aB.aj=some r/\r.Perm (st.ah.filter (Gk st.ah)):=by have hw:=WM q;have hl:=hw.bj;have d:∀j∈st.ah.filter (Gk st.ah),gj j:=λj hj=>(q.bj.each j (Tu.1 hj).1).ok;have a:(st.ah.filter (Gk st.ah)).length<=30:=kI (List.length_filter_le _ _) h30;obtain ⟨r,e,hp⟩:=Us hw.spec q.spec { aP:=st.aP,jA:=st.jA } d (by omega);refine ⟨r,?_,hp⟩;unfold zdc;rw[zF q hL,ay,SJ hl q.bj.bL hw.after,ay,SS _ _ (by grind),BM,mK hw.spec,ay,e];rfl
end
def Cr(s:bg)(l:List aJ)(id:Int):Bool:=match l.find? λj=>j.Id == id with
 |some j=>Gk l j&&(mo 5000 s l j).getD false
 |none=>false
theorem find_ix{l:List aJ}(hs:bZ l){i:Nat}(hi:i<l.length):(l.find? λj=>j.Id == l[i].Id)=some l[i]:=by
 cases h:l.find? (λj=>j.Id == l[i].Id) with
 |none=>
  have:=List.find?_eq_none.1 h _ (bH hi)
  simp_all
 |some j=>
  have h1:=List.find?_some h;simp only[nD] at h1;obtain ⟨k,hk,rfl⟩:=jc (yBB h);have:=hs.inj hk hi h1
  simp_all
theorem WF{s:bg}{l:List aJ}{id:Int}(h:Cr s l id=true):∃i,∃hi:i<l.length,l[i].Id=id/\Gk l l[i]=true/\l[i].State=1:=by
 unfold Cr at h;cases e:l.find? (λj=>j.Id == id) with
 |none=>simp_all
 |some j=>
  rw[e] at h;simp only[bI] at h;have h1:=List.find?_some e;simp only[nD] at h1;obtain ⟨i,hi,rfl⟩:=jc (yBB e);refine ⟨i,hi,h1,h.1,?_⟩;have:=h.1;unfold Gk at this
  simp_all
theorem Xk(s:bg)(l:List aJ){K:aJ->Option Bool}(id:Int):∀r:List aJ,lpR (λ(d:aJ) (e:Unit) f=>if (d.Id == id)=true then K d else f ()) (λ(e:Unit)=>some false) r ()=match r.find? λj=>j.Id == id with
  |some j=>K j
  |none=>some false
 |[]=>rfl
 |a :: r => by
  unfold lpR;rw[List.find?_cons];cases h:(a.Id == id) with
  |true=>simp_all
  |false=>rw[if_neg (by simp)];exact Xk s l id r
theorem mayV{s:bg}{st:bT}(q:aV s st){L:List (Int×bO)}(hL:L.Perm (mapA st.ae))(id:Int) :
  fD 5000 st.aB.aq st.ah L id s.aj s.aH s.aq s.aU s.am.lj s.am.cW s.am.fH s.am.bQ s.bW s.Mode s.ah s.kf s.aI s.bp s.dk s.In s.Out s.bV st.aP st.Next st.dw st.az st.jA st.aB.aj=some (Cr s st.ah id):=by
 have hw:=WM q;have hl:=hw.bj;unfold fD;rw[zF q hL,ay,SJ hl q.bj.bL hw.after,ay];refine (Xk s st.ah (K:=λa=>(zaV 5000 s.aj s.aH s.aq s.aU s.am.lj s.am.cW s.am.fH s.am.bQ s.bW s.Mode s.ah s.kf s.aI s.bp s.dk s.In s.Out s.bV).bind λd=>(mo 5000 d st.ah a).bind λf=>some f) id _).trans ?_;have g:∀j∈st.ah,j.Id=id->∀x∈st.ah,x.Id=id->x=j:=λj hj e x h i=>HY q h hj (i.trans e.symm);unfold Cr;cases e:st.ah.find? (λj=>j.Id == id) with
 |none=>grind
 |some j=>
  have h1:=List.find?_some e;simp only[nD] at h1;have hj:=yBB e;obtain ⟨b,m⟩:=Hz hw.spec q.spec hl j;by_cases r:Gk st.ah j=true
  ·have:(st.ah.filter (Gk st.ah)).find? (λj=>j.Id == id)=some j:=by
    cases o:(st.ah.filter (Gk st.ah)).find? (λj=>j.Id == id) with
    |none=>simp_all
    |some x=>grind
   grind [mK,lI.spec]
  grind
section
variable{l:List aJ}
theorem set_ok(hl:l.length<=300)(hs:bZ l){k:Nat}(hk:k<l.length){j:aJ}(hj:gj j)(a:j.Id=l[k].Id):zcX 5000 l j=some (l.set k j,0):=by have:=hj.mF;unfold zcX;rw[wi hj,ay,if_neg (by simp),a,Iq hl hs hk,ay];dsimp only;rw[if_neg (by simp),Ed (by omega),ay,cf hk,ay,yBZ]
theorem Rw(hl:l.length<=300)(hs:bZ l){k:Nat}(hk:k<l.length){j:aJ}(hj:gj j)(d:j.Id=l[k].Id){Q:List Int}(a:qE Q) :
  zbw 5000 Q l l[k] j=some (l.set k j,oU Q l[k].Queue j.Queue,0):=by
 unfold zbw;rw[set_ok hl hs hk hj d,ay];dsimp only;rw[if_neg (by simp),Pj a,ay];dsimp only[fN];unfold oU;by_cases h:j.Queue=l[k].Queue
 ·simp_all
 ·rw[if_pos (by simp_all),if_neg h,Pj (Jf a _),ay]
end
def AR(A:List bO)(a:bO):List bO:=match A with
 |[]=>[a]
 |b::A=>if b.aW<a.aW then b::AR A a else a::b::A
theorem mD(A:List bO)(a:bO):(AR A a).Perm (a::A):=by
 induction A with
 |nil=>exact yCe _
 |cons b A ih=>grind [AR]
theorem jU{A:List bO}{a x:bO}:x∈AR A a↔x=a\/x∈A:=by rw[(mD A a).mem_iff,gE]
theorem YK{A:List bO}{a:bO}(h:BK A)(hn:∀b∈A,b.aW≠a.aW):BK (AR A a):=by
 induction A with
 |nil=>simp[AR,BK]
 |cons b A ih=>
  unfold BK at h ih ⊢;rw[sy,yBx] at h;unfold AR;split
  ·rename_i g;rw[sy,yBx];refine ⟨λx e=>?_,ih h.2 λc d=>hn c (pp _ d)⟩;obtain ⟨c,d,rfl⟩:=iP.1 e;rcases jU.1 d with rfl | d
   ·exact g
   simp_all
  grind [List.pairwise_cons]
theorem zh{A B:List bO}(h:A.Perm B)(i:Int)(c:Nat):cR A i c=cR B i c:=by
 induction h with
 |nil=>rfl
 |cons x _ ih=>grind [zdM]
 |swap x y l=>simp only[zdM];omega
 |trans _ _ h1 h2=>omega
theorem msetV{α:Type}{L:List (Int×α)}{k:Int}{a:α}(h:dq L k=none):kj L k a=L++[(k,a)]:=by
 induction L with
 |nil=>rfl
 |cons p L ih=>
  obtain ⟨d,f⟩:=p;simp only[dq] at h;split at h
  ·simp at h
  ·rename_i e;simp only[kj,if_neg e,ih h,LH]
def kK(j:aJ)(a:Int):aJ:=ig j 3 a false 3
def dD(j:aJ)(sh:List cM):bO:={ aW:=j.Id,aw:=j.aw,ai:=sh }
def GD(st:bT)(k:Nat)(j:aJ)(sh:List cM):bT:=
 { st with ah:=st.ah.set k (kK j st.aP),ae:=AR st.ae (dD j sh),aB:={ aq:=oU st.aB.aq j.Queue j.Queue,aj:=RA st.aB.aj } }
section
variable{s:bg}{st:bT}(q:aV s st){k:Nat}(hk:k<st.ah.length)(h1:st.ah[k].State=1){sh:List cM}(hs:ju s st.ah[k] sh)(hf:uD (cG s.aj st.ae) (dD st.ah[k] sh))
include q hk h1
theorem Gj:∀a∈st.ae,a.aW≠st.ah[k].Id:=λa d e=>by
 obtain ⟨R,H⟩:=Lk q.spec q.bj q.cr;have:=(H _ (bH hk)).has.1 ⟨a,d,e⟩
 grind [tW]
theorem Tt:st.ah[k].aL<281474976710656:=by have j:=q.bj.each _ (bH hk);have:=j.version;have:=EQ st.ah[k].State;have:=q.spec.uV;omega
theorem Dc:gj (kK st.ah[k] st.aP):=by have j:=q.bj.each _ (bH hk);exact PZ j.ok q.nums.now false (ns:=3) (by rw[h1];rfl) (Tt q hk h1)
include hs hf
theorem Qs:cG s.aj (GD st k st.ah[k] sh).ae=kZ (cG s.aj st.ae) (dD st.ah[k] sh):=by
 show cG s.aj (AR st.ae (dD st.ah[k] sh))=_;refine yCt (by grind [eL,zeQ]) λi h1 h2=>dX λc=>?_;have hn:i<s.aj.length:=by grind [eL]
 rw[qw hn h1 c,ni h2,qv,Cz,CH,qw hn (by grind [eL]) c,zh (mD ..),zdM];omega
theorem startV{L:List (Int×bO)}(hL:L.Perm (mapA st.ae)):∃L',za4 5000 st.aB.aq st.ah L st.ah[k].Id sh s.aj s.aH s.aq s.aU s.am.lj s.am.cW s.am.fH s.am.bQ s.bW s.Mode s.ah s.kf s.aI s.bp s.dk s.In s.Out s.bV st.aP st.aB.aj (cG s.aj st.ae) =
   some (L',(GD st k st.ah[k] sh).aB.aq,(GD st k st.ah[k] sh).ah,0,cG s.aj (GD st k st.ah[k] sh).ae,(GD st k st.ah[k] sh).aB.aj)/\L'.Perm (mapA (GD st k st.ah[k] sh).ae):=by
 have hw:=WM q;have hl:=hw.bj;have r:=q.bj.each _ (bH hk);have f:=r.ok;have R:=f.mF;have sl:sh.length<=300:=by have:=rU hs.shares (by omega);have:=q.spec.nodes.hi;omega
 have i:=CA q;have none:dq L st.ah[k].Id=none:=by
  rw[IR hL (by
   have e:(mapA st.ae).map Prod.fst=st.ae.map (·.aW):=by simp[mapA]
   rw[e];exact i.imp λh=>by omega)]
  grind [Jp,Gj]
 obtain ⟨U,u,v⟩:=Mc hw.spec q.spec st.ah[k] sh sl;have:=v.2 hs;subst this;obtain ⟨y,A,E⟩:=YT f (what:=3) q.nums.now false;have G:Bg st.ah[k].State 3=some 3:=by rw[h1];rfl
 have m:y=(kK st.ah[k] st.aP,0):=by
  rcases E with ⟨_,g | g⟩ | ⟨W,d,_,o⟩
  ·simp_all
  ·have:=Tt q hk h1;omega
  ·rw[G] at d;injection d with d
   subst d;exact o
 subst m;have K:=OQ q;obtain ⟨p,N,d,o⟩:=Kc (M:=L) (a:=dD st.ah[k] sh) (F:=cG s.aj st.ae) (by rw[eL];have:=q.spec.nodes.hi;omega) sl K;have O:uS L (cG s.aj st.ae) (dD st.ah[k] sh):=by
  refine ⟨f.id,λe=>?_,by rw[eL];exact hs.shares,f.need,none,hf⟩;have P:sh=[]:=e;have t:=hs.WN;rw[P] at t;have:=f.many
  grind [lN]
 have z:=d.2 O;obtain ⟨m1,Q⟩:=o z;refine ⟨p.1,?_,?_⟩
 ·unfold za4;rw[get_some hl q.bj.bL hk (by omega),ay];dsimp only;rw[if_neg (by simp),if_neg (by simp[h1])];rw[show zfb 5000 ({ aj:=s.aj,aH:=s.aH,aq:=s.aq,aU:=s.aU,am:=({ lj:=s.am.lj,cW:=s.am.cW,fH:=s.am.fH,bQ:=s.am.bQ }:LR),bW:=s.bW,Mode:=s.Mode,ah:=s.ah,kf:=s.kf,aI:=s.aI,bp:=s.bp,dk:=s.dk,In:=s.In,Out:=s.Out,bV:=s.bV }:bg) st.ah[k] sh=some true from u,Dw,if_neg (by simp),A,Dw,if_neg (by simp)];rw[show zaY 5000 L ({ aW:=st.ah[k].Id,aw:=st.ah[k].aw,ai:=sh }:bO) (cG s.aj st.ae)=some p from N,Dw,if_neg (by simp[z]),Om q.use.nodes.1,Dw,Rw hl q.bj.bL hk (Dc q hk h1) rfl q.use.stamps,Dw];rw[Qs q hk h1 hs hf,Q.eq];rfl
 ·rw[m1];show (kj L st.ah[k].Id (dD st.ah[k] sh)).Perm _;rw[msetV none];show (L++[(st.ah[k].Id,dD st.ah[k] sh)]).Perm (mapA (AR st.ae (dD st.ah[k] sh)));refine List.Perm.trans ?_ ((mD st.ae (dD st.ah[k] sh)).map _).symm;exact (yBG.trans (List.Perm.cons _ hL))
theorem Dn(hcl:∀x∈sh,∀b∈st.az,b.Node=x.Node->¬b.bJ<st.aP+st.ah[k].aQ):aV s (GD st k st.ah[k] sh):=by
 obtain ⟨R,H⟩:=Lk q.spec q.bj q.cr;have g:=q.bj.each _ (bH hk);have v:=Dc q hk h1;have o:=CA q;have p:=Gj q hk h1;have NK:=R.NK;have ver:=g.version;rw[h1] at ver;have r:ZJ s st st.ah[k] (kK st.ah[k] st.aP):=by refine ⟨rfl,⟨v,g.next,g.user,g.queue,g.born,LU _,g.fin,?_⟩,λ_=>(q.waits _ (bH hk) (by omega)).fits,rfl,λ_=>by omega⟩;show st.ah[k].aL+1<=s.aI+jb 3;have:jb 1=0:=rfl;have:jb 3=1:=rfl;omega
 have J:=r.bj (st':=GD st k st.ah[k] sh) hk q rfl rfl rfl;have m:BK (AR st.ae (dD st.ah[k] sh)):=YK o p;have t:=g.ok.wall;have u:∀(i:Nat)(hi:i<s.aj.length) c,cR (dD st.ah[k] sh::st.ae) i c<=cmp c s.aj[i]:=λi hi c=>by
  have hl:i<(cG s.aj st.ae).length:=by grind [eL]
  have:=wW.1 (hf i hl) c;rw[qv,Cz,CH,qw hi hl c] at this
  grind [zdM]
 refine ⟨q.spec,⟨q.nums.now,q.nums.next,q.nums.book⟩,J,r.waits hk q rfl,XN q.spec J ⟨λi hi=>?_,λi hi c=>?_⟩ λx f=>?_,⟨q.fR.cy,q.fR.live,λa d=>?_⟩,⟨q.use.len,q.use.use,by show (oU _ _ _).length=_;rw[NT];exact q.use.qlen,T_ q.use.nodes,PJ q.use.stamps _ _⟩⟩
 ·have hm:∀a∈AR st.ae (dD st.ah[k] sh),(∃j∈(GD st k st.ah[k] sh).ah,j.Id=a.aW)/\bo a.ai s.aj.length/\aO a.aw:=λa d=>by
   rcases jU.1 d with rfl | d
   ·exact ⟨⟨kK st.ah[k] st.aP,KW.2 ⟨k,by show k<(st.ah.set k _).length;simp_all,yBE _⟩,rfl⟩,hs.shares,g.ok.need⟩
   ·obtain ⟨x,f,P⟩:=q.cr.mem _ d;exact ⟨idsC hk r.id ⟨x,f,P.Eb.symm⟩,NK _ d⟩
  obtain ⟨m1,y,z⟩:=hm _ (bH hi);exact ⟨asc_at m i hi,m1,y,z⟩
 ·show cR (AR st.ae (dD st.ah[k] sh)) i c<=_
  grind [zh,mD]
 ·rcases Ox q.bj.bL hk f with rfl | ⟨f,c⟩
  ·refine ⟨⟨λ_=>rfl,λ_=>⟨_,jU.2 (.inl rfl),rfl⟩⟩,λa d e=>?_⟩;rcases jU.1 d with rfl | d
   ·exact ⟨rfl,rfl,⟨hs.shares,hs.WN,hs.q,hs.part⟩,by show st.aP<st.aP+st.ah[k].aQ;omega⟩
   ·exact absurd e (p a d)
  ·have h:=H x f;refine ⟨⟨λ⟨a,d,e⟩=>?_,λA=>?_⟩,λa d e=>?_⟩
   ·rcases jU.1 d with rfl | d
    ·exact absurd e.symm c
    ·exact h.has.1 ⟨a,d,e⟩
   ·obtain ⟨a,d,e⟩:=h.has.2 A;exact ⟨a,jU.2 (.inr d),e⟩
   ·rcases jU.1 d with rfl | d
    ·exact absurd e.symm c
    ·exact (h.aaj a d e).up rfl
 ·intro x f e;rcases jU.1 d with rfl | d
  ·rcases Ox q.bj.bL hk f with rfl | ⟨f,c⟩
   ·exact hcl
   ·exact absurd e c
  ·rcases mem_set f with rfl | f
   ·exact absurd (show a.aW=st.ah[k].Id from e.symm) (p a d)
   ·exact q.fR.yM a d x f e
end
def Dp(q:fi)(w:Bb):gD×Bool:=(zaF 5000 q w).getD ({ aW:=0,At:=0,ai:=[] },false)
section
variable{nodes:List (List bP)}{q:fi}{L:Nat}(hL:L<=200)(hq:km q)(hp:PR nodes q L)
include hL hq hp
theorem Ea{w:Bb}(hw:Je q w):zaL 5000 nodes w.Part w.aK w.aw w.aQ q.aP q.S.aH=some (Dp q w)/\zaF 5000 q w=some (Dp q w)/\∃T,Ak q T/\rO q w T (Dp q w):=by grind [MK,Dp]
structure AZ (q:fi) (w:Bb) (cO:Int) (sh:List cM):Prop where
 lo:q.aP<=cO
 hi:cO<=1099511627776
 shares:bo sh q.S.aj.length
 WN:lN sh=w.aK
 part:∀y∈sh,y.Node∈ce q w
 fit:∀(k:Nat)(h:k<q.S.aj.length)(t:Int),cO<=t->t<cO+w.aQ->s_ (mulR (dO sh k) w.aw) (bC q k t)
theorem Xn{w:Bb}(hw:Je q w){t:Int}(h:q.aP<=t)(d:(cu q w t).2=true):AZ q w t (cu q w t).1:=by
 have i:=ND hL hq hp hw d;obtain ⟨F,m,f,_,e⟩:=xr (by omega) hq hp hw h i;have w1:cu q w t=BS F (ce q w) w.aK w.aw:=by grind [cu]
 have G:=hq.spec.parts.ok _ (jM hw).2;rw[w1] at d ⊢;obtain ⟨p1,o,p,r⟩:=UX f (by grind [Dr.len]) hw.need hw.o_ d;rw[m.len] at p1;refine ⟨h,i,p1,o,p,λk hk u v z=>?_⟩;have a:k<F.length:=by grind [Dr.len]
 have A:aO (bC q k u):=hp.right k u (by omega) (by omega) (by omega);refine mulR_le (y_ (λy E=>by have:=p1.mem y E;omega) _) hw.need ?_ A;rcases r k a with g | g
 ·left;intro c;have h1:=(m.low k a).le u _ v z rfl c;have h2:=g c;omega
 omega
theorem JQ{w:Bb}(hw:Je q w)(h:(Dp q w).2=true):AZ q w (Dp q w).1.At (Dp q w).1.ai:=by obtain ⟨_,_,T,a,d⟩:=Ea hL hq hp hw;obtain ⟨e,f,_,_,g⟩:=d.yes h;rw[g];exact Xn hL hq hp hw ((a.mem _).1 e).1 f
end
def eH(j:aJ)(p:gD):qp:={ bJ:=p.At,To:=p.At+j.aQ,aw:=j.aw,ai:=p.ai }
theorem NQ{q:fi}{w:Bb}{j:aJ}{p:gD}(h:AZ q w p.At p.ai)(hj:gj j)(hq:km q):mM (eH j p) q.S.aj.length:=by
 have n:=hq.now;have a:=hj.wall;have d:=h.lo;have hi:=h.hi;have nn:=hq.spec.nodes.hi;refine ⟨h.shares,?_,hj.need,?_,?_⟩
 ·have:=rU h.shares (by omega);show p.ai.length<=300;omega
 ·show 0<=p.At;omega
 ·show p.At+j.aQ<=_;omega
theorem OA{q:fi}{u:qp}(hq:km q)(d:mM u q.S.aj.length)(hl:q.L.length+1≤100):km (ue q u):=
 ⟨hq.spec,hq.now,hq.cy,fun v a=>by
  rcases kB.1 a with a | a
  ·exact hq.used v a
  ·rw [zq.1 a]; exact d,by show (q.L++[u]).length≤100; simp_all⟩
section
variable{nodes:List (List bP)}{q:fi}{L:Nat}(hL:L<=200)(hq:km q)(hp:PR nodes q L){st:bT}{j:aJ}(hj:gq q.S st j)
include hL hq hp hj
theorem Ye{r:gD×Bool}(h:r.2=true):(named j r).1={ aW:=j.Id,At:=r.1.At,ai:=r.1.ai }/\(named j r).2=true:=by unfold named;simp_all
theorem sK:WK 5000 nodes j q.S.aj q.S.aH q.S.aq q.S.aU q.S.am.lj q.S.am.cW q.S.am.fH q.S.am.bQ q.S.bW q.S.Mode q.S.ah q.S.kf q.S.aI q.S.bp q.S.dk q.S.In q.S.Out q.S.bV q.aP q.S.aH=some (named j (Dp q (dH q.S j))):=by
 have hw:=qx hq.spec rfl hj;obtain ⟨a,_,_⟩:=Ea hL hq hp hw;obtain ⟨h,e,d⟩:=vk ⟨hj.ok.queue.1,hj.queue⟩;have f:=hj.queue;have g:=hj.ok.queue.1;rw[d] at a ⊢;unfold WK;rw[mK (gn hq.spec),ay,if_neg (by simp_all),e,ay];dsimp only at a ⊢;rw[a,ay];unfold named
 grind
end
structure CX where
 st:bT
 q:fi
 P:List gD
 S:List gD
def Rl(l:List aJ)(id:Int):Nat:=l.findIdx λj=>j.Id == id
def pZ(st:bT)(j:aJ)(sh:List cM):bT:=GD st (Rl st.ah j.Id) j sh
def aN(s:bg)(q:fi)(j:aJ):gD×Bool:=named j (Dp q (dH s j))
def Jn(s:bg)(x:CX)(j:aJ):CX:=
 if Cr s x.st.ah j.Id=true then
  if (aN s x.q j).2=true then
   if (aN s x.q j).1.At > x.q.aP then { st:=x.st,q:=ue x.q (eH j (aN s x.q j).1),P:=x.P++[(aN s x.q j).1],S:=x.S }
   else { st:=pZ x.st j (aN s x.q j).1.ai,q:=ue x.q (eH j (aN s x.q j).1),P:=x.P,S:=x.S++[(aN s x.q j).1] }
  else x
 else x
theorem DV{l:List aJ}(hs:bZ l){i:Nat}(hi:i<l.length):Rl l l[i].Id=i:=by unfold Rl;have h:l.findIdx (λj=>j.Id == l[i].Id)<l.length:=List.findIdx_lt_length.2 ⟨l[i],bH hi,by simp⟩;have:=List.findIdx_getElem (w:=h);simp only[nD] at this;exact hs.inj h hi this
structure qe (s:bg) (st0:bT) (x:CX) (n:Nat):Prop where
 sound:aV s x.st
 now:x.st.aP=st0.aP
 next:x.st.Next=st0.Next
 book:x.st.dw=st0.dw
 cy:x.st.az=st0.az
 use:x.st.jA=st0.jA
 len:x.st.ah.length=st0.ah.length
 bj:∀m (h:m<x.st.ah.length) (h':m<st0.ah.length),x.st.ah[m]=st0.ah[m]\/x.st.ah[m]=kK st0.ah[m] st0.aP
 ref:km x.q
 qs:x.q.S=s
 qn:x.q.aP=st0.aP
 qb:x.q.az=st0.az
 yT:x.q.L.length<=30+n
 used:∀(k:Nat)(c:Nat),cR x.st.ae k c<=cmp c (aR x.q.L k st0.aP)
 Dh:x.P.length+x.S.length<=n
theorem qe.up{s:bg}{st0:bT}{x:CX}{n:Nat}(h:qe s st0 x n):qe s st0 x (n+1):={ h with yT:=by have:=h.yT;omega,Dh:=by have:=h.Dh;omega }
theorem Da(q:fi)(u:qp)(k t:Int)(c:Nat):cmp c (aR (ue q u).L k t)=cmp c (aR q.L k t)+cmp c (jv u k t):=by grind [ue,nA,wQ]
section
variable{s:bg}{st0:bT}{x:CX}{n:Nat}(I:qe s st0 x n)(q0:aV s st0)
include I q0
theorem qe.Eb{j:aJ}(hj:j∈st0.ah)(hm:Cr s x.st.ah j.Id=true):∃m,∃h:m<x.st.ah.length,x.st.ah[m]=j/\j.State=1:=by
 obtain ⟨m,o,e,_,h1⟩:=WF hm;have hl:m<st0.ah.length:=by grind [qe.len]
 obtain ⟨i,hi,rfl⟩:=jc hj;rcases I.bj m o hl with g | g
 ·rw[g] at e h1;have:=q0.bj.bL.inj hl hi e
  grind
 grind [kK,ig]
end
section
variable{s:bg}{st0:bT}{x:CX}{n:Nat}(I:qe s st0 x n)(q0:aV s st0)(hn:n<=30){nodes:List (List bP)}{b:Nat}(hb:b<=200)(hp:PR nodes x.q b){j:aJ}(hj:j∈st0.ah)(hm:Cr s x.st.ah j.Id=true)
include I q0 hn hb hp hj hm
structure FM (s:bg) (x:CX) (j:aJ) (m:Nat) (hm:m<x.st.ah.length) (p:gD):Prop where
 cO:x.st.ah[m]=j
 one:x.st.ah[m].State=1
 pz:ju s x.st.ah[m] p.ai
 fits:p.At=x.st.aP->uD (cG s.aj x.st.ae) (dD x.st.ah[m] p.ai)
 yM:p.At=x.st.aP->∀y∈p.ai,∀b∈x.st.az,b.Node=y.Node->¬b.bJ<x.st.aP+x.st.ah[m].aQ
 id:p.aW=j.Id
 place:AZ x.q (dH s j) p.At p.ai
theorem ny(h:(aN s x.q j).2=true):∃m,∃hm:m<x.st.ah.length,FM s x j m hm (aN s x.q j).1:=by
 obtain ⟨m,p,e,h1⟩:=I.Eb q0 hj hm;have qs:=I.qs;have d:=I.sound.bj.each _ (bH p);rw[e] at d;have E:gq x.q.S x.st j:=by simp_all
 have hw:Je x.q (dH s j):=qx (st:=x.st) I.sound.spec qs d;have K:(Dp x.q (dH s j)).2=true:=by grind [aN,named]
 have P:=JQ hb I.ref hp hw K;obtain ⟨N,_⟩:=Ye hb I.ref hp E K;have pl:(aN s x.q j).1={ aW:=j.Id,At:=(Dp x.q (dH s j)).1.At,ai:=(Dp x.q (dH s j)).1.ai }:=N;obtain ⟨hq',O,v⟩:=vk (s:=s) (j:=j) ⟨d.ok.queue.1,d.queue⟩;have Q:(dH s j).aw=j.aw:=by rw[v]
 have R:(dH s j).aQ=j.aQ:=by rw[v]
 have wm:(dH s j).aK=j.aK:=by rw[v]
 have wp:(dH s j).Part=s.aq[j.Queue.toNat].Part:=by rw[v]
 have z:=P.fit;have a:=P.shares;have U:=P.lo;rw[Q,R] at z;rw[qs] at a z;have xn:x.q.aP=x.st.aP:=by rw[I.qn,I.now]
 have M:=d.ok.wall;refine ⟨m,p,e,by simp_all,?_,λr=>?_,λr=>?_,by rw[pl],by simp_all⟩
 ·rw[e,pl];refine ⟨a,by grind [AZ.WN],⟨d.ok.queue.1,d.queue⟩,λy A=>?_⟩;have:=P.part y A
  grind [ce]
 ·rw[e];rw[pl] at r ⊢;dsimp only at r ⊢;intro i hi;have g:i<s.aj.length:=by grind [eL]
  have W:=OQ I.sound;refine wW.2 λc=>?_;have l1:=wW.1 (W _ (bH hi)) c;have o:=hY (sR a i) (wW.1 d.ok.need c);unfold qv;rw[Cz,CH];show 0<=_-dO (Dp x.q (dH s j)).1.ai i * cmp c j.aw/\_-dO (Dp x.q (dH s j)).1.ai i * cmp c j.aw<=1048576;have f:=z i g x.q.aP (by omega) (by omega) c;rw[CH] at f;have fl:cmp c (bC x.q i x.q.aP)<=cmp c (cG s.aj x.st.ae)[i]:=by
   rw[qw g hi];have u:=I.used i c;have nv:=wW.1 (I.sound.spec.nodes.ok _ (bH g)) c;unfold bC;split
   ·grind [Pw,qw]
   grind [Cz,AW,qe.qn]
  omega
 ·rw[e];rw[pl] at r ⊢;dsimp only at r ⊢;intro y A bk hb' X Y;obtain ⟨i,hi,rfl⟩:=jc A;have o:=Ky a hi;obtain ⟨Z,y1,y2,y3⟩:=a.mem _ A;have bl:=(I.sound.fR.live _ hb').2;obtain ⟨F,G,rfl⟩:=jc hb';have b1:=(I.sound.fR.cy.each F G).one;have sp:=b1.span
  let t:=max x.st.aP x.st.az[F].bJ
  have t1:x.st.aP<=t:=by omega
  have t2:t<x.st.aP+j.aQ:=by omega
  have hk:((Dp x.q (dH s j)).1.ai[i]).Node.toNat<s.aj.length:=by omega
  have f:=z _ hk t (by omega) (by omega);rw[yCu Z,o] at f;have mz:Eu x.q.az ((Dp x.q (dH s j)).1.ai[i]).Node t:=⟨x.st.az[F],by rw[I.qb,<-I.cy];omega,X,by omega,by omega⟩;have fz:bC x.q ((Dp x.q (dH s j)).1.ai[i]).Node t=bU:=by unfold bC;grind
  rw[fz] at f;apply d.ok.o_;refine dX λc=>?_;have fc:=f c;rw[CH,Pw] at fc;rw[Pw];have n0:=wW.1 d.ok.need c;have:1 * cmp c j.aw<=((Dp x.q (dH s j)).1.ai[i]).aK * cmp c j.aw:=yAW y2 n0.1;omega
end
theorem qe.step{s:bg}{st0:bT}{x:CX}{n:Nat}(I:qe s st0 x n)(q0:aV s st0)(hn:n<=30){nodes:List (List bP)}{b:Nat}(hb:b<=200)(hp:PR nodes x.q b){j:aJ}(hj:j∈st0.ah):qe s st0 (Jn s x j) (n+1):=by
 unfold Jn;split
 rotate_left
 ·exact I.up
 rename_i hm;split
 rotate_left
 ·exact I.up
 rename_i z;obtain ⟨m,o,F⟩:=ny I q0 hn hb hp hj hm z;have E:=I.sound.bj.each _ (bH o);have A:=E.ok;rw[F.cO] at E A;have G:mM (eH j (aN s x.q j).1) x.q.S.aj.length:=NQ F.place A I.ref;have K:=OA I.ref G (by have:=I.yT;omega);have yT:(ue x.q (eH j (aN s x.q j).1)).L.length<=30+(n+1):=by have:=I.yT;show (x.q.L++[_]).length<=_;grind
 have O:=F.place.lo;have more:∀k c,cmp c (aR x.q.L k st0.aP)<=cmp c (aR (ue x.q (eH j (aN s x.q j).1)).L k st0.aP):=λk c=>by rw[Da];have:=Fw G k st0.aP c;omega
 split
 ·exact { I with
   ref:=K
   qs:=I.qs
   qn:=I.qn
   qb:=I.qb
   yT:=yT
   used:=λk c=>Int.le_trans (I.used k c) (more k c)
   Dh:=by have:=I.Dh;grind }
 ·rename_i Q;have cO:(aN s x.q j).1.At=x.st.aP:=by grind [qe.qn,qe.now]
  have R:Rl x.st.ah j.Id=m:=by rw[<-F.cO];exact DV I.sound.bj.bL o
  have U:pZ x.st j (aN s x.q j).1.ai=GD x.st m x.st.ah[m] (aN s x.q j).1.ai:=by unfold pZ;rw[R,F.cO]
  have W:=Dn I.sound o F.one F.pz (F.fits cO) (F.yM cO);rw[U];exact {
   sound:=W
   now:=I.now
   next:=I.next
   book:=I.book
   cy:=I.cy
   use:=I.use
   len:=by show (x.st.ah.set m _).length=_;rw[yBz];exact I.len
   bj:=λi h M=>by
    have hi:i<x.st.ah.length:=by grind [qe.len]
    show (x.st.ah.set m (kK x.st.ah[m] x.st.aP))[i]'(by simp_all)=_\/(x.st.ah.set m (kK x.st.ah[m] x.st.aP))[i]'(by simp_all)=_;by_cases g:m=i
    ·subst g;rw[yBE];right;rcases I.bj m o M with g | g
     ·rw[g,I.now]
     grind [FM.one,kK,ig]
    ·rw[yB2 g];exact I.bj i hi M
   ref:=K
   qs:=I.qs
   qn:=I.qn
   qb:=I.qb
   yT:=yT
   used:=λk c=>by
    show cR (AR x.st.ae (dD x.st.ah[m] (aN s x.q j).1.ai)) k c<=_;rw[zh (mD ..),zdM,Da];have u:=I.used k c;have X:jv (eH j (aN s x.q j).1) k st0.aP=mulR (dO (aN s x.q j).1.ai k) j.aw:=by
     unfold jv;have Y:=A.wall;rw[if_pos]
     ·rfl
     ·show (aN s x.q j).1.At<=st0.aP/\st0.aP<(aN s x.q j).1.At+j.aQ
      grind [qe.now]
    rw[X,CH,F.cO];show dO (aN s x.q j).1.ai k * cmp c j.aw+_<=_;omega
   Dh:=by have:=I.Dh;grind }
section
variable{l:List aJ}(hl:l.length<=300)(hs:bZ l)
include hl hs in
include hl hs in
include hl hs in
include hl hs in
end
section
variable{s:bg}{st:bT}(q:aV s st){k:Nat}(hk:k<st.ah.length)(h1:st.ah[k].State=1){sh:List cM}(hs:ju s st.ah[k] sh)(hf:uD (cG s.aj st.ae) (dD st.ah[k] sh))(hcl:∀x∈sh,∀b∈st.az,b.Node=x.Node->¬b.bJ<st.aP+st.ah[k].aQ)
include q hk h1 hs hf hcl
end
def cx0(s:bg)(st:bT):CX:={ st:=st,q:=eT s st,P:=[],S:=[] }
section
variable{s:bg}{st0:bT}(q0:aV s st0)(h30:st0.ah.length<=30)
include q0 h30
theorem cinv0:qe s st0 (cx0 s st0) 0:={
 sound:=q0
 now:=rfl
 next:=rfl
 book:=rfl
 cy:=rfl
 use:=rfl
 len:=rfl
 bj:=λm h f=>.inl rfl
 ref:=Bn (WM q0) q0 h30
 qs:=rfl
 qn:=rfl
 qb:=rfl
 yT:=by
  have:=jt (WM q0) q0;show (st0.ae.map (cF st0)).length<=_
  grind
 used:=λk c=>by
  have hw:=WM q0;show cR st0.ae k c<=cmp c (aR (st0.ae.map (cF st0)) k st0.aP);rw[wT,WD];unfold cR;have:∀A:List bO,(∀a∈A,a∈st0.ae)->(A.map λa=>dO a.ai k * cmp c a.aw)=A.map ((λu=>cmp c (jv u k st0.aP))∘cF st0):=λA d=>List.map_congr_left λa e=>by have b:=FV hw q0 (d a e);show _=cmp c (jv (cF st0 a) k st0.aP);unfold jv;rw[if_pos (show (cF st0 a).bJ<=st0.aP/\st0.aP<(cF st0 a).To from ⟨LU _,b.1⟩),CH];rfl
  grind
 Dh:=RP _ }
end
structure EX where
 c:CX
 h:aJ
 hd:UA
def noJ:aJ:={ Id:=0,cw:=0,Queue:=0,aK:=0,aw:={ bG:=0,Mem:=0,bK:=0,bM:=0 },aQ:=0,aF:=[],State:=0,Ok:=false,cQ:=false,aL:=0,cT:=0,Start:=0,End:=0,Array:=0 }
def sW(s:bg)(x:EX)(j:aJ):Bool:=
 x.hd.aW != 0&&((!(aN s (ue x.c.q (eH j (aN s x.c.q j).1)) x.h).2) || decide ((aN s (ue x.c.q (eH j (aN s x.c.q j).1)) x.h).1.At > x.hd.c_))
def zB(s:bg)(x:CX)(j:aJ):CX:={ st:=pZ x.st j (aN s x.q j).1.ai,q:=ue x.q (eH j (aN s x.q j).1),P:=x.P,S:=x.S++[(aN s x.q j).1] }
def mB(s:bg)(x:EX)(j:aJ):EX:=
 if Cr s x.c.st.ah j.Id=true then
  if (aN s x.c.q j).2=true then
   if (aN s x.c.q j).1.At > x.c.q.aP then
    if x.hd.aW=0 then { c:=x.c,h:=j,hd:={ aW:=j.Id,c_:=(aN s x.c.q j).1.At,aF:=0 } } else x
   else if sW s x j=true then x
   else { c:=zB s x.c j,h:=x.h,hd:=x.hd }
  else x
 else x
def Yz:UA:={ aW:=0,c_:=0,aF:=0 }
def ex0(s:bg)(st:bT):EX:={ c:={ st:=st,q:=eT s st,P:=[],S:=[] },h:=noJ,hd:=Yz }
def cD(s:bg)(st:bT)(r:List aJ):EX:=r.foldl (mB s) (ex0 s st)
theorem wR{s:bg}{st0:bT}{r:List aJ}{i:Nat}(hi:i<r.length):cD s st0 (r.take (i+1))=mB s (cD s st0 (r.take i)) r[i]:=by grind [cD,List.take_succ_eq_append_getElem]
def px(s:bg)(x:EX)(j:aJ):Prop:=Cr s x.c.st.ah j.Id=true/\(aN s x.c.q j).2=true/\¬(aN s x.c.q j).1.At > x.c.q.aP/\sW s x j=false
theorem Cs{s:bg}{x:EX}{j:aJ}(h:px s x j):mB s x j={ c:=zB s x.c j,h:=x.h,hd:=x.hd }:=by unfold mB;rw[if_pos h.1,if_pos h.2.1,if_neg h.2.2.1,if_neg (by simp[h.2.2.2])]
theorem Ax{s:bg}{x:EX}{j:aJ}(h:¬px s x j):(mB s x j).c=x.c:=by
 unfold mB;unfold px at h
 grind
theorem HV{s:bg}{x:EX}{j:aJ}(h:px s x j):zB s x.c j=Jn s x.c j:=by unfold Jn zB;rw[if_pos h.1,if_pos h.2.1,if_neg h.2.2.1]
structure KU (s:bg) (st0:bT) (x:EX) (n:Nat):Prop where
 c:qe s st0 x.c n
 pn:x.c.P=[]
 hd:x.hd.aW≠0->x.h∈st0.ah/\x.hd.aW=x.h.Id
 aft:x.hd.aF=0
theorem KU.step{s:bg}{st0:bT}{x:EX}{n:Nat}(I:KU s st0 x n)(q0:aV s st0)(hn:n<=30){nodes:List (List bP)}{b:Nat}(hb:b<=200)(hp:PR nodes x.c.q b){j:aJ}(hj:j∈st0.ah):KU s st0 (mB s x j) (n+1):=by
 by_cases h:px s x j
 ·rw[Cs h];refine ⟨?_,I.pn,I.hd,I.aft⟩;show qe s st0 (zB s x.c j) (n+1);rw[HV h];exact I.c.step q0 hn hb hp hj
 ·refine ⟨by rw[Ax h];exact I.c.up,by rw[Ax h];exact I.pn,?_,?_⟩
  ·have:=I.hd;unfold mB
   grind
  ·have:=I.aft;unfold mB
   grind
theorem PR.up{nodes:List (List bP)}{q:fi}{a b:Nat}(h:PR nodes q a)(o:a<=b):PR nodes q b:=⟨h.len,⟨λk i=>⟨(h.cO.each k i).1,by have:=(h.cO.each k i).2;omega⟩,h.cO.first⟩,h.val⟩
theorem CZ(N:Nat)(p:Cg)(j:aJ)(a:List aE)(b:List (List Int))(c:List Bh)(m o r t u v y z A d e f g h i:Int) :
  zda N p j a b c m o r t u v y z A d e f g h i=WK N p.cI j a b c m o r t u v y z A d e f g h i p.fq p.cH:=rfl
section
variable{s:bg}{st0:bT}{x:CX}{n:Nat}(I:qe s st0 x n)(q0:aV s st0){nodes:List (List bP)}{b:Nat}(hb:b<=200)(hp:PR nodes x.q b)
include I q0 hb hp
theorem planE{j:aJ}(hj:j∈st0.ah):WK 5000 nodes j s.aj s.aH s.aq s.aU s.am.lj s.am.cW s.am.fH s.am.bQ s.bW s.Mode s.ah s.kf s.aI s.bp s.dk s.In s.Out s.bV st0.aP s.aH=some (aN s x.q j):=by
 obtain ⟨m,hm,rfl⟩:=jc hj;have d:=q0.bj.each _ (bH hm);have a:gq x.q.S st0 st0.ah[m]:=by rw[I.qs];exact d
 have e:=sK hb I.ref hp a;rw[I.qs,I.qn] at e;exact e
end
section
variable{s:bg}{st0:bT}{x:EX}{n:Nat}(I:KU s st0 x n)(q0:aV s st0)(hn:n<=29){nodes:List (List bP)}{b:Nat}(hb:b<=190)(hp:PR nodes x.c.q b){j:aJ}(hj:j∈st0.ah)(hm:Cr s x.c.st.ah j.Id=true)(h2:(aN s x.c.q j).2=true)(h3:¬(aN s x.c.q j).1.At > x.c.q.aP)
include I q0 hn hb hp hj hm h2 h3
theorem EL{o:List (Int×bO)}(hL:o.Perm (mapA x.c.st.ae)):∃L' nodes',zc7 5000 x.c.S x.c.st.aB.aq x.c.st.ah o j (aN s x.c.q j).1 { fq:=st0.aP,cH:=s.aH,cI:=nodes } x.h.Id x.h.cw x.h.Queue x.h.aK x.h.aw.bG x.h.aw.Mem x.h.aw.bK x.h.aw.bM x.h.aQ x.h.aF x.h.State x.h.Ok x.h.cQ x.h.aL x.h.cT x.h.Start x.h.End x.h.Array x.hd.aW x.hd.c_
   s.aj s.aH s.aq s.aU s.am.lj s.am.cW s.am.fH s.am.bQ s.bW s.Mode s.ah s.kf s.aI s.bp s.dk s.In s.Out s.bV st0.aP x.c.st.aB.aj (cG s.aj x.c.st.ae) =
   some ((mB s x j).c.st.aB.aq,(mB s x j).c.st.ah,L',(mB s x j).c.S,(mB s x j).c.st.aB.aj,cG s.aj (mB s x j).c.st.ae,{ fq:=st0.aP,cH:=s.aH,cI:=nodes' }) /\
  L'.Perm (mapA (mB s x j).c.st.ae)/\PR nodes' (mB s x j).c.q (b+2)/\(mB s x j).h=x.h/\(mB s x j).hd=x.hd:=by
 obtain ⟨m,p,F⟩:=ny I.c q0 (by omega) (by omega) hp hj hm h2;have g:=q0.bj.each _ hj;have N:gq x.c.q.S st0 j:=by rw[I.c.qs];exact g
 have O:=F.place.lo;have cO:(aN s x.c.q j).1.At=x.c.st.aP:=by have:=I.c.qn;have:=I.c.now;omega
 have hw:Je x.c.q (dH s j):=by have:=qx (st:=st0) q0.spec I.c.qs g;exact this
 obtain ⟨_,_,K⟩:=vk (s:=s) (j:=j) ⟨g.ok.queue.1,g.queue⟩;have P:(dH s j).aw=j.aw:=by rw[K]
 have Q:(dH s j).aQ=j.aQ:=by rw[K]
 have M:=F.place.fit;rw[P,Q] at M;obtain ⟨nodes',r,hp'⟩:=VV (by omega) I.c.ref hp F.place.shares g.ok.need g.ok.wall F.place.lo F.place.hi M;have yT:=I.c.yT;have R:mM (eH j (aN s x.c.q j).1) x.c.q.S.aj.length:=NQ F.place g.ok I.c.ref;have U:=OA I.c.ref R (by omega);have t:PR nodes' (ue x.c.q (eH j (aN s x.c.q j).1)) (b+2):=hp';have y:x.hd.aW≠0->WK 5000 nodes' x.h s.aj s.aH s.aq s.aU s.am.lj s.am.cW s.am.fH s.am.bQ s.bW s.Mode s.ah s.kf s.aI s.bp s.dk s.In s.Out s.bV st0.aP s.aH=some (aN s (ue x.c.q (eH j (aN s x.c.q j).1)) x.h):=λi=>by
  have hi:=q0.bj.each _ (I.hd i).1;have z:gq (ue x.c.q (eH j (aN s x.c.q j).1)).S st0 x.h:=by show gq x.c.q.S st0 x.h;rw[I.c.qs];exact hi
  have e:=sK (by omega) U t z;have qs:(ue x.c.q (eH j (aN s x.c.q j).1)).S=s:=I.c.qs;have W:(ue x.c.q (eH j (aN s x.c.q j).1)).aP=st0.aP:=I.c.qn;rw[qs,W] at e;exact e
 obtain ⟨L',A,hL'⟩:=startV I.c.sound p F.one F.pz (F.fits cO) hL;have X:Rl x.c.st.ah j.Id=m:=by rw[<-F.cO];exact DV I.c.sound.bj.bL p
 have u:pZ x.c.st j (aN s x.c.q j).1.ai=GD x.c.st m x.c.st.ah[m] (aN s x.c.q j).1.ai:=by unfold pZ;rw[X,F.cO]
 rw[<-u,I.c.now] at A;rw[<-u] at hL';have E:x.c.st.ah[m].Id=j.Id:=by rw[F.cO]
 rw[E] at A;have pl:=I.c.Dh;have nl:nodes.length<=300:=by have:=hp.len;have:=I.c.ref.spec.nodes.hi;omega
 unfold zc7 zbx zbk;dsimp only;rw[GP (by omega),ay,ay];dsimp only;rw[I.c.qn] at r;rw[r,ay,if_neg (by simp),fN];unfold WV;have G:sW s x j=false->mB s x j={ c:=zB s x.c j,h:=x.h,hd:=x.hd }:=λh=>Cs ⟨hm,h2,h3,h⟩;have no:sW s x j=true->mB s x j=x:=λh=>by unfold mB;rw[if_pos hm,if_pos h2,if_neg h3,if_pos h]
 have fin:sW s x j=false->∃d a,(za4 5000 x.c.st.aB.aq x.c.st.ah o j.Id (aN s x.c.q j).1.ai s.aj s.aH s.aq s.aU s.am.lj s.am.cW s.am.fH s.am.bQ s.bW s.Mode s.ah s.kf s.aI s.bp s.dk s.In s.Out s.bV st0.aP x.c.st.aB.aj (cG s.aj x.c.st.ae)).bind (λf=>
   if (f.2.2.2.1 != 0)=true then
    some (f.2.1,f.2.2.1,f.1,x.c.S,f.2.2.2.2.2,f.2.2.2.2.1,({ fq:=st0.aP,cH:=s.aH,cI:=nodes }:Cg))
   else
    (bX x.c.S ([(aN s x.c.q j).1]:List gD)).bind λY=>
    some (f.2.1,f.2.2.1,f.1,Y,f.2.2.2.2.2,f.2.2.2.2.1,({ fq:=st0.aP,cH:=s.aH,cI:=nodes' }:Cg))) =
   some ((mB s x j).c.st.aB.aq,(mB s x j).c.st.ah,d,(mB s x j).c.S,(mB s x j).c.st.aB.aj,cG s.aj (mB s x j).c.st.ae,{ fq:=st0.aP,cH:=s.aH,cI:=a }) /\
  d.Perm (mapA (mB s x j).c.st.ae)/\PR a (mB s x j).c.q (b+2)/\(mB s x j).h=x.h/\(mB s x j).hd=x.hd:=λh=>by
  refine ⟨L',nodes',?_⟩;rw[G h,A,ay,if_neg (by simp),Dt (by grind),ay];exact ⟨rfl,hL',t,rfl,rfl⟩
 have v:sW s x j=true->∃d a,some (x.c.st.aB.aq,x.c.st.ah,o,x.c.S,x.c.st.aB.aj,cG s.aj x.c.st.ae,({ fq:=st0.aP,cH:=s.aH,cI:=nodes }:Cg)) =
   some ((mB s x j).c.st.aB.aq,(mB s x j).c.st.ah,d,(mB s x j).c.S,(mB s x j).c.st.aB.aj,cG s.aj (mB s x j).c.st.ae,{ fq:=st0.aP,cH:=s.aH,cI:=a }) /\
  d.Perm (mapA (mB s x j).c.st.ae)/\PR a (mB s x j).c.q (b+2)/\(mB s x j).h=x.h/\(mB s x j).hd=x.hd:=λh=>by
  refine ⟨o,nodes,?_⟩;rw[no h];exact ⟨rfl,hL,hp.up (by omega),rfl,rfl⟩
 by_cases i:x.hd.aW=0
 ·have hl:sW s x j=false:=by unfold sW;simp[i]
  rw[ay,if_neg (by simp[i])];exact fin hl
 ·rw[ay,if_pos (by simp[i])];have Z:=y i;rw[show ({ Id:=x.h.Id,cw:=x.h.cw,Queue:=x.h.Queue,aK:=x.h.aK,aw:=({ bG:=x.h.aw.bG,Mem:=x.h.aw.Mem,bK:=x.h.aw.bK,bM:=x.h.aw.bM }:aE),aQ:=x.h.aQ,aF:=x.h.aF,State:=x.h.State,Ok:=x.h.Ok,cQ:=x.h.cQ,aL:=x.h.aL,cT:=x.h.cT,Start:=x.h.Start,End:=x.h.End,Array:=x.h.Array }:aJ)=x.h from rfl,Z,ay];by_cases hl:sW s x j=true
  ·rw[if_pos (by unfold sW at hl;simp_all)];exact v hl
  ·rw[if_neg (by unfold sW at hl;simp_all)];exact fin (by simpa using hl)
end
def Vv(s:bg)(x:EX):Int:=if x.hd.aW=0 then 0 else (aN s x.c.q x.h).1.At
section
variable{s:bg}{st0:bT}(q0:aV s st0)(h30:st0.ah.length<=30)
include q0 h30
theorem einv0:KU s st0 (ex0 s st0) 0:=⟨cinv0 q0 h30,rfl,λh=>absurd rfl h,rfl⟩
theorem Yx{L:List (Int×bO)}(hL:L.Perm (mapA st0.ae)):∃r,zdc 5000 st0.aB.aq st0.ah L s.aj s.aH s.aq s.aU s.am.lj s.am.cW s.am.fH s.am.bQ s.bW s.Mode s.ah s.kf s.aI s.bp s.dk s.In s.Out s.bV st0.aP st0.Next st0.dw st0.az st0.jA st0.aB.aj=some r/\r.Perm (st0.ah.filter (Gk st0.ah)) /\
  (∀i,i<=r.length->KU s st0 (cD s st0 (r.take i)) i/\∃nodes,PR nodes (cD s st0 (r.take i)).c.q (93+2 * i)) /\
  ∃ L', zcn 5000 st0.aB.aq st0.ah L s.aj s.aH s.aq s.aU s.am.lj s.am.cW s.am.fH s.am.bQ s.bW s.Mode s.ah s.kf s.aI s.bp s.dk s.In s.Out s.bV st0.aP st0.Next st0.dw st0.az st0.jA st0.aB.aj (cG s.aj st0.ae) =
   some ((cD s st0 r).c.st.aB.aq,(cD s st0 r).c.st.ah,L',{ Started:=(cD s st0 r).c.S,jH:=[],sM:={ aW:=(cD s st0 r).hd.aW,c_:=(cD s st0 r).hd.c_,aF:=Vv s (cD s st0 r) } },0,(cD s st0 r).c.st.aB.aj,cG s.aj (cD s st0 r).c.st.ae)/\L'.Perm (mapA (cD s st0 r).c.st.ae):=by
 have hw:=WM q0;have R:=q0.fR.cy.len;have U:=jt hw q0;obtain ⟨r,er,M⟩:=readyV q0 hL h30;have W:r.length<=30:=by grind [List.Perm.length_eq,List.length_filter_le]
 have A:∀j∈r,j∈st0.ah:=λj hj=>(Tu.1 (M.mem_iff.1 hj)).1;obtain ⟨d,O,E⟩:=jF hw q0 h30 (zF q0 hL);have t:PR d (eT s st0) 93:=E.up (by omega);have step:∀i (hi:i<r.length) (I:KU s st0 (cD s st0 (r.take i)) i) nodes,PR nodes (cD s st0 (r.take i)).c.q (93+2 * i)->∃nodes',PR nodes' (cD s st0 (r.take (i+1))).c.q (93+2 * (i+1)):=λi hi I nodes hp=>by
  rw[wR hi];by_cases h:px s (cD s st0 (r.take i)) r[i]
  ·obtain ⟨L',nodes',_,_,hp',_⟩:=EL I q0 (by omega) (by omega) hp (A _ (bH hi)) h.1 h.2.1 h.2.2.1 (yCe _);exact ⟨nodes',by rw[show 93+2 * (i+1)=93+2 * i+2 by omega];exact hp'⟩
  ·rw[Ax h];exact ⟨nodes,hp.up (by omega)⟩
 have v:∀i,i<=r.length->KU s st0 (cD s st0 (r.take i)) i/\∃nodes,PR nodes (cD s st0 (r.take i)).c.q (93+2 * i):=by
  intro i;induction i with
  |zero=>intro _;exact ⟨einv0 q0 h30,d,t⟩
  |succ i ih=>intro hi;obtain ⟨I,nodes,hp⟩:=ih (by omega);refine ⟨?_,step i (by omega) I nodes hp⟩;rw[wR (show i<r.length by omega)];exact I.step q0 (by omega) (by omega) hp (A _ (bH _))
 refine ⟨r,er,M,v,?_⟩
 suffices h:bS (zcn 5000 st0.aB.aq st0.ah L s.aj s.aH s.aq s.aU s.am.lj s.am.cW s.am.fH s.am.bQ s.bW s.Mode s.ah s.kf s.aI s.bp s.dk s.In s.Out s.bV st0.aP st0.Next st0.dw st0.az st0.jA st0.aB.aj (cG s.aj st0.ae)) λx=>∃L',x=((cD s st0 r).c.st.aB.aq,(cD s st0 r).c.st.ah,L',{ Started:=(cD s st0 r).c.S,jH:=[],sM:={ aW:=(cD s st0 r).hd.aW,c_:=(cD s st0 r).hd.c_,aF:=Vv s (cD s st0 r) } },0,(cD s st0 r).c.st.aB.aj,cG s.aj (cD s st0 r).c.st.ae)/\L'.Perm (mapA (cD s st0 r).c.st.ae) by obtain ⟨x,e,L',rfl,h⟩:=h;exact ⟨L',e,h⟩
 unfold zcn;rw[O,ay];dsimp only;rw[er,ay];refine jC r.length (λi x=>∃o nodes,∃fp:gD,x=((i:Int),(cD s st0 (r.take i)).c.st.aB.aj,cG s.aj (cD s st0 (r.take i)).c.st.ae,({ fq:=st0.aP,cH:=s.aH,cI:=nodes }:Cg),(cD s st0 (r.take i)).h.Id,(cD s st0 (r.take i)).h.cw,(cD s st0 (r.take i)).h.Queue,(cD s st0 (r.take i)).h.aK,(cD s st0 (r.take i)).h.aw.bG,(cD s st0 (r.take i)).h.aw.Mem,(cD s st0 (r.take i)).h.aw.bK,(cD s st0 (r.take i)).h.aw.bM,(cD s st0 (r.take i)).h.aQ,(cD s st0 (r.take i)).h.aF,(cD s st0 (r.take i)).h.State,(cD s st0 (r.take i)).h.Ok,(cD s st0 (r.take i)).h.cQ,(cD s st0 (r.take i)).h.aL,(cD s st0 (r.take i)).h.cT,(cD s st0 (r.take i)).h.Start,(cD s st0 (r.take i)).h.End,(cD s st0 (r.take i)).h.Array,(cD s st0 (r.take i)).hd.aW,(cD s st0 (r.take i)).hd.c_,(cD s st0 (r.take i)).hd.aF,fp.aW,fp.At,fp.ai,(cD s st0 (r.take i)).c.st.aB.aq,(cD s st0 (r.take i)).c.st.ah,o,(cD s st0 (r.take i)).c.S)/\o.Perm (mapA (cD s st0 (r.take i)).c.st.ae)/\PR nodes (cD s st0 (r.take i)).c.q (93+2 * i)) (λi x f hi F m=>?_) (λx f F=>?_)
  ⟨L,d,{ aW:=0,At:=0,ai:=[] },rfl,hL,t⟩ (by omega)
 ·obtain ⟨o,nodes,fp,rfl,a,hp⟩:=F;obtain ⟨I,_⟩:=v i (by omega);have g:=wR (s:=s) (st0:=st0) hi;have hj:=A _ (bH hi);have u:=mayV I.c.sound a r[i].Id;rw[I.c.now,I.c.next,I.c.book,I.c.cy,I.c.use] at u;have y:=planE I.c q0 (by omega) hp hj;dsimp only;rw[if_pos (cX hi),fN,cf hi,ay,u,ay,bY (show i<1000000 by omega),bz];refine ⟨λh=>?_,λh=>?_⟩
  ·have e:cD s st0 (r.take (i+1))=cD s st0 (r.take i):=by rw[g];unfold mB;rw[if_neg (by simpa using h)]
   refine m _ ⟨o,nodes,fp,?_,?_,?_⟩
   ·rw[e]
   ·rw[e];exact a
   ·rw[e];exact hp.up (by omega)
  ·have hm:Cr s (cD s st0 (r.take i)).c.st.ah r[i].Id=true:=by simpa using h
   rw[CZ];dsimp only;rw[y,ay,bz];refine ⟨λh=>?_,λG=>?_⟩
   ·have e:cD s st0 (r.take (i+1))=cD s st0 (r.take i):=by rw[g];unfold mB;rw[if_pos hm,if_neg (by simpa using h)]
    refine m _ ⟨o,nodes,(aN s (cD s st0 (r.take i)).c.q r[i]).1,?_,?_,?_⟩
    ·rw[e]
    ·rw[e];exact a
    ·rw[e];exact hp.up (by omega)
   ·have h2:(aN s (cD s st0 (r.take i)).c.q r[i]).2=true:=by simpa using G
    unfold jm;rw[ay,bz];have N:=I.c.qn;refine ⟨λz=>?_,λz=>?_⟩
    ·have h3:(aN s (cD s st0 (r.take i)).c.q r[i]).1.At > (cD s st0 (r.take i)).c.q.aP:=by rw[N];exact of_decide_eq_true z
     unfold zfd WV;rw[ay];by_cases p:(cD s st0 (r.take i)).hd.aW=0
     ·have e:cD s st0 (r.take (i+1))={ c:=(cD s st0 (r.take i)).c,h:=r[i],hd:={ aW:=r[i].Id,c_:=(aN s (cD s st0 (r.take i)).c.q r[i]).1.At,aF:=0 } }:=by
       rw[g];unfold mB;rw[if_pos hm,if_pos h2,if_pos h3,if_pos p]
      rw[if_pos (by simp[p]),Dw];refine m _ ⟨o,nodes,(aN s (cD s st0 (r.take i)).c.q r[i]).1,?_,?_,?_⟩
      ·rw[e]
      ·rw[e];exact a
      ·rw[e];exact hp.up (by omega)
     ·have e:cD s st0 (r.take (i+1))=cD s st0 (r.take i):=by
       rw[g];unfold mB;rw[if_pos hm,if_pos h2,if_pos h3,if_neg p]
      rw[if_neg (by simp[p]),Dw];refine m _ ⟨o,nodes,(aN s (cD s st0 (r.take i)).c.q r[i]).1,?_,?_,?_⟩
      ·rw[e]
      ·rw[e];exact a
      ·rw[e];exact hp.up (by omega)
    ·have h3:¬(aN s (cD s st0 (r.take i)).c.q r[i]).1.At > (cD s st0 (r.take i)).c.q.aP:=by rw[N];exact λh=>z (decide_eq_true h)
     obtain ⟨L',nodes',P,hL',hp',Q,K⟩:=EL I q0 (by omega) (by omega) hp hj hm h2 h3 a;rw[P,ay];refine m _ ⟨L',nodes',(aN s (cD s st0 (r.take i)).c.q r[i]).1,?_,?_,?_⟩
     ·rw[g,Q,K]
     ·rw[g];exact hL'
     ·rw[g,show 93+2 * (i+1)=93+2 * i+2 by omega];exact hp'
 ·obtain ⟨o,nodes,fp,rfl,a,hp⟩:=F;obtain ⟨I,_⟩:=v r.length (cN _);rw[zp] at a hp I ⊢;dsimp only;rw[if_neg (by simp),fN];unfold WV;rw[ay];by_cases p:(cD s st0 r).hd.aW=0
  ·rw[if_neg (by simp[p]),bm];refine ⟨o,?_,a⟩;unfold Vv;rw[if_pos p,I.aft]
  ·have y:=planE I.c q0 (by omega) hp (I.hd p).1;rw[if_pos (by simp[p]),CZ];dsimp only;rw[show ({ Id:=(cD s st0 r).h.Id,cw:=(cD s st0 r).h.cw,Queue:=(cD s st0 r).h.Queue,aK:=(cD s st0 r).h.aK,aw:=({ bG:=(cD s st0 r).h.aw.bG,Mem:=(cD s st0 r).h.aw.Mem,bK:=(cD s st0 r).h.aw.bK,bM:=(cD s st0 r).h.aw.bM }:aE),aQ:=(cD s st0 r).h.aQ,aF:=(cD s st0 r).h.aF,State:=(cD s st0 r).h.State,Ok:=(cD s st0 r).h.Ok,cQ:=(cD s st0 r).h.cQ,aL:=(cD s st0 r).h.aL,cT:=(cD s st0 r).h.cT,Start:=(cD s st0 r).h.Start,End:=(cD s st0 r).h.End,Array:=(cD s st0 r).h.Array }:aJ)=(cD s st0 r).h from rfl,y,ay,bm];refine ⟨o,?_,a⟩;unfold Vv;rw[if_neg p]
end
structure GrowS (x:Int×List cM):Prop where
 left:0<=x.1
 many:∀y∈x.2,0<=y.aK
structure vQ (q q':fi):Prop where
 S:q'.S=q.S
 now:q'.aP=q.aP
 cy:q'.az=q.az
 used:∀u∈q.L,u∈q'.L
 less:∀k t c,cmp c (aR q.L k t)<=cmp c (aR q'.L k t)
theorem vQ.free{q q':fi}(h:vQ q q')(k t:Int):s_ (bC q' k t) (bC q k t):=λc=>by
 unfold bC;rw[h.cy,h.S];by_cases g:Eu q.az k t
 ·rw[if_pos g,if_pos g];exact LU _
 ·rw[if_neg g,if_neg g,Cz,Cz];have:=h.less k t c;omega
section
variable{nodes nodes':List (List bP)}{q q':fi}{L L':Nat}(hL:L<=200)(hL':L'<=200)(hq:km q)(hq':km q')(hp:PR nodes q L)(hp':PR nodes' q' L'){w:Bb}(hw:Je q w)(B:vQ q q')
include hL hL' hq hq' hp hp' hw B
theorem when_two{t:Int}(h:q.aP<=t)(i:t<=1099511627776):∃F G,Dr q t (t+w.aQ) F/\Dr q' t (t+w.aQ) G/\kU F (ce q w)/\kU G (ce q w)/\cu q w t=BS F (ce q w) w.aK w.aw/\cu q' w t=BS G (ce q w) w.aK w.aw/\∀n∈ce q w,s_ (jB G n) (jB F n):=by
 have e:Je q' w:=⟨by rw[B.S];exact hw.part,hw.many,hw.need,hw.o_,hw.wall⟩;have o:ce q' w=ce q w:=by unfold ce;rw[B.S]
 obtain ⟨F,f,a,_,p⟩:=xr (by omega) hq hp hw h i;obtain ⟨G,g,d,_,m⟩:=xr (by omega) hq' hp' e (by rw[B.now];exact h) i;rw[o] at d m;refine ⟨F,G,f,g,a,d,by unfold cu;rw[p];rfl,by unfold cu;rw[m];rfl,λn hn c=>?_⟩;have nb:=a.node n hn;obtain ⟨hf,_,r⟩:=rL (F:=F) nb.1 nb.2;have y:G.length=F.length:=by rw[g.len,f.len,B.S]
 obtain ⟨z,_,A⟩:=rL (F:=G) nb.1 (by rw[y];exact nb.2);have E:=f.low _ hf;have K:=g.low _ z;rw[r,A];obtain ⟨u,v,M,N,O,ev⟩:=E.cO c;rw[<-ev,O];exact Int.le_trans (K.le u _ M N rfl c) (B.free _ u c)
theorem UR{t:Int}(f:q.aP<=t)(a:(cu q' w t).2=true):(cu q w t).2=true:=by have d:Je q' w:=⟨by rw[B.S];exact hw.part,hw.many,hw.need,hw.o_,hw.wall⟩;have g:=ND hL' hq' hp' d a;obtain ⟨F,G,p,r,h,i,m,o,e⟩:=when_two hL hL' hq hq' hp hp' hw B f g;rw[o] at a;rw[m];obtain ⟨h1,h2⟩:=qR.1 a;exact qR.2 ⟨h1,Int.le_trans h2 (Ft i h hw.need e)⟩
end
def CQ(UP:List (aJ×gD)):List qp:=UP.map λx=>eH x.1 x.2
def Ii(st0:bT):List qp:=st0.ae.map (cF st0)
structure HistP (s:bg) (st0:bT) (US:List qp) (UP:List (aJ×gD)) (j:aJ) (p:gD):Prop where
 run:∃(q:fi)(USk rest:List qp)(nodes:List (List bP))(b:Nat),US=USk++rest/\q.L.Perm (Ii st0++(USk++CQ UP))/\km q/\PR nodes q b/\b<=200/\q.S=s/\q.aP=st0.aP/\q.az=st0.az/\aN s q j=(p,true)
 now:p.At > st0.aP
 Eb:gq s st0 j
structure UQ (s:bg) (st0:bT) (x:CX) (US:List qp) (UP:List (aJ×gD)):Prop where
 us:(x.st.ae.map (cF x.st)).Perm (Ii st0++US)
 q:x.q.L.Perm (Ii st0++(US++CQ UP))
 P:x.P=UP.map Prod.snd
 bj:∀y∈UP,y.1∈x.st.ah
 hist:∀i (h:i<UP.length),HistP s st0 US (UP.take i) UP[i].1 UP[i].2
theorem pinv0(s:bg)(st0:bT):UQ s st0 (cx0 s st0) [] []:={
 us:=by rw[DZ];exact yCe _
 q:=by show (st0.ae.map (cF st0)).Perm _;simp[CQ,Ii]
 P:=rfl
 bj:=λy a=>by cases a
 hist:=λi h=>by cases h }
theorem Vc(UP:List (aJ×gD))(j:aJ)(p:gD):CQ (UP++[(j,p)])=CQ UP++[eH j p]:=by simp[CQ]
section
variable{s:bg}{st:bT}(q:aV s st){k:Nat}(hk:k<st.ah.length)(h1:st.ah[k].State=1){sh:List cM}(q':aV s (GD st k st.ah[k] sh))
include q h1 q'
theorem Rr:((GD st k st.ah[k] sh).ae.map (cF (GD st k st.ah[k] sh))).Perm (st.ae.map (cF st)++[({ bJ:=st.aP,To:=st.aP+st.ah[k].aQ,aw:=st.ah[k].aw,ai:=sh }:qp)]):=by
 have hw:=WM q;have cO:∀i (h:i<st.ah.length) (m:i<(GD st k st.ah[k] sh).ah.length),(GD st k st.ah[k] sh).ah[i]=if k=i then kK st.ah[k] st.aP else st.ah[i]:=λi h m=>by show (st.ah.set k _)[i]'(by simpa using h)=_;rw[List.getElem_set]
 have d:(GD st k st.ah[k] sh).ah.length=st.ah.length:=by show (st.ah.set k _).length=_;simp
 have new:cF (GD st k st.ah[k] sh) (dD st.ah[k] sh)=({ bJ:=st.aP,To:=st.aP+st.ah[k].aQ,aw:=st.ah[k].aw,ai:=sh }:qp):=by have e:=FL q'.bj.bL (i:=k) (by rw[d];exact hk);rw[cO k hk (by rw[d];exact hk),if_pos rfl] at e;unfold cF nj;rw[show (dD st.ah[k] sh).aW=(kK st.ah[k] st.aP).Id from rfl,e];rfl
 have o:∀a∈st.ae,cF (GD st k st.ah[k] sh) a=cF st a:=λa f=>by
  obtain ⟨i,hi,g,_,_,r⟩:=mC hw q f;have t:¬k=i:=λe=>by subst e;exact Gj q hk h1 a f g.symm
  have e:=FL q'.bj.bL (i:=i) (by rw[d];exact hi);rw[cO i hi (by rw[d];exact hi),if_neg t,g] at e;unfold cF nj;rw[e,r];rfl
 have p:=((mD st.ae (dD st.ah[k] sh)).map (cF (GD st k st.ah[k] sh)));rw[sy,new,List.map_congr_left o] at p;exact p.trans (yBG (l₁:=[_]))
end
section
variable{s:bg}{st0:bT}{x:CX}{n:Nat}(I:qe s st0 x n)(q0:aV s st0)(hn:n<=30){nodes:List (List bP)}{b:Nat}(hb:b<=200)(hp:PR nodes x.q b){j:aJ}(hj:j∈st0.ah)
include I q0 hn hb hp hj
theorem UQ.step{US:List qp}{UP:List (aJ×gD)}(T:UQ s st0 x US UP)(fresh:∀y∈UP,y.1.Id≠j.Id):∃K E,UQ s st0 (Jn s x j) K E/\∀y∈E,y∈UP\/y.1=j:=by
 unfold Jn;by_cases hm:Cr s x.st.ah j.Id=true
 ·rw[if_pos hm];by_cases u:(aN s x.q j).2=true
  ·rw[if_pos u];obtain ⟨m,z,F⟩:=ny I q0 hn hb hp hj hm u;have R:=F.place.lo;by_cases A:(aN s x.q j).1.At > x.q.aP
   ·rw[if_pos A];refine ⟨US,UP++[(j,(aN s x.q j).1)],⟨T.us,?_,?_,?_,?_⟩,λy o=>?_⟩
    ·rw[Vc];have:=T.q.append_right [eH j (aN s x.q j).1];simp only[zd] at this;exact this
    ·show x.P++[_]=_;rw[T.P,yBC];rfl
    ·intro y o;rcases kB.1 o with o | o
     ·exact T.bj y o
     ·rw[zq] at o;subst o;show j∈x.st.ah;rw[<-F.cO];exact bH z
    ·intro i hi;rw[Br,xAe] at hi;by_cases g:i<UP.length
     ·have e:(UP++[(j,(aN s x.q j).1)])[i]'(by simp;omega)=UP[i]:=yBY g;rw[e,xAf (by omega)];exact T.hist i g
     ·have U:i=UP.length:=by omega
      subst U;have e:(UP++[(j,(aN s x.q j).1)])[UP.length]'(by simp)=(j,(aN s x.q j).1):=by simp
      rw[e,xAf (by omega),zp];exact ⟨⟨x.q,US,[],nodes,b,by simp,T.q,I.ref,hp,hb,I.qs,I.qn,I.qb,Prod.ext rfl u⟩,by rw[<-I.qn];exact A,q0.bj.each j hj⟩
    ·rcases kB.1 o with o | o
     ·exact .inl o
     ·rw[zq] at o;subst o;exact .inr rfl
   ·rw[if_neg A];have cO:(aN s x.q j).1.At=x.st.aP:=by have:=I.qn;have:=I.now;omega
    have W:Rl x.st.ah j.Id=m:=by rw[<-F.cO];exact DV I.sound.bj.bL z
    have O:pZ x.st j (aN s x.q j).1.ai=GD x.st m x.st.ah[m] (aN s x.q j).1.ai:=by unfold pZ;rw[W,F.cO]
    have X:=Dn I.sound z F.one F.pz (F.fits cO) (F.yM cO);have Q:=Rr I.sound z F.one X;have Y:eH j (aN s x.q j).1=({ bJ:=x.st.aP,To:=x.st.aP+x.st.ah[m].aQ,aw:=x.st.ah[m].aw,ai:=(aN s x.q j).1.ai }:qp):=by unfold eH;rw[cO,F.cO]
    rw[<-Y] at Q;refine ⟨US++[eH j (aN s x.q j).1],UP,⟨?_,?_,T.P,?_,?_⟩,λy o=>.inl o⟩
    ·dsimp only;rw[O];refine Q.trans ?_;rw[<-zd];exact T.us.append_right _
    ·show (x.q.L++[_]).Perm _;refine (T.q.append_right _).trans ?_;simp only[zd];exact yBS _ (yBS _ yBG)
    ·intro y o;dsimp only;rw[O];show y.1∈x.st.ah.set m _;obtain ⟨i,hi,e⟩:=jc (T.bj y o);have Z:m≠i:=λe'=>by
      subst e';have:=fresh y o;rw[<-e,F.cO] at this;exact this rfl
     rw[<-e,KW];exact ⟨i,by simpa using hi,by rw[yB2 Z]⟩
    ·intro i hi;obtain ⟨⟨q,M,G,nodes',b',e,h⟩,h2,h3⟩:=T.hist i hi;exact ⟨⟨q,M,G++[eH j (aN s x.q j).1],nodes',b',by rw[e,zd],h⟩,h2,h3⟩
  ·rw[if_neg u];exact ⟨US,UP,T,λy o=>.inl o⟩
 ·rw[if_neg hm];exact ⟨US,UP,T,λy o=>.inl o⟩
end
section
variable{nodes nodes':List (List bP)}{q q':fi}{L L':Nat}(hL:L<=200)(hL':L'<=200)(hq:km q)(hq':km q')(hp:PR nodes q L)(hp':PR nodes' q' L'){w:Bb}(hw:Je q w)(B:vQ q q')
include hL hL' hq hq' hp hp' hw B
theorem ZR(o':(Dp q' w).2=true):(Dp q w).2=true/\(Dp q w).1.At<=(Dp q' w).1.At:=by
 have a:Je q' w:=⟨by rw[B.S];exact hw.part,hw.many,hw.need,hw.o_,hw.wall⟩;obtain ⟨_,_,T,m,o⟩:=Ea hL hq hp hw;obtain ⟨_,_,N,d,e⟩:=Ea hL' hq' hp' a;obtain ⟨v,z,O,P,Q⟩:=e.yes o';have f:=(d.mem _).1 v;rw[B.now] at f;have back:(cu q w (Dp q' w).1.At).2=true:=UR hL hL' hq hq' hp hp' hw B f.1 z;obtain ⟨x,A,E,p,F⟩:=wL T f.1;have r:x∈T:=by
  rcases A with rfl | h
  ·exact (m.mem _).2 ⟨LU _,.inl rfl⟩
  ·exact h
 have t:(cu q w x).2=true:=Cu hL hq hp hw E p (λn hn u R G=>by refine (uO (by omega) G λy i K ⟨U,W⟩=>?_).symm;have:=F y ((m.mem y).2 ⟨i,K⟩) (by omega);omega) back
 have ok:(Dp q w).2=true:=by
  cases g:(Dp q w).2 with
  |true=>rfl
  |false=>have:=(o.no g).1 _ r;rw[t] at this;cases this
 obtain ⟨_,_,M,_,_⟩:=o.yes ok;exact ⟨ok,Int.le_trans (M x r t) p⟩
end
structure Xi (s:bg) (st0:bT) (x:EX):Prop where
 us:∃US,UQ s st0 x.c US []
 zero:x.hd.aW=0->x.hd=Yz
 mem:x.hd.aW≠0->x.h∈x.c.st.ah
 ok:x.hd.aW≠0->(aN s x.c.q x.h).2=true/\(aN s x.c.q x.h).1.At<=x.hd.c_
 late:x.hd.aW≠0->st0.aP<x.hd.c_
theorem hinv0(s:bg)(st0:bT):Xi s st0 (ex0 s st0):=⟨⟨[],pinv0 s st0⟩,λ_=>rfl,λh=>absurd rfl h,λh=>absurd rfl h,λh=>absurd rfl h⟩
theorem Xi.step{s:bg}{st0:bT}{x:EX}{n:Nat}(H:Xi s st0 x)(I:KU s st0 x n)(q0:aV s st0)(hn:n<=30){nodes:List (List bP)}{b:Nat}(hb:b<=200)(hp:PR nodes x.c.q b){j:aJ}(hj:j∈st0.ah)(fresh:x.hd.aW≠0->x.h.Id≠j.Id):Xi s st0 (mB s x j):=by
 have O:=(q0.bj.each _ hj).ok.id;by_cases h:px s x j
 ·have e:=HV h;rw[Cs h];obtain ⟨US,T⟩:=H.us;obtain ⟨A,E,G,_⟩:=T.step I.c q0 hn hb hp hj λy Q=>by cases Q
  rw[<-e] at G;have K:E=[]:=by have:=G.P;have R:(zB s x.c j).P=[]:=I.pn;rw[R] at this;simpa using this.symm
  subst K;have hl:=h.2.2.2;refine ⟨⟨A,G⟩,H.zero,λu=>?_,λu=>?_,H.late⟩
  ·have hm:=H.mem u;obtain ⟨m,z,F⟩:=ny I.c q0 hn hb hp hj h.1 h.2.1;have U:Rl x.c.st.ah j.Id=m:=by rw[<-F.cO];exact DV I.c.sound.bj.bL z
   show x.h∈(pZ x.c.st j (aN s x.c.q j).1.ai).ah;unfold pZ;rw[U];show x.h∈x.c.st.ah.set m _;obtain ⟨i,hi,M⟩:=jc hm;have W:m≠i:=λX=>by subst X;rw[F.cO] at M;exact fresh u (by rw[<-M])
   rw[KW];exact ⟨i,by simpa using hi,by rw[yB2 W];exact M⟩
  ·unfold sW at hl;simp only[yB5,Bool.or_eq_false_iff,bne_eq_false_iff_eq,Bool.not_eq_false',yBi] at hl;rcases hl with hl | ⟨h1,h2⟩
   ·exact absurd hl u
   ·exact ⟨h1,Int.not_lt.1 h2⟩
 ·have Y:=Ax h;have o:mB s x j=x\/(x.hd.aW=0/\Cr s x.c.st.ah j.Id=true/\(aN s x.c.q j).2=true/\(aN s x.c.q j).1.At > x.c.q.aP/\mB s x j={ c:=x.c,h:=j,hd:={ aW:=j.Id,c_:=(aN s x.c.q j).1.At,aF:=0 } }):=by
   unfold mB;unfold px at h
   grind
  rcases o with e | ⟨u,hm,h2,h3,e⟩
  ·rw[e];exact H
  ·rw[e];obtain ⟨m,z,F⟩:=ny I.c q0 hn hb hp hj hm h2;refine ⟨H.us,λu=>?_,λ_=>?_,λ_=>⟨h2,LU _⟩,λ_=>?_⟩
   ·exfalso;have:j.Id=0:=u;omega
   ·show j∈x.c.st.ah;rw[<-F.cO];exact bH z
   ·show st0.aP<(aN s x.c.q j).1.At;have:=I.c.qn;omega
theorem js(c:Nat)(L:List qp)(k t:Int):cmp c (aR L k t)=(L.map λv=>cmp c (jv v k t)).sum:=wT L k t c
theorem Aa{L M:List qp}(h:L.Perm M)(k t:Int)(c:Nat):cmp c (aR L k t)=cmp c (aR M k t):=by
 rw[js,js];have:∀{A B:List Int},A.Perm B->A.sum=B.sum:=λh=>by
  induction h with
  |nil=>rfl
  |cons a _ ih=>rw[yCn,yCn,ih]
  |swap a b l=>simp only[yCn];omega
  |trans _ _ h1 h2=>rw[h1,h2]
 exact this (h.map _)
theorem VO(L M:List qp)(k t:Int)(c:Nat):cmp c (aR (L++M) k t)=cmp c (aR L k t)+cmp c (aR M k t):=by rw[js,js,js,yBC,List.sum_append]
theorem Ys{M:List qp}{n:Int}(h:∀u∈M,mM u n)(k t:Int)(c:Nat):0<=cmp c (aR M k t):=by
 rw[js];induction M with
 |nil=>simp
 |cons u M ih=>have h1:=Fw (h u (sV ..)) k t c;have h2:=ih λv a=>h v (pp _ a);rw[sy,yCn];omega
section
variable{s:bg}{st0:bT}{x:CX}{n:Nat}(I:qe s st0 x n)(q0:aV s st0)(hn:n<=30){nodes:List (List bP)}{b:Nat}(hb:b<=200)(hp:PR nodes x.q b)
 {US:List qp} {UP:List (aJ×gD)} (T:UQ s st0 x US UP)
include I q0 hn hb hp T
end
end Go.Plain
end
section
set_option maxRecDepth 100000
namespace Go.Plain
open Go.Abs
theorem Mr:zdX 5000=some true:=by kernel_rfl
theorem Ge{s:bg}{st:bT}(q:aV s st)(h30:st.ah.length<=30){j:aJ}(hj:j∈st.ah):zcC 5000 s st j.Id=some ((aN s (eT s st) j).1.At,(aN s (eT s st) j).2):=by have hw:=WM q;have r:=q.fR.cy.len;have t:=jt hw q;obtain ⟨nodes,_,hp⟩:=jF hw q h30 (zF q (yCe (mapA st.ae)));have hp':PR nodes (eT s st) 93:=hp.up (by omega);have hq:=Bn hw q h30;have e:=q.bj.each _ hj;obtain ⟨x,ex,h3,g,_⟩:=wB hw.bj j.Id;have h:0<=x:=h3.2 ⟨j,hj,rfl⟩;have a:=g h;have hi:=a.hi;have f:st.ah[x.toNat]=j:=HY q (bH hi) hj a.is;obtain ⟨i,rfl⟩:∃i:Nat,x=(i:Int):=⟨x.toNat,by omega⟩;simp only[yBZ] at hi f;obtain ⟨p,m,o,_⟩:=Mp (by omega) hq hp' (st:=st) (j:=j) e;have d:=sK (by omega) hq hp' (st:=st) (j:=j) e;rw[m] at d;simp only[au] at d;unfold zcC;rw[ex,ay,if_neg (by simp),HO hw q,ay,cf hi,ay,f];rw[show zb0 5000 s (eT s st) j=some (named j p) from o,ay,d];rfl
section
variable{s:bg}{q q':fi}(hq:km q)(hq':km q'){nodes nodes':List (List bP)}{b b':Nat}(hb:b<=200)(hb':b'<=200)(hp:PR nodes q b)(hp':PR nodes' q' b')(B:vQ q q')(qs:q.S=s){st:bT}{j:aJ}(hj:gq s st j)(ss:bq s)
include hq hq' hb hb' hp hp' B qs hj ss
theorem Kt(h:(aN s q' j).2=true):(aN s q j).2=true/\(aN s q j).1.At<=(aN s q' j).1.At:=by
 have hw:Je q (dH s j):=qx (st:=st) ss qs hj;have o:(Dp q' (dH s j)).2=true:=by
  unfold aN named at h;split at h
  ·assumption
  ·simp at h
 obtain ⟨h1,h2⟩:=ZR hb hb' hq hq' hp hp' hw B o;unfold aN named;rw[if_pos o,if_pos h1];exact ⟨rfl,h2⟩
end
theorem Xw(w:zcY):zeo 5000 w=some true:=by
 unfold zeo;rw[Mr,ay,if_neg (by simp)];obtain ⟨r1,e,h⟩:=few23 w.S w.St;obtain ⟨ad,N,h'⟩:=few30P w.S w.St;rw[e] at N;simp only[au] at N;subst N;rw[e,ay];by_cases hl:(!r1)=true
 ·simp_all
 rw[if_neg hl];simp only[iF,oO] at hl;have hw:=h hl;have h30:=h' hl;by_cases q:aV w.S w.St
 ·rw[VZ hw q,ay];obtain ⟨r,_,O,E,L',p,hL'⟩:=Yx q h30 (yCe (mapA w.St.ae));generalize w.S=s at *;generalize w.St=st at *;dsimp only;have rl:r.length<=30:=by rw[O.length_eq];exact kI (List.length_filter_le _ _) h30
  have rm:∀j∈r,j∈st.ah:=λj hj=>(Tu.1 (O.mem_iff.1 hj)).1;have nd:(r.map (·.Id)).Nodup:=by
   have n0:(st.ah.map (·.Id)).Nodup:=by rw[List.nodup_iff_pairwise_ne,yBa];intro i j hi hj af;rw[Pv,Pv];intro e;have:=q.bj.bL.inj (by simpa using hi) (by simpa using hj) e;omega
   exact ((O.map (·.Id)).nodup_iff).2 (n0.sublist (List.filter_sublist.map _))
  have P:∀i,i<=r.length->Xi s st (cD s st (r.take i))/\((cD s st (r.take i)).hd.aW≠0->(cD s st (r.take i)).h∈r.take i):=by
   intro i;induction i with
   |zero=>intro _;exact ⟨hinv0 s st,λh=>absurd rfl h⟩
   |succ i ih=>
    intro hi;obtain ⟨H,hm⟩:=ih (by omega);obtain ⟨I,nodes,hp⟩:=E i (by omega);have f:i<r.length:=by omega
    rw[wR f];refine ⟨H.step I q (by omega) (by omega) hp (rm _ (bH f)) λd e=>?_,λd=>?_⟩
    ·obtain ⟨k,hk,ek⟩:=KW.1 (hm d);rw[Dj] at hk;rw[RW] at ek;rw[<-ek] at e;have:=(List.nodup_iff_pairwise_ne.1 nd);have:=yBa.1 this k i (by simpa using (show k<r.length by omega)) (by simpa using f) (by omega);rw[Pv,Pv] at this;exact this e
    ·rw[GK f,kB,zq];revert d;unfold mB;split
     ·split
      ·split
       ·split
        ·intro _;exact .inr rfl
        ·intro d;exact .inl (hm d)
       ·split
        ·intro d;exact .inl (hm d)
        ·intro d;exact .inl (hm d)
      ·intro d;exact .inl (hm d)
     ·intro d;exact .inl (hm d)
  obtain ⟨I,nodes,hp⟩:=E r.length (cN _);obtain ⟨H,_⟩:=P r.length (cN _);rw[zp] at I hp H;have sh:=zF I.c.sound hL';rw[I.c.now,I.c.next,I.c.book,I.c.cy,I.c.use] at sh;rw[if_neg (by simp),show zcn 5000 st.aB.aq st.ah (List.map (λa=>(a.aW,a)) st.ae) s.aj s.aH s.aq s.aU s.am.lj s.am.cW s.am.fH s.am.bQ s.bW s.Mode s.ah s.kf s.aI s.bp s.dk s.In s.Out s.bV st.aP st.Next st.dw st.az st.jA st.aB.aj (cG s.aj st.ae)=_ from p,ay];dsimp only;rw[if_neg (by simp)];by_cases d:(cD s st r).hd.aW=0
  ·have hz:=H.zero d;rw[if_pos (by simp[d])];unfold Vv;rw[if_pos d,hz];rfl
  ·rw[if_neg (by simp[d])];obtain ⟨F,Q⟩:=I.hd d;have R:=H.mem d;obtain ⟨ok,le⟩:=H.ok d;have late:=H.late d;have v:(cD s st r).c.st.ah.length<=30:=by rw[I.c.len];exact h30
   rw[Q,Ge q h30 F,ay,sh,ay,Ge I.c.sound v R,ay];obtain ⟨US,T⟩:=H.us;have y:=WM q;have z:=WM I.c.sound;have bl:=q.fR.cy.len;have al:=jt y q;have ak:=I.c.sound.fR.cy.len;have an:=jt z I.c.sound;obtain ⟨g,_,U⟩:=jF y q h30 (zF q (yCe (mapA st.ae)));obtain ⟨m,_,W⟩:=jF z I.c.sound v (zF I.c.sound (yCe (mapA (cD s st r).c.st.ae)));have G:PR g (eT s st) 93:=U.up (by omega);have o:PR m (eT s (cD s st r).c.st) 93:=W.up (by omega);have X:=q.bj.each _ F;have M:(eT s (cD s st r).c.st).L.Perm (cD s st r).c.q.L:=T.us.trans (by have:=T.q;simpa[CQ] using this.symm);have B1:vQ (cD s st r).c.q (eT s (cD s st r).c.st):=⟨I.c.qs.symm,by rw[I.c.qn];exact I.c.now,by rw[I.c.qb];exact I.c.cy,λu A=>M.mem_iff.2 A,λk t c=>Int.le_of_eq (Aa M k t c).symm⟩;have B2:vQ (eT s (cD s st r).c.st) (cD s st r).c.q:=⟨I.c.qs,by rw[I.c.qn];exact I.c.now.symm,by rw[I.c.qb];exact I.c.cy.symm,λu A=>M.mem_iff.1 A,λk t c=>Int.le_of_eq (Aa M k t c)⟩;have Y:(Ii st++US).Perm (cD s st r).c.q.L:=by have:=T.q;simpa[CQ] using this.symm
   have Z:∀u∈US,mM u s.aj.length:=λu A=>by
    have:=I.c.ref.used u (Y.mem_iff.1 (kB.2 (.inr A)))
    rwa [I.c.qs] at this
   have B0:vQ (eT s st) (cD s st r).c.q:=⟨I.c.qs,I.c.qn,I.c.qb,λu A=>Y.mem_iff.1 (kB.2 (.inl A)),λk t c=>by rw[<-Aa Y,VO];have:=Ys Z k t c;show cmp c (aR (Ii st) k t)<=_;omega⟩
   have aa:=Bn y q h30;have K:=Bn z I.c.sound v;have bb:93+2 * r.length<=200:=by omega
   have f1:=Kt (s:=s) K I.c.ref (by omega) bb o hp B2 rfl X q.spec ok;have f2:=Kt (s:=s) I.c.ref K bb (by omega) hp o B1 I.c.qs X q.spec f1.1;have f0:=Kt (s:=s) aa I.c.ref (by omega) bb G hp B0 rfl X q.spec ok;have et:(aN s (eT s (cD s st r).c.st) (cD s st r).h).1.At=(aN s (cD s st r).c.q (cD s st r).h).1.At:=Int.le_antisymm f1.2 f2.2;unfold Vv;rw[if_neg d,f0.1,f1.1,et];have ab:=f0.2;simp[le,ab,late]
 grind [Vb]
end Go.Plain
end
