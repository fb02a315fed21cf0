/- TySN, TySD, TyV1, TyS2, TyV2, TyV3, TyV4, TyV5, TyR7, TyV6, TyV7 -/
import Derived.Test.YtdfbphphacpkdaaGreatLawC
import Derived.KernelRfl
set_option linter.all false
open Go.IntKind (i64 u64)
section
namespace Go.Plain
open Go.Abs
theorem eJ{F:List aE}{A:List bF}:(dg F A).length=F.length:=by
 induction A generalizing F with
 |nil=>rfl
 |cons a A ih=>have:=ih (F:=kP F a);rw[zeP] at this;exact this
theorem qf{A:List bF}:∀{F:List aE}{i:Nat}(h:i<F.length)(d:i<(dg F A).length)(c:Nat),cmp c (dg F A)[i]=cmp c F[i]-cO A i c:=by
 induction A with
 |nil=>grind [dg,cO]
 |cons a A ih=>
  intro F i h d c;have hl:i<(kP F a).length:=by grind [zeP]
  have:=ih (F:=kP F a) hl (by grind [eJ]) c;rw[mf,qy,Cq,Bn] at this;rw[zdF];have e:(dg F (a::A))[i]=(dg (kP F a) A)[i]'(by grind):=rfl
  grind
def others(A:List bF)(id:Int):List bF:=A.filter λb=>decide (b.aV≠id)
def zY(x what:Int):Option Int:=
 if what=1/\x=1 then some 2 else if what=2/\x=2 then some 1 else if what=3/\x=1 then some 3 else if what=4/\x=3 then some 1 else if what=5/\x=3 then some 4 else if what=6/\x=3 then some 4
 else if what=6/\DV x then some 6 else if what=7/\(x=3∨x=4) then some 5 else if what=8/\x=4 then some 6 else none
theorem U_(x what:Int):vT 5000 x what=some ((zY x what).getD 0,(zY x what).isSome):=by
 unfold vT zY;simp only[dW,QG,eG,Option.bind_some,bH,nK];by_cases h1:what=1/\x=1
 ·simp_all
 rw[if_neg h1,if_neg h1];by_cases a:what=2/\x=2
 ·simp_all
 rw[if_neg a,if_neg a];by_cases d:what=3/\x=1
 ·simp_all
 rw[if_neg d,if_neg d]
 grind
def HasS(x:Int):Prop:=x=3∨x=4
instance (x:Int):Decidable (HasS x):=by unfold HasS;infer_instance
def kO(x:Int):Prop:=x=5∨x=6
instance (x:Int):Decidable (kO x):=by unfold kO;infer_instance
theorem Uo(x:Int):VA 5000 x=some (decide (kO x)):=by unfold VA;congr 1;rw[Bool.eq_iff_iff];rw[br];simp only[gq,nK,kO]
def fV (j:aK) (what a:Int) (ok:Bool) (ns:Int):aK:=
  { j with
    State:=ns
    aN:=j.aN+1
    Ok:=if what=5 then ok else if what=6∨what=8∨what=7∧j.State=3 then false else j.Ok
    dt:=if what=6 then true else if what=7 then false else j.dt
    Start:=if what=3 then a else if what=4 then 0 else j.Start
    End:=if kO ns then a else j.End }
theorem Pk{j:aK}(h:fj j){what i:Int}(hn:0<=i/\i<=1099511627776)(ok:Bool){ns:Int}(hs:zY j.State what=some ns)(E:j.aN<281474976710656):fj (fV j what i ok ns):=by
 have p:=h.version;have t:=h.start;have u:=h.fin;have v:=h.state.start;have w:=h.state.fin;have y:=h.state.ok;have z:=h.state.kill;have g:(what=1/\j.State=1/\ns=2)∨(what=2/\j.State=2/\ns=1)∨(what=3/\j.State=1/\ns=3)∨(what=4/\j.State=3/\ns=1)∨(what=5/\j.State=3/\ns=4)∨(what=6/\j.State=3/\ns=4)∨(what=6/\DV j.State/\ns=6)∨(what=7/\(j.State=3∨j.State=4)/\ns=5)∨(what=8/\j.State=4/\ns=6):=by
  unfold zY at hs;split at hs
  ·simp_all
  split at hs
  ·simp_all
  split at hs
  ·simp_all
  split at hs
  ·simp_all
  split at hs
  ·simp_all
  split at hs
  ·simp_all
  grind
 have f:j.State<4->j.Ok=false:=λm=>by grind
 have d:j.State<4->j.dt=false:=λm=>by grind
 have o:DV j.State->j.State<3:=λA=>by rcases A with e | e <;> omega
 refine ⟨h.id,h.user,h.queue,h.many,h.need,h.tX,h.wall,h.kJ,h.after,by grind [fV],h.born,?_,?_,h.arr,?_⟩
 ·simp only[fV];omega
 ·simp only[fV];omega
 ·have st0:j.State<3->j.Start=0:=λm=>yBU λq=>by omega
  have a:j.State<5->j.End=0:=λm=>yBU λq=>by omega
  rcases g with ⟨rfl,e,rfl⟩ | ⟨rfl,e,rfl⟩ | ⟨rfl,e,rfl⟩ | ⟨rfl,e,rfl⟩ | ⟨rfl,e,rfl⟩ | ⟨rfl,e,rfl⟩ | ⟨rfl,e,rfl⟩ | ⟨rfl,e,rfl⟩ | ⟨rfl,e,rfl⟩
  ·constructor <;> simp[fV,kO,f (by omega),d (by omega),st0 (by omega),a (by omega)]
  ·constructor <;> simp[fV,kO,f (by omega),d (by omega),st0 (by omega),a (by omega)]
  ·constructor <;> simp[fV,kO,f (by omega),d (by omega),st0 (by omega),a (by omega)]
  ·constructor <;> simp[fV,kO,f (by omega),d (by omega),a (by omega)]
  ·constructor <;> simp[fV,kO,d (by omega),a (by omega)]
  ·constructor <;> simp[fV,kO,a (by omega)]
  ·have:=o e;constructor <;> simp[fV,kO,f (by omega),d (by omega),st0 (by omega),a (by omega)]
  ·constructor <;> simp[fV,kO]
  ·constructor <;> simp[fV,kO]
theorem Wr{j:aK}(h:fj j){what a:Int}(hn:0<=a/\a<=1099511627776)(ok:Bool) :
  bM (uj 5000 j what a ok) λr=>(r.2≠0/\(zY j.State what=none∨j.aN=281474976710656))∨∃ns,zY j.State what=some ns/\j.aN<281474976710656/\r=(fV j what a ok ns,0):=by
 have e:=h.version;have m:=h.kJ;unfold uj;dsimp only[dW];rw[ui h,aD,if_neg (by simp)];simp only[Og,Option.bind_some];rw[if_neg (by simp_all),U_,aD];cases hs:zY j.State what with
 |none=>rw[if_pos (by simp),aZ];simp_all
 |some ns=>
  dsimp only[Option.isSome,Option.getD];rw[if_neg (by simp),bp];refine ⟨λf=>by grind [aZ],λf=>?_⟩;simp only[nK] at f;rw[show zaD 5000 j.aF=some j.aF from xQ (by omega),aD,wr (x:=j.aN+1) (by omega) (by omega)];simp only[Uo,Option.bind_some,nK,Ip,ne_eq,iF,br];have fin:∀(o k:Bool)(t:Int),o=(if what=5 then ok else if what=6∨what=8∨what=7/\j.State=3 then false else j.Ok)->k=(if what=6 then true else if what=7 then false else j.dt)->t=(if what=3 then a else if what=4 then 0 else j.Start) ->
    bM (if kO ns then some (({ Id:=j.Id,cw:=j.cw,Queue:=j.Queue,aL:=j.aL,az:=j.az,aW:=j.aW,aF:=j.aF,State:=ns,Ok:=o,dt:=k,aN:=j.aN+1,dy:=j.dy,Start:=t,End:=a,Array:=j.Array }:aK),(0:Int)) else some (({ Id:=j.Id,cw:=j.cw,Queue:=j.Queue,aL:=j.aL,az:=j.az,aW:=j.aW,aF:=j.aF,State:=ns,Ok:=o,dt:=k,aN:=j.aN+1,dy:=j.dy,Start:=t,End:=j.End,Array:=j.Array }:aK),(0:Int)))
     λr=>(r.2≠0/\((some ns:Option Int)=none∨j.aN=281474976710656))∨∃d,(some ns:Option Int)=some d/\j.aN<281474976710656/\r=(fV j what a ok d,0):=λo k t g hk i=>by
   subst g hk i;rw[bp];refine ⟨λq=>?_,λq=>?_⟩ <;> rw[aZ] <;> refine .inr ⟨ns,rfl,by omega,?_⟩ <;> simp only[fV,q,if_true,cn]
  grind
structure AS (st:cf) (F:List aE):Prop where
 Fy:xO F.length st.ah
 yY:F.length<=300
 ZF:∀r∈F,aM r
 nodes:0<=st.aA.am
 now:0<=st.aR/\st.aR<=1099511627776
theorem good_of{s:bm}{st:cf}(q:bo s st):xO s.am.length st.ah:=λa d=>by obtain ⟨j,hj,P⟩:=q.b_.mem a d;exact ⟨P.ny.shares,by rw[P.need];exact (q.bg.each j hj).ok.need⟩
theorem KQ{s:bm}{st:cf}(q:bo s st):∀r∈dg s.am st.ah,aM r:=λr a=>by
 obtain ⟨i,d,rfl⟩:=ky a;have hn:i<s.am.length:=by grind [eJ]
 refine vY.2 λc=>?_;rw[qf hn d c];have h1:=(oT q.b_ q.spec.nodes.ok).2 i hn c;have e:=vX (good_of q) i c;have f:=vY.1 (q.spec.nodes.ok _ (bC hn)) c;omega
end Go.Plain
end
section
namespace Go.Plain
open Go.Abs
variable{s:bm}{st st':cf}
theorem my.up{j:aK}(h:my s st j)(o:st.Next<=st'.Next)(i:st'.aR=st.aR):my s st' j:=
 ⟨h.ok,by have:=h.next;omega,h.user,h.queue,by rw[i];exact h.born,by rw[i];exact h.start,by rw[i];exact h.fin,h.version⟩
theorem e_.up{j:aK}{a:bF}(h:e_ s st j a)(e:st'.aR=st.aR):e_ s st' j a:=⟨h.Fs,h.need,h.ny,by rw[e];exact h.now⟩
theorem mem_set{l:List aK}{k:Nat}{j x:aK}(h:x∈l.set k j):x=j∨x∈l:=by grind
theorem idsC{l:List aK}{k:Nat}(hk:k<l.length){j:aK}(e:j.Id=l[k].Id){d:Int}(h:∃i∈l,i.Id=d):∃i∈l.set k j,i.Id=d:=by grind [List.mem_iff_getElem]
theorem LW{l:List aK}(hs:bQ l){k:Nat}(hk:k<l.length){j x:aK}(h:x∈l.set k j):x=j∨x∈l/\x.Id≠l[k].Id:=by
 obtain ⟨m,hm,rfl⟩:=ky h;rw[YB] at hm;by_cases c:k=m
 ·simp_all
 ·rw[yB8 c];exact .inr ⟨bC _,λe=>c (hs.inj hm hk e).symm⟩
structure WX (s:bm) (st:cf) (o j:aK):Prop where
 id:j.Id=o.Id
 Oi:my s st j
 fits:j.State<5->jh 5000 s j.Queue j.aL j.az=some true
 after:j.aF=o.aF
 live:j.State<5->o.State<5
theorem WX.waits{k:Nat}(hk:k<st.ai.length){j:aK}(r:WX s st st.ai[k] j)(q:bo s st)(e:st'.ai=st.ai.set k j):∀x∈st'.ai,Hn s st' x:=by
 intro x o hs;rw[e] at o;have up:∀d,(∃i∈st.ai,i.Id=d)->∃i∈st'.ai,i.Id=d:=λd h=>by rw[e];exact idsC hk r.id h
 rcases mem_set o with rfl | o
 ·refine ⟨r.fits hs,λd hd=>up _ ?_⟩;rw[r.after] at hd;exact (q.waits _ (bC hk) (r.live hs)).after d hd
 ·have:=q.waits x o hs;exact ⟨this.fits,λd hd=>up _ (this.after d hd)⟩
theorem WX.bg{k:Nat}(hk:k<st.ai.length){j:aK}(r:WX s st st.ai[k] j)(q:bo s st)(e:st'.ai=st.ai.set k j)(u:st'.Next=st.Next)(o:st'.aR=st.aR):dv s st':=by
 refine ⟨by rw[e,YB];exact q.bg.len,λx i=>?_,by rw[e];exact QF q.bg.bK hk r.id⟩;rw[e] at i;rcases mem_set i with rfl | i
 ·exact r.Oi.up (by omega) o
 ·exact (q.bg.each x i).up (by omega) o
theorem asc_at{A:List bF}(h:zu A):∀i (a:i<A.length),∀m (h:m<A.length),m+1=i->A[m].aV<A[i].aV:=λi a m hm e=>by
 have:=yAZ.1 h m i (by simp_all) (by simp_all) (by omega)
 simp_all
end Go.Plain
end
section
namespace Go.Plain
open Go.Abs
theorem KJ{α:Type}{L:List (Int×α)}(hn:(L.map Prod.fst).Nodup){k:Int}{a:α}(h:(k,a)∈L):cI L k=some a:=by
 induction L with
 |nil=>cases h
 |cons p L ih=>
  obtain ⟨d,e⟩:=p;rw[sH,List.nodup_cons] at hn;simp only[cI]
  grind
theorem Ig{α:Type}{L:List (Int×α)}{k:Int}{a:α}(h:cI L k=some a):(k,a)∈L:=by
 induction L with
 |nil=>simp[cI] at h
 |cons p L ih=>grind [Go.Abs.cI]
theorem Ib{α:Type}{L M:List (Int×α)}(h:L.Perm M)(hn:(M.map Prod.fst).Nodup)(k:Int):cI L k=cI M k:=by
 have d:(L.map Prod.fst).Nodup:=((h.map Prod.fst).nodup_iff).2 hn;cases hl:cI L k with
 |some a=>grind [KJ,Ig]
 |none=>
  cases hm:cI M k with
  |none=>rfl
  |some a=>grind [KJ,Ig]
theorem Yh{L:List (Int×bF)}{A:List bF}(h:L.Perm (mapA A))(a:zu A):aY 5000 L=aY 5000 (mapA A):=by
 have d:((mapA A).map Prod.fst).Nodup:=by
  have e:(mapA A).map Prod.fst=A.map (·.aV):=by simp[mapA]
  rw[e];exact a.imp λh=>by omega
 have f:zR (λk=>k) L=zR (λk=>k) (mapA A):=by
  unfold zR;have c:(L.length<=1000000/\(L.map Prod.fst).Nodup/\∀p∈L,(Lit.int .i64 p.1).wf=true)↔((mapA A).length<=1000000/\((mapA A).map Prod.fst).Nodup/\∀p∈mapA A,(Lit.int .i64 p.1).wf=true):=by grind [List.Perm.length_eq]
  by_cases g:(L.length<=1000000/\(L.map Prod.fst).Nodup/\∀p∈L,(Lit.int .i64 p.1).wf=true)
  ·rw[if_pos g,if_pos (c.1 g)]
   grind [Go.mergeSort_of_perm_i]
  grind
 grind [Go.Abs.aY,Ib]
section
variable{s:bm}{st:cf}(q:bo s st){L:List (Int×bF)}(hL:L.Perm (mapA st.ah))
include q hL
theorem Jf:QX 5000 st.aA.aj st.ai L st.aR st.Next st.cX st.ay st.gF st.aA.am=some st:=by have a:=Uj q;have:=ZI (EE a q);unfold QX at this ⊢;rw[Yh hL (Bx q)];exact this
omit hL in
theorem TL{a b:aK}(d:a∈st.ai)(hb:b∈st.ai)(h:a.Id=b.Id):a=b:=by
 obtain ⟨i,e,rfl⟩:=ky d;obtain ⟨j,hj,rfl⟩:=ky hb;have:=q.bg.bK.inj e hj h
 simp_all
theorem readyV(h30:st.ai.length<=30):∃r,zcn 5000 st.aA.aj st.ai L s.am s.aH s.aj s.aU s.aq.nV s.aq.cZ s.aq.gy s.aq.bZ s.cr s.Mode s.ai s.lc s.aI s.bx s.dw s.In s.Out s.cq st.aR st.Next st.cX st.ay st.gF st.aA.am=some r/\r.Perm (st.ai.filter (zD st.ai)):=by have a:=Uj q;have hl:=a.bg;have e:∀j∈st.ai.filter (zD st.ai),fj j:=λj hj=>(q.bg.each j (Si.1 hj).1).ok;have d:(st.ai.filter (zD st.ai)).length<=30:=lQ (List.length_filter_le _ _) h30;obtain ⟨r,f,hp⟩:=Uz a.spec q.spec { aR:=st.aR,gF:=st.gF } e (by omega);refine ⟨r,?_,hp⟩;unfold zcn;rw[Jf q hL,aD,SG hl q.bg.bK a.after,aD,Re _ _ (by grind),xAb,rM a.spec,aD,f];rfl
end
def zd(s:bm)(l:List aK)(id:Int):Bool:=match l.find? λj=>j.Id == id with
 |some j=>zD l j&&(eS 5000 s l j).getD false
 |none=>false
theorem find_ix{l:List aK}(hs:bQ l){i:Nat}(a:i<l.length):(l.find? λj=>j.Id == l[i].Id)=some l[i]:=by
 cases h:l.find? (λj=>j.Id == l[i].Id) with
 |none=>
  have:=List.find?_eq_none.1 h _ (bC a)
  simp_all
 |some j=>
  have h1:=List.find?_some h;simp only[nK] at h1;obtain ⟨k,hk,rfl⟩:=ky (yBx h);have:=hs.inj hk a h1
  simp_all
theorem mayB_at{s:bm}{l:List aK}(hs:bQ l){i:Nat}(a:i<l.length):zd s l l[i].Id=(zD l l[i]&&(eS 5000 s l l[i]).getD false):=by grind [zd,find_ix]
theorem Ug{s:bm}{l:List aK}{id:Int}(h:zd s l id=true):∃i,∃a:i<l.length,l[i].Id=id/\zD l l[i]=true/\l[i].State=1:=by
 unfold zd at h;cases e:l.find? (λj=>j.Id == id) with
 |none=>simp_all
 |some j=>
  rw[e] at h;simp only[bH] at h;have h1:=List.find?_some e;simp only[nK] at h1;obtain ⟨i,a,rfl⟩:=ky (yBx e);refine ⟨i,a,h1,h.1,?_⟩;have:=h.1;unfold zD at this
  simp_all
theorem WO(s:bm)(l:List aK){K:aK->Option Bool}(id:Int):∀r:List aK,ZS (λ(d:aK) (e:Unit) f=>if (d.Id == id)=true then K d else f ()) (λ(e:Unit)=>some false) r ()=match r.find? λj=>j.Id == id with
  |some j=>K j
  |none=>some false
 |[]=>rfl
 |a :: r => by
  unfold ZS;rw[List.find?_cons];cases h:(a.Id == id) with
  |true=>simp_all
  |false=>rw[if_neg (by simp)];exact WO s l id r
theorem mayV{s:bm}{st:cf}(q:bo s st){L:List (Int×bF)}(hL:L.Perm (mapA st.ah))(id:Int) :
  zd4 5000 st.aA.aj st.ai L id s.am s.aH s.aj s.aU s.aq.nV s.aq.cZ s.aq.gy s.aq.bZ s.cr s.Mode s.ai s.lc s.aI s.bx s.dw s.In s.Out s.cq st.aR st.Next st.cX st.ay st.gF st.aA.am=some (zd s st.ai id):=by
 have a:=Uj q;have hl:=a.bg;unfold zd4;rw[Jf q hL,aD,SG hl q.bg.bK a.after,aD];refine (WO s st.ai (K:=λd=>(zaO 5000 s.am s.aH s.aj s.aU s.aq.nV s.aq.cZ s.aq.gy s.aq.bZ s.cr s.Mode s.ai s.lc s.aI s.bx s.dw s.In s.Out s.cq).bind λf=>(eS 5000 f st.ai d).bind λg=>some g) id _).trans ?_;have h:∀j∈st.ai,j.Id=id->∀x∈st.ai,x.Id=id->x=j:=λj hj e x i m=>TL q i hj (m.trans e.symm);unfold zd;cases e:st.ai.find? (λj=>j.Id == id) with
 |none=>grind
 |some j=>
  have h1:=List.find?_some e;simp only[nK] at h1;have hj:=yBx e;obtain ⟨b,o⟩:=Ga a.spec q.spec hl j;by_cases r:zD st.ai j=true
  ·have:(st.ai.filter (zD st.ai)).find? (λj=>j.Id == id)=some j:=by
    cases p:(st.ai.filter (zD st.ai)).find? (λj=>j.Id == id) with
    |none=>simp_all
    |some x=>grind
   grind [rM,lm.spec]
  grind
end Go.Plain
end
section
namespace Go.Plain
open Go.Abs
section
variable{l:List aK}
theorem set_ok(hl:l.length<=300)(hs:bQ l){k:Nat}(hk:k<l.length){j:aK}(hj:fj j)(a:j.Id=l[k].Id):zcJ 5000 l j=some (l.set k j,0):=by have:=hj.kJ;unfold zcJ;rw[ui hj,aD,if_neg (by simp),a,GM hl hs hk,aD];dsimp only;rw[if_neg (by simp),Di (by omega),aD,bV hk,aD,xAc]
theorem QL(hl:l.length<=300)(hs:bQ l){k:Nat}(hk:k<l.length){j:aK}(hj:fj j)(d:j.Id=l[k].Id){Q:List Int}(a:ki Q) :
  zbq 5000 Q l l[k] j=some (l.set k j,jD Q l[k].Queue j.Queue,0):=by
 unfold zbq;rw[set_ok hl hs hk hj d,aD];dsimp only;rw[if_neg (by simp),LL a,aD];dsimp only[dW];unfold jD;by_cases h:j.Queue=l[k].Queue
 ·simp_all
 ·rw[if_pos (by simp_all),if_neg h,LL (HY a _),aD]
end
end Go.Plain
end
section
namespace Go.Plain
open Go.Abs
def iI(A:List bF)(a:bF):List bF:=match A with
 |[]=>[a]
 |b::A=>if b.aV<a.aV then b::iI A a else a::b::A
theorem qF(A:List bF)(a:bF):(iI A a).Perm (a::A):=by
 induction A with
 |nil=>exact List.Perm.refl _
 |cons b A ih=>grind [iI]
theorem jU{A:List bF}{a x:bF}:x∈iI A a↔x=a∨x∈A:=by rw[(qF A a).mem_iff,gn]
theorem Yw{A:List bF}{a:bF}(h:zu A)(hn:∀b∈A,b.aV≠a.aV):zu (iI A a):=by
 induction A with
 |nil=>simp[iI,zu]
 |cons b A ih=>
  unfold zu at h ih ⊢;rw[sH,yBl] at h;unfold iI;split
  ·rename_i g;rw[sH,yBl];refine ⟨λx e=>?_,ih h.2 λc d=>hn c (pM _ d)⟩;obtain ⟨c,d,rfl⟩:=iQ.1 e;rcases jU.1 d with rfl | d
   ·exact g
   simp_all
  grind [List.pairwise_cons]
theorem yg{A B:List bF}(h:A.Perm B)(i:Int)(c:Nat):cO A i c=cO B i c:=by
 induction h with
 |nil=>rfl
 |cons x _ ih=>grind [zdF]
 |swap x y l=>simp only[zdF];omega
 |trans _ _ h1 a=>omega
theorem msetV{α:Type}{L:List (Int×α)}{k:Int}{a:α}(h:cI L k=none):jI L k a=L++[(k,a)]:=by
 induction L with
 |nil=>rfl
 |cons p L ih=>
  obtain ⟨d,f⟩:=p;simp only[cI] at h;split at h
  ·simp at h
  ·rename_i e;simp only[jI,if_neg e,ih h,List.cons_append]
def jj(j:aK)(a:Int):aK:=fV j 3 a false 3
def dP(j:aK)(sh:List cV):bF:={ aV:=j.Id,az:=j.az,ae:=sh }
def gH(st:cf)(k:Nat)(j:aK)(sh:List cV):cf:=
 { st with ai:=st.ai.set k (jj j st.aR),ah:=iI st.ah (dP j sh),aA:={ aj:=jD st.aA.aj j.Queue j.Queue,am:=Io st.aA.am } }
section
variable{s:bm}{st:cf}(q:bo s st){k:Nat}(hk:k<st.ai.length)(h1:st.ai[k].State=1){sh:List cV}(hs:jC s st.ai[k] sh)(hf:vl (dg s.am st.ah) (dP st.ai[k] sh))
include q hk h1
theorem DE:∀a∈st.ah,a.aV≠st.ai[k].Id:=λa d e=>by
 obtain ⟨R,H⟩:=Fk q.spec q.bg q.b_;have:=(H _ (bC hk)).has.1 ⟨a,d,e⟩
 grind [s_]
theorem Ju:st.ai[k].aN<281474976710656:=by have j:=q.bg.each _ (bC hk);have:=j.version;have:=Ez st.ai[k].State;have:=q.spec.ua;omega
theorem BT:fj (jj st.ai[k] st.aR):=by have j:=q.bg.each _ (bC hk);exact Pk j.ok q.nums.now false (ns:=3) (by rw[h1];rfl) (Ju q hk h1)
include hs hf
theorem PU:dg s.am (gH st k st.ai[k] sh).ah=kP (dg s.am st.ah) (dP st.ai[k] sh):=by
 show dg s.am (iI st.ah (dP st.ai[k] sh))=_;refine yBW (by grind [eJ,zeP]) λi h1 a=>dU λc=>?_;have hn:i<s.am.length:=by grind [eJ]
 rw[qf hn h1 c,mf a,qy,Cq,Bn,qf hn (by grind [eJ]) c,yg (qF ..),zdF];omega
theorem startV{L:List (Int×bF)}(hL:L.Perm (mapA st.ah)):∃p,zby 5000 st.aA.aj st.ai L st.ai[k].Id sh s.am s.aH s.aj s.aU s.aq.nV s.aq.cZ s.aq.gy s.aq.bZ s.cr s.Mode s.ai s.lc s.aI s.bx s.dw s.In s.Out s.cq st.aR st.aA.am (dg s.am st.ah) =
   some (p,(gH st k st.ai[k] sh).aA.aj,(gH st k st.ai[k] sh).ai,0,dg s.am (gH st k st.ai[k] sh).ah,(gH st k st.ai[k] sh).aA.am)/\p.Perm (mapA (gH st k st.ai[k] sh).ah):=by
 have u:=Uj q;have hl:=u.bg;have w:=q.bg.each _ (bC hk);have f:=w.ok;have U:=f.kJ;have sl:sh.length<=300:=by have:=jr hs.shares (by omega);have:=q.spec.nodes.hi;omega
 have i:=Bx q;have none:cI L st.ai[k].Id=none:=by
  rw[Ib hL (by
   have e:(mapA st.ah).map Prod.fst=st.ah.map (·.aV):=by simp[mapA]
   rw[e];exact i.imp λh=>by omega)]
  grind [Ia,DE]
 obtain ⟨W,y,A⟩:=KF u.spec q.spec st.ai[k] sh sl;have:=A.2 hs;subst this;obtain ⟨E,G,K⟩:=Wr f (what:=3) q.nums.now false;have N:zY st.ai[k].State 3=some 3:=by rw[h1];rfl
 have m:E=(jj st.ai[k] st.aR,0):=by
  rcases K with ⟨_,g | g⟩ | ⟨X,d,_,o⟩
  ·simp_all
  ·have:=Ju q hk h1;omega
  ·rw[N] at d;injection d with d
   subst d;exact o
 subst m;have O:=KQ q;obtain ⟨v,P,d,o⟩:=IE (M:=L) (a:=dP st.ai[k] sh) (F:=dg s.am st.ah) (by rw[eJ];have:=q.spec.nodes.hi;omega) sl O;have Q:vx L (dg s.am st.ah) (dP st.ai[k] sh):=by
  refine ⟨f.id,λe=>?_,by rw[eJ];exact hs.shares,f.need,none,hf⟩;have R:sh=[]:=e;have t:=hs.Uk;rw[R] at t;have:=f.many
  grind [kN]
 have z:=d.2 Q;obtain ⟨m1,T⟩:=o z;refine ⟨v.1,?_,?_⟩
 ·unfold zby;rw[get_some hl q.bg.bK hk (by omega),aD];dsimp only;rw[if_neg (by simp),if_neg (by simp[h1])];rw[show ze9 5000 ({ am:=s.am,aH:=s.aH,aj:=s.aj,aU:=s.aU,aq:=({ nV:=s.aq.nV,cZ:=s.aq.cZ,gy:=s.aq.gy,bZ:=s.aq.bZ }:Kw),cr:=s.cr,Mode:=s.Mode,ai:=s.ai,lc:=s.lc,aI:=s.aI,bx:=s.bx,dw:=s.dw,In:=s.In,Out:=s.Out,cq:=s.cq }:bm) st.ai[k] sh=some true from y,aD,if_neg (by simp),G,aD,if_neg (by simp)];rw[show zaS 5000 L ({ aV:=st.ai[k].Id,az:=st.ai[k].az,ae:=sh }:bF) (dg s.am st.ah)=some v from P,aD,if_neg (by simp[z]),KL q.use.nodes.1,aD,QL hl q.bg.bK hk (BT q hk h1) rfl q.use.stamps,aD];rw[PU q hk h1 hs hf,T.eq];rfl
 ·rw[m1];show (jI L st.ai[k].Id (dP st.ai[k] sh)).Perm _;rw[msetV none];show (L++[(st.ai[k].Id,dP st.ai[k] sh)]).Perm (mapA (iI st.ah (dP st.ai[k] sh)));refine List.Perm.trans ?_ ((qF st.ah (dP st.ai[k] sh)).map _).symm;exact (yBS.trans (List.Perm.cons _ hL))
theorem BW(hcl:∀x∈sh,∀b∈st.ay,b.Node=x.Node->¬b.bN<st.aR+st.ai[k].aW):bo s (gH st k st.ai[k] sh):=by
 obtain ⟨R,H⟩:=Fk q.spec q.bg q.b_;have g:=q.bg.each _ (bC hk);have w:=BT q hk h1;have p:=Bx q;have t:=DE q hk h1;have Fy:=R.Fy;have PA:=g.version;rw[h1] at PA;have r:WX s st st.ai[k] (jj st.ai[k] st.aR):=by refine ⟨rfl,⟨w,g.next,g.user,g.queue,g.born,PT _,g.fin,?_⟩,λ_=>(q.waits _ (bC hk) (by omega)).fits,rfl,λ_=>by omega⟩;show st.ai[k].aN+1<=s.aI+jm 3;have:jm 1=0:=rfl;have:jm 3=1:=rfl;omega
 have J:=r.bg (st':=gH st k st.ai[k] sh) hk q rfl rfl rfl;have o:zu (iI st.ah (dP st.ai[k] sh)):=Yw p t;have u:=g.ok.wall;have v:∀(i:Nat)(m:i<s.am.length) c,cO (dP st.ai[k] sh::st.ah) i c<=cmp c s.am[i]:=λi m c=>by
  have hl:i<(dg s.am st.ah).length:=by grind [eJ]
  have:=vY.1 (hf i hl) c;rw[qy,Cq,Bn,qf m hl c] at this
  grind [zdF]
 refine ⟨q.spec,⟨q.nums.now,q.nums.next,q.nums.book⟩,J,r.waits hk q rfl,Wd q.spec J ⟨λi m=>?_,λi m c=>?_⟩ λx f=>?_,⟨q.jf.cB,q.jf.live,λa d=>?_⟩,⟨q.use.len,q.use.use,by show (jD _ _ _).length=_;rw[KE];exact q.use.qlen,SC q.use.nodes,Pz q.use.stamps _ _⟩⟩
 ·have hm:∀a∈iI st.ah (dP st.ai[k] sh),(∃j∈(gH st k st.ai[k] sh).ai,j.Id=a.aV)/\ba a.ae s.am.length/\aM a.az:=λa d=>by
   rcases jU.1 d with rfl | d
   ·exact ⟨⟨jj st.ai[k] st.aR,Oe.2 ⟨k,by show k<(st.ai.set k _).length;simp_all,yB1 _⟩,rfl⟩,hs.shares,g.ok.need⟩
   ·obtain ⟨x,f,P⟩:=q.b_.mem _ d;exact ⟨idsC hk r.id ⟨x,f,P.Fs.symm⟩,Fy _ d⟩
  obtain ⟨m1,y,z⟩:=hm _ (bC m);exact ⟨asc_at o i m,m1,y,z⟩
 ·show cO (iI st.ah (dP st.ai[k] sh)) i c<=_
  grind [yg,qF]
 ·rcases LW q.bg.bK hk f with rfl | ⟨f,c⟩
  ·refine ⟨⟨λ_=>rfl,λ_=>⟨_,jU.2 (.inl rfl),rfl⟩⟩,λa d e=>?_⟩;rcases jU.1 d with rfl | d
   ·exact ⟨rfl,rfl,⟨hs.shares,hs.Uk,hs.q,hs.part⟩,by show st.aR<st.aR+st.ai[k].aW;omega⟩
   ·exact absurd e (t a d)
  ·have h:=H x f;refine ⟨⟨λ⟨a,d,e⟩=>?_,λA=>?_⟩,λa d e=>?_⟩
   ·rcases jU.1 d with rfl | d
    ·exact absurd e.symm c
    ·exact h.has.1 ⟨a,d,e⟩
   ·obtain ⟨a,d,e⟩:=h.has.2 A;exact ⟨a,jU.2 (.inr d),e⟩
   ·rcases jU.1 d with rfl | d
    ·exact absurd e.symm c
    ·exact (h.XF a d e).up rfl
 ·intro x f e;rcases jU.1 d with rfl | d
  ·rcases LW q.bg.bK hk f with rfl | ⟨f,c⟩
   ·exact hcl
   ·exact absurd e c
  ·rcases mem_set f with rfl | f
   ·exact absurd (show a.aV=st.ai[k].Id from e.symm) (t a d)
   ·exact q.jf.vm a d x f e
end
end Go.Plain
end
section
namespace Go.Plain
open Go.Abs
def Ck(q:iB)(w:AM):gS×Bool:=(zaI 5000 q w).getD ({ aV:=0,At:=0,ae:=[] },false)
section
variable{nodes:List (List bW)}{q:iB}{L:Nat}(hL:L<=200)(hq:ru q)(hp:PR nodes q L)
include hL hq hp
theorem Sw{w:AM}(a:jx q w):zaR 5000 nodes w.Part w.aL w.az w.aW q.aR q.S.aH=some (Ck q w)/\zaI 5000 q w=some (Ck q w)/\∃T,Db q T/\vz q w T (Ck q w):=by grind [Xi,Ck]
structure zL (q:iB) (w:AM) (cL:Int) (sh:List cV):Prop where
 lo:q.aR<=cL
 hi:cL<=1099511627776
 shares:ba sh q.S.am.length
 Uk:kN sh=w.aL
 part:∀y∈sh,y.Node∈cA q w
 fit:∀(k:Nat)(h:k<q.S.am.length)(t:Int),cL<=t->t<cL+w.aW->xE (mulR (dM sh k) w.az) (bE q k t)
theorem VW{w:AM}(a:jx q w){t:Int}(i:q.aR<=t)(f:(cJ q w t).2=true):zL q w t (cJ q w t).1:=by
 have m:=ZK hL hq hp a f;obtain ⟨F,o,h,_,e⟩:=CQ (by omega) hq hp a i m;have w1:cJ q w t=CL F (cA q w) w.aL w.az:=by grind [cJ]
 have M:=hq.spec.parts.ok _ (jH a).2;rw[w1] at f ⊢;obtain ⟨p1,p,v,z⟩:=UM h (by grind [HO.len]) a.need a.tX f;rw[o.len] at p1;refine ⟨i,m,p1,p,v,λk hk u A E=>?_⟩;have d:k<F.length:=by grind [HO.len]
 have G:aM (bE q k u):=hp.right k u (by omega) (by omega) (by omega);refine mulR_le (xV (λy K=>by have:=p1.mem y K;omega) _) a.need ?_ G;rcases z k d with g | g
 ·left;intro c;have h1:=(o.low k d).le u _ A E rfl c;have N:=g c;omega
 omega
theorem zI{w:AM}(a:jx q w)(h:(Ck q w).2=true):zL q w (Ck q w).1.At (Ck q w).1.ae:=by obtain ⟨_,_,T,d,e⟩:=Sw hL hq hp a;obtain ⟨f,g,_,_,i⟩:=e.yes h;rw[i];exact VW hL hq hp a ((d.mem _).1 f).1 g
end
def xP(j:aK)(p:gS):Bf:={ bN:=p.At,To:=p.At+j.aW,az:=j.az,ae:=p.ae }
def ZA:zbm:={ kZ:={ aV:=0,At:=0,ae:=[] },dF:={ Id:=0,cw:=0,Queue:=0,aL:=0,az:={ bL:=0,Mem:=0,bO:=0,bR:=0 },aW:=0,aF:=[],State:=0,Ok:=false,dt:=false,aN:=0,dy:=0,Start:=0,End:=0,Array:=0 } }
theorem ZL{q:iB}{w:AM}{j:aK}{p:gS}(h:zL q w p.At p.ae)(hj:fj j)(hq:ru q):vu (xP j p) q.S.am.length:=by
 have n:=hq.now;have a:=hj.wall;have d:=h.lo;have e:=h.hi;have nn:=hq.spec.nodes.hi;refine ⟨h.shares,?_,hj.need,?_,?_⟩
 ·have:=jr h.shares (by omega);show p.ae.length<=300;omega
 ·show 0<=p.At;omega
 ·show p.At+j.aW<=_;omega
theorem Xf {q:iB} {u:Bf} (hq:ru q) (d:vu u q.S.am.length) (hl:q.L.length+1≤100):ru (Bw q u):=
 ⟨hq.spec,hq.now,hq.cB,fun v a=>by
  rcases nj.1 a with a | a
  ·exact hq.used v a
  ·rw [AQ.1 a]; exact d,by show (q.L++[u]).length≤100; simp_all⟩
section
variable{nodes:List (List bW)}{q:iB}{L:Nat}(hL:L<=200)(hq:ru q)(hp:PR nodes q L){st:cf}{j:aK}(hj:my q.S st j)
include hL hq hp hj
theorem LA{r:gS×Bool}(h:r.2=true):(named j r).1={ aV:=j.Id,At:=r.1.At,ae:=r.1.ae }/\(named j r).2=true:=by unfold named;simp_all
theorem Jy:zc1 5000 nodes j q.S.am q.S.aH q.S.aj q.S.aU q.S.aq.nV q.S.aq.cZ q.S.aq.gy q.S.aq.bZ q.S.cr q.S.Mode q.S.ai q.S.lc q.S.aI q.S.bx q.S.dw q.S.In q.S.Out q.S.cq q.aR q.S.aH=some (named j (Ck q (dr q.S j))):=by
 have d:=Bt hq.spec rfl hj;obtain ⟨a,_,_⟩:=Sw hL hq hp d;obtain ⟨i,e,f⟩:=zf ⟨hj.ok.queue.1,hj.queue⟩;have g:=hj.queue;have h:=hj.ok.queue.1;rw[f] at a ⊢;unfold zc1;rw[rM (jT hq.spec),aD,if_neg (by simp_all),e,aD];dsimp only at a ⊢;rw[a,aD];unfold named
 grind
theorem IN:∃a,zbd 5000 nodes j q.aR q.S.aH q.S.am q.S.aH q.S.aj q.S.aU q.S.aq.nV q.S.aq.cZ q.S.aq.gy q.S.aq.bZ q.S.cr q.S.Mode q.S.ai q.S.lc q.S.aI q.S.bx q.S.dw q.S.In q.S.Out q.S.cq =
   (if (named j (Ck q (dr q.S j))).2=true then some (a,{ kZ:=(named j (Ck q (dr q.S j))).1,dF:=j },true) else some (nodes,ZA,false)) /\
  ((Ck q (dr q.S j)).2=true->PR a (Bw q (xP j (named j (Ck q (dr q.S j))).1)) (L+2)):=by
 have p:=Bt hq.spec rfl hj;have t:=Jy hL hq hp hj;unfold zbd;rw[t,aD];by_cases h:(Ck q (dr q.S j)).2=true
 ·obtain ⟨i,f⟩:=LA hL hq hp hj h;have P:=zI hL hq hp p h;obtain ⟨_,_,m⟩:=zf ⟨hj.ok.queue.1,hj.queue⟩;have u:(dr q.S j).az=j.az:=by rw[m]
  have v:(dr q.S j).aW=j.aW:=by rw[m]
  have o:=P.fit;rw[u,v] at o;obtain ⟨a,e,d⟩:=Ul hL hq hp P.shares hj.ok.need hj.ok.wall P.lo P.hi o;refine ⟨a,?_,λ_=>?_⟩
  ·rw[i,f,if_neg (by simp),if_pos rfl];dsimp only;rw[e,aD,pH (hp.len.trans d.len.symm)];rfl
  ·rw[i];exact d
 ·have f:(named j (Ck q (dr q.S j)))=({ aV:=0,At:=0,ae:=[] },false):=by unfold named;simp_all
  refine ⟨nodes,?_,λg=>absurd g h⟩;rw[f,if_pos (by simp),if_neg (by simp)];rfl
end
end Go.Plain
end
section
namespace Go.Plain
open Go.Abs
structure CX where
 st:cf
 q:iB
 P:List gS
 S:List gS
def TI(l:List aK)(id:Int):Nat:=l.findIdx λj=>j.Id == id
def tS(st:cf)(j:aK)(sh:List cV):cf:=gH st (TI st.ai j.Id) j sh
def ol(s:bm)(q:iB)(j:aK):gS×Bool:=named j (Ck q (dr s j))
def vf(s:bm)(x:CX)(j:aK):CX:=
 if zd s x.st.ai j.Id=true then
  if (ol s x.q j).2=true then
   if (ol s x.q j).1.At > x.q.aR then { st:=x.st,q:=Bw x.q (xP j (ol s x.q j).1),P:=x.P++[(ol s x.q j).1],S:=x.S }
   else { st:=tS x.st j (ol s x.q j).1.ae,q:=Bw x.q (xP j (ol s x.q j).1),P:=x.P,S:=x.S++[(ol s x.q j).1] }
  else x
 else x
theorem IP{l:List aK}(hs:bQ l){i:Nat}(a:i<l.length):TI l l[i].Id=i:=by unfold TI;have h:l.findIdx (λj=>j.Id == l[i].Id)<l.length:=List.findIdx_lt_length.2 ⟨l[i],bC a,by simp⟩;have:=List.findIdx_getElem (w:=h);simp only[nK] at this;exact hs.inj h a this
structure jJ (s:bm) (st0:cf) (x:CX) (n:Nat):Prop where
 sound:bo s x.st
 now:x.st.aR=st0.aR
 next:x.st.Next=st0.Next
 book:x.st.cX=st0.cX
 cB:x.st.ay=st0.ay
 use:x.st.gF=st0.gF
 len:x.st.ai.length=st0.ai.length
 bg:∀m (h:m<x.st.ai.length) (h':m<st0.ai.length),x.st.ai[m]=st0.ai[m]∨x.st.ai[m]=jj st0.ai[m] st0.aR
 ref:ru x.q
 qs:x.q.S=s
 qn:x.q.aR=st0.aR
 qb:x.q.ay=st0.ay
 yY:x.q.L.length<=30+n
 used:∀(k:Nat)(c:Nat),cO x.st.ah k c<=cmp c (a_ x.q.L k st0.aR)
 zt:x.P.length+x.S.length<=n
theorem jJ.up{s:bm}{st0:cf}{x:CX}{n:Nat}(h:jJ s st0 x n):jJ s st0 x (n+1):={ h with yY:=by have:=h.yY;omega,zt:=by have:=h.zt;omega }
theorem BQ(q:iB)(u:Bf)(k t:Int)(c:Nat):cmp c (a_ (Bw q u).L k t)=cmp c (a_ q.L k t)+cmp c (jY u k t):=by grind [Bw,mZ,vZ]
section
variable{s:bm}{st0:cf}{x:CX}{n:Nat}(I:jJ s st0 x n)(q0:bo s st0)
include I q0
theorem jJ.Fs{j:aK}(hj:j∈st0.ai)(hm:zd s x.st.ai j.Id=true):∃m,∃h:m<x.st.ai.length,x.st.ai[m]=j/\j.State=1:=by
 obtain ⟨m,o,e,_,h1⟩:=Ug hm;have hl:m<st0.ai.length:=by grind [jJ.len]
 obtain ⟨i,u,rfl⟩:=ky hj;rcases I.bg m o hl with g | g
 ·rw[g] at e h1;have:=q0.bg.bK.inj hl u e
  grind
 grind [jj,fV]
end
section
variable{s:bm}{st0:cf}{x:CX}{n:Nat}(I:jJ s st0 x n)(q0:bo s st0)(hn:n<=30){nodes:List (List bW)}{b:Nat}(hb:b<=200)(hp:PR nodes x.q b){j:aK}(hj:j∈st0.ai)(hm:zd s x.st.ai j.Id=true)
include I q0 hn hb hp hj hm
structure Ei (s:bm) (x:CX) (j:aK) (m:Nat) (hm:m<x.st.ai.length) (p:gS):Prop where
 cL:x.st.ai[m]=j
 one:x.st.ai[m].State=1
 ny:jC s x.st.ai[m] p.ae
 fits:p.At=x.st.aR->vl (dg s.am x.st.ah) (dP x.st.ai[m] p.ae)
 vm:p.At=x.st.aR->∀y∈p.ae,∀b∈x.st.ay,b.Node=y.Node->¬b.bN<x.st.aR+x.st.ai[m].aW
 id:p.aV=j.Id
 place:zL x.q (dr s j) p.At p.ae
theorem yh(h:(ol s x.q j).2=true):∃m,∃hm:m<x.st.ai.length,Ei s x j m hm (ol s x.q j).1:=by
 obtain ⟨m,p,e,h1⟩:=I.Fs q0 hj hm;have N:=I.qs;have d:=I.sound.bg.each _ (bC p);rw[e] at d;have G:my x.q.S x.st j:=by simp_all
 have R:jx x.q (dr s j):=Bt (st:=x.st) I.sound.spec N d;have O:(Ck x.q (dr s j)).2=true:=by grind [ol,named]
 have P:=zI hb I.ref hp R O;obtain ⟨T,_⟩:=LA hb I.ref hp G O;have pl:(ol s x.q j).1={ aV:=j.Id,At:=(Ck x.q (dr s j)).1.At,ae:=(Ck x.q (dr s j)).1.ae }:=T;obtain ⟨U,W,z⟩:=zf (s:=s) (j:=j) ⟨d.ok.queue.1,d.queue⟩;have X:(dr s j).az=j.az:=by rw[z]
 have Y:(dr s j).aW=j.aW:=by rw[z]
 have wm:(dr s j).aL=j.aL:=by rw[z]
 have wp:(dr s j).Part=s.aj[j.Queue.toNat].Part:=by rw[z]
 have A:=P.fit;have a:=P.shares;have Z:=P.lo;rw[X,Y] at A;rw[N] at a A;have xn:x.q.aR=x.st.aR:=by rw[I.qn,I.now]
 have Q:=d.ok.wall;refine ⟨m,p,e,by simp_all,?_,λv=>?_,λv=>?_,by rw[pl],by simp_all⟩
 ·rw[e,pl];refine ⟨a,by grind [zL.Uk],⟨d.ok.queue.1,d.queue⟩,λy E=>?_⟩;have:=P.part y E
  grind [cA]
 ·rw[e];rw[pl] at v ⊢;dsimp only at v ⊢;intro i F;have g:i<s.am.length:=by grind [eJ]
  have lv:=KQ I.sound;refine vY.2 λc=>?_;have l1:=vY.1 (lv _ (bC F)) c;have o:=gE (qL a i) (vY.1 d.ok.need c);unfold qy;rw[Cq,Bn];show 0<=_-dM (Ck x.q (dr s j)).1.ae i * cmp c j.az/\_-dM (Ck x.q (dr s j)).1.ae i * cmp c j.az<=1048576;have f:=A i g x.q.aR (by omega) (by omega) c;rw[Bn] at f;have fl:cmp c (bE x.q i x.q.aR)<=cmp c (dg s.am x.st.ah)[i]:=by
   rw[qf g F];have u:=I.used i c;have nv:=vY.1 (I.sound.spec.nodes.ok _ (bC g)) c;unfold bE;split
   ·grind [NX,qf]
   grind [Cq,zb,jJ.qn]
  omega
 ·rw[e];rw[pl] at v ⊢;dsimp only at v ⊢;intro y E bk w en aa;obtain ⟨i,F,rfl⟩:=ky E;have o:=JV a F;obtain ⟨y0,y1,y2,y3⟩:=a.mem _ E;have bl:=(I.sound.jf.live _ w).2;obtain ⟨K,M,rfl⟩:=ky w;have b1:=(I.sound.jf.cB.each K M).one;have sp:=b1.span
  let t:=max x.st.aR x.st.ay[K].bN
  have t1:x.st.aR<=t:=by omega
  have t2:t<x.st.aR+j.aW:=by omega
  have hk:((Ck x.q (dr s j)).1.ae[i]).Node.toNat<s.am.length:=by omega
  have f:=A _ hk t (by omega) (by omega);rw[yBY y0,o] at f;have mz:Ed x.q.ay ((Ck x.q (dr s j)).1.ae[i]).Node t:=⟨x.st.ay[K],by rw[I.qb,<-I.cB];omega,en,by omega,by omega⟩;have fz:bE x.q ((Ck x.q (dr s j)).1.ae[i]).Node t=bU:=by unfold bE;grind
  rw[fz] at f;apply d.ok.tX;refine dU λc=>?_;have fc:=f c;rw[Bn,NX] at fc;rw[NX];have n0:=vY.1 d.ok.need c;have:1 * cmp c j.az<=((Ck x.q (dr s j)).1.ae[i]).aL * cmp c j.az:=yAQ y2 n0.1;omega
end
theorem jJ.step{s:bm}{st0:cf}{x:CX}{n:Nat}(I:jJ s st0 x n)(q0:bo s st0)(hn:n<=30){nodes:List (List bW)}{b:Nat}(hb:b<=200)(hp:PR nodes x.q b){j:aK}(hj:j∈st0.ai):jJ s st0 (vf s x j) (n+1):=by
 unfold vf;split
 rotate_left
 ·exact I.up
 rename_i hm;split
 rotate_left
 ·exact I.up
 rename_i z;obtain ⟨m,o,F⟩:=yh I q0 hn hb hp hj hm z;have E:=I.sound.bg.each _ (bC o);have A:=E.ok;rw[F.cL] at E A;have G:vu (xP j (ol s x.q j).1) x.q.S.am.length:=ZL F.place A I.ref;have K:=Xf I.ref G (by have:=I.yY;omega);have yY:(Bw x.q (xP j (ol s x.q j).1)).L.length<=30+(n+1):=by have:=I.yY;show (x.q.L++[_]).length<=_;grind
 have O:=F.place.lo;have more:∀k c,cmp c (a_ x.q.L k st0.aR)<=cmp c (a_ (Bw x.q (xP j (ol s x.q j).1)).L k st0.aR):=λk c=>by rw[BQ];have:=JL G k st0.aR c;omega
 split
 ·exact { I with
   ref:=K
   qs:=I.qs
   qn:=I.qn
   qb:=I.qb
   yY:=yY
   used:=λk c=>Int.le_trans (I.used k c) (more k c)
   zt:=by have:=I.zt;grind }
 ·rename_i Q;have cL:(ol s x.q j).1.At=x.st.aR:=by grind [jJ.qn,jJ.now]
  have R:TI x.st.ai j.Id=m:=by rw[<-F.cL];exact IP I.sound.bg.bK o
  have U:tS x.st j (ol s x.q j).1.ae=gH x.st m x.st.ai[m] (ol s x.q j).1.ae:=by unfold tS;rw[R,F.cL]
  have W:=BW I.sound o F.one F.ny (F.fits cL) (F.vm cL);rw[U];exact {
   sound:=W
   now:=I.now
   next:=I.next
   book:=I.book
   cB:=I.cB
   use:=I.use
   len:=by show (x.st.ai.set m _).length=_;rw[YB];exact I.len
   bg:=λi h M=>by
    have X:i<x.st.ai.length:=by grind [jJ.len]
    show (x.st.ai.set m (jj x.st.ai[m] x.st.aR))[i]'(by simp_all)=_∨(x.st.ai.set m (jj x.st.ai[m] x.st.aR))[i]'(by simp_all)=_;by_cases g:m=i
    ·subst g;rw[yB1];right;rcases I.bg m o M with g | g
     ·rw[g,I.now]
     grind [Ei.one,jj,fV]
    ·rw[yB8 g];exact I.bg i X M
   ref:=K
   qs:=I.qs
   qn:=I.qn
   qb:=I.qb
   yY:=yY
   used:=λk c=>by
    show cO (iI x.st.ah (dP x.st.ai[m] (ol s x.q j).1.ae)) k c<=_;rw[yg (qF ..),zdF,BQ];have u:=I.used k c;have Y:jY (xP j (ol s x.q j).1) k st0.aR=mulR (dM (ol s x.q j).1.ae k) j.az:=by
     unfold jY;have Z:=A.wall;rw[if_pos]
     ·rfl
     ·show (ol s x.q j).1.At<=st0.aR/\st0.aR<(ol s x.q j).1.At+j.aW
      grind [jJ.now]
    rw[Y,Bn,F.cL];show dM (ol s x.q j).1.ae k * cmp c j.az+_<=_;omega
   zt:=by have:=I.zt;grind }
end Go.Plain
end
section
namespace Go.Plain
open Go.Abs
def zeroH:VD:={ aV:=0,mh:=0,aF:=0 }
def cx0(s:bm)(st:cf):CX:={ st:=st,q:=zm s st,P:=[],S:=[] }
def cH(s:bm)(st:cf)(r:List aK):CX:=r.foldl (vf s) (cx0 s st)
section
variable{s:bm}{st0:cf}(q0:bo s st0)(h30:st0.ai.length<=30)
include q0 h30
theorem cinv0:jJ s st0 (cx0 s st0) 0:={
 sound:=q0
 now:=rfl
 next:=rfl
 book:=rfl
 cB:=rfl
 use:=rfl
 len:=rfl
 bg:=λm h g=>.inl rfl
 ref:=Rt (Uj q0) q0 h30
 qs:=rfl
 qn:=rfl
 qb:=rfl
 yY:=by
  have:=qT (Uj q0) q0;show (st0.ah.map (eY st0)).length<=_
  grind
 used:=λk c=>by
  have d:=Uj q0;show cO st0.ah k c<=cmp c (a_ (st0.ah.map (eY st0)) k st0.aR);rw[Bj,VI];unfold cO;have:∀A:List bF,(∀a∈A,a∈st0.ah)->(A.map λa=>dM a.ae k * cmp c a.az)=A.map ((λu=>cmp c (jY u k st0.aR))∘eY st0):=λA e=>List.map_congr_left λa f=>by have b:=Fm d q0 (e a f);show _=cmp c (jY (eY st0 a) k st0.aR);unfold jY;rw[if_pos (show (eY st0 a).bN<=st0.aR/\st0.aR<(eY st0 a).To from ⟨PT _,b.1⟩),Bn];rfl
  grind
 zt:=N_ _ }
theorem lX{r:List aK}{i:Nat}(a:i<r.length):cH s st0 (r.take (i+1))=vf s (cH s st0 (r.take i)) r[i]:=by grind [cH,List.take_succ_eq_append_getElem]
theorem Kj{L:List (Int×bF)}(hL:L.Perm (mapA st0.ah)):∃r,zcn 5000 st0.aA.aj st0.ai L s.am s.aH s.aj s.aU s.aq.nV s.aq.cZ s.aq.gy s.aq.bZ s.cr s.Mode s.ai s.lc s.aI s.bx s.dw s.In s.Out s.cq st0.aR st0.Next st0.cX st0.ay st0.gF st0.aA.am=some r/\r.Perm (st0.ai.filter (zD st0.ai)) /\
  (∀i,i<=r.length->jJ s st0 (cH s st0 (r.take i)) i/\∃nodes,PR nodes (cH s st0 (r.take i)).q (93+2 * i)) /\
  ∃ v, zbz 5000 st0.aA.aj st0.ai L s.am s.aH s.aj s.aU s.aq.nV s.aq.cZ s.aq.gy s.aq.bZ s.cr s.Mode s.ai s.lc s.aI s.bx s.dw s.In s.Out s.cq st0.aR st0.Next st0.cX st0.ay st0.gF st0.aA.am (dg s.am st0.ah) =
   some ((cH s st0 r).st.aA.aj,(cH s st0 r).st.ai,v,{ Started:=(cH s st0 r).S,eR:=(cH s st0 r).P,Cu:=zeroH },0,(cH s st0 r).st.aA.am,dg s.am (cH s st0 r).st.ah)/\v.Perm (mapA (cH s st0 r).st.ah):=by
 have U:=Uj q0;have bl:=q0.jf.cB.len;have al:=qT U q0;obtain ⟨r,er,W⟩:=readyV q0 hL h30;have rl:r.length<=30:=by grind [List.Perm.length_eq,List.length_filter_le]
 have M:∀j∈r,j∈st0.ai:=λj hj=>(Si.1 (W.mem_iff.1 hj)).1;obtain ⟨d,Z,o⟩:=Gv U q0 h30 (Jf q0 hL);have w:PR d (zm s st0) 93:=⟨o.len,⟨λk h=>⟨(o.cL.each k h).1,by have:=(o.cL.each k h).2;omega⟩,o.cL.first⟩,o.val⟩;have step:∀i (u:i<r.length) (I:jJ s st0 (cH s st0 (r.take i)) i) nodes,PR nodes (cH s st0 (r.take i)).q (93+2 * i)->∃a,zbd 5000 nodes r[i] st0.aR s.aH s.am s.aH s.aj s.aU s.aq.nV s.aq.cZ s.aq.gy s.aq.bZ s.cr s.Mode s.ai s.lc s.aI s.bx s.dw s.In s.Out s.cq =
   (if (ol s (cH s st0 (r.take i)).q r[i]).2=true then some (a,{ kZ:=(ol s (cH s st0 (r.take i)).q r[i]).1,dF:=r[i] },true) else some (nodes,ZA,false)) /\
   ((ol s (cH s st0 (r.take i)).q r[i]).2=true->PR a (Bw (cH s st0 (r.take i)).q (xP r[i] (ol s (cH s st0 (r.take i)).q r[i]).1)) (93+2 * (i+1))):=λi u I nodes hp=>by
  have ji:=q0.bg.each _ (M _ (bC u));have N:my (cH s st0 (r.take i)).q.S st0 r[i]:=by grind [jJ.qs]
  obtain ⟨a,e,h⟩:=IN (by omega) I.ref hp N;rw[I.qs,I.qn] at e;refine ⟨a,e,λg=>?_⟩;rw[I.qs] at h;have:(Ck (cH s st0 (r.take i)).q (dr s r[i])).2=true:=by grind [ol,named]
  have:=h this;rw[show 93+2 * (i+1)=93+2 * i+2 by omega];exact this
 have z:∀i,i<=r.length->jJ s st0 (cH s st0 (r.take i)) i/\∃nodes,PR nodes (cH s st0 (r.take i)).q (93+2 * i):=by
  intro i;induction i with
  |zero=>intro _;exact ⟨cinv0 q0 h30,d,w⟩
  |succ i ih=>
   intro u;obtain ⟨I,nodes,hp⟩:=ih (by omega);rw[lX q0 h30 (show i<r.length by omega)];refine ⟨I.step q0 (by omega) (by omega) hp (M _ (bC _)),?_⟩;obtain ⟨a,_,h⟩:=step i (by omega) I nodes hp;have O:PR nodes (cH s st0 (r.take i)).q (93+2 * (i+1)):=⟨hp.len,⟨λk h=>⟨(hp.cL.each k h).1,by have:=(hp.cL.each k h).2;omega⟩,hp.cL.first⟩,hp.val⟩
   grind [vf]
 refine ⟨r,er,W,z,?_⟩
 suffices h:bM (zbz 5000 st0.aA.aj st0.ai L s.am s.aH s.aj s.aU s.aq.nV s.aq.cZ s.aq.gy s.aq.bZ s.cr s.Mode s.ai s.lc s.aI s.bx s.dw s.In s.Out s.cq st0.aR st0.Next st0.cX st0.ay st0.gF st0.aA.am (dg s.am st0.ah)) λx=>∃v,x=((cH s st0 r).st.aA.aj,(cH s st0 r).st.ai,v,{ Started:=(cH s st0 r).S,eR:=(cH s st0 r).P,Cu:=zeroH },0,(cH s st0 r).st.aA.am,dg s.am (cH s st0 r).st.ah)/\v.Perm (mapA (cH s st0 r).st.ah) by obtain ⟨x,e,v,rfl,h⟩:=h;exact ⟨v,e,h⟩
 unfold zbz zfb;rw[Z,aD,aD];dsimp only;rw[er,aD];refine jb r.length (λi x=>∃A nodes,x=((i:Int),(cH s st0 (r.take i)).st.aA.am,dg s.am (cH s st0 (r.take i)).st.ah,(cH s st0 (r.take i)).st.aA.aj,(cH s st0 (r.take i)).st.ai,A,nodes,(cH s st0 (r.take i)).P,(cH s st0 (r.take i)).S)/\A.Perm (mapA (cH s st0 (r.take i)).st.ah)/\PR nodes (cH s st0 (r.take i)).q (93+2 * i)) (λi x f u P aa=>?_) (λx f P=>?_)
  ⟨L,d,rfl,hL,w⟩ (by omega)
 ·obtain ⟨A,nodes,rfl,p,hp⟩:=P;obtain ⟨I,_⟩:=z i (by omega);have t:=lX (s:=s) q0 h30 u;have y:=mayV I.sound p r[i].Id;rw[I.now,I.next,I.book,I.cB,I.use] at y;obtain ⟨a,E,X⟩:=step i u I nodes hp;have O:PR nodes (cH s st0 (r.take i)).q (93+2 * (i+1)):=⟨hp.len,⟨λk h=>⟨(hp.cL.each k h).1,by have:=(hp.cL.each k h).2;omega⟩,hp.cL.first⟩,hp.val⟩;dsimp only;rw[if_pos (cK u),dW,bV u,aD,y,aD,bS (show i<1000000 by omega)];unfold vf at t;rw[bp];refine ⟨λh=>?_,λh=>?_⟩
  ·grind
  ·have hm:zd s (cH s st0 (r.take i)).st.ai r[i].Id=true:=by grind
   rw[if_pos hm] at t;rw[E];by_cases g:(ol s (cH s st0 (r.take i)).q r[i]).2=true
   ·rw[if_pos g] at t;rw[if_pos g,aD,if_neg (by simp)];unfold zdG;rw[aD];have pl:=I.zt;by_cases Y:(ol s (cH s st0 (r.take i)).q r[i]).1.At > (cH s st0 (r.take i)).q.aR
    ·rw[if_pos Y] at t;have g3:(ol s (cH s st0 (r.take i)).q r[i]).1.At > st0.aR:=by grind [jJ.qn]
     rw[if_pos (by grind),Aw (by grind),aD]
     grind
    ·rw[if_neg Y] at t;have g3:¬(ol s (cH s st0 (r.take i)).q r[i]).1.At > st0.aR:=by grind [jJ.qn]
     obtain ⟨m,G,F⟩:=yh I q0 (by omega) (by omega) hp (M _ (bC u)) hm g;have ab:=F.place.lo;have cL:(ol s (cH s st0 (r.take i)).q r[i]).1.At=(cH s st0 (r.take i)).st.aR:=by grind [jJ.qn,jJ.now]
     obtain ⟨v,Q,R⟩:=startV I.sound G F.one F.ny (F.fits cL) p;have ix:TI (cH s st0 (r.take i)).st.ai r[i].Id=m:=by rw[<-F.cL];exact IP I.sound.bg.bK G
     have K:tS (cH s st0 (r.take i)).st r[i] (ol s (cH s st0 (r.take i)).q r[i]).1.ae=gH (cH s st0 (r.take i)).st m (cH s st0 (r.take i)).st.ai[m] (ol s (cH s st0 (r.take i)).q r[i]).1.ae:=by unfold tS;rw[ix,F.cL]
     rw[<-K,I.now] at Q;rw[<-K] at R;have T:(cH s st0 (r.take i)).st.ai[m].Id=(ol s (cH s st0 (r.take i)).q r[i]).1.aV:=by rw[F.cL,F.id]
     rw[T] at Q;rw[if_neg (by grind),Q,aD,if_pos (by rfl),Aw (by grind),aD]
     grind
   grind
 ·obtain ⟨A,nodes,rfl,p,hp⟩:=P;dsimp only;rw[if_neg (by simp),aZ];rw[xA] at p ⊢;exact ⟨A,rfl,p⟩
end
end Go.Plain
end
section
namespace Go.Plain
open Go.Abs
theorem C_{l:List aK}(hl:l.length<=300)(hs:bQ l){i:Nat}(d:i<l.length):Oy 5000 l l[i].Id=some (i:Int):=by
 obtain ⟨r,e,h1,f,_⟩:=qh hl l[i].Id;have g:0<=r:=h1.2 ⟨_,bC d,rfl⟩;have a:=f g;have:=hs.inj a.hi d a.is
 grind
section
variable{l:List aK}(hl:l.length<=300)(hs:bQ l)
include hl hs in
theorem ref_dep(d:Of):bM (ze3 5000 d l) λr=>(r=1↔US l d):=by
 unfold ze3;obtain ⟨r,e,h⟩:=Yb hl d.aV;rcases h with ⟨_,h⟩ | ⟨i,a,h1,_⟩
 ·obtain ⟨x,ex,g,_⟩:=qh hl d.aV;have m:x<0:=by
   grind
  rw[ex,aD,dW,if_pos (by simp_all)];show bM (if true=true then _ else _) _;rw[if_pos rfl,aZ];exact ⟨λh=>by omega,λ⟨j,hj,f,_⟩=>absurd f (h j hj)⟩
 ·rw[<-h1,C_ hl hs a,aD,dW,if_neg (by simp),bV a,aD,aD]
  grind [K_,dW,aZ]
include hl hs in
theorem ref_met{j:aK}(e:j.aF.length<=10):fH (zdD 5000 j l) (∀d∈j.aF,US l d):=by
 unfold zdD;refine Oh j.aF (US l) _ (λh=>h) (λi f a Q h1 g=>?_) (λf h=>?_) (by omega)
 ·rw[if_pos (cK a),bV a,aD];refine (ref_dep hl hs _).bind λr m=>?_;rw[bp,bS (show i<1000000 by omega)]
  grind [aZ]
 ·simp only[eC,bT,cn];exact qD h
include hl hs in
theorem met_eq{j:aK}(a:j.aF.length<=10):∃b,nQ 5000 j l=some b/\zdD 5000 j l=some b:=by
 obtain ⟨b,e,h⟩:=YD hl hs a;obtain ⟨c,d,f⟩:=ref_met hl hs a
 grind
include hl hs in
theorem is_eq{j:aK}(a:j.aF.length<=10):fD 5000 j l=some (zD l j):=by
 obtain ⟨b,d,e⟩:=met_eq hl hs a;unfold fD zD
 grind
end
theorem count_eq{l:List aK}(hl:l.length<=300)(q:Int):zdR 5000 l q (3,4) (-1)=some (l.countP λj=>(j.Queue == q)&&hasB j.State:Int):=by
 unfold zdR;apply bM.eq;refine Ag hl (λj=>(j.Queue == q)&&hasB j.State) (λf c i g o a=>?_) (λf=>?_)
 ·simp only[dW];rw[if_pos (cK g),bV g,aD,bS (show i<1000000 by omega),bS (show c<1000000 by omega)];have m:(decide ((-1:Int)<0))=true:=rfl;simp only[m,Bool.true_or,if_true,bT,cn];simp only[hasB] at a;by_cases h:(l[i].Queue == q)=true
  ·rw[if_pos h];simp only[h,yBJ] at a;by_cases d:(l[i].State == 3)=true
   ·rw[if_pos d];rw[if_pos (by simp[d])] at a;exact a
   ·rw[if_neg d];simp only[yBX] at d;simp only[d,yCn] at a;by_cases e:(l[i].State == 4)=true
    ·rw[if_pos e];rw[if_pos e] at a;exact a
    ·rw[if_neg e];rw[if_neg e] at a;exact a
  ·rw[if_neg h];simp only[yBX] at h;simp only[h,Bool.false_and,bT,cn] at a;exact a
 ·simp only;rw[if_neg (by simp),aZ]
theorem may_eq{s:bm}(hs:lq s)(k:bn s){l:List aK}(hl:l.length<=300)(j:aK) :
  ∃b,eS 5000 s l j=some b/\zeY 5000 s l j=some b:=by
 unfold eS oV zeY;by_cases hq:0<=j.Queue/\j.Queue<s.aj.length
 ·obtain ⟨p,e⟩:=Eh (l:=s.aj) hq.1 hq.2;rw[if_pos (by simp_all),CR hs k,aD,aD,if_neg (by simp),e,aD,if_neg (by simp_all),aD];generalize s.aj[j.Queue.toNat]=m;rw[GK hl,of_eq hl,aD,aD];refine ⟨decide (((l.countP λi=>(i.Queue == j.Queue)&&hasB i.State:Nat):Int)<m.jp)&&decide (((l.countP λi=>((i.Queue == j.Queue)&&(i.cw == j.cw))&&hasB i.State:Nat):Int)<m.eV),?_,?_⟩
  ·grind
  apply bM.eq;refine Ag hl (λi=>((i.Queue == j.Queue)&&(i.cw == j.cw))&&hasB i.State) (λf c i o t a=>?_) (λf=>?_)
  ·simp only[dW];rw[if_pos (cK o),bV o,bS (show i<1000000 by omega),bS (show c<1000000 by omega)];simp only[Option.bind_some,if_true,bT,cn];simp only[hasB] at a;by_cases h:(l[i].Queue == j.Queue)=true
   ·rw[if_pos h];simp only[h,yBJ] at a;by_cases h1:(l[i].cw == j.cw)=true
    ·rw[if_pos h1];simp only[h1,yBJ] at a;by_cases d:(l[i].State == 3)=true
     ·rw[if_pos d];rw[if_pos (by simp[d])] at a;exact a
     ·rw[if_neg d];simp only[yBX] at d;simp only[d,yCn] at a;by_cases g:(l[i].State == 4)=true
      ·rw[if_pos g];rw[if_pos g] at a;exact a
      ·rw[if_neg g];rw[if_neg g] at a;exact a
    ·rw[if_neg h1];simp only[yBX] at h1;simp only[h1,Bool.false_and,bT,cn] at a;exact a
   ·rw[if_neg h];simp only[yBX] at h;simp only[h,Bool.false_and,bT,cn] at a;exact a
  ·simp only;rw[if_neg (by simp),count_eq hl,aD,aZ]
 ·rw[if_neg (by simp_all),aD,if_pos (by simp),if_pos (by grind)]
  simp_all
end Go.Plain
end
section
namespace Go.Plain
open Go.Abs
theorem mQ{o:Option Bool}{p:Prop}(h:fH o p)(hp:p):o=some true:=by obtain ⟨b,e,hb⟩:=h;simp_all
theorem Ru{x:Int}(h:0<=x/\x<=281474976710656):zd6 5000 x=some (Io x):=by
 unfold zd6 Io;by_cases e:x=281474976710656
 ·simp_all
 ·rw[if_neg (by simp_all),if_neg (by omega),wr (by omega) (by omega)]
theorem Qf{J:List aK}{A:List bF}{B:List gM}{U Q:List Int}(i:J.length<=300)(m:A.length<=300)(o:B.length<=300)(p:U.length<=300)(hl:Q.length<=300)(h:ki Q)(d next a f q:Int) :
  zbs 5000 J A B U Q d next a f q=some (J,A,B,U,nS Q q,d,next,a,f):=by
 unfold zbs zdm;rw[xQ (by omega),xQ (by omega),xQ (by omega),xQ (by omega),xQ (by omega)];simp only[Option.bind_some,dW];unfold nS;by_cases hq:0<=q/\q<Q.length
 ·obtain ⟨g,e⟩:=Eh (l:=Q) hq.1 hq.2;rw[if_pos (show ((decide (q≥0))&&(decide (q<(Q.length:Int))))=true by simp_all),if_pos hq,e,aD,Ru (h _ (bC g)),aD,aD,eI g];rfl
 grind
theorem LN{st:cf}(h:SH st)(hs:bQ st.ai)(a:ki st.aA.aj){k:Nat}(hk:k<st.ai.length){j:aK}(d:j.Id=st.ai[k].Id)(hq:j.Queue=st.ai[k].Queue) :
  zdn 5000 st j=some { st with ai:=st.ai.set k j,aA:={ aj:=jD st.aA.aj j.Queue j.Queue,am:=st.aA.am } }:=by
 have h1:=h.bg;have e:=h.b_;have f:=h.cB;have g:=h.use;have i:=h.stamps;unfold zdn zds jD;rw[xQ (by omega),xQ (by omega),xQ (by omega),xQ (by omega),xQ (by omega)];simp only[Option.bind_some];rw[d,C_ h1 hs hk,aD,bV hk,aD,aD,xAc,Qf (by simp_all) e (by omega) (by omega) (by omega) a,aD]
 simp_all
theorem JF{a:bF}:∀{A:List bF}{i:Nat},i<=A.length->(∀m (h:m<A.length),m<i->A[m].aV<a.aV)->(∀h:i<A.length,¬A[i].aV<a.aV)->iI A a=A.take i++a::A.drop i
 |[],i,hi,_,_=>by simp[iI]
 |b :: A, 0, _, _, h => by have:=h (by simp);rw[List.getElem_cons_zero] at this;rw[iI,if_neg this];rfl
 |b :: A, i + 1, hi, h1, h2 => by
  have d:=h1 0 (by simp) (by omega);rw[List.getElem_cons_zero] at d;rw[iI,if_pos d,JF (i:=i) (by simp_all) (λm hm e=>by
   grind) (λhm=>by
   simp_all)]
  rfl
theorem Qm{l:List bF}(hl:l.length<=300){id:Int}(h:∀a∈l,a.aV≠id):zbO 5000 l id=some (-1):=by
 unfold zbO;refine bM.eq (vk l (λ_ _=>True) (λi f d _ e=>?_) (λf _=>?_) (by omega))
 ·have:=h _ (bC d);rw[if_pos (cK d),bV d,aD,if_neg (by simp_all),bS (show i<1000000 by omega)]
  simp_all
 ·simp only[eC,bT,cn,aZ]
theorem XJ{F:List aE}{A:List bF}{a:bF}(M:F.length<=300)(Y:A.length<=250)(ok:1<=a.aV/\a.aV<=1048576)(O:a.ae≠[])(hs:ba a.ae F.length)(hl:a.ae.length<=300)(P:aM a.az)
  (none:∀b∈A,b.aV≠a.aV) (sl:∀b∈A,b.ae.length<=300) (Fy:xO F.length (iI A a)) (v:DS F (iI A a)):zc9 5000 F A a=some (iI A a,0):=by
 have Z:0<a.ae.length:=Th.2 O;unfold zc9;rw[dW,if_neg (by simp_all),mQ (Bs a.ae F.length hl) hs,aD,if_neg (by simp),mQ (vD a.az) P,aD];dsimp only;rw[if_neg (by simp),Qm (by omega) none,aD,if_neg (by simp)];refine bM.eq ?_;have fin:∀(i:Nat)(f:Int->Option (List bF×Int)),i<=A.length->iI A a=A.take i++a::A.drop i->bM ((slice? A 0 (i:Int)).bind λw=>
       (bI [] w).bind λy=>
       (bI y ([a]:List bF)).bind λg=>
       (slice? A (i:Int) (A.length:Int)).bind λo=>
       (bI g o).bind λd=>
       (zbv 5000 d F).bind λp=>
       if (!p.2)=true then
        some (A,(20:Int))
       else
        some (d,0)) λx=>x=(iI A a,0):=λi f t e=>by
  rw[rA t,aD,xQ (by grind),aD,Aw (by grind),aD,fZ t,aD,Aw (by grind),aD];rw[show A.take i++[a]++A.drop i=iI A a by simp_all];have z:∀b∈iI A a,b.ae.length<=300:=λb hb=>by grind
  have R:(iI A a).length<=300:=by grind
  obtain ⟨r,T,h1⟩:=Mp M R z Fy;rw[show zbv 5000 (iI A a) F=some r from T,aD,h1.2 v,if_neg (by simp),aZ]
 have lp := jb (Q := λx => x = (iI A a, (0 : Int))) A.length (λi x => x = (i : Int) /\ ∀ m (h : m < A.length), m < i -> A[m].aV < a.aV) (b := λ(U : Int -> Option (List bF × Int)) (u : Int)=>
     jn (λ(W:Bool)=>
      if W=true then
       U (i64.wrap (u+1))
      else
       (slice? A 0 u).bind λw=>
       (bI [] w).bind λy=>
       (bI y ([a]:List bF)).bind λg=>
       (slice? A u (A.length:Int)).bind λo=>
       (bI g o).bind λd=>
       (zbv 5000 d F).bind λp=>
       if (!p.2)=true then
        some (A,20)
       else
        some (d,0)) λK=>
     if (decide (u<(A.length:Int)))=true then
     (aB A u).bind λE=>
     K (decide (E.aV<a.aV))
     else
     K false) (λi x f t G X=>?_) (λx f G=>?_) (x0:=0) ⟨rfl,λm _ h=>by omega⟩ (N:=5000) (by omega)
 ·exact lp
 ·obtain ⟨rfl,hm⟩:=G;rw[dW,if_pos (cK t),bV t,aD,bp,bS (show i<1000000 by omega)];refine ⟨λh=>X _ ⟨rfl,λm h1 h2=>?_⟩,λh=>fin i f (by omega) (JF (by omega) hm λ_=>by simp_all)⟩
  grind
 ·obtain ⟨rfl,hm⟩:=G;rw[dW,if_neg (by simp)];dsimp only;rw[if_neg (by simp)];exact fin A.length f (by omega) (JF (by omega) hm λh=>by omega)
section
variable{s:bm}{st:cf}(q:bo s st){k:Nat}(hk:k<st.ai.length)(h1:st.ai[k].State=1){sh:List cV}(hs:jC s st.ai[k] sh)(hf:vl (dg s.am st.ah) (dP st.ai[k] sh))(hcl:∀x∈sh,∀b∈st.ay,b.Node=x.Node->¬b.bN<st.aR+st.ai[k].aW)
include q hk h1 hs hf hcl
theorem Vj(g:st.ah.length<=250):zcL 5000 s st st.ai[k].Id sh=some (gH st k st.ai[k] sh,0):=by
 have f:=Uj q;have p:=EE f q;have u:=q.bg.each _ (bC hk);have d:=u.ok;have PA:=Ju q hk h1;have y:=d.version;have sl:sh.length<=300:=by have:=jr hs.shares (by omega);have:=q.spec.nodes.hi;omega
 have h:=BW q hk h1 hs hf hcl;obtain ⟨m,_⟩:=Fk h.spec h.bg h.b_;have o:zev 5000 1 3=some 3:=rfl;have i:zel 5000 st.ai[k] 3 st.aR false=some (jj st.ai[k] st.aR):=by
  unfold zel jj;rw[h1,o,aD,wr (by omega) (by omega)]
  grind [dW,fV,kO]
 have v:=XJ (F:=s.am) (A:=st.ah) (a:=dP st.ai[k] sh) (by have:=q.spec.nodes.hi;omega) g d.id (λe=>by
  have w:sh=[]:=e;have t:=hs.Uk;rw[w] at t;have:=d.many
  grind [kN]) hs.shares sl d.need (DE q hk h1) (λb hb=>lQ (f.shares b hb) (by decide)) m.Fy m.fit
 unfold zcL ju;rw[C_ f.bg q.bg.bK hk,aD,if_neg (by simp),bV hk,aD,if_neg (by simp[h1]),aD,mQ (Me f.spec q.spec st.ai[k] sh sl) hs,aD,if_neg (by simp),aD,mQ (xr _ (by grind [fj.kJ])) d,aD,if_neg (by simp),h1,o,aD,if_neg (by simp),if_neg (by grind),aD,if_neg (by simp),aD,
  show zc9 5000 s.am st.ah ({ aV:=st.ai[k].Id,az:=st.ai[k].az,ae:=sh }:bF)=_ from v,Option.bind_some,if_neg (by simp),Option.bind_some,i,Option.bind_some,LN p q.bg.bK q.use.stamps hk (j:=jj st.ai[k] st.aR) rfl rfl,Option.bind_some,Ru q.use.nodes,Option.bind_some]
 rfl
end
theorem VY{B:List gM}(hl:B.length<=300){n a b:Int}(h:∀k∈B,k.Node=n->¬k.bN<b):za6 5000 B n a b=some false:=by
 unfold za6;refine bM.eq (vk B (λ_ _=>True) (λi f d _ e=>?_) (λf _=>?_) (by omega))
 ·have:=h _ (bC d);rw[if_pos (cK d),bV d,aD,if_neg (by grind),bS (show i<1000000 by omega)]
  simp_all
 ·simp only[eC,bT,cn,aZ]
theorem may_ref{s:bm}{st:cf}(q:bo s st)(id:Int):zdw 5000 s st id=some (zd s st.ai id):=by
 have f:=Uj q;have hl:=f.bg;have hs:=q.bg.bK;unfold zdw;obtain ⟨x,ex,m,g,_⟩:=qh hl id;rw[ex,aD];by_cases h:0<=x
 ·have a:=g h;have d:=a.hi;have e:st.ai[x.toNat].Id=id:=a.is;obtain ⟨i,rfl⟩:∃i:Nat,x=(i:Int):=⟨x.toNat,by omega⟩;simp only[Int.toNat_natCast] at d e;subst e;rw[if_pos (by simp),bV d,aD,aD,is_eq hl hs (f.after _ (bC d)),aD];rw[mayB_at hs d];obtain ⟨c,c1,o⟩:=may_eq f.spec q.spec hl st.ai[i]
  grind
 ·rw[if_neg (by simp_all)];unfold zd
  grind
end Go.Plain
end
section
set_option maxRecDepth 100000
namespace Go.Plain
open Go.Abs
theorem OK:fR 5000=some true:=by kernel_rfl
def Fh(s:bm)(x:CX)(j:aK):Prop:=zd s x.st.ai j.Id=true/\(ol s x.q j).2=true/\¬(ol s x.q j).1.At > x.q.aR
theorem AX{s:bm}{x:CX}{j:aK}(h:Fh s x j):vf s x j={ st:=tS x.st j (ol s x.q j).1.ae,q:=Bw x.q (xP j (ol s x.q j).1),P:=x.P,S:=x.S++[(ol s x.q j).1] }:=by unfold vf;rw[if_pos h.1,if_pos h.2.1,if_neg h.2.2]
theorem Lv{s:bm}{x:CX}{j:aK}(h:¬Fh s x j):(vf s x j).S=x.S/\(vf s x j).st=x.st:=by
 unfold vf;by_cases h1:zd s x.st.ai j.Id=true
 ·rw[if_pos h1];by_cases a:(ol s x.q j).2=true
  ·rw[if_pos a];by_cases d:(ol s x.q j).1.At > x.q.aR
   ·simp_all
   ·exact absurd ⟨h1,a,d⟩ h
  simp_all
 simp_all
section
variable{s:bm}{st0:cf}(q0:bo s st0)(h30:st0.ai.length<=30)(r:List aK)
include q0 h30
theorem pre_S(d:Nat):∀k,k+d<=r.length->(cH s st0 (r.take k)).S <+: (cH s st0 (r.take (k+d))).S:=by
 induction d with
 |zero=>simp_all
 |succ d ih=>
  intro k hk;refine (ih k (by omega)).trans ?_;rw[show k+(d+1)=(k+d)+1 by omega,lX q0 h30 (show k+d<r.length by omega)];by_cases h:Fh s (cH s st0 (r.take (k+d))) r[k+d]
  ·grind [AX]
  grind [Lv]
theorem Ex(d:Nat):∀k,k+d<=r.length->((cH s st0 (r.take k)).S=(cH s st0 (r.take (k+d))).S/\(cH s st0 (r.take k)).st=(cH s st0 (r.take (k+d))).st) ∨
  ∃m,∃hm:m<r.length,m<k+d/\(cH s st0 (r.take m)).S=(cH s st0 (r.take k)).S/\(cH s st0 (r.take m)).st=(cH s st0 (r.take k)).st/\Fh s (cH s st0 (r.take m)) r[m]:=by
 induction d with
 |zero=>simp_all
 |succ d ih=>
  intro k hk;by_cases h:Fh s (cH s st0 (r.take k)) r[k]
  ·grind
  grind [lX,Lv]
end
theorem Kt(w:zdQ):zcW 5000 w=some true:=by
 unfold zcW;rw[OK,aD,if_neg (by simp)];obtain ⟨r1,e,h⟩:=few23 w.S w.St;obtain ⟨ab,M,h'⟩:=few30P w.S w.St;rw[e] at M;simp only[au] at M;subst M;rw[e,aD];by_cases hl:(!r1)=true
 ·simp_all
 rw[if_neg hl];simp only[iF,oE] at hl;have hw:=h hl;have h30:=h' hl;by_cases q:bo w.S w.St
 ·rw[Uu hw q,aD];obtain ⟨r,_,hr,A,L',E,N⟩:=Kj q h30 (List.Perm.refl (mapA w.St.ah));generalize w.S=s at *;generalize w.St=st at *;dsimp only;have rl:r.length<=30:=by grind [List.Perm.length_eq,List.length_filter_le]
  have rm:∀j∈r,j∈st.ai:=λj hj=>(Si.1 (hr.mem_iff.1 hj)).1;obtain ⟨I,_⟩:=A r.length (cU _);rw[xA] at I;have sh:=Jf I.sound N;rw[I.now,I.next,I.book,I.cB,I.use] at sh;have snd:f_ 5000 s (cH s st r).st=some true:=mQ (E_ (Uj I.sound)) I.sound;have same:bP 5000 (cH s st r).st (cH s st r).st=some true:=Pw (EE (Uj I.sound) I.sound);rw[if_neg (by simp),show zbz 5000 st.aA.aj st.ai (List.map (λa=>(a.aV,a)) st.ah) s.am s.aH s.aj s.aU s.aq.nV s.aq.cZ s.aq.gy s.aq.bZ s.cr s.Mode s.ai s.lc s.aI s.bx s.dw s.In s.Out s.cq st.aR st.Next st.cX st.ay st.gF st.aA.am (dg s.am st.ah)=_ from E,aD,dW];dsimp only;rw[if_neg (by simp),sh,aD,snd,aD,if_neg (by decide)];have pl:=I.zt;refine bM.eq (jb (cH s st r).S.length (λi x=>∃k,k<=r.length/\(cH s st (r.take k)).S.length=i/\x=((i:Int),(cH s st (r.take k)).st.aR,(cH s st (r.take k)).st.Next,(cH s st (r.take k)).st.cX,(cH s st (r.take k)).st.ai,(cH s st (r.take k)).st.ah,(cH s st (r.take k)).st.ay,(cH s st (r.take k)).st.gF,(cH s st (r.take k)).st.aA.aj,(cH s st (r.take k)).st.aA.am))
   (λi x f W O ad=>?_) (λx f O=>?_) ⟨0,N_ _,rfl,rfl⟩ (by omega))
  ·obtain ⟨k,hk,X,rfl⟩:=O;dsimp only;rcases Ex q h30 r (r.length-k) k (by omega) with g | ⟨m,hm,_,Y,Z,v⟩
   ·grind
   have z:=lX (s:=s) q h30 hm;rw[AX v] at z;have pre:=pre_S q h30 r (r.length-(m+1)) (m+1) (by omega);rw[show m+1+(r.length-(m+1))=r.length by omega,xA] at pre;rw[<-Y] at X;rw[<-Z];obtain ⟨J,nodes,hp⟩:=A m (by omega);obtain ⟨n,hn,F⟩:=yh J q (by omega) (by omega) hp (rm _ (bC hm)) v.1 v.2.1;have el:(cH s st r).S[i]=(ol s (cH s st (r.take m)).q r[m]).1:=by
    obtain ⟨t,et⟩:=pre
    grind
   have P:=Gy CX.S z;have o:=Gy CX.st z;dsimp only at P o;generalize Q:(ol s (cH s st (r.take m)).q r[m]).1=p at *;have af:=F.place.lo;have no:=v.2.2;rw[Q] at no;have cL:p.At=(cH s st (r.take m)).st.aR:=by grind [jJ.qn,jJ.now]
   have ix:TI (cH s st (r.take m)).st.ai r[m].Id=n:=by rw[<-F.cL];exact IP J.sound.bg.bK hn
   have R:tS (cH s st (r.take m)).st r[m] p.ae=gH (cH s st (r.take m)).st n (cH s st (r.take m)).st.ai[n] p.ae:=by unfold tS;rw[ix,F.cL]
   have T:p.aV=(cH s st (r.take m)).st.ai[n].Id:=by rw[F.cL,F.id]
   have G:=Uj J.sound;have d:=may_ref J.sound r[m].Id;rw[v.1] at d;have al:=qT G J.sound;have jl:=J.len;have u:=Vj J.sound hn F.one F.ny (F.fits cL) (F.vm cL) (by omega);have K:=C_ G.bg J.sound.bg.bK hn;have bl:=J.sound.jf.cB.len;rw[<-T] at u K;rw[<-F.id] at d;rw[if_pos (cK W),bV W,aD,el,K,aD,dW,if_neg (by grind)];rw[show zdw 5000 s ({ aR:=(cH s st (r.take m)).st.aR,Next:=(cH s st (r.take m)).st.Next,cX:=(cH s st (r.take m)).st.cX,ai:=(cH s st (r.take m)).st.ai,ah:=(cH s st (r.take m)).st.ah,ay:=(cH s st (r.take m)).st.ay,gF:=(cH s st (r.take m)).st.gF,aA:=({ aj:=(cH s st (r.take m)).st.aA.aj,am:=(cH s st (r.take m)).st.aA.am }:Vy) }:cf) p.aV=some true from d,aD];dsimp only;rw[if_neg (by simp)];have ak:p.ae.length<=300:=by have:=jr F.ny.shares (by omega);have:=J.sound.spec.nodes.hi;omega
   have an:=J.sound.nums.now;have aa:=(J.sound.bg.each _ (bC hn)).ok.wall;refine vk p.ae (λ_ _=>True) (λy g U _ hg=>?_) (λg _=>?_) (by omega)
   ·rw[if_pos (cK U),bV U,aD,bV hn,aD,wr (by omega) (by omega),VY (by omega) (F.vm cL _ (bC U)),aD,if_neg (by simp),bS (show y<1000000 by omega)]
    grind
   ·rw[if_neg (by simp)];rw[show zcL 5000 s ({ aR:=(cH s st (r.take m)).st.aR,Next:=(cH s st (r.take m)).st.Next,cX:=(cH s st (r.take m)).st.cX,ai:=(cH s st (r.take m)).st.ai,ah:=(cH s st (r.take m)).st.ah,ay:=(cH s st (r.take m)).st.ay,gF:=(cH s st (r.take m)).st.gF,aA:=({ aj:=(cH s st (r.take m)).st.aA.aj,am:=(cH s st (r.take m)).st.aA.am }:Vy) }:cf) p.aV p.ae=_ from u,aD,if_neg (by simp),bS (show i<1000000 by omega),<-R,<-o]
    grind
  ·obtain ⟨k,hk,X,rfl⟩:=O;dsimp only;rw[if_neg (by simp),aD];rcases Ex q h30 r (r.length-k) k (by omega) with g | ⟨m,hm,_,Y,Z,v⟩
   ·rw[show k+(r.length-k)=r.length by omega,xA] at g
    grind [Go.Abs.bP,aZ]
   ·exfalso;have z:=lX (s:=s) q h30 hm;rw[AX v] at z;have pre:=pre_S q h30 r (r.length-(m+1)) (m+1) (by omega);rw[show m+1+(r.length-(m+1))=r.length by omega,xA,z] at pre
    grind
 grind [TQ]
end Go.Plain
end
