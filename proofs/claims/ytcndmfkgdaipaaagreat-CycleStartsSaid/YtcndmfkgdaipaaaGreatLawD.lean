/- Lemmas. -/
import Derived.Test.YtcndmfkgdaipaaaGreatLawC
set_option linter.all false
open Go.IntKind (i64 u64)
section
namespace Go.Plain
open Go.Abs
theorem eX{F:List aF}{A:List bW}:(cq F A).length=F.length:=by
 induction A generalizing F with
 |nil=>rfl
 |cons a A ih=>have:=ih (F:=kT F a);rw[zeM] at this;exact this
theorem qi{A:List bW}:∀{F:List aF}{i:Nat}(h:i<F.length)(d:i<(cq F A).length)(c:Nat),cmp c (cq F A)[i]=cmp c F[i]-cG A i c:=by
 induction A with
 |nil=>grind [cq,cG]
 |cons a A ih=>
  intro F i h d c;have hl:i<(kT F a).length:=by grind [zeM]
  have:=ih (F:=kT F a) hl (by grind [eX]) c;rw[np,qw,Co,A_] at this;rw[XR];have e:(cq F (a::A))[i]=(cq (kT F a) A)[i]'(by grind):=rfl
  grind
def others(A:List bW)(id:Int):List bW:=A.filter λb=>decide (b.bj≠id)
def zR(x what:Int):Option Int:=
 if what=1/\x=1 then some 2 else if what=2/\x=2 then some 1 else if what=3/\x=1 then some 3 else if what=4/\x=3 then some 1 else if what=5/\x=3 then some 4 else if what=6/\x=3 then some 4
 else if what=6/\Dy x then some 6 else if what=7/\(x=3\/x=4) then some 5 else if what=8/\x=4 then some 6 else none
def TN(x what:Int):vY 5000 x what=some ((zR x what).getD 0,(zR x what).isSome):=by
 unfold vY zR;simp only[eE,Qo,Pm,aw,bG,lA];by_cases h1:what=1/\x=1
 ·simp_all
 rw[if_neg h1,if_neg h1];by_cases h2:what=2/\x=2
 ·simp_all
 rw[if_neg h2,if_neg h2];by_cases h3:what=3/\x=1
 ·simp_all
 rw[if_neg h3,if_neg h3]
 grind
def HasS(x:Int):Prop:=x=3\/x=4
instance (x:Int):Decidable (HasS x):=by unfold HasS;infer_instance
def mF(x:Int):Prop:=x=5\/x=6
instance (x:Int):Decidable (mF x):=by unfold mF;infer_instance
theorem Vl(x:Int):VY 5000 x=some (decide (mF x)):=by unfold VY;congr 1;rw[Bool.eq_iff_iff];rw[bz];simp only[gE,lA,mF]
def iF(j:aJ)(what now:Int)(ok:Bool)(ns:Int):aJ:=
  { j with
    State:=ns
    aK:=j.aK+1
    Ok:=if what=5 then ok else if what=6\/what=8\/what=7/\j.State=3 then false else j.Ok
    cH:=if what=6 then true else if what=7 then false else j.cH
    Start:=if what=3 then now else if what=4 then 0 else j.Start
    End:=if mF ns then now else j.End }
def QK{j:aJ}(h:dh j){what now:Int}(hn:0<=now/\now<=1099511627776)(ok:Bool){ns:Int}(hs:zR j.State what=some ns)(z:j.aK<281474976710656):dh (iF j what now ok ns):=by
 have p:=h.version;have r:=h.start;have t:=h.fin;have u:=h.state.start;have v:=h.state.fin;have w:=h.state.ok;have y:=h.state.kill;have g:(what=1/\j.State=1/\ns=2)\/(what=2/\j.State=2/\ns=1)\/(what=3/\j.State=1/\ns=3)\/(what=4/\j.State=3/\ns=1)\/(what=5/\j.State=3/\ns=4)\/(what=6/\j.State=3/\ns=4)\/(what=6/\Dy j.State/\ns=6)\/(what=7/\(j.State=3\/j.State=4)/\ns=5)\/(what=8/\j.State=4/\ns=6):=by
  unfold zR at hs;split at hs
  ·simp_all
  split at hs
  ·simp_all
  split at hs
  ·simp_all
  split at hs
  ·simp_all
  split at hs
  ·simp_all
  split at hs
  ·simp_all
  grind
 have f:j.State<4->j.Ok=false:=λi=>by grind
 have d:j.State<4->j.cH=false:=λi=>by grind
 have o:Dy j.State->j.State<3:=λhw=>by rcases hw with e | e <;> omega
 refine ⟨h.id,h.user,h.queue,h.many,h.need,h.rZ,h.wall,h.kI,h.after,by grind [iF],h.born,?_,?_,h.arr,?_⟩
 ·simp only[iF];omega
 ·simp only[iF];omega
 ·have st0:j.State<3->j.Start=0:=λi=>yCr λq=>by omega
  have a:j.State<5->j.End=0:=λi=>yCr λq=>by omega
  rcases g with ⟨rfl,e,rfl⟩ | ⟨rfl,e,rfl⟩ | ⟨rfl,e,rfl⟩ | ⟨rfl,e,rfl⟩ | ⟨rfl,e,rfl⟩ | ⟨rfl,e,rfl⟩ | ⟨rfl,e,rfl⟩ | ⟨rfl,e,rfl⟩ | ⟨rfl,e,rfl⟩
  ·constructor <;> simp[iF,mF,f (by omega),d (by omega),st0 (by omega),a (by omega)]
  ·constructor <;> simp[iF,mF,f (by omega),d (by omega),st0 (by omega),a (by omega)]
  ·constructor <;> simp[iF,mF,f (by omega),d (by omega),st0 (by omega),a (by omega)]
  ·constructor <;> simp[iF,mF,f (by omega),d (by omega),a (by omega)]
  ·constructor <;> simp[iF,mF,d (by omega),a (by omega)]
  ·constructor <;> simp[iF,mF,a (by omega)]
  ·have:=o e;constructor <;> simp[iF,mF,f (by omega),d (by omega),st0 (by omega),a (by omega)]
  ·constructor <;> simp[iF,mF]
  ·constructor <;> simp[iF,mF]
theorem WW{j:aJ}(h:dh j){what now:Int}(hn:0<=now/\now<=1099511627776)(ok:Bool) :
  bQ (zD 5000 j what now ok) λr=>(r.2≠0/\(zR j.State what=none\/j.aK=281474976710656))\/∃ns,zR j.State what=some ns/\j.aK<281474976710656/\r=(iF j what now ok ns,0):=by
 have d:=h.version;have i:=h.kI;unfold zD;dsimp only[eE];rw[uz h,aw,if_neg (by simp)];simp only[Ou,aw];rw[if_neg (by simp_all),TN,aw];cases hs:zR j.State what with
 |none=>rw[if_pos (by simp),aY];simp_all
 |some ns=>
  dsimp only[Option.isSome,Option.getD];rw[if_neg (by simp),bq];refine ⟨λe=>by grind [aY],λe=>?_⟩;simp only[lA] at e;rw[show zax 5000 j.aE=some j.aE from Eh (by omega),aw,wr (x:=j.aK+1) (by omega) (by omega)];simp only[Vl,aw,lA,HU,ne_eq,hZ,bz];have fin:∀(o k:Bool)(t:Int),o=(if what=5 then ok else if what=6\/what=8\/what=7/\j.State=3 then false else j.Ok)->k=(if what=6 then true else if what=7 then false else j.cH)->t=(if what=3 then now else if what=4 then 0 else j.Start) ->
    bQ (if mF ns then some (({ Id:=j.Id,bL:=j.bL,Queue:=j.Queue,aL:=j.aL,ay:=j.ay,aR:=j.aR,aE:=j.aE,State:=ns,Ok:=o,cH:=k,aK:=j.aK+1,cA:=j.cA,Start:=t,End:=now,Array:=j.Array }:aJ),(0:Int)) else some (({ Id:=j.Id,bL:=j.bL,Queue:=j.Queue,aL:=j.aL,ay:=j.ay,aR:=j.aR,aE:=j.aE,State:=ns,Ok:=o,cH:=k,aK:=j.aK+1,cA:=j.cA,Start:=t,End:=j.End,Array:=j.Array }:aJ),(0:Int)))
     λr=>(r.2≠0/\((some ns:Option Int)=none\/j.aK=281474976710656))\/∃a,(some ns:Option Int)=some a/\j.aK<281474976710656/\r=(iF j what now ok a,0):=λo k t f hk g=>by
   subst f hk g;rw[bq];refine ⟨λq=>?_,λq=>?_⟩ <;> rw[aY] <;> refine .inr ⟨ns,rfl,by omega,?_⟩ <;> simp only[iF,q,if_true,cw]
  grind
structure AS (st:bZ) (F:List aF):Prop where
 NR:Ah F.length st.ai
 xR:F.length<=300
 Yx:∀r∈F,aN r
 nodes:0<=st.az.am
 now:0<=st.aO/\st.aO<=1099511627776
def good_of{s:aX}{st:bZ}(q:aS s st):Ah s.am.length st.ai:=λa d=>by obtain ⟨j,hj,P⟩:=q.cr.mem a d;exact ⟨P.kM.shares,by rw[P.need];exact (q.bm.each j hj).ok.need⟩
def Lh{s:aX}{st:bZ}(q:aS s st):∀r∈cq s.am st.ai,aN r:=λr a=>by
 obtain ⟨i,hi,rfl⟩:=iM a;have hn:i<s.am.length:=by grind [eX]
 refine v_.2 λc=>?_;rw[qi hn hi c];have h1:=(od q.cr q.spec.nodes.ok).2 i hn c;have h2:=vQ (good_of q) i c;have h3:=v_.1 (q.spec.nodes.ok _ (bA hn)) c;omega
variable{s:aX}{st st':bZ}
def gq.up{j:aJ}(h:gq s st j)(o:st.Next<=st'.Next)(i:st'.aO=st.aO):gq s st' j:=
 ⟨h.ok,by have:=h.next;omega,h.user,h.queue,by rw[i];exact h.born,by rw[i];exact h.start,by rw[i];exact h.fin,h.version⟩
def fj.up{j:aJ}{a:bW}(h:fj s st j a)(e:st'.aO=st.aO):fj s st' j a:=⟨h.Fx,h.need,h.kM,by rw[e];exact h.now⟩
def mem_set{l:List aJ}{k:Nat}{j x:aJ}(h:x∈l.set k j):x=j\/x∈l:=by grind
def idsC{l:List aJ}{k:Nat}(hk:k<l.length){j:aJ}(e:j.Id=l[k].Id){d:Int}(h:∃i∈l,i.Id=d):∃i∈l.set k j,i.Id=d:=by grind [List.mem_iff_getElem]
def Of{l:List aJ}(hs:bU l){k:Nat}(hk:k<l.length){j x:aJ}(h:x∈l.set k j):x=j\/x∈l/\x.Id≠l[k].Id:=by
 obtain ⟨m,hm,rfl⟩:=iM h;rw[WD] at hm;by_cases c:k=m
 ·simp_all
 ·rw[yBO c];exact .inr ⟨bA _,λe=>c (hs.inj hm hk e).symm⟩
structure YF (s:aX) (st:bZ) (o j:aJ):Prop where
 id:j.Id=o.Id
 OC:gq s st j
 fits:j.State<5->zeP 5000 s j.Queue j.aL j.ay=some true
 after:j.aE=o.aE
 live:j.State<5->o.State<5
def YF.waits{k:Nat}(hk:k<st.ah.length){j:aJ}(r:YF s st st.ah[k] j)(q:aS s st)(e:st'.ah=st.ah.set k j):∀x∈st'.ah,Hg s st' x:=by
 intro x o hs;rw[e] at o;have up:∀d,(∃i∈st.ah,i.Id=d)->∃i∈st'.ah,i.Id=d:=λd h=>by rw[e];exact idsC hk r.id h
 rcases mem_set o with rfl | o
 ·refine ⟨r.fits hs,λd u=>up _ ?_⟩;rw[r.after] at u;exact (q.waits _ (bA hk) (r.live hs)).after d u
 ·have:=q.waits x o hs;exact ⟨this.fits,λd u=>up _ (this.after d u)⟩
theorem YF.bm{k:Nat}(hk:k<st.ah.length){j:aJ}(r:YF s st st.ah[k] j)(q:aS s st)(e:st'.ah=st.ah.set k j)(u:st'.Next=st.Next)(o:st'.aO=st.aO):dz s st':=by
 refine ⟨by rw[e,WD];exact q.bm.len,λx i=>?_,by rw[e];exact OU q.bm.bH hk r.id⟩;rw[e] at i;rcases mem_set i with rfl | i
 ·exact r.OC.up (by omega) o
 ·exact (q.bm.each x i).up (by omega) o
def asc_at{A:List bW}(h:Ai A):∀i (hi:i<A.length),∀m (h:m<A.length),m+1=i->A[m].bj<A[i].bj:=λi hi m hm e=>by
 have:=yBg.1 h m i (by simp_all) (by simp_all) (by omega)
 simp_all
end Go.Plain
end
section
namespace Go.Plain
open Go.Abs
theorem Lm{α:Type}{L:List (Int×α)}(hn:(L.map Prod.fst).Nodup){k:Int}{a:α}(h:(k,a)∈L):dm L k=some a:=by
 induction L with
 |nil=>cases h
 |cons p L ih=>
  obtain ⟨d,e⟩:=p;rw[rS,List.nodup_cons] at hn;simp only[dm]
  grind
theorem Ij{α:Type}{L:List (Int×α)}{k:Int}{a:α}(h:dm L k=some a):(k,a)∈L:=by
 induction L with
 |nil=>simp[dm] at h
 |cons p L ih=>grind [Go.Abs.dm]
theorem GU{α:Type}{L M:List (Int×α)}(h:L.Perm M)(hn:(M.map Prod.fst).Nodup)(k:Int):dm L k=dm M k:=by
 have d:(L.map Prod.fst).Nodup:=((h.map Prod.fst).nodup_iff).2 hn;cases hl:dm L k with
 |some a=>grind [Lm,Ij]
 |none=>
  cases hm:dm M k with
  |none=>rfl
  |some a=>grind [Lm,Ij]
def Wx{L:List (Int×bW)}{A:List bW}(h:L.Perm (mapA A))(a:Ai A):aZ 5000 L=aZ 5000 (mapA A):=by
 have d:((mapA A).map Prod.fst).Nodup:=by
  have e:(mapA A).map Prod.fst=A.map (·.bj):=by simp[mapA]
  rw[e];exact a.imp λh=>by omega
 have f:zZ (λk=>k) L=zZ (λk=>k) (mapA A):=by
  unfold zZ;have c:(L.length<=1000000/\(L.map Prod.fst).Nodup/\∀p∈L,(Lit.int .i64 p.1).wf=true)↔((mapA A).length<=1000000/\((mapA A).map Prod.fst).Nodup/\∀p∈mapA A,(Lit.int .i64 p.1).wf=true):=by grind [List.Perm.length_eq]
  by_cases g:(L.length<=1000000/\(L.map Prod.fst).Nodup/\∀p∈L,(Lit.int .i64 p.1).wf=true)
  ·rw[if_pos g,if_pos (c.1 g)]
   grind [Go.mergeSort_of_perm_i]
  grind
 grind [Go.Abs.aZ,GU]
section
variable{s:aX}{st:bZ}(q:aS s st){L:List (Int×bW)}(hL:L.Perm (mapA st.ai))
include q hL
theorem qG:Tg 5000 st.az.aq st.ah L st.aO st.Next st.dr st.aA st.eJ st.az.am=some st:=by have hw:=RL q;have:=LY (En hw q);unfold Tg at this ⊢;rw[Wx hL (AZ q)];exact this
omit hL in
theorem Vk{a b:aJ}(d:a∈st.ah)(hb:b∈st.ah)(h:a.Id=b.Id):a=b:=by
 obtain ⟨i,hi,rfl⟩:=iM d;obtain ⟨j,hj,rfl⟩:=iM hb;have:=q.bm.bH.inj hi hj h
 simp_all
theorem readyV(h30:st.ah.length<=30):∃r,SC 5000 st.az.aq st.ah L s.am s.aG s.aq s.aP s.ae.fM s.ae.cu s.ae.dL s.ae.br s.bN s.Mode s.ah s.iN s.aI s.bg s.cV s.In s.Out s.bO st.aO st.Next st.dr st.aA st.eJ st.az.am=some r/\r.Perm (st.ah.filter (iP st.ah)):=by have hw:=RL q;have hl:=hw.bm;have d:∀j∈st.ah.filter (iP st.ah),dh j:=λj hj=>(q.bm.each j (Gp.1 hj).1).ok;have a:(st.ah.filter (iP st.ah)).length<=30:=jk (yBF _ _) h30;obtain ⟨r,e,hp⟩:=UF hw.spec q.spec { aO:=st.aO,eJ:=st.eJ } d (by omega);refine ⟨r,?_,hp⟩;unfold SC;rw[qG q hL,aw,Iy hl q.bm.bH hw.after,aw,JE _ _ (by grind),zO,jt hw.spec,aw,e];rfl
end
def sd(s:aX)(l:List aJ)(id:Int):Bool:=match l.find? λj=>j.Id == id with
 |some j=>iP l j&&(eV 5000 s l j).getD false
 |none=>false
theorem Sy{l:List aJ}(hs:bU l){i:Nat}(hi:i<l.length):(l.find? λj=>j.Id == l[i].Id)=some l[i]:=by
 cases h:l.find? (λj=>j.Id == l[i].Id) with
 |none=>
  have:=List.find?_eq_none.1 h _ (bA hi)
  simp_all
 |some j=>
  have h1:=List.find?_some h;simp only[lA] at h1;obtain ⟨k,hk,rfl⟩:=iM (yBB h);have:=hs.inj hk hi h1
  simp_all
def mayB_at{s:aX}{l:List aJ}(hs:bU l){i:Nat}(hi:i<l.length):sd s l l[i].Id=(iP l l[i]&&(eV 5000 s l l[i]).getD false):=by grind [sd,Sy]
theorem UY{s:aX}{l:List aJ}{id:Int}(h:sd s l id=true):∃i,∃hi:i<l.length,l[i].Id=id/\iP l l[i]=true/\l[i].State=1:=by
 unfold sd at h;cases e:l.find? (λj=>j.Id == id) with
 |none=>simp_all
 |some j=>
  rw[e] at h;simp only[bG] at h;have h1:=List.find?_some e;simp only[lA] at h1;obtain ⟨i,hi,rfl⟩:=iM (yBB e);refine ⟨i,hi,h1,h.1,?_⟩;have:=h.1;unfold iP at this
  simp_all
theorem Ze(s:aX)(l:List aJ){K:aJ->Option Bool}(id:Int):∀r:List aJ,lpR (λ(d:aJ) (e:Unit) f=>if (d.Id == id)=true then K d else f ()) (λ(e:Unit)=>some false) r ()=match r.find? λj=>j.Id == id with
  |some j=>K j
  |none=>some false
 |[]=>rfl
 |a :: r => by
  unfold lpR;rw[List.find?_cons];cases h:(a.Id == id) with
  |true=>simp_all
  |false=>rw[if_neg (by simp)];exact Ze s l id r
theorem mayV{s:aX}{st:bZ}(q:aS s st){L:List (Int×bW)}(hL:L.Perm (mapA st.ai))(id:Int) :
  zef 5000 st.az.aq st.ah L id s.am s.aG s.aq s.aP s.ae.fM s.ae.cu s.ae.dL s.ae.br s.bN s.Mode s.ah s.iN s.aI s.bg s.cV s.In s.Out s.bO st.aO st.Next st.dr st.aA st.eJ st.az.am=some (sd s st.ah id):=by
 have hw:=RL q;have hl:=hw.bm;unfold zef;rw[qG q hL,aw,Iy hl q.bm.bH hw.after,aw];refine (Ze s st.ah (K:=λa=>(zaN 5000 s.am s.aG s.aq s.aP s.ae.fM s.ae.cu s.ae.dL s.ae.br s.bN s.Mode s.ah s.iN s.aI s.bg s.cV s.In s.Out s.bO).bind λd=>(eV 5000 d st.ah a).bind λf=>some f) id _).trans ?_;have g:∀j∈st.ah,j.Id=id->∀x∈st.ah,x.Id=id->x=j:=λj hj e x h i=>Vk q h hj (i.trans e.symm);unfold sd;cases e:st.ah.find? (λj=>j.Id == id) with
 |none=>grind
 |some j=>
  have h1:=List.find?_some e;simp only[lA] at h1;have hj:=yBB e;obtain ⟨b,o⟩:=Gb hw.spec q.spec hl j;by_cases r:iP st.ah j=true
  ·have:(st.ah.filter (iP st.ah)).find? (λj=>j.Id == id)=some j:=by
    cases p:(st.ah.filter (iP st.ah)).find? (λj=>j.Id == id) with
    |none=>simp_all
    |some x=>grind
   grind [jt,kF.spec]
  grind
section
variable{l:List aJ}
def set_ok(hl:l.length<=300)(hs:bU l){k:Nat}(hk:k<l.length){j:aJ}(hj:dh j)(a:j.Id=l[k].Id):zcX 5000 l j=some (l.set k j,0):=by have:=hj.kI;unfold zcX;rw[uz hj,aw,if_neg (by simp),a,Hz hl hs hk,aw];dsimp only;rw[if_neg (by simp),Dk (by omega),aw,bY hk,aw,yCo]
def Pd(hl:l.length<=300)(hs:bU l){k:Nat}(hk:k<l.length){j:aJ}(hj:dh j)(d:j.Id=l[k].Id){Q:List Int}(a:p_ Q) :
  zb5 5000 Q l l[k] j=some (l.set k j,ou Q l[k].Queue j.Queue,0):=by
 unfold zb5;rw[set_ok hl hs hk hj d,aw];dsimp only;rw[if_neg (by simp),MM a,aw];dsimp only[eE];unfold ou;by_cases h:j.Queue=l[k].Queue
 ·simp_all
 ·rw[if_pos (by simp_all),if_neg h,MM (GI a _),aw]
end
def wu(A:List bW)(a:bW):List bW:=match A with
 |[]=>[a]
 |b::A=>if b.bj<a.bj then b::wu A a else a::b::A
theorem jc(A:List bW)(a:bW):(wu A a).Perm (a::A):=by
 induction A with
 |nil=>exact yC4 _
 |cons b A ih=>grind [wu]
def kc{A:List bW}{a x:bW}:x∈wu A a↔x=a\/x∈A:=by rw[(jc A a).mem_iff,gy]
theorem Yf{A:List bW}{a:bW}(h:Ai A)(hn:∀b∈A,b.bj≠a.bj):Ai (wu A a):=by
 induction A with
 |nil=>simp[wu,Ai]
 |cons b A ih=>
  unfold Ai at h ih ⊢;rw[rS,yBy] at h;unfold wu;split
  ·rename_i g;rw[rS,yBy];refine ⟨λx e=>?_,ih h.2 λc d=>hn c (o_ _ d)⟩;obtain ⟨c,d,rfl⟩:=iX.1 e;rcases kc.1 d with rfl | d
   ·exact g
   simp_all
  grind [List.pairwise_cons]
theorem re{A B:List bW}(h:A.Perm B)(i:Int)(c:Nat):cG A i c=cG B i c:=by
 induction h with
 |nil=>rfl
 |cons x _ ih=>grind [XR]
 |swap x y l=>simp only[XR];omega
 |trans _ _ h1 h2=>omega
theorem msetV{α:Type}{L:List (Int×α)}{k:Int}{a:α}(h:dm L k=none):kA L k a=L++[(k,a)]:=by
 induction L with
 |nil=>rfl
 |cons p L ih=>
  obtain ⟨d,f⟩:=p;simp only[dm] at h;split at h
  ·simp at h
  ·rename_i e;simp only[kA,if_neg e,ih h,JC]
def oM(j:aJ)(now:Int):aJ:=iF j 3 now false 3
def dO(j:aJ)(sh:List dk):bW:={ bj:=j.Id,ay:=j.ay,aj:=sh }
def gU(st:bZ)(k:Nat)(j:aJ)(sh:List dk):bZ:=
 { st with ah:=st.ah.set k (oM j st.aO),ai:=wu st.ai (dO j sh),az:={ aq:=ou st.az.aq j.Queue j.Queue,am:=QW st.az.am } }
section
variable{s:aX}{st:bZ}(q:aS s st){k:Nat}(hk:k<st.ah.length)(h1:st.ah[k].State=1){sh:List dk}(hs:jz s st.ah[k] sh)(hf:uJ (cq s.am st.ai) (dO st.ah[k] sh))
include q hk h1
theorem N_:∀a∈st.ai,a.bj≠st.ah[k].Id:=λa d e=>by
 obtain ⟨R,H⟩:=KF q.spec q.bm q.cr;have:=(H _ (bA hk)).has.1 ⟨a,d,e⟩
 grind [tj]
theorem Rx:st.ah[k].aK<281474976710656:=by have j:=q.bm.each _ (bA hk);have:=j.version;have:=Fk st.ah[k].State;have:=q.spec.ub;omega
theorem Ca:dh (oM st.ah[k] st.aO):=by have j:=q.bm.each _ (bA hk);exact QK j.ok q.nums.now false (ns:=3) (by rw[h1];rfl) (Rx q hk h1)
include hs hf
theorem Qn:cq s.am (gU st k st.ah[k] sh).ai=kT (cq s.am st.ai) (dO st.ah[k] sh):=by
 show cq s.am (wu st.ai (dO st.ah[k] sh))=_;refine yCc (by grind [eX,zeM]) λi h1 h2=>Oy λc=>?_;have hn:i<s.am.length:=by grind [eX]
 rw[qi hn h1 c,np h2,qw,Co,A_,qi hn (by grind [eX]) c,re (jc ..),XR];omega
theorem WS{L:List (Int×bW)}(hL:L.Perm (mapA st.ai)):∃r,zaP 5000 st.az.aq st.ah L st.ah[k].Id sh s.am s.aG s.aq s.aP s.ae.fM s.ae.cu s.ae.dL s.ae.br s.bN s.Mode s.ah s.iN s.aI s.bg s.cV s.In s.Out s.bO st.aO st.az.am (cq s.am st.ai) =
   some (r,(gU st k st.ah[k] sh).az.aq,(gU st k st.ah[k] sh).ah,0,cq s.am (gU st k st.ah[k] sh).ai,(gU st k st.ah[k] sh).az.am)/\r.Perm (mapA (gU st k st.ah[k] sh).ai):=by
 have hw:=RL q;have hl:=hw.bm;have v:=q.bm.each _ (bA hk);have f:=v.ok;have T:=f.kI;have sl:sh.length<=300:=by have:=ru hs.shares (by omega);have:=q.spec.nodes.hi;omega
 have i:=AZ q;have none:dm L st.ah[k].Id=none:=by
  rw[GU hL (by
   have e:(mapA st.ai).map Prod.fst=st.ai.map (·.bj):=by simp[mapA]
   rw[e];exact i.imp λh=>by omega)]
  grind [Hl,N_]
 obtain ⟨U,w,y⟩:=Mu hw.spec q.spec st.ah[k] sh sl;have:=y.2 hs;subst this;obtain ⟨A,E,G⟩:=WW f (what:=3) q.nums.now false;have K:zR st.ah[k].State 3=some 3:=by rw[h1];rfl
 have o:A=(oM st.ah[k] st.aO,0):=by
  rcases G with ⟨_,g | g⟩ | ⟨W,d,_,p⟩
  ·simp_all
  ·have:=Rx q hk h1;omega
  ·rw[K] at d;injection d with d
   subst d;exact p
 subst o;have N:=Lh q;obtain ⟨u,O,d,p⟩:=Jt (M:=L) (a:=dO st.ah[k] sh) (F:=cq s.am st.ai) (by rw[eX];have:=q.spec.nodes.hi;omega) sl N;have P:ut L (cq s.am st.ai) (dO st.ah[k] sh):=by
  refine ⟨f.id,λe=>?_,by rw[eX];exact hs.shares,f.need,none,hf⟩;have Q:sh=[]:=e;have t:=hs.Us;rw[Q] at t;have:=f.many
  grind [ky]
 have z:=d.2 P;obtain ⟨m1,R⟩:=p z;refine ⟨u.1,?_,?_⟩
 ·unfold zaP;rw[get_some hl q.bm.bH hk (by omega),aw];dsimp only;rw[if_neg (by simp),if_neg (by simp[h1])];rw[show gj 5000 ({ am:=s.am,aG:=s.aG,aq:=s.aq,aP:=s.aP,ae:=({ fM:=s.ae.fM,cu:=s.ae.cu,dL:=s.ae.dL,br:=s.ae.br }:PJ),bN:=s.bN,Mode:=s.Mode,ah:=s.ah,iN:=s.iN,aI:=s.aI,bg:=s.bg,cV:=s.cV,In:=s.In,Out:=s.Out,bO:=s.bO }:aX) st.ah[k] sh=some true from w,yA,if_neg (by simp),E,yA,if_neg (by simp)];rw[show zaV 5000 L ({ bj:=st.ah[k].Id,ay:=st.ah[k].ay,aj:=sh }:bW) (cq s.am st.ai)=some u from O,yA,if_neg (by simp[z]),KU q.use.nodes.1,yA,Pd hl q.bm.bH hk (Ca q hk h1) rfl q.use.stamps,yA];rw[Qn q hk h1 hs hf,R.eq];rfl
 ·rw[m1];show (kA L st.ah[k].Id (dO st.ah[k] sh)).Perm _;rw[msetV none];show (L++[(st.ah[k].Id,dO st.ah[k] sh)]).Perm (mapA (wu st.ai (dO st.ah[k] sh)));refine List.Perm.trans ?_ ((jc st.ai (dO st.ah[k] sh)).map _).symm;exact (yBS.trans (List.Perm.cons _ hL))
theorem Mt(hcl:∀x∈sh,∀b∈st.aA,b.Node=x.Node->¬b.bT<st.aO+st.ah[k].aR):aS s (gU st k st.ah[k] sh):=by
 obtain ⟨R,H⟩:=KF q.spec q.bm q.cr;have g:=q.bm.each _ (bA hk);have w:=Ca q hk h1;have p:=AZ q;have t:=N_ q hk h1;have NR:=R.NR;have ver:=g.version;rw[h1] at ver;have r:YF s st st.ah[k] (oM st.ah[k] st.aO):=by refine ⟨rfl,⟨w,g.next,g.user,g.queue,g.born,MG _,g.fin,?_⟩,λ_=>(q.waits _ (bA hk) (by omega)).fits,rfl,λ_=>by omega⟩;show st.ah[k].aK+1<=s.aI+jv 3;have:jv 1=0:=rfl;have:jv 3=1:=rfl;omega
 have J:=r.bm (st':=gU st k st.ah[k] sh) hk q rfl rfl rfl;have o:Ai (wu st.ai (dO st.ah[k] sh)):=Yf p t;have u:=g.ok.wall;have v:∀(i:Nat)(hi:i<s.am.length) c,cG (dO st.ah[k] sh::st.ai) i c<=cmp c s.am[i]:=λi hi c=>by
  have hl:i<(cq s.am st.ai).length:=by grind [eX]
  have:=v_.1 (hf i hl) c;rw[qw,Co,A_,qi hi hl c] at this
  grind [XR]
 refine ⟨q.spec,⟨q.nums.now,q.nums.next,q.nums.book⟩,J,r.waits hk q rfl,Xd q.spec J ⟨λi hi=>?_,λi hi c=>?_⟩ λx f=>?_,⟨q.iy.cF,q.iy.live,λa d=>?_⟩,⟨q.use.len,q.use.use,by show (ou _ _ _).length=_;rw[LB];exact q.use.qlen,Ta q.use.nodes,PT q.use.stamps _ _⟩⟩
 ·have hm:∀a∈wu st.ai (dO st.ah[k] sh),(∃j∈(gU st k st.ah[k] sh).ah,j.Id=a.bj)/\bo a.aj s.am.length/\aN a.ay:=λa d=>by
   rcases kc.1 d with rfl | d
   ·exact ⟨⟨oM st.ah[k] st.aO,OA.2 ⟨k,by show k<(st.ah.set k _).length;simp_all,yBE _⟩,rfl⟩,hs.shares,g.ok.need⟩
   ·obtain ⟨x,f,P⟩:=q.cr.mem _ d;exact ⟨idsC hk r.id ⟨x,f,P.Fx.symm⟩,NR _ d⟩
  obtain ⟨m1,y,z⟩:=hm _ (bA hi);exact ⟨asc_at o i hi,m1,y,z⟩
 ·show cG (wu st.ai (dO st.ah[k] sh)) i c<=_
  grind [re,jc]
 ·rcases Of q.bm.bH hk f with rfl | ⟨f,c⟩
  ·refine ⟨⟨λ_=>rfl,λ_=>⟨_,kc.2 (.inl rfl),rfl⟩⟩,λa d e=>?_⟩;rcases kc.1 d with rfl | d
   ·exact ⟨rfl,rfl,⟨hs.shares,hs.Us,hs.q,hs.part⟩,by show st.aO<st.aO+st.ah[k].aR;omega⟩
   ·exact absurd e (t a d)
  ·have h:=H x f;refine ⟨⟨λ⟨a,d,e⟩=>?_,λA=>?_⟩,λa d e=>?_⟩
   ·rcases kc.1 d with rfl | d
    ·exact absurd e.symm c
    ·exact h.has.1 ⟨a,d,e⟩
   ·obtain ⟨a,d,e⟩:=h.has.2 A;exact ⟨a,kc.2 (.inr d),e⟩
   ·rcases kc.1 d with rfl | d
    ·exact absurd e.symm c
    ·exact (h.ZV a d e).up rfl
 ·intro x f e;rcases kc.1 d with rfl | d
  ·rcases Of q.bm.bH hk f with rfl | ⟨f,c⟩
   ·exact hcl
   ·exact absurd e c
  ·rcases mem_set f with rfl | f
   ·exact absurd (show a.bj=st.ah[k].Id from e.symm) (t a d)
   ·exact q.iy.zk a d x f e
end
def AR(q:jS)(w:CJ):iO×Bool:=(za7 5000 q w).getD ({ bj:=0,At:=0,aj:=[] },false)
section
variable{nodes:List (List bS)}{q:jS}{L:Nat}(hL:L<=200)(hq:qd q)(hp:PR nodes q L)
include hL hq hp
theorem IW{w:CJ}(hw:fX q w):zaL 5000 nodes w.Part w.aL w.ay w.aR q.aO q.S.aG=some (AR q w)/\za7 5000 q w=some (AR q w)/\∃T,Dj q T/\vC q w T (AR q w):=by grind [YN,AR]
structure AJ (q:jS) (w:CJ) (cN:Int) (sh:List dk):Prop where
 lo:q.aO<=cN
 hi:cN<=1099511627776
 shares:bo sh q.S.am.length
 Us:ky sh=w.aL
 part:∀y∈sh,y.Node∈cz q w
 fit:∀(k:Nat)(h:k<q.S.am.length)(t:Int),cN<=t->t<cN+w.aR->xK (mulR (dM sh k) w.ay) (bC q k t)
theorem XM{w:CJ}(hw:fX q w){t:Int}(h:q.aO<=t)(d:(cE q w t).2=true):AJ q w t (cE q w t).1:=by
 have i:=YC hL hq hp hw d;obtain ⟨F,o,f,_,e⟩:=AG (by omega) hq hp hw h i;have w1:cE q w t=BW F (cz q w) w.aL w.ay:=by grind [cE]
 have K:=hq.spec.parts.ok _ (km hw).2;rw[w1] at d ⊢;obtain ⟨p1,p,r,v⟩:=UZ f (by grind [GP.len]) hw.need hw.rZ d;rw[o.len] at p1;refine ⟨h,i,p1,p,r,λk hk u z A=>?_⟩;have a:k<F.length:=by grind [GP.len]
 have E:aN (bC q k u):=hp.right k u (by omega) (by omega) (by omega);refine mulR_le (yi (λy G=>by have:=p1.mem y G;omega) _) hw.need ?_ E;rcases v k a with g | g
 ·left;intro c;have h1:=(o.low k a).le u _ z A rfl c;have h2:=g c;omega
 omega
theorem Az{w:CJ}(hw:fX q w)(h:(AR q w).2=true):AJ q w (AR q w).1.At (AR q w).1.aj:=by obtain ⟨_,_,T,a,d⟩:=IW hL hq hp hw;obtain ⟨e,f,_,_,g⟩:=d.yes h;rw[g];exact XM hL hq hp hw ((a.mem _).1 e).1 f
end
def i_(j:aJ)(p:iO):EG:={ bT:=p.At,To:=p.At+j.aR,ay:=j.ay,aj:=p.aj }
def NL{q:jS}{w:CJ}{j:aJ}{p:iO}(h:AJ q w p.At p.aj)(hj:dh j)(hq:qd q):rF (i_ j p) q.S.am.length:=by
 have n:=hq.now;have a:=hj.wall;have d:=h.lo;have hi:=h.hi;have nn:=hq.spec.nodes.hi;refine ⟨h.shares,?_,hj.need,?_,?_⟩
 ·have:=ru h.shares (by omega);show p.aj.length<=300;omega
 ·show 0<=p.At;omega
 ·show p.At+j.aR<=_;omega
def Nu{q:jS}{u:EG}(hq:qd q)(d:rF u q.S.am.length)(hl:q.L.length+1≤100):qd (qf q u):=
 ⟨hq.spec,hq.now,hq.cF,fun v a=>by
  rcases kL.1 a with a | a
  ·exact hq.used v a
  ·rw [zV.1 a]; exact d,by show (q.L++[u]).length≤100; simp_all⟩
section
variable{nodes:List (List bS)}{q:jS}{L:Nat}(hL:L<=200)(hq:qd q)(hp:PR nodes q L){st:bZ}{j:aJ}(hj:gq q.S st j)
include hL hq hp hj
theorem NX{r:iO×Bool}(h:r.2=true):(named j r).1={ bj:=j.Id,At:=r.1.At,aj:=r.1.aj }/\(named j r).2=true:=by unfold named;simp_all
theorem qK:YV 5000 nodes j q.S.am q.S.aG q.S.aq q.S.aP q.S.ae.fM q.S.ae.cu q.S.ae.dL q.S.ae.br q.S.bN q.S.Mode q.S.ah q.S.iN q.S.aI q.S.bg q.S.cV q.S.In q.S.Out q.S.bO q.aO q.S.aG=some (named j (AR q (bX q.S j))):=by
 have hw:=qu hq.spec rfl hj;obtain ⟨a,_,_⟩:=IW hL hq hp hw;obtain ⟨h,e,d⟩:=qp ⟨hj.ok.queue.1,hj.queue⟩;have f:=hj.queue;have g:=hj.ok.queue.1;rw[d] at a ⊢;unfold YV;rw[jt (kl hq.spec),aw,if_neg (by simp_all),e,aw];dsimp only at a ⊢;rw[a,aw];unfold named
 grind
end
structure CX where
 st:bZ
 q:jS
 P:List iO
 S:List iO
def QE(l:List aJ)(id:Int):Nat:=l.findIdx λj=>j.Id == id
def oS(st:bZ)(j:aJ)(sh:List dk):bZ:=gU st (QE st.ah j.Id) j sh
def dy(s:aX)(q:jS)(j:aJ):iO×Bool:=named j (AR q (bX s j))
def rT(s:aX)(x:CX)(j:aJ):CX:=
 if sd s x.st.ah j.Id=true then
  if (dy s x.q j).2=true then
   if (dy s x.q j).1.At > x.q.aO then { st:=x.st,q:=qf x.q (i_ j (dy s x.q j).1),P:=x.P++[(dy s x.q j).1],S:=x.S }
   else { st:=oS x.st j (dy s x.q j).1.aj,q:=qf x.q (i_ j (dy s x.q j).1),P:=x.P,S:=x.S++[(dy s x.q j).1] }
  else x
 else x
def Dc{l:List aJ}(hs:bU l){i:Nat}(hi:i<l.length):QE l l[i].Id=i:=by unfold QE;have h:l.findIdx (λj=>j.Id == l[i].Id)<l.length:=List.findIdx_lt_length.2 ⟨l[i],bA hi,by simp⟩;have:=List.findIdx_getElem (w:=h);simp only[lA] at this;exact hs.inj h hi this
structure gC (s:aX) (st0:bZ) (x:CX) (n:Nat):Prop where
 sound:aS s x.st
 now:x.st.aO=st0.aO
 next:x.st.Next=st0.Next
 book:x.st.dr=st0.dr
 cF:x.st.aA=st0.aA
 use:x.st.eJ=st0.eJ
 len:x.st.ah.length=st0.ah.length
 bm:∀m (h:m<x.st.ah.length) (h':m<st0.ah.length),x.st.ah[m]=st0.ah[m]\/x.st.ah[m]=oM st0.ah[m] st0.aO
 ref:qd x.q
 qs:x.q.S=s
 qn:x.q.aO=st0.aO
 qb:x.q.aA=st0.aA
 xR:x.q.L.length<=30+n
 used:∀(k:Nat)(c:Nat),cG x.st.ai k c<=cmp c (bn x.q.L k st0.aO)
 xW:x.P.length+x.S.length<=n
def gC.up{s:aX}{st0:bZ}{x:CX}{n:Nat}(h:gC s st0 x n):gC s st0 x (n+1):={ h with xR:=by have:=h.xR;omega,xW:=by have:=h.xW;omega }
def BV(q:jS)(u:EG)(k t:Int)(c:Nat):cmp c (bn (qf q u).L k t)=cmp c (bn q.L k t)+cmp c (ko u k t):=by grind [qf,mT,vU]
section
variable{s:aX}{st0:bZ}{x:CX}{n:Nat}(I:gC s st0 x n)(q0:aS s st0)
include I q0
theorem gC.Fx{j:aJ}(hj:j∈st0.ah)(hm:sd s x.st.ah j.Id=true):∃m,∃h:m<x.st.ah.length,x.st.ah[m]=j/\j.State=1:=by
 obtain ⟨m,hm',e,_,h1⟩:=UY hm;have hl:m<st0.ah.length:=by grind [gC.len]
 obtain ⟨i,hi,rfl⟩:=iM hj;rcases I.bm m hm' hl with g | g
 ·rw[g] at e h1;have:=q0.bm.bH.inj hl hi e
  grind
 grind [oM,iF]
end
section
variable{s:aX}{st0:bZ}{x:CX}{n:Nat}(I:gC s st0 x n)(q0:aS s st0)(hn:n<=30){nodes:List (List bS)}{b:Nat}(hb:b<=200)(hp:PR nodes x.q b){j:aJ}(hj:j∈st0.ah)(hm:sd s x.st.ah j.Id=true)
include I q0 hn hb hp hj hm
structure yo (s:aX) (x:CX) (j:aJ) (m:Nat) (hm:m<x.st.ah.length) (p:iO):Prop where
 cN:x.st.ah[m]=j
 one:x.st.ah[m].State=1
 kM:jz s x.st.ah[m] p.aj
 fits:p.At=x.st.aO->uJ (cq s.am x.st.ai) (dO x.st.ah[m] p.aj)
 zk:p.At=x.st.aO->∀y∈p.aj,∀b∈x.st.aA,b.Node=y.Node->¬b.bT<x.st.aO+x.st.ah[m].aR
 id:p.bj=j.Id
 place:AJ x.q (bX s j) p.At p.aj
theorem nj(h:(dy s x.q j).2=true):∃m,∃hm:m<x.st.ah.length,yo s x j m hm (dy s x.q j).1:=by
 obtain ⟨m,hm',e,h1⟩:=I.Fx q0 hj hm;have K:=I.qs;have d:=I.sound.bm.each _ (bA hm');rw[e] at d;have A:gq x.q.S x.st j:=by simp_all
 have hw:fX x.q (bX s j):=qu (st:=x.st) I.sound.spec K d;have M:(AR x.q (bX s j)).2=true:=by grind [dy,named]
 have P:=Az hb I.ref hp hw M;obtain ⟨O,_⟩:=NX hb I.ref hp A M;have pl:(dy s x.q j).1={ bj:=j.Id,At:=(AR x.q (bX s j)).1.At,aj:=(AR x.q (bX s j)).1.aj }:=O;obtain ⟨Q,R,v⟩:=qp (s:=s) (j:=j) ⟨d.ok.queue.1,d.queue⟩;have T:(bX s j).ay=j.ay:=by rw[v]
 have U:(bX s j).aR=j.aR:=by rw[v]
 have wm:(bX s j).aL=j.aL:=by rw[v]
 have wp:(bX s j).Part=s.aq[j.Queue.toNat].Part:=by rw[v]
 have w:=P.fit;have a:=P.shares;have W:=P.lo;rw[T,U] at w;rw[K] at a w;have xn:x.q.aO=x.st.aO:=by rw[I.qn,I.now]
 have N:=d.ok.wall;refine ⟨m,hm',e,by simp_all,?_,λp=>?_,λp=>?_,by rw[pl],by simp_all⟩
 ·rw[e,pl];refine ⟨a,by grind [AJ.Us],⟨d.ok.queue.1,d.queue⟩,λy z=>?_⟩;have:=P.part y z
  grind [cz]
 ·rw[e];rw[pl] at p ⊢;dsimp only at p ⊢;intro i hi;have g:i<s.am.length:=by grind [eX]
  have X:=Lh I.sound;refine v_.2 λc=>?_;have l1:=v_.1 (X _ (bA hi)) c;have o:=gF (rz a i) (v_.1 d.ok.need c);unfold qw;rw[Co,A_];show 0<=_-dM (AR x.q (bX s j)).1.aj i * cmp c j.ay/\_-dM (AR x.q (bX s j)).1.aj i * cmp c j.ay<=1048576;have f:=w i g x.q.aO (by omega) (by omega) c;rw[A_] at f;have fl:cmp c (bC x.q i x.q.aO)<=cmp c (cq s.am x.st.ai)[i]:=by
   rw[qi g hi];have u:=I.used i c;have nv:=v_.1 (I.sound.spec.nodes.ok _ (bA g)) c;unfold bC;split
   ·grind [Oe,qi]
   grind [Co,zM,gC.qn]
  omega
 ·rw[e];rw[pl] at p ⊢;dsimp only at p ⊢;intro y z bk r σ Z;obtain ⟨i,hi,rfl⟩:=iM z;have o:=Kl a hi;obtain ⟨y0,y1,y2,y3⟩:=a.mem _ z;have bl:=(I.sound.iy.live _ r).2;obtain ⟨E,G,rfl⟩:=iM r;have b1:=(I.sound.iy.cF.each E G).one;have sp:=b1.span
  let t:=max x.st.aO x.st.aA[E].bT
  have t1:x.st.aO<=t:=by omega
  have t2:t<x.st.aO+j.aR:=by omega
  have hk:((AR x.q (bX s j)).1.aj[i]).Node.toNat<s.am.length:=by omega
  have f:=w _ hk t (by omega) (by omega);rw[yCt y0,o] at f;have mz:Fw x.q.aA ((AR x.q (bX s j)).1.aj[i]).Node t:=⟨x.st.aA[E],by rw[I.qb,<-I.cF];omega,σ,by omega,by omega⟩;have fz:bC x.q ((AR x.q (bX s j)).1.aj[i]).Node t=bK:=by unfold bC;grind
  rw[fz] at f;apply d.ok.rZ;refine Oy λc=>?_;have fc:=f c;rw[A_,Oe] at fc;rw[Oe];have n0:=v_.1 d.ok.need c;have:1 * cmp c j.ay<=((AR x.q (bX s j)).1.aj[i]).aL * cmp c j.ay:=yAY y2 n0.1;omega
end
def gC.step{s:aX}{st0:bZ}{x:CX}{n:Nat}(I:gC s st0 x n)(q0:aS s st0)(hn:n<=30){nodes:List (List bS)}{b:Nat}(hb:b<=200)(hp:PR nodes x.q b){j:aJ}(hj:j∈st0.ah):gC s st0 (rT s x j) (n+1):=by
 unfold rT;split
 rotate_left
 ·exact I.up
 rename_i hm;split
 rotate_left
 ·exact I.up
 rename_i o;obtain ⟨m,hm',F⟩:=nj I q0 hn hb hp hj hm o;have A:=I.sound.bm.each _ (bA hm');have z:=A.ok;rw[F.cN] at A z;have E:rF (i_ j (dy s x.q j).1) x.q.S.am.length:=NL F.place z I.ref;have G:=Nu I.ref E (by have:=I.xR;omega);have xR:(qf x.q (i_ j (dy s x.q j).1)).L.length<=30+(n+1):=by have:=I.xR;show (x.q.L++[_]).length<=_;grind
 have M:=F.place.lo;have more:∀k c,cmp c (bn x.q.L k st0.aO)<=cmp c (bn (qf x.q (i_ j (dy s x.q j).1)).L k st0.aO):=λk c=>by rw[BV];have:=Jb E k st0.aO c;omega
 split
 ·exact { I with
   ref:=G
   qs:=I.qs
   qn:=I.qn
   qb:=I.qb
   xR:=xR
   used:=λk c=>Int.le_trans (I.used k c) (more k c)
   xW:=by have:=I.xW;grind }
 ·rename_i O;have cN:(dy s x.q j).1.At=x.st.aO:=by grind [gC.qn,gC.now]
  have Q:QE x.st.ah j.Id=m:=by rw[<-F.cN];exact Dc I.sound.bm.bH hm'
  have R:oS x.st j (dy s x.q j).1.aj=gU x.st m x.st.ah[m] (dy s x.q j).1.aj:=by unfold oS;rw[Q,F.cN]
  have U:=Mt I.sound hm' F.one F.kM (F.fits cN) (F.zk cN);rw[R];exact {
   sound:=U
   now:=I.now
   next:=I.next
   book:=I.book
   cF:=I.cF
   use:=I.use
   len:=by show (x.st.ah.set m _).length=_;rw[WD];exact I.len
   bm:=λi h K=>by
    have hi:i<x.st.ah.length:=by grind [gC.len]
    show (x.st.ah.set m (oM x.st.ah[m] x.st.aO))[i]'(by simp_all)=_\/(x.st.ah.set m (oM x.st.ah[m] x.st.aO))[i]'(by simp_all)=_;by_cases g:m=i
    ·subst g;rw[yBE];right;rcases I.bm m hm' K with g | g
     ·rw[g,I.now]
     grind [yo.one,oM,iF]
    ·rw[yBO g];exact I.bm i hi K
   ref:=G
   qs:=I.qs
   qn:=I.qn
   qb:=I.qb
   xR:=xR
   used:=λk c=>by
    show cG (wu x.st.ai (dO x.st.ah[m] (dy s x.q j).1.aj)) k c<=_;rw[re (jc ..),XR,BV];have u:=I.used k c;have W:ko (i_ j (dy s x.q j).1) k st0.aO=mulR (dM (dy s x.q j).1.aj k) j.ay:=by
     unfold ko;have X:=z.wall;rw[if_pos]
     ·rfl
     ·show (dy s x.q j).1.At<=st0.aO/\st0.aO<(dy s x.q j).1.At+j.aR
      grind [gC.now]
    rw[W,A_,F.cN];show dM (dy s x.q j).1.aj k * cmp c j.ay+_<=_;omega
   xW:=by have:=I.xW;grind }
def find_at{l:List aJ}(hl:l.length<=300)(hs:bU l){i:Nat}(hi:i<l.length):za8 5000 l l[i].Id=some (i:Int):=by
 obtain ⟨r,e,h1,h2,_⟩:=vl hl l[i].Id;have d:0<=r:=h1.2 ⟨_,bA hi,rfl⟩;have a:=h2 d;have:=hs.inj a.hi hi a.is
 grind
section
variable{l:List aJ}(hl:l.length<=300)(hs:bU l)
include hl hs in
theorem ref_dep(d:FB):bQ (ze1 5000 d l) λr=>(r=1↔Vh l d):=by
 unfold ze1;obtain ⟨r,e,h⟩:=YE hl d.bj;rcases h with ⟨_,h⟩ | ⟨i,hi,h1,_⟩
 ·obtain ⟨x,ex,h3,_⟩:=vl hl d.bj;have f:x<0:=by
   grind
  rw[ex,aw,eE,if_pos (by simp_all)];show bQ (if true=true then _ else _) _;rw[if_pos rfl,aY];exact ⟨λh=>by omega,λ⟨j,hj,a,_⟩=>absurd a (h j hj)⟩
 ·rw[<-h1,find_at hl hs hi,aw,eE,if_neg (by simp),bY hi,aw,aw]
  grind [Oj,eE,aY]
include hl hs in
theorem ref_met{j:aJ}(a:j.aE.length<=10):fe (zdI 5000 j l) (∀d∈j.aE,Vh l d):=by
 unfold zdI;refine LH j.aE (Vh l) _ (λh=>h) (λi f hi Q h1 h2=>?_) (λf h=>?_) (by omega)
 ·rw[if_pos (cS hi),bY hi,aw];refine (ref_dep hl hs _).bind λr e=>?_;rw[bq,bV (show i<1000000 by omega)]
  grind [aY]
 ·simp only[eR,b_,cw];exact pY h
include hl hs in
theorem met_eq{j:aJ}(a:j.aE.length<=10):∃b,mP 5000 j l=some b/\zdI 5000 j l=some b:=by
 obtain ⟨b,e,h⟩:=ZB hl hs a;obtain ⟨c,d,h2⟩:=ref_met hl hs a
 grind
include hl hs in
theorem is_eq{j:aJ}(a:j.aE.length<=10):zeo 5000 j l=some (iP l j):=by
 obtain ⟨b,d,e⟩:=met_eq hl hs a;unfold zeo iP
 grind
end
section
variable{s:aX}{st:bZ}(q:aS s st){k:Nat}(hk:k<st.ah.length)(h1:st.ah[k].State=1){sh:List dk}(hs:jz s st.ah[k] sh)(hf:uJ (cq s.am st.ai) (dO st.ah[k] sh))(hcl:∀x∈sh,∀b∈st.aA,b.Node=x.Node->¬b.bT<st.aO+st.ah[k].aR)
include q hk h1 hs hf hcl
end
def Zt:Wd:={ bj:=0,du:=0,aE:=0 }
def cx0(s:aX)(st:bZ):CX:={ st:=st,q:=dw s st,P:=[],S:=[] }
def ee(s:aX)(st:bZ)(r:List aJ):CX:=r.foldl (rT s) (cx0 s st)
section
variable{s:aX}{st0:bZ}(q0:aS s st0)(h30:st0.ah.length<=30)
include q0 h30
theorem Zy:gC s st0 (cx0 s st0) 0:={
 sound:=q0
 now:=rfl
 next:=rfl
 book:=rfl
 cF:=rfl
 use:=rfl
 len:=rfl
 bm:=λm h f=>.inl rfl
 ref:=JI (RL q0) q0 h30
 qs:=rfl
 qn:=rfl
 qb:=rfl
 xR:=by
  have:=mL (RL q0) q0;show (st0.ai.map (e_ st0)).length<=_
  grind
 used:=λk c=>by
  have hw:=RL q0;show cG st0.ai k c<=cmp c (bn (st0.ai.map (e_ st0)) k st0.aO);rw[Bw,UX];unfold cG;have:∀A:List bW,(∀a∈A,a∈st0.ai)->(A.map λa=>dM a.aj k * cmp c a.ay)=A.map ((λu=>cmp c (ko u k st0.aO))∘e_ st0):=λA d=>List.map_congr_left λa e=>by have b:=Fq hw q0 (d a e);show _=cmp c (ko (e_ st0 a) k st0.aO);unfold ko;rw[if_pos (show (e_ st0 a).bT<=st0.aO/\st0.aO<(e_ st0 a).To from ⟨MG _,b.1⟩),A_];rfl
  grind
 xW:=Qf _ }
theorem BP{r:List aJ}{i:Nat}(hi:i<r.length):ee s st0 (r.take (i+1))=rT s (ee s st0 (r.take i)) r[i]:=by grind [ee,List.take_succ_eq_append_getElem]
end
structure EX where
 c:CX
 h:aJ
 hd:Wd
def noJ:aJ:={ Id:=0,bL:=0,Queue:=0,aL:=0,ay:={ bI:=0,Mem:=0,bM:=0,bR:=0 },aR:=0,aE:=[],State:=0,Ok:=false,cH:=false,aK:=0,cA:=0,Start:=0,End:=0,Array:=0 }
def tS(s:aX)(x:EX)(j:aJ):Bool:=
 x.hd.bj != 0&&((!(dy s (qf x.c.q (i_ j (dy s x.c.q j).1)) x.h).2) || decide ((dy s (qf x.c.q (i_ j (dy s x.c.q j).1)) x.h).1.At > x.hd.du))
def fQ(s:aX)(x:CX)(j:aJ):CX:={ st:=oS x.st j (dy s x.q j).1.aj,q:=qf x.q (i_ j (dy s x.q j).1),P:=x.P,S:=x.S++[(dy s x.q j).1] }
def ol(s:aX)(x:EX)(j:aJ):EX:=
 if sd s x.c.st.ah j.Id=true then
  if (dy s x.c.q j).2=true then
   if (dy s x.c.q j).1.At > x.c.q.aO then
    if x.hd.bj=0 then { c:=x.c,h:=j,hd:={ bj:=j.Id,du:=(dy s x.c.q j).1.At,aE:=0 } } else x
   else if tS s x j=true then x
   else { c:=fQ s x.c j,h:=x.h,hd:=x.hd }
  else x
 else x
def zeroH':Wd:={ bj:=0,du:=0,aE:=0 }
def ex0(s:aX)(st:bZ):EX:={ c:={ st:=st,q:=dw s st,P:=[],S:=[] },h:=noJ,hd:=zeroH' }
def cR(s:aX)(st:bZ)(r:List aJ):EX:=r.foldl (ol s) (ex0 s st)
def pI{s:aX}{st0:bZ}{r:List aJ}{i:Nat}(hi:i<r.length):cR s st0 (r.take (i+1))=ol s (cR s st0 (r.take i)) r[i]:=by grind [cR,List.take_succ_eq_append_getElem]
def jD(s:aX)(x:EX)(j:aJ):Prop:=sd s x.c.st.ah j.Id=true/\(dy s x.c.q j).2=true/\¬(dy s x.c.q j).1.At > x.c.q.aO/\tS s x j=false
def lR{s:aX}{x:EX}{j:aJ}(h:jD s x j):ol s x j={ c:=fQ s x.c j,h:=x.h,hd:=x.hd }:=by unfold ol;rw[if_pos h.1,if_pos h.2.1,if_neg h.2.2.1,if_neg (by simp[h.2.2.2])]
def pW{s:aX}{x:EX}{j:aJ}(h:¬jD s x j):(ol s x j).c=x.c:=by
 unfold ol;unfold jD at h
 grind
def TQ{s:aX}{x:EX}{j:aJ}(h:jD s x j):fQ s x.c j=rT s x.c j:=by unfold rT fQ;rw[if_pos h.1,if_pos h.2.1,if_neg h.2.2.1]
structure IA (s:aX) (st0:bZ) (x:EX) (n:Nat):Prop where
 c:gC s st0 x.c n
 pn:x.c.P=[]
 hd:x.hd.bj≠0->x.h∈st0.ah/\x.hd.bj=x.h.Id
 aft:x.hd.aE=0
def IA.step{s:aX}{st0:bZ}{x:EX}{n:Nat}(I:IA s st0 x n)(q0:aS s st0)(hn:n<=30){nodes:List (List bS)}{b:Nat}(hb:b<=200)(hp:PR nodes x.c.q b){j:aJ}(hj:j∈st0.ah):IA s st0 (ol s x j) (n+1):=by
 by_cases h:jD s x j
 ·rw[lR h];refine ⟨?_,I.pn,I.hd,I.aft⟩;show gC s st0 (fQ s x.c j) (n+1);rw[TQ h];exact I.c.step q0 hn hb hp hj
 ·refine ⟨by rw[pW h];exact I.c.up,by rw[pW h];exact I.pn,?_,?_⟩
  ·have:=I.hd;unfold ol
   grind
  ·have:=I.aft;unfold ol
   grind
def PR.up{nodes:List (List bS)}{q:jS}{a b:Nat}(h:PR nodes q a)(o:a<=b):PR nodes q b:=⟨h.len,⟨λk i=>⟨(h.cN.each k i).1,by have:=(h.cN.each k i).2;omega⟩,h.cN.first⟩,h.val⟩
theorem Ci(N:Nat)(p:Bg)(j:aJ)(a:List aF)(b:List (List Int))(c:List yG)(o r t u v w y z A d e f g h i:Int) :
  zda N p j a b c o r t u v w y z A d e f g h i=YV N p.cK j a b c o r t u v w y z A d e f g h i p.fC p.cM:=rfl
section
variable{s:aX}{st0:bZ}{x:CX}{n:Nat}(I:gC s st0 x n)(q0:aS s st0){nodes:List (List bS)}{b:Nat}(hb:b<=200)(hp:PR nodes x.q b)
include I q0 hb hp
theorem planE{j:aJ}(hj:j∈st0.ah):YV 5000 nodes j s.am s.aG s.aq s.aP s.ae.fM s.ae.cu s.ae.dL s.ae.br s.bN s.Mode s.ah s.iN s.aI s.bg s.cV s.In s.Out s.bO st0.aO s.aG=some (dy s x.q j):=by
 obtain ⟨m,hm,rfl⟩:=iM hj;have d:=q0.bm.each _ (bA hm);have a:gq x.q.S st0 st0.ah[m]:=by rw[I.qs];exact d
 have e:=qK hb I.ref hp a;rw[I.qs,I.qn] at e;exact e
end
section
variable{s:aX}{st0:bZ}{x:EX}{n:Nat}(I:IA s st0 x n)(q0:aS s st0)(hn:n<=29){nodes:List (List bS)}{b:Nat}(hb:b<=190)(hp:PR nodes x.c.q b){j:aJ}(hj:j∈st0.ah)(hm:sd s x.c.st.ah j.Id=true)(h2:(dy s x.c.q j).2=true)(h3:¬(dy s x.c.q j).1.At > x.c.q.aO)
include I q0 hn hb hp hj hm h2 h3
theorem DK{p:List (Int×bW)}(hL:p.Perm (mapA x.c.st.ai)):∃y a,zc9 5000 x.c.S x.c.st.az.aq x.c.st.ah p j (dy s x.c.q j).1 { fC:=st0.aO,cM:=s.aG,cK:=nodes } x.h.Id x.h.bL x.h.Queue x.h.aL x.h.ay.bI x.h.ay.Mem x.h.ay.bM x.h.ay.bR x.h.aR x.h.aE x.h.State x.h.Ok x.h.cH x.h.aK x.h.cA x.h.Start x.h.End x.h.Array x.hd.bj x.hd.du
   s.am s.aG s.aq s.aP s.ae.fM s.ae.cu s.ae.dL s.ae.br s.bN s.Mode s.ah s.iN s.aI s.bg s.cV s.In s.Out s.bO st0.aO x.c.st.az.am (cq s.am x.c.st.ai) =
   some ((ol s x j).c.st.az.aq,(ol s x j).c.st.ah,y,(ol s x j).c.S,(ol s x j).c.st.az.am,cq s.am (ol s x j).c.st.ai,{ fC:=st0.aO,cM:=s.aG,cK:=a }) /\
  y.Perm (mapA (ol s x j).c.st.ai)/\PR a (ol s x j).c.q (b+2)/\(ol s x j).h=x.h/\(ol s x j).hd=x.hd:=by
 obtain ⟨m,hm',F⟩:=nj I.c q0 (by omega) (by omega) hp hj hm h2;have i:=q0.bm.each _ hj;have P:gq x.c.q.S st0 j:=by rw[I.c.qs];exact i
 have Q:=F.place.lo;have cN:(dy s x.c.q j).1.At=x.c.st.aO:=by have:=I.c.qn;have:=I.c.now;omega
 have hw:fX x.c.q (bX s j):=by have:=qu (st:=st0) q0.spec I.c.qs i;exact this
 obtain ⟨_,_,N⟩:=qp (s:=s) (j:=j) ⟨i.ok.queue.1,i.queue⟩;have R:(bX s j).ay=j.ay:=by rw[N]
 have T:(bX s j).aR=j.aR:=by rw[N]
 have O:=F.place.fit;rw[R,T] at O;obtain ⟨a,r,z⟩:=He (by omega) I.c.ref hp F.place.shares i.ok.need i.ok.wall F.place.lo F.place.hi O;have xR:=I.c.xR;have U:rF (i_ j (dy s x.c.q j).1) x.c.q.S.am.length:=NL F.place i.ok I.c.ref;have W:=Nu I.c.ref U (by omega);have t:PR a (qf x.c.q (i_ j (dy s x.c.q j).1)) (b+2):=z;have A:x.hd.bj≠0->YV 5000 a x.h s.am s.aG s.aq s.aP s.ae.fM s.ae.cu s.ae.dL s.ae.br s.bN s.Mode s.ah s.iN s.aI s.bg s.cV s.In s.Out s.bO st0.aO s.aG=some (dy s (qf x.c.q (i_ j (dy s x.c.q j).1)) x.h):=λo=>by
  have hi:=q0.bm.each _ (I.hd o).1;have E:gq (qf x.c.q (i_ j (dy s x.c.q j).1)).S st0 x.h:=by show gq x.c.q.S st0 x.h;rw[I.c.qs];exact hi
  have e:=qK (by omega) W t E;have X:(qf x.c.q (i_ j (dy s x.c.q j).1)).S=s:=I.c.qs;have σ:(qf x.c.q (i_ j (dy s x.c.q j).1)).aO=st0.aO:=I.c.qn;rw[X,σ] at e;exact e
 obtain ⟨y,G,u⟩:=WS I.c.sound hm' F.one F.kM (F.fits cN) hL;have Z:QE x.c.st.ah j.Id=m:=by rw[<-F.cN];exact Dc I.c.sound.bm.bH hm'
 have v:oS x.c.st j (dy s x.c.q j).1.aj=gU x.c.st m x.c.st.ah[m] (dy s x.c.q j).1.aj:=by unfold oS;rw[Z,F.cN]
 rw[<-v,I.c.now] at G;rw[<-v] at u;have K:x.c.st.ah[m].Id=j.Id:=by rw[F.cN]
 rw[K] at G;have pl:=I.c.xW;have nl:nodes.length<=300:=by have:=hp.len;have:=I.c.ref.spec.nodes.hi;omega
 unfold zc9 zbu zbm;dsimp only;rw[Eh (by omega),aw,aw];dsimp only;rw[I.c.qn] at r;rw[r,aw,if_neg (by simp),eE];unfold Wg;have M:tS s x j=false->ol s x j={ c:=fQ s x.c j,h:=x.h,hd:=x.hd }:=λh=>lR ⟨hm,h2,h3,h⟩;have no:tS s x j=true->ol s x j=x:=λh=>by unfold ol;rw[if_pos hm,if_pos h2,if_neg h3,if_pos h]
 have fin:tS s x j=false->∃f d,(zaP 5000 x.c.st.az.aq x.c.st.ah p j.Id (dy s x.c.q j).1.aj s.am s.aG s.aq s.aP s.ae.fM s.ae.cu s.ae.dL s.ae.br s.bN s.Mode s.ah s.iN s.aI s.bg s.cV s.In s.Out s.bO st0.aO x.c.st.az.am (cq s.am x.c.st.ai)).bind (λg=>
   if (g.2.2.2.1 != 0)=true then
    some (g.2.1,g.2.2.1,g.1,x.c.S,g.2.2.2.2.2,g.2.2.2.2.1,({ fC:=st0.aO,cM:=s.aG,cK:=nodes }:Bg))
   else
    (cB x.c.S ([(dy s x.c.q j).1]:List iO)).bind λz6=>
    some (g.2.1,g.2.2.1,g.1,z6,g.2.2.2.2.2,g.2.2.2.2.1,({ fC:=st0.aO,cM:=s.aG,cK:=a }:Bg))) =
   some ((ol s x j).c.st.az.aq,(ol s x j).c.st.ah,f,(ol s x j).c.S,(ol s x j).c.st.az.am,cq s.am (ol s x j).c.st.ai,{ fC:=st0.aO,cM:=s.aG,cK:=d }) /\
  f.Perm (mapA (ol s x j).c.st.ai)/\PR d (ol s x j).c.q (b+2)/\(ol s x j).h=x.h/\(ol s x j).hd=x.hd:=λh=>by
  refine ⟨y,a,?_⟩;rw[M h,G,aw,if_neg (by simp),ze (by grind),aw];exact ⟨rfl,u,t,rfl,rfl⟩
 have w:tS s x j=true->∃f d,some (x.c.st.az.aq,x.c.st.ah,p,x.c.S,x.c.st.az.am,cq s.am x.c.st.ai,({ fC:=st0.aO,cM:=s.aG,cK:=nodes }:Bg)) =
   some ((ol s x j).c.st.az.aq,(ol s x j).c.st.ah,f,(ol s x j).c.S,(ol s x j).c.st.az.am,cq s.am (ol s x j).c.st.ai,{ fC:=st0.aO,cM:=s.aG,cK:=d }) /\
  f.Perm (mapA (ol s x j).c.st.ai)/\PR d (ol s x j).c.q (b+2)/\(ol s x j).h=x.h/\(ol s x j).hd=x.hd:=λh=>by
  refine ⟨p,nodes,?_⟩;rw[no h];exact ⟨rfl,hL,hp.up (by omega),rfl,rfl⟩
 by_cases o:x.hd.bj=0
 ·have hl:tS s x j=false:=by unfold tS;simp[o]
  rw[aw,if_neg (by simp[o])];exact fin hl
 ·rw[aw,if_pos (by simp[o])];have eh:=A o;rw[show ({ Id:=x.h.Id,bL:=x.h.bL,Queue:=x.h.Queue,aL:=x.h.aL,ay:=({ bI:=x.h.ay.bI,Mem:=x.h.ay.Mem,bM:=x.h.ay.bM,bR:=x.h.ay.bR }:aF),aR:=x.h.aR,aE:=x.h.aE,State:=x.h.State,Ok:=x.h.Ok,cH:=x.h.cH,aK:=x.h.aK,cA:=x.h.cA,Start:=x.h.Start,End:=x.h.End,Array:=x.h.Array }:aJ)=x.h from rfl,eh,aw];by_cases hl:tS s x j=true
  ·rw[if_pos (by unfold tS at hl;simp_all)];exact w hl
  ·rw[if_neg (by unfold tS at hl;simp_all)];exact fin (by simpa using hl)
end
def Yv(s:aX)(x:EX):Int:=if x.hd.bj=0 then 0 else (dy s x.c.q x.h).1.At
section
variable{s:aX}{st0:bZ}(q0:aS s st0)(h30:st0.ah.length<=30)
include q0 h30
theorem einv0:IA s st0 (ex0 s st0) 0:=⟨Zy q0 h30,rfl,λh=>absurd rfl h,rfl⟩
theorem Xi{L:List (Int×bW)}(hL:L.Perm (mapA st0.ai)):∃r,SC 5000 st0.az.aq st0.ah L s.am s.aG s.aq s.aP s.ae.fM s.ae.cu s.ae.dL s.ae.br s.bN s.Mode s.ah s.iN s.aI s.bg s.cV s.In s.Out s.bO st0.aO st0.Next st0.dr st0.aA st0.eJ st0.az.am=some r/\r.Perm (st0.ah.filter (iP st0.ah)) /\
  (∀i,i<=r.length->IA s st0 (cR s st0 (r.take i)) i/\∃nodes,PR nodes (cR s st0 (r.take i)).c.q (93+2 * i)) /\
  ∃ t, zeS 5000 st0.az.aq st0.ah L s.am s.aG s.aq s.aP s.ae.fM s.ae.cu s.ae.dL s.ae.br s.bN s.Mode s.ah s.iN s.aI s.bg s.cV s.In s.Out s.bO st0.aO st0.Next st0.dr st0.aA st0.eJ st0.az.am (cq s.am st0.ai) =
   some ((cR s st0 r).c.st.az.aq,(cR s st0 r).c.st.ah,t,{ Started:=(cR s st0 r).c.S,fK:=[],AF:={ bj:=(cR s st0 r).hd.bj,du:=(cR s st0 r).hd.du,aE:=Yv s (cR s st0 r) } },0,(cR s st0 r).c.st.az.am,cq s.am (cR s st0 r).c.st.ai)/\t.Perm (mapA (cR s st0 r).c.st.ai):=by
 have hw:=RL q0;have σ:=q0.iy.cF.len;have Z:=mL hw q0;obtain ⟨r,er,R⟩:=readyV q0 hL h30;have rl:r.length<=30:=by grind [List.Perm.length_eq,List.length_filter_le]
 have K:∀j∈r,j∈st0.ah:=λj hj=>(Gp.1 (R.mem_iff.1 hj)).1;obtain ⟨g,U,M⟩:=oZ hw q0 h30 (qG q0 hL);have w:PR g (dw s st0) 93:=M.up (by omega);have step:∀i (hi:i<r.length) (I:IA s st0 (cR s st0 (r.take i)) i) nodes,PR nodes (cR s st0 (r.take i)).c.q (93+2 * i)->∃a,PR a (cR s st0 (r.take (i+1))).c.q (93+2 * (i+1)):=λi hi I nodes hp=>by
  rw[pI hi];by_cases h:jD s (cR s st0 (r.take i)) r[i]
  ·obtain ⟨t,a,_,_,z,_⟩:=DK I q0 (by omega) (by omega) hp (K _ (bA hi)) h.1 h.2.1 h.2.2.1 (yC4 _);exact ⟨a,by rw[show 93+2 * (i+1)=93+2 * i+2 by omega];exact z⟩
  ·rw[pW h];exact ⟨nodes,hp.up (by omega)⟩
 have A:∀i,i<=r.length->IA s st0 (cR s st0 (r.take i)) i/\∃nodes,PR nodes (cR s st0 (r.take i)).c.q (93+2 * i):=by
  intro i;induction i with
  |zero=>intro _;exact ⟨einv0 q0 h30,g,w⟩
  |succ i ih=>intro hi;obtain ⟨I,nodes,hp⟩:=ih (by omega);refine ⟨?_,step i (by omega) I nodes hp⟩;rw[pI (show i<r.length by omega)];exact I.step q0 (by omega) (by omega) hp (K _ (bA _))
 refine ⟨r,er,R,A,?_⟩
 suffices h:bQ (zeS 5000 st0.az.aq st0.ah L s.am s.aG s.aq s.aP s.ae.fM s.ae.cu s.ae.dL s.ae.br s.bN s.Mode s.ah s.iN s.aI s.bg s.cV s.In s.Out s.bO st0.aO st0.Next st0.dr st0.aA st0.eJ st0.az.am (cq s.am st0.ai)) λx=>∃t,x=((cR s st0 r).c.st.az.aq,(cR s st0 r).c.st.ah,t,{ Started:=(cR s st0 r).c.S,fK:=[],AF:={ bj:=(cR s st0 r).hd.bj,du:=(cR s st0 r).hd.du,aE:=Yv s (cR s st0 r) } },0,(cR s st0 r).c.st.az.am,cq s.am (cR s st0 r).c.st.ai)/\t.Perm (mapA (cR s st0 r).c.st.ai) by obtain ⟨x,e,t,rfl,h⟩:=h;exact ⟨t,e,h⟩
 unfold zeS;rw[U,aw];dsimp only;rw[er,aw];refine iL r.length (λi x=>∃u nodes,∃fp:iO,x=((i:Int),(cR s st0 (r.take i)).c.st.az.am,cq s.am (cR s st0 (r.take i)).c.st.ai,({ fC:=st0.aO,cM:=s.aG,cK:=nodes }:Bg),(cR s st0 (r.take i)).h.Id,(cR s st0 (r.take i)).h.bL,(cR s st0 (r.take i)).h.Queue,(cR s st0 (r.take i)).h.aL,(cR s st0 (r.take i)).h.ay.bI,(cR s st0 (r.take i)).h.ay.Mem,(cR s st0 (r.take i)).h.ay.bM,(cR s st0 (r.take i)).h.ay.bR,(cR s st0 (r.take i)).h.aR,(cR s st0 (r.take i)).h.aE,(cR s st0 (r.take i)).h.State,(cR s st0 (r.take i)).h.Ok,(cR s st0 (r.take i)).h.cH,(cR s st0 (r.take i)).h.aK,(cR s st0 (r.take i)).h.cA,(cR s st0 (r.take i)).h.Start,(cR s st0 (r.take i)).h.End,(cR s st0 (r.take i)).h.Array,(cR s st0 (r.take i)).hd.bj,(cR s st0 (r.take i)).hd.du,(cR s st0 (r.take i)).hd.aE,fp.bj,fp.At,fp.aj,(cR s st0 (r.take i)).c.st.az.aq,(cR s st0 (r.take i)).c.st.ah,u,(cR s st0 (r.take i)).c.S)/\u.Perm (mapA (cR s st0 (r.take i)).c.st.ai)/\PR nodes (cR s st0 (r.take i)).c.q (93+2 * i)) (λi x f hi N p=>?_) (λx f N=>?_)
  ⟨L,g,{ bj:=0,At:=0,aj:=[] },rfl,hL,w⟩ (by omega)
 ·obtain ⟨u,nodes,fp,rfl,d,hp⟩:=N;obtain ⟨I,_⟩:=A i (by omega);have o:=pI (s:=s) (st0:=st0) hi;have hj:=K _ (bA hi);have y:=mayV I.c.sound d r[i].Id;rw[I.c.now,I.c.next,I.c.book,I.c.cF,I.c.use] at y;have E:=planE I.c q0 (by omega) hp hj;dsimp only;rw[if_pos (cS hi),eE,bY hi,aw,y,aw,bV (show i<1000000 by omega),bq];refine ⟨λh=>?_,λh=>?_⟩
  ·have e:cR s st0 (r.take (i+1))=cR s st0 (r.take i):=by rw[o];unfold ol;rw[if_neg (by simpa using h)]
   refine p _ ⟨u,nodes,fp,?_,?_,?_⟩
   ·rw[e]
   ·rw[e];exact d
   ·rw[e];exact hp.up (by omega)
  ·have hm:sd s (cR s st0 (r.take i)).c.st.ah r[i].Id=true:=by simpa using h
   rw[Ci];dsimp only;rw[E,aw,bq];refine ⟨λh=>?_,λO=>?_⟩
   ·have e:cR s st0 (r.take (i+1))=cR s st0 (r.take i):=by rw[o];unfold ol;rw[if_pos hm,if_neg (by simpa using h)]
    refine p _ ⟨u,nodes,(dy s (cR s st0 (r.take i)).c.q r[i]).1,?_,?_,?_⟩
    ·rw[e]
    ·rw[e];exact d
    ·rw[e];exact hp.up (by omega)
   ·have h2:(dy s (cR s st0 (r.take i)).c.q r[i]).2=true:=by simpa using O
    unfold jx;rw[aw,bq];have T:=I.c.qn;refine ⟨λG=>?_,λG=>?_⟩
    ·have h3:(dy s (cR s st0 (r.take i)).c.q r[i]).1.At > (cR s st0 (r.take i)).c.q.aO:=by rw[T];exact of_decide_eq_true G
     unfold ze7 Wg;rw[aw];by_cases v:(cR s st0 (r.take i)).hd.bj=0
     ·have e:cR s st0 (r.take (i+1))={ c:=(cR s st0 (r.take i)).c,h:=r[i],hd:={ bj:=r[i].Id,du:=(dy s (cR s st0 (r.take i)).c.q r[i]).1.At,aE:=0 } }:=by
       rw[o];unfold ol;rw[if_pos hm,if_pos h2,if_pos h3,if_pos v]
      rw[if_pos (by simp[v]),yA];refine p _ ⟨u,nodes,(dy s (cR s st0 (r.take i)).c.q r[i]).1,?_,?_,?_⟩
      ·rw[e]
      ·rw[e];exact d
      ·rw[e];exact hp.up (by omega)
     ·have e:cR s st0 (r.take (i+1))=cR s st0 (r.take i):=by
       rw[o];unfold ol;rw[if_pos hm,if_pos h2,if_pos h3,if_neg v]
      rw[if_neg (by simp[v]),yA];refine p _ ⟨u,nodes,(dy s (cR s st0 (r.take i)).c.q r[i]).1,?_,?_,?_⟩
      ·rw[e]
      ·rw[e];exact d
      ·rw[e];exact hp.up (by omega)
    ·have h3:¬(dy s (cR s st0 (r.take i)).c.q r[i]).1.At > (cR s st0 (r.take i)).c.q.aO:=by rw[T];exact λh=>G (decide_eq_true h)
     obtain ⟨t,a,W,P,z,X,Q⟩:=DK I q0 (by omega) (by omega) hp hj hm h2 h3 d;rw[W,aw];refine p _ ⟨t,a,(dy s (cR s st0 (r.take i)).c.q r[i]).1,?_,?_,?_⟩
     ·rw[o,X,Q]
     ·rw[o];exact P
     ·rw[o,show 93+2 * (i+1)=93+2 * i+2 by omega];exact z
 ·obtain ⟨u,nodes,fp,rfl,d,hp⟩:=N;obtain ⟨I,_⟩:=A r.length (cP _);rw[xB] at d hp I ⊢;dsimp only;rw[if_neg (by simp),eE];unfold Wg;rw[aw];by_cases v:(cR s st0 r).hd.bj=0
  ·rw[if_neg (by simp[v]),aY];refine ⟨u,?_,d⟩;unfold Yv;rw[if_pos v,I.aft]
  ·have E:=planE I.c q0 (by omega) hp (I.hd v).1;rw[if_pos (by simp[v]),Ci];dsimp only;rw[show ({ Id:=(cR s st0 r).h.Id,bL:=(cR s st0 r).h.bL,Queue:=(cR s st0 r).h.Queue,aL:=(cR s st0 r).h.aL,ay:=({ bI:=(cR s st0 r).h.ay.bI,Mem:=(cR s st0 r).h.ay.Mem,bM:=(cR s st0 r).h.ay.bM,bR:=(cR s st0 r).h.ay.bR }:aF),aR:=(cR s st0 r).h.aR,aE:=(cR s st0 r).h.aE,State:=(cR s st0 r).h.State,Ok:=(cR s st0 r).h.Ok,cH:=(cR s st0 r).h.cH,aK:=(cR s st0 r).h.aK,cA:=(cR s st0 r).h.cA,Start:=(cR s st0 r).h.Start,End:=(cR s st0 r).h.End,Array:=(cR s st0 r).h.Array }:aJ)=(cR s st0 r).h from rfl,E,aw,aY];refine ⟨u,?_,d⟩;unfold Yv;rw[if_neg v]
end
def Xo:zcI:={ zI:={ bj:=0,At:=0,aj:=[] },d_:={ Id:=0,bL:=0,Queue:=0,aL:=0,ay:={ bI:=0,Mem:=0,bM:=0,bR:=0 },aR:=0,aE:=[],State:=0,Ok:=false,cH:=false,aK:=0,cA:=0,Start:=0,End:=0,Array:=0 } }
section
variable{nodes:List (List bS)}{q:jS}{L:Nat}(hL:L<=200)(hq:qd q)(hp:PR nodes q L){st:bZ}{j:aJ}(hj:gq q.S st j)
include hL hq hp hj
theorem Kz:∃a,zbj 5000 nodes j q.aO q.S.aG q.S.am q.S.aG q.S.aq q.S.aP q.S.ae.fM q.S.ae.cu q.S.ae.dL q.S.ae.br q.S.bN q.S.Mode q.S.ah q.S.iN q.S.aI q.S.bg q.S.cV q.S.In q.S.Out q.S.bO =
   (if (named j (AR q (bX q.S j))).2=true then some (a,{ zI:=(named j (AR q (bX q.S j))).1,d_:=j },true) else some (nodes,Xo,false)) /\
  ((AR q (bX q.S j)).2=true->PR a (qf q (i_ j (named j (AR q (bX q.S j))).1)) (L+2)):=by
 have hw:=qu hq.spec rfl hj;have r:=qK hL hq hp hj;unfold zbj;rw[r,aw];by_cases h:(AR q (bX q.S j)).2=true
 ·obtain ⟨i,f⟩:=NX hL hq hp hj h;have P:=Az hL hq hp hw h;obtain ⟨_,_,o⟩:=qp ⟨hj.ok.queue.1,hj.queue⟩;have t:(bX q.S j).ay=j.ay:=by rw[o]
  have u:(bX q.S j).aR=j.aR:=by rw[o]
  have p:=P.fit;rw[t,u] at p;obtain ⟨a,e,d⟩:=He hL hq hp P.shares hj.ok.need hj.ok.wall P.lo P.hi p;refine ⟨a,?_,λ_=>?_⟩
  ·rw[i,f,if_neg (by simp),if_pos rfl];dsimp only;rw[e,aw,oT (hp.len.trans d.len.symm)];rfl
  ·rw[i];exact d
 ·have f:(named j (AR q (bX q.S j)))=({ bj:=0,At:=0,aj:=[] },false):=by unfold named;simp_all
  refine ⟨nodes,?_,λg=>absurd g h⟩;rw[f,if_pos (by simp),if_neg (by simp)];rfl
end
section
variable{s:aX}{st0:bZ}(q0:aS s st0)(h30:st0.ah.length<=30)
include q0 h30
theorem ID{L:List (Int×bW)}(hL:L.Perm (mapA st0.ai)):∃r,SC 5000 st0.az.aq st0.ah L s.am s.aG s.aq s.aP s.ae.fM s.ae.cu s.ae.dL s.ae.br s.bN s.Mode s.ah s.iN s.aI s.bg s.cV s.In s.Out s.bO st0.aO st0.Next st0.dr st0.aA st0.eJ st0.az.am=some r/\r.Perm (st0.ah.filter (iP st0.ah)) /\
  (∀i,i<=r.length->gC s st0 (ee s st0 (r.take i)) i/\∃nodes,PR nodes (ee s st0 (r.take i)).q (93+2 * i)) /\
  ∃ u, zcQ 5000 st0.az.aq st0.ah L s.am s.aG s.aq s.aP s.ae.fM s.ae.cu s.ae.dL s.ae.br s.bN s.Mode s.ah s.iN s.aI s.bg s.cV s.In s.Out s.bO st0.aO st0.Next st0.dr st0.aA st0.eJ st0.az.am (cq s.am st0.ai) =
   some ((ee s st0 r).st.az.aq,(ee s st0 r).st.ah,u,{ Started:=(ee s st0 r).S,fK:=(ee s st0 r).P,AF:=Zt },0,(ee s st0 r).st.az.am,cq s.am (ee s st0 r).st.ai)/\u.Perm (mapA (ee s st0 r).st.ai):=by
 have hw:=RL q0;have bl:=q0.iy.cF.len;have al:=mL hw q0;obtain ⟨r,er,R⟩:=readyV q0 hL h30;have rl:r.length<=30:=by grind [List.Perm.length_eq,List.length_filter_le]
 have G:∀j∈r,j∈st0.ah:=λj hj=>(Gp.1 (R.mem_iff.1 hj)).1;obtain ⟨d,W,o⟩:=oZ hw q0 h30 (qG q0 hL);have v:PR d (dw s st0) 93:=⟨o.len,⟨λk h=>⟨(o.cN.each k h).1,by have:=(o.cN.each k h).2;omega⟩,o.cN.first⟩,o.val⟩;have step:∀i (hi:i<r.length) (I:gC s st0 (ee s st0 (r.take i)) i) nodes,PR nodes (ee s st0 (r.take i)).q (93+2 * i)->∃a,zbj 5000 nodes r[i] st0.aO s.aG s.am s.aG s.aq s.aP s.ae.fM s.ae.cu s.ae.dL s.ae.br s.bN s.Mode s.ah s.iN s.aI s.bg s.cV s.In s.Out s.bO =
   (if (dy s (ee s st0 (r.take i)).q r[i]).2=true then some (a,{ zI:=(dy s (ee s st0 (r.take i)).q r[i]).1,d_:=r[i] },true) else some (nodes,Xo,false)) /\
   ((dy s (ee s st0 (r.take i)).q r[i]).2=true->PR a (qf (ee s st0 (r.take i)).q (i_ r[i] (dy s (ee s st0 (r.take i)).q r[i]).1)) (93+2 * (i+1))):=λi hi I nodes hp=>by
  have ji:=q0.bm.each _ (G _ (bA hi));have K:gq (ee s st0 (r.take i)).q.S st0 r[i]:=by grind [gC.qs]
  obtain ⟨a,e,h⟩:=Kz (by omega) I.ref hp K;rw[I.qs,I.qn] at e;refine ⟨a,e,λg=>?_⟩;rw[I.qs] at h;have:(AR (ee s st0 (r.take i)).q (bX s r[i])).2=true:=by grind [dy,named]
  have:=h this;rw[show 93+2 * (i+1)=93+2 * i+2 by omega];exact this
 have y:∀i,i<=r.length->gC s st0 (ee s st0 (r.take i)) i/\∃nodes,PR nodes (ee s st0 (r.take i)).q (93+2 * i):=by
  intro i;induction i with
  |zero=>intro _;exact ⟨Zy q0 h30,d,v⟩
  |succ i ih=>
   intro hi;obtain ⟨I,nodes,hp⟩:=ih (by omega);rw[BP q0 h30 (show i<r.length by omega)];refine ⟨I.step q0 (by omega) (by omega) hp (G _ (bA _)),?_⟩;obtain ⟨a,_,h⟩:=step i (by omega) I nodes hp;have M:PR nodes (ee s st0 (r.take i)).q (93+2 * (i+1)):=⟨hp.len,⟨λk h=>⟨(hp.cN.each k h).1,by have:=(hp.cN.each k h).2;omega⟩,hp.cN.first⟩,hp.val⟩
   grind [rT]
 refine ⟨r,er,R,y,?_⟩
 suffices h:bQ (zcQ 5000 st0.az.aq st0.ah L s.am s.aG s.aq s.aP s.ae.fM s.ae.cu s.ae.dL s.ae.br s.bN s.Mode s.ah s.iN s.aI s.bg s.cV s.In s.Out s.bO st0.aO st0.Next st0.dr st0.aA st0.eJ st0.az.am (cq s.am st0.ai)) λx=>∃u,x=((ee s st0 r).st.az.aq,(ee s st0 r).st.ah,u,{ Started:=(ee s st0 r).S,fK:=(ee s st0 r).P,AF:=Zt },0,(ee s st0 r).st.az.am,cq s.am (ee s st0 r).st.ai)/\u.Perm (mapA (ee s st0 r).st.ai) by obtain ⟨x,e,u,rfl,h⟩:=h;exact ⟨u,e,h⟩
 unfold zcQ zfg;rw[W,aw,aw];dsimp only;rw[er,aw];refine iL r.length (λi x=>∃z nodes,x=((i:Int),(ee s st0 (r.take i)).st.az.am,cq s.am (ee s st0 (r.take i)).st.ai,(ee s st0 (r.take i)).st.az.aq,(ee s st0 (r.take i)).st.ah,z,nodes,(ee s st0 (r.take i)).P,(ee s st0 (r.take i)).S)/\z.Perm (mapA (ee s st0 (r.take i)).st.ai)/\PR nodes (ee s st0 (r.take i)).q (93+2 * i)) (λi x f hi N X=>?_) (λx f N=>?_)
  ⟨L,d,rfl,hL,v⟩ (by omega)
 ·obtain ⟨z,nodes,rfl,p,hp⟩:=N;obtain ⟨I,_⟩:=y i (by omega);have t:=BP (s:=s) q0 h30 hi;have w:=mayV I.sound p r[i].Id;rw[I.now,I.next,I.book,I.cF,I.use] at w;obtain ⟨a,A,T⟩:=step i hi I nodes hp;have M:PR nodes (ee s st0 (r.take i)).q (93+2 * (i+1)):=⟨hp.len,⟨λk h=>⟨(hp.cN.each k h).1,by have:=(hp.cN.each k h).2;omega⟩,hp.cN.first⟩,hp.val⟩;dsimp only;rw[if_pos (cS hi),eE,bY hi,aw,w,aw,bV (show i<1000000 by omega)];unfold rT at t;rw[bq];refine ⟨λh=>?_,λh=>?_⟩
  ·grind
  ·have hm:sd s (ee s st0 (r.take i)).st.ah r[i].Id=true:=by grind
   rw[if_pos hm] at t;rw[A];by_cases g:(dy s (ee s st0 (r.take i)).q r[i]).2=true
   ·rw[if_pos g] at t;rw[if_pos g,aw,if_neg (by simp)];unfold zdN;rw[aw];have pl:=I.xW;by_cases U:(dy s (ee s st0 (r.take i)).q r[i]).1.At > (ee s st0 (r.take i)).q.aO
    ·rw[if_pos U] at t;have σ:(dy s (ee s st0 (r.take i)).q r[i]).1.At > st0.aO:=by grind [gC.qn]
     rw[if_pos (by grind),ze (by grind),aw]
     grind
    ·rw[if_neg U] at t;have σ:¬(dy s (ee s st0 (r.take i)).q r[i]).1.At > st0.aO:=by grind [gC.qn]
     obtain ⟨m,hm',F⟩:=nj I q0 (by omega) (by omega) hp (G _ (bA hi)) hm g;have Z:=F.place.lo;have cN:(dy s (ee s st0 (r.take i)).q r[i]).1.At=(ee s st0 (r.take i)).st.aO:=by grind [gC.qn,gC.now]
     obtain ⟨u,O,P⟩:=WS I.sound hm' F.one F.kM (F.fits cN) p;have ix:QE (ee s st0 (r.take i)).st.ah r[i].Id=m:=by rw[<-F.cN];exact Dc I.sound.bm.bH hm'
     have E:oS (ee s st0 (r.take i)).st r[i] (dy s (ee s st0 (r.take i)).q r[i]).1.aj=gU (ee s st0 (r.take i)).st m (ee s st0 (r.take i)).st.ah[m] (dy s (ee s st0 (r.take i)).q r[i]).1.aj:=by unfold oS;rw[ix,F.cN]
     rw[<-E,I.now] at O;rw[<-E] at P;have Q:(ee s st0 (r.take i)).st.ah[m].Id=(dy s (ee s st0 (r.take i)).q r[i]).1.bj:=by rw[F.cN,F.id]
     rw[Q] at O;rw[if_neg (by grind),O,aw,if_pos (by rfl),ze (by grind),aw]
     grind
   grind
 ·obtain ⟨z,nodes,rfl,p,hp⟩:=N;dsimp only;rw[if_neg (by simp),aY];rw[xB] at p ⊢;exact ⟨z,rfl,p⟩
end
def ON(st0:bZ)(id:Int):aF:=((st0.ah.find? λj=>j.Id == id).map (·.ay)).getD bK
def UD{s:aX}{st0:bZ}(q0:aS s st0){j:aJ}(hj:j∈st0.ah):ON st0 j.Id=j.ay:=by obtain ⟨i,hi,rfl⟩:=iM hj;unfold ON;rw[Sy q0.bm.bH hi];rfl
structure TI (s:aX) (st0:bZ) (st:bZ) (S:List iO):Prop where
 each:∀p∈S,∃j∈st0.ah,p.bj=j.Id/\bo p.aj s.am.length/\ky p.aj=j.aL
 used:∀(k:Nat)(c:Nat),cG st.ai k c=cG st0.ai k c+(S.map λp=>dM p.aj k * cmp c (ON st0 p.bj)).sum
 len:st.ai.length=st0.ai.length+S.length
def TI.zero(s:aX)(st0:bZ):TI s st0 st0 []:=⟨λp hp=>(by cases hp),λk c=>(by simp),rfl⟩
section
variable{s:aX}{st0:bZ}{x:CX}{n:Nat}(I:gC s st0 x n)(q0:aS s st0){j:aJ}(hj:j∈st0.ah){m:Nat}{hm':m<x.st.ah.length}(F:yo s x j m hm' (dy s x.q j).1)
include I q0 hj F
theorem Hb:(fQ s x j).st=gU x.st m x.st.ah[m] (dy s x.q j).1.aj:=by
 have a:QE x.st.ah j.Id=m:=by rw[<-F.cN];exact Dc I.sound.bm.bH hm'
 show oS x.st j _=_;unfold oS;rw[a,F.cN]
theorem TI.start(T:TI s st0 x.st x.S):TI s st0 (fQ s x j).st (fQ s x j).S:=by
 refine ⟨λp hp=>?_,λk c=>?_,?_⟩
 ·rcases kL.1 hp with hp | hp
  ·exact T.each p hp
  ·rw[zV] at hp;subst hp;refine ⟨j,hj,F.id,F.kM.shares,?_⟩;have:=F.kM.Us
   rwa [F.cN] at this
 ·rw[Hb I q0 hj F];show cG (wu x.st.ai (dO x.st.ah[m] (dy s x.q j).1.aj)) k c=_+((x.S++[_]).map _).sum;rw[re (jc ..),XR,T.used,yBX,List.sum_append];simp only[rS,List.map_nil,List.sum_cons,List.sum_nil];rw[F.id,UD q0 hj];show dM (dy s x.q j).1.aj k * cmp c x.st.ah[m].ay+_=_;rw[F.cN];omega
 ·rw[Hb I q0 hj F];show (wu x.st.ai (dO x.st.ah[m] (dy s x.q j).1.aj)).length=_+(x.S++[_]).length;rw[(jc ..).length_eq,FA,T.len,zJ,xAe];omega
end
def OD(s:aX)(st0:bZ)(r:List aJ):CX:=if s.Mode=1 then (cR s st0 r).c else ee s st0 r
structure XN (s:aX) (st0:bZ) (x:CX):Prop where
 inv:∃n,n<=30/\gC s st0 x n
 ti:TI s st0 x.st x.S
 none:x.S=[]->x.st=st0
section
variable{s:aX}{st0:bZ}(q0:aS s st0)(h30:st0.ah.length<=30)
include q0 h30
theorem erun_ok{r:List aJ}(g:r.length<=30)(d:∀j∈r,j∈st0.ah)(a:∀i,i<=r.length->IA s st0 (cR s st0 (r.take i)) i/\∃nodes,PR nodes (cR s st0 (r.take i)).c.q (93+2 * i)) :
  ∀i,i<=r.length->XN s st0 (cR s st0 (r.take i)).c:=by
 intro i;induction i with
 |zero=>intro _;exact ⟨⟨0,by omega,(einv0 q0 h30).c⟩,TI.zero s st0,λ_=>rfl⟩
 |succ i ih=>
  intro hi;have C:=ih (by omega);obtain ⟨I,nodes,hp⟩:=a i (by omega);obtain ⟨f,_⟩:=a (i+1) hi;have hj:=d _ (bA (show i<r.length by omega));refine ⟨⟨i+1,by omega,f.c⟩,?_,?_⟩
  ·rw[pI (show i<r.length by omega)];by_cases h:jD s (cR s st0 (r.take i)) r[i]
   ·rw[lR h];obtain ⟨m,hm',F⟩:=nj I.c q0 (by omega) (by omega) hp hj h.1 h.2.1;exact TI.start I.c q0 hj F C.ti
   ·rw[pW h];exact C.ti
  ·rw[pI (show i<r.length by omega)];by_cases h:jD s (cR s st0 (r.take i)) r[i]
   ·rw[lR h];intro e;exact absurd e (by simp[fQ])
   ·rw[pW h];exact C.none
theorem crun_ok{r:List aJ}(t:r.length<=30)(o:∀j∈r,j∈st0.ah)(d:∀i,i<=r.length->gC s st0 (ee s st0 (r.take i)) i/\∃nodes,PR nodes (ee s st0 (r.take i)).q (93+2 * i)) :
  ∀i,i<=r.length->XN s st0 (ee s st0 (r.take i)):=by
 intro i;induction i with
 |zero=>intro _;exact ⟨⟨0,by omega,Zy q0 h30⟩,TI.zero s st0,λ_=>rfl⟩
 |succ i ih=>
  intro hi;have C:=ih (by omega);obtain ⟨I,nodes,hp⟩:=d i (by omega);obtain ⟨p,_⟩:=d (i+1) hi;have hj:=o _ (bA (show i<r.length by omega));have e:=BP (s:=s) q0 h30 (show i<r.length by omega);have a:((ee s st0 (r.take (i+1))).st=(ee s st0 (r.take i)).st/\(ee s st0 (r.take (i+1))).S=(ee s st0 (r.take i)).S) \/
    (sd s (ee s st0 (r.take i)).st.ah r[i].Id=true/\(dy s (ee s st0 (r.take i)).q r[i]).2=true/\ee s st0 (r.take (i+1))=fQ s (ee s st0 (r.take i)) r[i]):=by
   rw[e];unfold rT fQ;by_cases h1:sd s (ee s st0 (r.take i)).st.ah r[i].Id=true
   ·rw[if_pos h1];by_cases h2:(dy s (ee s st0 (r.take i)).q r[i]).2=true
    ·rw[if_pos h2];by_cases h3:(dy s (ee s st0 (r.take i)).q r[i]).1.At > (ee s st0 (r.take i)).q.aO
     ·rw[if_pos h3];exact .inl ⟨rfl,rfl⟩
     ·rw[if_neg h3];exact .inr ⟨h1,h2,rfl⟩
    ·rw[if_neg h2];exact .inl ⟨rfl,rfl⟩
   ·rw[if_neg h1];exact .inl ⟨rfl,rfl⟩
  refine ⟨⟨i+1,by omega,p⟩,?_,?_⟩
  ·rcases a with ⟨f,h⟩ | ⟨h1,h2,g⟩
   ·rw[f,h];exact C.ti
   ·rw[g];obtain ⟨m,hm',F⟩:=nj I q0 (by omega) (by omega) hp hj h1 h2;exact TI.start I q0 hj F C.ti
  ·rcases a with ⟨f,h⟩ | ⟨h1,h2,g⟩
   ·rw[f,h];exact C.none
   ·rw[g];intro e;exact absurd e (by simp[fQ])
theorem HJ{L:List (Int×bW)}(hL:L.Perm (mapA st0.ai)):∃r,SC 5000 st0.az.aq st0.ah L s.am s.aG s.aq s.aP s.ae.fM s.ae.cu s.ae.dL s.ae.br s.bN s.Mode s.ah s.iN s.aI s.bg s.cV s.In s.Out s.bO st0.aO st0.Next st0.dr st0.aA st0.eJ st0.az.am=some r/\r.Perm (st0.ah.filter (iP st0.ah)) /\
  XN s st0 (OD s st0 r)/\∃g P h,zcr 5000 st0.az.aq st0.ah L s.am s.aG s.aq s.aP s.ae.fM s.ae.cu s.ae.dL s.ae.br s.bN s.Mode s.ah s.iN s.aI s.bg s.cV s.In s.Out s.bO st0.aO st0.Next st0.dr st0.aA st0.eJ st0.az.am (cq s.am st0.ai) =
   some ((OD s st0 r).st.az.aq,(OD s st0 r).st.ah,g,{ Started:=(OD s st0 r).S,fK:=P,AF:=h },0,(OD s st0 r).st.az.am,cq s.am (OD s st0 r).st.ai)/\g.Perm (mapA (OD s st0 r).st.ai):=by
 unfold zcr;rw[jt (RL q0).spec,aw];unfold OD;by_cases hm:s.Mode=1
 ·obtain ⟨r,er,a,d,g,e,f⟩:=Xi q0 h30 hL;have i:r.length<=30:=by rw[a.length_eq];exact jk (yBF _ _) h30
  have o:∀j∈r,j∈st0.ah:=λj hj=>(Gp.1 (a.mem_iff.1 hj)).1;have ok:=erun_ok q0 h30 i o d r.length (cP _);rw[xB] at ok;refine ⟨r,er,a,by rw[if_pos hm];exact ok,g,[],{ bj:=(cR s st0 r).hd.bj,du:=(cR s st0 r).hd.du,aE:=Yv s (cR s st0 r) },?_,by rw[if_pos hm];exact f⟩;rw[if_pos (show (s.Mode == 1)=true by simp[hm]),yA,if_pos hm];dsimp only;rw[e,aw]
 ·obtain ⟨r,er,a,d,g,e,f⟩:=ID q0 h30 hL;have i:r.length<=30:=by rw[a.length_eq];exact jk (yBF _ _) h30
  have o:∀j∈r,j∈st0.ah:=λj hj=>(Gp.1 (a.mem_iff.1 hj)).1;have ok:=crun_ok q0 h30 i o d r.length (cP _);rw[xB] at ok;refine ⟨r,er,a,by rw[if_neg hm];exact ok,g,(ee s st0 r).P,Zt,?_,by rw[if_neg hm];exact f⟩;rw[if_neg (show ¬(s.Mode == 1)=true by simp[hm]),yA,if_neg hm];dsimp only;rw[e,aw]
end
def UC{s:aX}(hs:iE s)(k:ba s){q m:Int}{need:aF}(hn:aN need)(f:need≠bK)(hq:0<=q/\q<s.aq.length)(h1:1<=m)(h:zeP 5000 s q m need=some true):m<=rP s ((s.aG[(((s.aq[q.toNat]?).getD default).Part).toNat]?).getD []) need:=by
 obtain ⟨v,i,h2⟩:=lY s hs;have p:=h2.2 k;subst p;obtain ⟨o,e⟩:=AV hq.1 hq.2;have d:=k.eH.ok _ (bA o);obtain ⟨hp,r⟩:=AV d.part.1 d.part.2;have t:=k.parts.ok _ (bA hp);have lp:=hs.part _ (bA hp);have g:zeP 5000 s q m need=some (decide (rP s (s.aG[s.aq[q.toNat].Part.toNat]) need≥m)):=by simp only[zeP,i,aw];rw[if_neg (by simp_all),e,aw];simp only[vP,i,aw];rw[if_neg (by have:=d.part;simp;omega),r,aw];have:=BL k hn f (jk lp (by decide)) t.2 (λa=>jy 5000 a need) (λa u=>count u hn f);rw[this,aw]
 rw[g] at h;simp only[au,bz] at h;rw[dW o,OE,dW hp,OE];exact h
section
variable{s:aX}{st0:bZ}(q0:aS s st0)(h30:st0.ah.length<=30)(idle:∀j∈st0.ah,hasB j.State=false)(nobook:st0.aA=[])
include q0 h30 idle nobook
theorem Mp:st0.ai=[]:=by
 cases h:st0.ai with
 |nil=>rfl
 |cons a A=>exfalso;obtain ⟨i,hi,_,_,d,_⟩:=lV (RL q0) q0 (a:=a) (by rw[h];exact qY ..);have:=idle _ (bA hi);have d:hasB st0.ah[i].State=true:=d;rw[this] at d;cases d
theorem Tu{j:aJ}(hj:j∈st0.ah)(h1:j.State=1):(dy s (dw s st0) j).2=true/\(dy s (dw s st0) j).1.At=st0.aO:=by
 have a:=RL q0;have U:=q0.iy.cF.len;have X:=mL a q0;obtain ⟨nodes,_,i⟩:=oZ a q0 h30 (qG q0 (yC4 (mapA st0.ai)));have hp:PR nodes (dw s st0) 93:=i.up (by omega);have hq:=JI a q0 h30;have d:=q0.bm.each _ hj;have hw:fX (dw s st0) (bX s j):=qu (st:=st0) q0.spec rfl d;have now:=hq.now;obtain ⟨_,_,T,r,u⟩:=IW (by omega) hq hp hw;have nT:st0.aO∈T:=(r.mem _).2 ⟨MG _,.inl rfl⟩;obtain ⟨F,E,o,_,w⟩:=AG (by omega) hq hp hw (MG _) now.2;have G:cE (dw s st0) (bX s j) st0.aO=BW F (cz (dw s st0) (bX s j)) (bX s j).aL (bX s j).ay:=by unfold cE;rw[show (dw s st0).aO=st0.aO from rfl] at w;rw[w];rfl
 have K:(dw s st0).L=[]:=by show st0.ai.map _=[];rw[Mp q0 h30 idle nobook];rfl
 have f:∀(k:Nat) t,bC (dw s st0) k t=jj s.am k:=λk t=>by
  unfold bC;rw[if_neg (by rintro ⟨b,hb,_⟩;have hb:b∈st0.aA:=hb;rw[nobook] at hb;cases hb),K]
  refine Oy λc=>?_;rw[Co];show _-cmp c bK=_;rw[Oe];show cmp c (jj s.am k)-0=_;omega
 have M:∀n∈cz (dw s st0) (bX s j),jj F n=(s.am[n.toNat]?).getD bK:=λn hn=>by have nb:=o.node n hn;obtain ⟨hf,_,N⟩:=uI (F:=F) nb.1 nb.2;rw[N];refine Oy λc=>?_;obtain ⟨t,v,_,_,O,ev⟩:=(E.low _ hf).cN c;rw[<-ev,O,f];rfl
 obtain ⟨_,_,y⟩:=qp (s:=s) (j:=j) ⟨d.ok.queue.1,d.queue⟩;have P:(bX s j).ay=j.ay:=by rw[y]
 have z:(bX s j).aL=j.aL:=by rw[y]
 have W:=q0.waits j hj (by omega);have m1:=d.ok.many;have h:=UC a.spec q0.spec d.ok.need d.ok.rZ ⟨d.ok.queue.1,d.queue⟩ m1.1 W.fits;have e:cO F (cz (dw s st0) (bX s j)) (bX s j).ay=rP s (cz (dw s st0) (bX s j)) j.ay:=by unfold cO rP;rw[P];congr 1;exact List.map_congr_left λn hn=>by rw[M n hn]
 have ok:(cE (dw s st0) (bX s j) st0.aO).2=true:=by rw[G];refine vG.2 ⟨by rw[z];exact m1.1,?_⟩;rw[e,z];exact h
 have A:(AR (dw s st0) (bX s j)).2=true:=by
  cases g:(AR (dw s st0) (bX s j)).2 with
  |true=>rfl
  |false=>have:=(u.no g).1 _ nT;rw[ok] at this;cases this
 obtain ⟨Q,_,R,_,_⟩:=u.yes A;have le:=R _ nT ok;have p:=((r.mem _).1 Q).1;have p:st0.aO<=(AR (dw s st0) (bX s j)).1.At:=p;unfold dy named;rw[if_pos A];exact ⟨rfl,Int.le_antisymm le p⟩
theorem WB{j:aJ}(hj:j∈st0.ah)(r:iP st0.ah j=true):sd s st0.ah j.Id=true:=by
 have f:=RL q0;obtain ⟨i,hi,rfl⟩:=iM hj;have o:=q0.bm.each _ hj;have hl:st0.ah.length<=300:=by omega
 have hq:0<=st0.ah[i].Queue/\st0.ah[i].Queue<s.aq.length:=⟨o.ok.queue.1,o.queue⟩;obtain ⟨t,e⟩:=AV (l:=s.aq) hq.1 hq.2;have p:=q0.spec.eH.ok _ (bA t);have v:=p.run;have w:=p.user;have c1:(st0.ah.countP λd=>(d.Queue == st0.ah[i].Queue)&&hasB d.State)=0:=List.countP_eq_zero.2 λa h=>by simp[idle a h]
 have u:(st0.ah.countP λd=>((d.Queue == st0.ah[i].Queue)&&(d.bL == st0.ah[i].bL))&&hasB d.State)=0:=List.countP_eq_zero.2 λa h=>by simp[idle a h]
 have g:eV 5000 s st0.ah st0.ah[i]=some true:=by unfold eV nN;rw[if_pos (by simp_all),vX f.spec q0.spec,aw,aw,if_neg (by simp),e,aw,GZ hl,aw,c1,if_pos (by simp;omega),of_eq hl,aw,u];simp;omega
 rw[mayB_at q0.bm.bH hi,r,g];rfl
theorem Xg{r:List aJ}(i:r.Perm (st0.ah.filter (iP st0.ah)))(o:r≠[]):(OD s st0 r).S≠[]:=by
 cases r with
 |nil=>exact absurd rfl o
 |cons j r=>
  obtain ⟨hj,d⟩:=Gp.1 (i.mem_iff.1 (qY ..));have s1:j.State=1:=by unfold iP at d;simp only[bG,lA] at d;exact d.1
  obtain ⟨e,p⟩:=Tu q0 h30 idle nobook hj s1;have hm:=WB q0 h30 idle nobook hj d;have f:¬(dy s (dw s st0) j).1.At > (dw s st0).aO:=by rw[p];exact Int.lt_irrefl _
  have t:∀(l:List aJ)(x:CX),x.S≠[]->(l.foldl (rT s) x).S≠[]:=λl=>by
   induction l with
   |nil=>intro x h;exact h
   |cons a l ih=>
    intro x h;refine ih _ ?_;unfold rT;split
    ·split
     ·split
      ·exact h
      ·simp
     ·exact h
    ·exact h
  have u:∀(l:List aJ)(x:EX),x.c.S≠[]->(l.foldl (ol s) x).c.S≠[]:=λl=>by
   induction l with
   |nil=>intro x h;exact h
   |cons a l ih=>
    intro x h;refine ih _ ?_;by_cases g:jD s x a
    ·rw[lR g];simp[fQ]
    ·rw[pW g];exact h
  unfold OD;split
  ·refine u r _ ?_;have g:jD s (ex0 s st0) j:=⟨hm,e,f,rfl⟩;rw[lR g];simp[fQ]
  ·refine t r _ ?_;unfold rT;rw[if_pos (show sd s (cx0 s st0).st.ah j.Id=true from hm),if_pos (show (dy s (cx0 s st0).q j).2=true from e),if_neg (show ¬(dy s (cx0 s st0).q j).1.At > (cx0 s st0).q.aO from f)];simp
end
def age_eq{now a:Int}(g:0<=a/\a<=1099511627776)(h1:0<=now/\now<=1099511627776):∃v,pC 5000 now a=some v/\ze3 5000 now a=some v/\0<=v/\v<=4096:=by
 unfold pC ze3;by_cases h:now<=a
 ·have d:decide (now<=a)=true:=by simpa using h
  rw[if_pos d,if_pos d];exact ⟨0,rfl,rfl,by omega,by omega⟩
 ·have d:¬decide (now<=a)=true:=by simpa using h
  rw[if_neg d,if_neg d];have e:∀x:Int,0<=x->x<=1099511627776->u64.wrap x=x:=λx h1 h2=>by simp only[IntKind.wrap,IntKind.bits,IntKind.signed];simp;omega
  rw[e now h1.1 h1.2,e a g.1 g.2,e (now-a) (by omega) (by omega),wr (x:=if 4096<now-a then 4096 else now-a) (by split <;> omega) (by split <;> omega)]
  refine ⟨if 4096<now-a then 4096 else now-a,rfl,?_,by split <;> omega,by split <;> omega⟩
  apply bQ.eq;refine lpM (I:=λx=>1<=x/\x<=4096/\x<=now-a) (m:=λx=>(4096-x).toNat) (λx f o i=>?_) ⟨by omega,by omega,by omega⟩ (by omega);rw[bq];refine ⟨λh2=>?_,λh2=>?_⟩
  ·simp at h2;rw[bq,wr (by omega) (by omega),wr (by omega) (by omega)];refine ⟨λh3=>?_,λh3=>?_⟩
   ·simp at h3;rw[aY,if_neg (by omega)];omega
   ·simp at h3;exact i _ ⟨by omega,by omega,by omega⟩ (by omega)
  ·simp at h2;rw[aY];split <;> omega
def IJ(x a b:Int)(h:a<=b):∃v,Wb 5000 x a b=some v/\zbR 5000 x a b=some v/\a<=v/\v<=b:=by
 unfold Wb zbR;by_cases h1:x<a
 ·have d:decide (x<a)=true:=by simpa using h1
  rw[if_pos d];exact ⟨a,rfl,rfl,by omega,h⟩
 ·have d:¬decide (x<a)=true:=by simpa using h1
  rw[if_neg d];by_cases h2:x > b
  ·have d:decide (x > b)=true:=by simpa using h2
   rw[if_pos d];exact ⟨b,rfl,rfl,h,by omega⟩
  ·have d:¬decide (x > b)=true:=by simpa using h2
   rw[if_neg d];exact ⟨x,rfl,rfl,by omega,by omega⟩
def U_(x:Int):∃v,zdu 5000 x=some v/\zcn 5000 x=some v/\0<=v/\v<=4096:=by
 obtain ⟨r,e,f,h1,h2⟩:=IJ x 0 1099511627776 (by omega);unfold zdu zcn;rw[e,f,aw,aw];have eq:EY .i64 r 16=some (r / 16):=by unfold EY;rw[if_neg (by omega),xAh h1,wr (by omega) (by omega)]
 rw[eq,aw,aw];obtain ⟨v,_,a,h3,g⟩:=IJ (r / 16) 0 4096 (by omega);refine ⟨v,?_,by rw[a];rfl,h3,g⟩;unfold zbR at a;have i:¬decide (r / 16<0)=true:=by simp;omega
 rw[if_neg i] at a;by_cases h:r / 16 > 4096
 ·have d:decide (r / 16 > 4096)=true:=by simpa using h
  rw[if_pos d] at a;rw[if_pos (show (4096:Int)<r / 16 from h)];exact a
 ·have d:¬decide (r / 16 > 4096)=true:=by simpa using h
  rw[if_neg d] at a;rw[if_neg (show ¬(4096:Int)<r / 16 from h)];exact a
def prio_eq{s:aX}(hs:iE s)(k:ba s){j:aJ}(hj:dh j){now:Int}(h1:0<=now/\now<=1099511627776)(use:List Int) :
  ∃v,oh 5000 s j now use=some v/\zdi 5000 s j now use=some v/\-1000000000<=v/\v<=1000000000:=by
 obtain ⟨ag,O,P,Q,R⟩:=age_eq hj.born h1;obtain ⟨d,T,U,W,X⟩:=IJ j.aL 0 64 (by omega);have w1:=k.weights.age;have w2:=k.weights.size;have w3:=k.weights.qos;have w4:=k.weights.ZQ;have g:∀{a b m n:Int},0<=a/\a<=m->0<=b->b<=n->0<=a * b/\a * b<=m * n:=λE hb hn=>⟨yBT E.1 hb,Int.mul_le_mul E.2 hn hb (by omega)⟩
 have m1:=g w1 Q R;have m2:=g w2 W X;have y:∀q f:Int,0<=q->q<=100->0<=f->f<=4096->∃v,v=i64.wrap ((i64.wrap ((i64.wrap (i64.wrap (s.ae.fM * ag)+i64.wrap (s.ae.cu * d)))+i64.wrap (s.ae.dL * q)))-i64.wrap (s.ae.br * f))/\-1000000000<=v/\v<=1000000000:=λq f q0 o f0 f1=>by have m3:=g w3 q0 o;have m4:=g w4 f0 f1;refine ⟨_,rfl,?_⟩;rw[wr (x:=s.ae.fM * ag) (by omega) (by omega),wr (x:=s.ae.cu * d) (by omega) (by omega),wr (x:=s.ae.dL * q) (by omega) (by omega),wr (x:=s.ae.br * f) (by omega) (by omega)];rw[wr (x:=s.ae.fM * ag+s.ae.cu * d) (by omega) (by omega),wr (x:=s.ae.fM * ag+s.ae.cu * d+s.ae.dL * q) (by omega) (by omega),wr (by omega) (by omega)];omega
 have G:∀q:Int,0<=q->q<=100->∃v,(jn (λ(σ:Int)=>
    (some ag).bind λZ=>
    (some d).bind λr7=>
    some ((i64.wrap (s.ae.fM * Z)),(i64.wrap (s.ae.cu * r7)),(i64.wrap (s.ae.dL * q)),(i64.wrap (s.ae.br * σ)))) λK=>
   if ((decide (j.bL≥0))&&(decide (j.bL<(use.length:Int))))=true then
    (aD use j.bL).bind λa8=>
    (zdu 5000 a8).bind λr9=>
    K r9
   else
    K 0)=some v/\(jn (λ(x5:Int)=>
   some ((i64.wrap (s.ae.fM * ag)),(i64.wrap (s.ae.cu * d)),(i64.wrap (s.ae.dL * q)),x5)) λM=>
  if ((decide (j.bL≥0))&&(decide (j.bL<(use.length:Int))))=true then
   (aD use j.bL).bind λa7=>
   (zcn 5000 a7).bind λr8=>
   M (i64.wrap (s.ae.br * r8))
  else
   M 0)=some v/\∃f,0<=f/\f<=4096/\v=((i64.wrap (s.ae.fM * ag)),(i64.wrap (s.ae.cu * d)),(i64.wrap (s.ae.dL * q)),(i64.wrap (s.ae.br * f))):=λq q0 o=>by
  simp only[eE,aw];by_cases p:((decide (j.bL≥0))&&(decide (j.bL<(use.length:Int))))=true
  ·simp only[bG,bz] at p;obtain ⟨z,e⟩:=AV (l:=use) p.1 p.2;obtain ⟨f,f1,f2,f3,f4⟩:=U_ (use[j.bL.toNat]'z);have N:((decide (j.bL≥0))&&(decide (j.bL<(use.length:Int))))=true:=by simpa using p
   rw[if_pos N,if_pos N,e,aw,aw,f1,f2,aw];exact ⟨_,rfl,rfl,f,f3,f4,rfl⟩
  ·rw[if_neg p,if_neg p];refine ⟨_,rfl,?_,0,by omega,by omega,rfl⟩;rw[Int.mul_zero];rfl
 have fin:∀q:Int,0<=q->q<=100->∀v:Int×Int×Int×Int,(∃f,0<=f/\f<=4096/\v=((i64.wrap (s.ae.fM * ag)),(i64.wrap (s.ae.cu * d)),(i64.wrap (s.ae.dL * q)),(i64.wrap (s.ae.br * f)))) ->
   -1000000000<=i64.wrap ((i64.wrap ((i64.wrap (v.1+v.2.1))+v.2.2.1))-v.2.2.2)/\i64.wrap ((i64.wrap ((i64.wrap (v.1+v.2.1))+v.2.2.1))-v.2.2.2)<=1000000000:=λq q0 o v ⟨f,f0,f1,A⟩=>by
  subst A;obtain ⟨v,A,hb⟩:=y q f q0 o f0 f1;simp only;rw[<-A];exact hb
 have h:∃v,m_ 5000 s j now use=some v/\zdS 5000 s j now use=some v/\∃q,0<=q/\q<=100/\∃f,0<=f/\f<=4096/\v=((i64.wrap (s.ae.fM * ag)),(i64.wrap (s.ae.cu * d)),(i64.wrap (s.ae.dL * q)),(i64.wrap (s.ae.br * f))):=by
  unfold m_ zdS;rw[vX hs k,O,P,T,U];simp only[aw];rw[if_neg (by simp),eE,eE];by_cases hq:((decide (j.Queue≥0))&&(decide (j.Queue<(s.aq.length:Int))))=true
  ·have i:=hq;simp only[bG,bz] at i;obtain ⟨z,e⟩:=AV (l:=s.aq) i.1 i.2;have w:=(k.eH.ok _ (bA z)).qos;obtain ⟨v,t,r,u⟩:=G _ w.1 w.2;rw[if_pos hq,if_pos hq,e];exact ⟨v,t,r,_,w.1,w.2,u⟩
  ·obtain ⟨v,t,r,u⟩:=G 0 (by omega) (by omega);rw[if_neg hq,if_neg hq];have w0:i64.wrap (s.ae.dL * 0)=0:=by rw[Int.mul_zero];rfl
   rw[w0] at r;exact ⟨v,t,r,0,by omega,by omega,u⟩
 obtain ⟨v,t,r,q,q0,o,u⟩:=h;unfold oh zdi;rw[t,r];exact ⟨_,rfl,rfl,fin q q0 o v u⟩
def prI(s:aX)(now:Int)(use:List Int)(j:aJ):Int:=(oh 5000 s j now use).getD 0
def rI(s:aX)(now:Int)(use:List Int)(j:aJ):K3:=(-prI s now use j,j.cA,j.Id)
def Hu(a:aJ->K3)(u v:aJ):Prop:=¬FI (a v) (a u)
def Hu.trans{i:aJ->K3}{a b c:aJ}(h:Hu i a b)(o:Hu i b c):Hu i a c:=by unfold Hu FI at *;omega
def Hu.of{i:aJ->K3}{a b:aJ}(h:FI (i a) (i b)):Hu i a b:=by unfold Hu FI at *;omega
theorem Hu.refl{i:aJ->K3}{a:aJ}:Hu i a a:=by unfold Hu FI;omega
section
variable{s:aX}(hs:iE s)(k:ba s){now:Int}(h1:0<=now/\now<=1099511627776)(use:List Int)
include hs k h1
theorem ZL{j:aJ}(hj:dh j):oh 5000 s j now use=some (prI s now use j)/\zdi 5000 s j now use=some (prI s now use j)/\-1000000000<=prI s now use j/\prI s now use j<=1000000000:=by
 obtain ⟨v,a,d,h⟩:=prio_eq hs k hj h1 use;have:prI s now use j=v:=by unfold prI;rw[a];rfl
 rw[this];exact ⟨a,d,h⟩
theorem key_ok{j:aJ}(hj:dh j):jU 5000 s j { aO:=now,eJ:=use }=some (rI s now use j):=by obtain ⟨a,_,d,e⟩:=ZL hs k h1 use hj;unfold jU;simp only;rw[a,aw,show i64.wrap (0-prI s now use j)=-prI s now use j from by rw[wr (by omega) (by omega)];omega];rfl
theorem ZT{a b:aJ}(d:dh a)(hb:dh b):fe (zdR 5000 s a b { aO:=now,eJ:=use }) (FI (rI s now use a) (rI s now use b)):=by obtain ⟨_,e,_,_⟩:=ZL hs k h1 use d;obtain ⟨_,f,_,_⟩:=ZL hs k h1 use hb;unfold zdR;simp only;rw[e,f,aw,aw,fe];simp only[bq,aY,bz,HU,ne_eq,FI,rI];generalize prI s now use a=x at *;generalize prI s now use b=y at *;refine ⟨λh=>?_,λh=>⟨λh=>?_,λh=>?_⟩⟩ <;> constructor <;> intro g <;> omega
end
def sl_lo{α:Type}{l:List α}{k:Nat}(h:k<=l.length):slice? l 0 (k:Int)=some (l.take k):=by unfold slice?;rw[if_pos (by omega)];simp
def sl_hi{α:Type}{l:List α}{k:Nat}(h:k<=l.length):slice? l (k:Int) (l.length:Int)=some (l.drop k):=by unfold slice?;rw[if_pos (by omega)];simp
def Ui{s:aX}(hs:iE s)(k:ba s){now:Int}(h1:0<=now/\now<=1099511627776)(use:List Int){L:List aJ}(hL:∀j∈L,dh j)(hl:L.length<=300) :
  bQ (zbc 5000 L s { aO:=now,eJ:=use }) λr=>r.Perm L/\r.Pairwise (Hu (rI s now use)):=by
 unfold zbc;refine iL L.length (λi x=>x.2=(i:Int)/\x.1.Perm (L.take i)/\x.1.Pairwise (Hu (rI s now use))) (λi x f hi o w=>?_) (λx f o=>?_) ⟨rfl,by simp,.nil⟩ (by omega)
 ·obtain ⟨out,n⟩:=x;obtain ⟨hn,hp,hw⟩:=o;simp only at hn hp hw;subst hn;have N:out.length=i:=by rw[hp.length_eq];simp;omega
  have ok:∀a∈out,dh a:=λa z=>hL a (Mx (hp.mem_iff.1 z));simp only;rw[if_pos (cS hi)];refine lpM (I:=λx=>∃m:Nat,x=(m:Int)/\m<=out.length/\∀v∈out.drop m,Hu (rI s now use) L[i] v) (m:=λx=>x.toNat) (λx g G A=>?_) ⟨out.length,rfl,cP _,by simp⟩ (by omega);obtain ⟨m,rfl,hm,E⟩:=G;refine Bi (λx=>(x=true->0<m/\∀v∈out.drop (m-1),Hu (rI s now use) L[i] v)/\(x=false->∀u∈out.take m,Hu (rI s now use) u L[i])) (λq hq=>?_) (λx o=>?_)
  ·rw[bq];refine ⟨λh=>?_,λh=>hq _ ⟨by simp,λ_ u p=>?_⟩⟩
   ·simp at h;have e:m-1<out.length:=by omega
    rw[bY hi,aw,As (x:=(m:Int)-1) (y:=((m-1:Nat):Int)) (by omega) (by omega) (by omega),bY e,aw];refine (ZT hs k h1 use (hL _ (bA hi)) (ok _ (bA e))).bind λr w=>hq _ ⟨λh2=>⟨by omega,λv d=>?_⟩,λh2 u p=>?_⟩
    ·rw[yB9 e,show m-1+1=m by omega] at d;rcases gy.1 d with rfl | d
     ·exact .of (w.1 h2)
     ·exact E v d
    ·have h3:Hu (rI s now use) out[m-1] L[i]:=λg=>by rw[w.2 g] at h2;simp at h2
     obtain ⟨t,K,rfl⟩:=iM p;simp only[BZ] at K;rw[Rk];rcases VX (show t<=m-1 by omega) with M | rfl
     ·exact (yBg.1 hw t (m-1) (by omega) e M).trans h3
     ·exact h3
   ·simp at h;subst h;simp at p
  ·rw[bq];refine ⟨λh=>?_,λh=>?_⟩
   ·obtain ⟨h2,h3⟩:=o.1 h;rw[As (x:=(m:Int)-1) (y:=((m-1:Nat):Int)) (by omega) (by omega) (by omega)];exact A _ ⟨m-1,rfl,by omega,h3⟩ (by omega)
   ·have h2:=o.2 (by simpa using h);rw[sl_lo hm,aw,Eh (by simp;omega),aw,bY hi,aw,ze (by simp;omega),aw,sl_hi hm,aw,ze (by simp;omega),aw,bV (by omega)];refine w _ ⟨rfl,?_,?_⟩
    ·simp only;rw[yBZ,dW hi];refine List.Perm.trans (l₂:=out++[L[i]]) ?_ (hp.append_right _)
     conv=>rhs;rw[<-JN m out]
     rw[zg,zg];exact yCl _ yBS
    ·simp only;have h3:=IZ.1 ((JN m out).symm▸hw:(out.take m++out.drop m).Pairwise _);rw[zg];refine IZ.2 ⟨h3.1,IZ.2 ⟨List.pairwise_singleton _ _,h3.2.1,λa z v d=>?_⟩,λu p v d=>?_⟩
     ·simp at z;subst z;exact E v d
     ·rcases kL.1 d with d | d
      ·simp at d;subst d;exact h2 u p
      ·exact h3.2.2 u p v d
 ·obtain ⟨hn,hp,hw⟩:=o;rw[if_neg (by rw[hn];simp),aY];exact ⟨by simpa using hp,hw⟩
def OQ{s:aX}(hs:iE s)(k:ba s){now:Int}(h1:0<=now/\now<=1099511627776)(use:List Int){L:List aJ}(hL:∀j∈L,dh j)(hl:L.length<40) :
  bQ (zcd 5000 L s { aO:=now,eJ:=use }) λr=>r.Perm L/\r.Pairwise (Hu (rI s now use)):=by
 unfold zcd;rw[vX hs k,aw,if_neg (by simp),LZ (by omega),aw];refine iL L.length (λi x=>x=((i:Int),(L.map (rI s now use)).take i++List.replicate (L.length-i) (0,0,0))) (λi x f hi d o=>?_) (λx f d=>?_) (by simp) (by omega)
 ·subst d;have hl:((L.map (rI s now use)).take i).length=i:=by simp;omega
  have e:List.replicate (L.length-i) ((0,0,0):K3)=(0,0,0)::List.replicate (L.length-(i+1)) (0,0,0):=by rw[show L.length-i=(L.length-(i+1))+1 by omega,xAf]
  simp only;rw[if_pos (cS hi),bY hi,aw,key_ok hs k h1 use (hL _ (bA hi)),aw,e,dQ (by rw[hl]),yA,iG (by rw[hl]),bV (by omega)];refine o _ (by rw[yBZ,dW (by simpa using hi)];simp)
 ·subst d;rw[yBz (by simp),yCw,xAg,CD];simp only;rw[if_neg (by simp),show ∀x:aJ,Dl x 0 (L.length:Int)=some [] from λx=>by unfold Dl;rw[if_pos (by omega)];rfl,yA];refine (Fh (N:=5000) (p:=L.map (rI s now use)) (by simpa using hl) (by omega)).bind λr o=>?_;obtain ⟨hp,hw⟩:=o;rw[vR] at hp;have y:r.length=L.length:=by rw[hp.length_eq,nP]
  have g:∀x∈r,0<=x/\x<L.length:=λx d=>by have:=JS (p:=L.map (rI s now use)) (x:=x) (by rw[vR];exact hp.mem_iff.1 d);simpa[Pj] using this
  let J:Int->aJ:=λx=>L.getD x.toNat { Id:=0,bL:=0,Queue:=0,aL:=0,ay:=({ bI:=0,Mem:=0,bM:=0,bR:=0 }:aF),aR:=0,aE:=[],State:=0,Ok:=false,cH:=false,aK:=0,cA:=0,Start:=0,End:=0,Array:=0 }
  have w:∀x∈r,aD L x=some (J x):=λx d=>by obtain ⟨t,e⟩:=AV (g x d).1 (g x d).2;rw[e];simp[J,Vo,t]
  refine iL r.length (λi x=>x=((i:Int),(r.map J).take i)) (λi x f hi d o=>?_) (λx f d=>?_) (by simp) (by omega)
  ·subst d;have v:dh (J r[i]):=by
    have:=w _ (bA hi);obtain ⟨t,e⟩:=AV (g _ (bA hi)).1 (g _ (bA hi)).2;rw[e] at this;simp only[au] at this;rw[<-this];exact hL _ (bA t)
   simp only;rw[if_pos (cS hi),bY hi,aw,w _ (bA hi),aw];have z:zax 5000 (J r[i]).aE=some (J r[i]).aE:=Eh (by have:=v.kI;omega);rw[z,aw,ze (by simp;omega),aw,bV (by omega)];refine o _ (by rw[yBZ,dW (by simpa using hi)];simp)
  ·subst d;simp only;rw[if_neg (by simp),aY,yBz (by simp)];have u:(Ox L.length).map J=L:=by
    apply yCc
    ·simp[Ox]
    ·intro i h1 h2;simp[Ox,J,Vo,h2]
   refine ⟨by have:=hp.map J;rwa [u] at this,?_⟩;rw[List.pairwise_map];refine List.Pairwise.imp_of_mem (λ{a b} A hb h=>?_) hw;have hk:∀x∈r,Oz (L.map (rI s now use)) x=rI s now use (J x):=λx d=>by
    have E:=g x d;have t:x.toNat<L.length:=by omega
    simp[Oz,J,Vo,t]
   unfold BR at h;rw[hk a A,hk b hb] at h;exact h
def ZP{s:aX}(hs:iE s)(k:ba s){now:Int}(h1:0<=now/\now<=1099511627776)(use:List Int){L:List aJ}(hL:∀j∈L,dh j)(hl:L.length<40)(g:∀a∈L,∀b∈L,a.Id=b.Id->a=b) :
  ∃r,zcd 5000 L s { aO:=now,eJ:=use }=some r/\zbc 5000 L s { aO:=now,eJ:=use }=some r/\r.Perm L:=by
 obtain ⟨d,i,p1,w1⟩:=OQ hs k h1 use hL hl;obtain ⟨o,p,e,w2⟩:=Ui hs k h1 use hL (by omega);have:d=o:=by refine List.Perm.eq_of_pairwise (le:=Hu (rI s now use)) (λa b t hb h f=>?_) w1 w2 (p1.trans e.symm);refine g a (p1.mem_iff.1 t) b (e.mem_iff.1 hb) ?_;unfold Hu FI rI at h f;simp only at h f;omega
 subst this;exact ⟨d,i,p,p1⟩
def XO{l:List aJ}(hs:bU l){a b:aJ}(d:a∈l)(hb:b∈l)(h:a.Id=b.Id):a=b:=by obtain ⟨i,hi,rfl⟩:=iM d;obtain ⟨j,hj,rfl⟩:=iM hb;have:=hs.inj hi hj h;subst this;rfl
section
variable{s:aX}{st:bZ}(hw:kF s st)(q:aS s st)(h30:st.ah.length<=30)
include hw q
theorem EC{K:List aJ->Option (List aJ)}{P:List aJ->Prop}(p:bQ (K (st.ah.filter (iP st.ah))) P) :
  bQ (bB (λf2 (a:Int×List aJ)=>
  if (decide (a.1<(st.ah.length:Int)))=true then
   jn (λ(r:List aJ)=>f2 ((i64.wrap (a.1+1)),r)) λg=>
   (aD st.ah a.1).bind λt=>
   (zeo 5000 t st.ah).bind λu=>
   if u=true then
    (aD st.ah a.1).bind λv=>
    (cB a.2 ([v]:List aJ)).bind λw=>
    g w
   else
    g a.2
  else
   K a.2) 5000 (0,([]:List aJ))) P:=by
 have hl:=hw.bm;refine iL st.ah.length (λi x=>x=((i:Int),(st.ah.take i).filter (iP st.ah))) (λi x f hi d o=>?_) (λx f d=>?_) (by simp) (by omega)
 ·subst d;have y:=hw.after _ (bA hi);have hf:((st.ah.take i).filter (iP st.ah)).length<=300:=jk (yBF _ _) (by simp;omega);simp only[eE];rw[if_pos (cS hi),bY hi,aw,is_eq hl q.bm.bH y,aw,aw,ze (by simp;omega),aw,bV (show i<1000000 by omega)];have e:(st.ah.take (i+1)).filter (iP st.ah)=(st.ah.take i).filter (iP st.ah)++(if iP st.ah st.ah[i]=true then [st.ah[i]] else []):=by
   rw[yBZ,dW hi,List.filter_append];simp only[Option.toList_some,List.filter_cons,List.filter_nil]
  by_cases h:iP st.ah st.ah[i]=true
  ·rw[if_pos h] at e ⊢;exact o _ (by rw[e])
  ·rw[if_neg h] at e ⊢;exact o _ (by rw[e,CD])
 ·subst d;simp only;rw[if_neg (by simp),xB];exact p
include h30
theorem WK:∃r,SC 5000 st.az.aq st.ah (st.ai.map λa=>(a.bj,a)) s.am s.aG s.aq s.aP s.ae.fM s.ae.cu s.ae.dL s.ae.br s.bN s.Mode s.ah s.iN s.aI s.bg s.cV s.In s.Out s.bO st.aO st.Next st.dr st.aA st.eJ st.az.am=some r /\
  zcb 5000 s st=some r/\r.length<=300/\∀j∈r,j.aE.length<=10:=by
 have hl:=hw.bm;have e:∀j∈st.ah.filter (iP st.ah),dh j:=λj hj=>(q.bm.each j (Gp.1 hj).1).ok;have d:(st.ah.filter (iP st.ah)).length<=30:=jk (yBF _ _) h30;obtain ⟨r,f,g,hp⟩:=ZP hw.spec q.spec (now:=st.aO) q.nums.now st.eJ e (by omega) (λa i b hb h=>XO q.bm.bH (Gp.1 i).1 (Gp.1 hb).1 h);refine ⟨r,?_,?_,by rw[hp.length_eq];omega,λj hj=>hw.after j (Gp.1 (hp.mem_iff.1 hj)).1⟩
 ·unfold SC;rw[LY (En hw q),aw,Iy hl q.bm.bH hw.after,aw,JE _ _ (by simp;omega),zO,jt hw.spec,aw,f];rfl
 ·unfold zcb;apply bQ.eq;exact EC hw q (K:=λl=>(zbc 5000 l s ({ aO:=st.aO,eJ:=st.eJ }:zcK)).bind λo=>some o) (by rw[g];exact aY.2 rfl)
omit h30 in
end
end Go.Plain
end
