/- Lemmas. -/
import Derived.Test.YtcndmfkgdaipaaaGreatLawC
import Derived.KernelRfl
set_option linter.all false
section
namespace Go.Plain
open Go.Abs
theorem ZE{F:List aD}{A:List bV}:(aV F A).length=F.length:=by
 induction A generalizing F with
 |nil=>rfl
 |cons a A ih=>have:=ih (F:=kL F a);rw[ZF] at this;exact this
theorem kf{A:List bV}:∀{F:List aD}{i:Nat}(h:i<F.length)(d:i<(aV F A).length)(c:Nat),cmp c (aV F A)[i]=cmp c F[i]-cw A i c:=by
 induction A with
 |nil=>grind [aV,cw]
 |cons a A ih=>
  intro F i h d c;have hl:i<(kL F a).length:=by grind [ZF]
  have:=ih (F:=kL F a) hl (by grind [ZE]) c;rw[mT,qi,Ci,zr] at this;rw[Zn];have e:(aV F (a::A))[i]=(aV (kL F a) A)[i]'(by grind):=rfl
  grind
def others(A:List bV)(id:Int):List bV:=A.filter λb=>decide (b.aW≠id)
def ze(x what:Int):Option Int:=
 if what=1/\x=1 then some 2 else if what=2/\x=2 then some 1 else if what=3/\x=1 then some 3 else if what=4/\x=3 then some 1 else if what=5/\x=3 then some 4 else if what=6/\x=3 then some 4
 else if what=6/\Dm x then some 6 else if what=7/\(x=3\/x=4) then some 5 else if what=8/\x=4 then some 6 else none
theorem Uo(x what:Int):vo 5000 x what=some ((ze x what).getD 0,(ze x what).isSome):=by
 unfold vo ze;simp only[fA,NZ,TG,aw,bI,nh];by_cases h1:what=1/\x=1
 ·simp_all
 rw[if_neg h1,if_neg h1];by_cases h2:what=2/\x=2
 ·simp_all
 rw[if_neg h2,if_neg h2];by_cases h3:what=3/\x=1
 ·simp_all
 rw[if_neg h3,if_neg h3]
 grind
def HasS(x:Int):Prop:=x=3\/x=4
instance (x:Int):Decidable (HasS x):=by unfold HasS;infer_instance
def mB(x:Int):Prop:=x=5\/x=6
instance (x:Int):Decidable (mB x):=by unfold mB;infer_instance
theorem TJ(x:Int):Vk 5000 x=some (decide (mB x)):=by unfold Vk;congr 1;rw[Bool.eq_iff_iff];rw[bz];simp only[gz,nh,mB]
def gX(j:aM)(what a:Int)(ok:Bool)(ns:Int):aM:=
  { j with
    State:=ns
    aJ:=j.aJ+1
    Ok:=if what=5 then ok else if what=6\/what=8\/what=7/\j.State=3 then false else j.Ok
    cG:=if what=6 then true else if what=7 then false else j.cG
    Start:=if what=3 then a else if what=4 then 0 else j.Start
    End:=if mB ns then a else j.End }
theorem Pd{j:aM}(h:gn j){what i:Int}(hn:0<=i/\i<=1099511627776)(ok:Bool){ns:Int}(hs:ze j.State what=some ns)(E:j.aJ<281474976710656):gn (gX j what i ok ns):=by
 have r:=h.version;have t:=h.start;have u:=h.fin;have v:=h.state.start;have w:=h.state.fin;have y:=h.state.ok;have z:=h.state.kill;have g:(what=1/\j.State=1/\ns=2)\/(what=2/\j.State=2/\ns=1)\/(what=3/\j.State=1/\ns=3)\/(what=4/\j.State=3/\ns=1)\/(what=5/\j.State=3/\ns=4)\/(what=6/\j.State=3/\ns=4)\/(what=6/\Dm j.State/\ns=6)\/(what=7/\(j.State=3\/j.State=4)/\ns=5)\/(what=8/\j.State=4/\ns=6):=by
  unfold ze at hs;split at hs
  ·simp_all
  split at hs
  ·simp_all
  split at hs
  ·simp_all
  split at hs
  ·simp_all
  split at hs
  ·simp_all
  split at hs
  ·simp_all
  grind
 have f:j.State<4->j.Ok=false:=λo=>by grind
 have d:j.State<4->j.cG=false:=λo=>by grind
 have p:Dm j.State->j.State<3:=λA=>by rcases A with e | e <;> omega
 refine ⟨h.id,h.user,h.queue,h.many,h.need,h.ux,h.wall,h.mO,h.after,by grind [gX],h.born,?_,?_,h.arr,?_⟩
 ·simp only[gX];omega
 ·simp only[gX];omega
 ·have st0:j.State<3->j.Start=0:=λo=>yCo λq=>by omega
  have a:j.State<5->j.End=0:=λo=>yCo λq=>by omega
  rcases g with ⟨rfl,e,rfl⟩ | ⟨rfl,e,rfl⟩ | ⟨rfl,e,rfl⟩ | ⟨rfl,e,rfl⟩ | ⟨rfl,e,rfl⟩ | ⟨rfl,e,rfl⟩ | ⟨rfl,e,rfl⟩ | ⟨rfl,e,rfl⟩ | ⟨rfl,e,rfl⟩
  ·constructor <;> simp[gX,mB,f (by omega),d (by omega),st0 (by omega),a (by omega)]
  ·constructor <;> simp[gX,mB,f (by omega),d (by omega),st0 (by omega),a (by omega)]
  ·constructor <;> simp[gX,mB,f (by omega),d (by omega),st0 (by omega),a (by omega)]
  ·constructor <;> simp[gX,mB,f (by omega),d (by omega),a (by omega)]
  ·constructor <;> simp[gX,mB,d (by omega),a (by omega)]
  ·constructor <;> simp[gX,mB,a (by omega)]
  ·have:=p e;constructor <;> simp[gX,mB,f (by omega),d (by omega),st0 (by omega),a (by omega)]
  ·constructor <;> simp[gX,mB]
  ·constructor <;> simp[gX,mB]
theorem WQ{j:aM}(h:gn j){what a:Int}(hn:0<=a/\a<=1099511627776)(ok:Bool) :
  bR (Ab 5000 j what a ok) λr=>(r.2≠0/\(ze j.State what=none\/j.aJ=281474976710656))\/∃ns,ze j.State what=some ns/\j.aJ<281474976710656/\r=(gX j what a ok ns,0):=by
 have e:=h.version;have p:=h.mO;unfold Ab;dsimp only[fA];rw[tY h,aw,if_neg (by simp)];simp only[NI,aw];rw[if_neg (by simp_all),Uo,aw];cases hs:ze j.State what with
 |none=>rw[if_pos (by simp),bg];simp_all
 |some ns=>
  dsimp only[Option.isSome,Option.getD];rw[if_neg (by simp),bx];refine ⟨λf=>by grind [bg],λf=>?_⟩;simp only[nh] at f;rw[show zaD 5000 j.aF=some j.aF from FR (by omega),aw,wr (x:=j.aJ+1) (by omega) (by omega)];simp only[TJ,aw,nh,Jt,ne_eq,im,bz];have fin:∀(o k:Bool)(t:Int),o=(if what=5 then ok else if what=6\/what=8\/what=7/\j.State=3 then false else j.Ok)->k=(if what=6 then true else if what=7 then false else j.cG)->t=(if what=3 then a else if what=4 then 0 else j.Start) ->
    bR (if mB ns then some (({ Id:=j.Id,cu:=j.cu,Queue:=j.Queue,aL:=j.aL,ay:=j.ay,aO:=j.aO,aF:=j.aF,State:=ns,Ok:=o,cG:=k,aJ:=j.aJ+1,cI:=j.cI,Start:=t,End:=a,Array:=j.Array }:aM),(0:Int)) else some (({ Id:=j.Id,cu:=j.cu,Queue:=j.Queue,aL:=j.aL,ay:=j.ay,aO:=j.aO,aF:=j.aF,State:=ns,Ok:=o,cG:=k,aJ:=j.aJ+1,cI:=j.cI,Start:=t,End:=j.End,Array:=j.Array }:aM),(0:Int)))
     λr=>(r.2≠0/\((some ns:Option Int)=none\/j.aJ=281474976710656))\/∃d,(some ns:Option Int)=some d/\j.aJ<281474976710656/\r=(gX j what a ok d,0):=λo k t g hk i=>by
   subst g hk i;rw[bx];refine ⟨λq=>?_,λq=>?_⟩ <;> rw[bg] <;> refine .inr ⟨ns,rfl,by omega,?_⟩ <;> simp only[gX,q,if_true,cr]
  grind
structure AS (st:ca) (F:List aD):Prop where
 Nd:zD F.length st.ae
 xh:F.length<=300
 Wa:∀r∈F,aN r
 nodes:0<=st.az.ai
 now:0<=st.aX/\st.aX<=1099511627776
theorem good_of{s:bm}{st:ca}(q:aY s st):zD s.ai.length st.ae:=λa d=>by obtain ⟨j,hj,P⟩:=q.cn.mem a d;exact ⟨P.kJ.shares,by rw[P.need];exact (q.bq.each j hj).ok.need⟩
theorem zM{s:bm}{st:ca}(q:aY s st):∀r∈aV s.ai st.ae,aN r:=λr a=>by
 obtain ⟨i,hi,rfl⟩:=iW a;have hn:i<s.ai.length:=by grind [ZE]
 refine rB.2 λc=>?_;rw[kf hn hi c];have h1:=(nZ q.cn q.spec.nodes.ok).2 i hn c;have h2:=vx (good_of q) i c;have h3:=rB.1 (q.spec.nodes.ok _ (bC hn)) c;omega
variable{s:bm}{st st':ca}
theorem f_.up{j:aM}(h:f_ s st j)(o:st.Next<=st'.Next)(i:st'.aX=st.aX):f_ s st' j:=
 ⟨h.ok,by have:=h.next;omega,h.user,h.queue,by rw[i];exact h.born,by rw[i];exact h.start,by rw[i];exact h.fin,h.version⟩
theorem eV.up{j:aM}{a:bV}(h:eV s st j a)(e:st'.aX=st.aX):eV s st' j a:=⟨h.Ej,h.need,h.kJ,by rw[e];exact h.now⟩
theorem mem_set{l:List aM}{k:Nat}{j x:aM}(h:x∈l.set k j):x=j\/x∈l:=by grind
theorem idsC{l:List aM}{k:Nat}(hk:k<l.length){j:aM}(e:j.Id=l[k].Id){d:Int}(h:∃i∈l,i.Id=d):∃i∈l.set k j,i.Id=d:=by grind [List.mem_iff_getElem]
theorem LM{l:List aM}(hs:bW l){k:Nat}(hk:k<l.length){j x:aM}(h:x∈l.set k j):x=j\/x∈l/\x.Id≠l[k].Id:=by
 obtain ⟨m,hm,rfl⟩:=iW h;rw[WC] at hm;by_cases c:k=m
 ·simp_all
 ·rw[yBM c];exact .inr ⟨bC _,λe=>c (hs.inj hm hk e).symm⟩
structure Vr (s:bm) (st:ca) (o j:aM):Prop where
 id:j.Id=o.Id
 Nz:f_ s st j
 fits:j.State<5->jk 5000 s j.Queue j.aL j.ay=some true
 after:j.aF=o.aF
 live:j.State<5->o.State<5
theorem Vr.waits{k:Nat}(hk:k<st.aj.length){j:aM}(r:Vr s st st.aj[k] j)(q:aY s st)(e:st'.aj=st.aj.set k j):∀x∈st'.aj,Gc s st' x:=by
 intro x o hs;rw[e] at o;have up:∀d,(∃i∈st.aj,i.Id=d)->∃i∈st'.aj,i.Id=d:=λd h=>by rw[e];exact idsC hk r.id h
 rcases mem_set o with rfl | o
 ·refine ⟨r.fits hs,λd u=>up _ ?_⟩;rw[r.after] at u;exact (q.waits _ (bC hk) (r.live hs)).after d u
 ·have:=q.waits x o hs;exact ⟨this.fits,λd u=>up _ (this.after d u)⟩
theorem Vr.bq{k:Nat}(hk:k<st.aj.length){j:aM}(r:Vr s st st.aj[k] j)(q:aY s st)(e:st'.aj=st.aj.set k j)(u:st'.Next=st.Next)(o:st'.aX=st.aX):dw s st':=by
 refine ⟨by rw[e,WC];exact q.bq.len,λx i=>?_,by rw[e];exact Pb q.bq.bN hk r.id⟩;rw[e] at i;rcases mem_set i with rfl | i
 ·exact r.Nz.up (by omega) o
 ·exact (q.bq.each x i).up (by omega) o
theorem asc_at{A:List bV}(h:zT A):∀i (hi:i<A.length),∀m (h:m<A.length),m+1=i->A[m].aW<A[i].aW:=λi hi m hm e=>by
 have:=yBh.1 h m i (by simp_all) (by simp_all) (by omega)
 simp_all
end Go.Plain
end
section
namespace Go.Plain
open Go.Abs
theorem LX{α:Type}{L:List (Int×α)}(hn:(L.map Prod.fst).Nodup){k:Int}{a:α}(h:(k,a)∈L):dq L k=some a:=by
 induction L with
 |nil=>cases h
 |cons p L ih=>
  obtain ⟨d,e⟩:=p;rw[ql,List.nodup_cons] at hn;simp only[dq]
  grind
theorem Hl{α:Type}{L:List (Int×α)}{k:Int}{a:α}(h:dq L k=some a):(k,a)∈L:=by
 induction L with
 |nil=>simp[dq] at h
 |cons p L ih=>grind [Go.Abs.dq]
theorem Gj{α:Type}{L M:List (Int×α)}(h:L.Perm M)(hn:(M.map Prod.fst).Nodup)(k:Int):dq L k=dq M k:=by
 have d:(L.map Prod.fst).Nodup:=((h.map Prod.fst).nodup_iff).2 hn;cases hl:dq L k with
 |some a=>grind [LX,Hl]
 |none=>
  cases hm:dq M k with
  |none=>rfl
  |some a=>grind [LX,Hl]
theorem XK{L:List (Int×bV)}{A:List bV}(h:L.Perm (mapA A))(a:zT A):a_ 5000 L=a_ 5000 (mapA A):=by
 have d:((mapA A).map Prod.fst).Nodup:=by
  have e:(mapA A).map Prod.fst=A.map (·.aW):=by simp[mapA]
  rw[e];exact a.imp λh=>by omega
 have f:yB (λk=>k) L=yB (λk=>k) (mapA A):=by
  unfold yB;have c:(L.length<=1000000/\(L.map Prod.fst).Nodup/\∀p∈L,(Lit.int .i64 p.1).wf=true)↔((mapA A).length<=1000000/\((mapA A).map Prod.fst).Nodup/\∀p∈mapA A,(Lit.int .i64 p.1).wf=true):=by grind [List.Perm.length_eq]
  by_cases g:(L.length<=1000000/\(L.map Prod.fst).Nodup/\∀p∈L,(Lit.int .i64 p.1).wf=true)
  ·rw[if_pos g,if_pos (c.1 g)]
   grind [Go.mergeSort_of_perm_i]
  grind
 grind [Go.Abs.a_,Gj]
section
variable{s:bm}{st:ca}(q:aY s st){L:List (Int×bV)}(hL:L.Perm (mapA st.ae))
include q hL
theorem Jn:Th 5000 st.az.aq st.aj L st.aX st.Next st.dE st.aB st.kH st.az.ai=some st:=by have a:=ZG q;have:=Xj (WM a q);unfold Th at this ⊢;rw[XK hL (Az q)];exact this
omit hL in
theorem Ur{a b:aM}(d:a∈st.aj)(hb:b∈st.aj)(h:a.Id=b.Id):a=b:=by
 obtain ⟨i,hi,rfl⟩:=iW d;obtain ⟨j,hj,rfl⟩:=iW hb;have:=q.bq.bN.inj hi hj h
 simp_all
theorem Wz(h30:st.aj.length<=30):∃r,zbt 5000 st.az.aq st.aj L s.ai s.aH s.aq s.aR s.am.kF s.am.cT s.am.fC s.am.bL s.bS s.Mode s.aj s.jG s.aI s.bo s.dg s.In s.Out s.bT st.aX st.Next st.dE st.aB st.kH st.az.ai=some r/\r.Perm (st.aj.filter (Ax st.aj)):=by have a:=ZG q;have hl:=a.bq;have e:∀j∈st.aj.filter (Ax st.aj),gn j:=λj hj=>(q.bq.each j (ND.1 hj).1).ok;have d:(st.aj.filter (Ax st.aj)).length<=30:=kj (yCg _ _) h30;obtain ⟨r,f,hp⟩:=SL a.spec q.spec { aX:=st.aX,kH:=st.kH } e (by omega);refine ⟨r,?_,hp⟩;unfold zbt;rw[Jn q hL,aw,Sy hl q.bq.bN a.after,aw,Rt _ _ (by grind),Aj,mj a.spec,aw,f];rfl
end
def Ad(s:bm)(l:List aM)(id:Int):Bool:=match l.find? λj=>j.Id == id with
 |some j=>Ax l j&&(lO 5000 s l j).getD false
 |none=>false
theorem find_ix{l:List aM}(hs:bW l){i:Nat}(hi:i<l.length):(l.find? λj=>j.Id == l[i].Id)=some l[i]:=by
 cases h:l.find? (λj=>j.Id == l[i].Id) with
 |none=>
  have:=List.find?_eq_none.1 h _ (bC hi)
  simp_all
 |some j=>
  have h1:=List.find?_some h;simp only[nh] at h1;obtain ⟨k,hk,rfl⟩:=iW (yB9 h);have:=hs.inj hk hi h1
  simp_all
theorem Uz{s:bm}{l:List aM}{id:Int}(h:Ad s l id=true):∃i,∃hi:i<l.length,l[i].Id=id/\Ax l l[i]=true/\l[i].State=1:=by
 unfold Ad at h;cases e:l.find? (λj=>j.Id == id) with
 |none=>simp_all
 |some j=>
  rw[e] at h;simp only[bI] at h;have h1:=List.find?_some e;simp only[nh] at h1;obtain ⟨i,hi,rfl⟩:=iW (yB9 e);refine ⟨i,hi,h1,h.1,?_⟩;have:=h.1;unfold Ax at this
  simp_all
theorem Yz(s:bm)(l:List aM){K:aM->Option Bool}(id:Int):∀r:List aM,ZZ (λ(d:aM) (e:Unit) f=>if (d.Id == id)=true then K d else f ()) (λ(e:Unit)=>some false) r ()=match r.find? λj=>j.Id == id with
  |some j=>K j
  |none=>some false
 |[]=>rfl
 |a :: r => by
  unfold ZZ;rw[List.find?_cons];cases h:(a.Id == id) with
  |true=>simp_all
  |false=>rw[if_neg (by simp)];exact Yz s l id r
theorem mayV{s:bm}{st:ca}(q:aY s st){L:List (Int×bV)}(hL:L.Perm (mapA st.ae))(id:Int) :
  zd4 5000 st.az.aq st.aj L id s.ai s.aH s.aq s.aR s.am.kF s.am.cT s.am.fC s.am.bL s.bS s.Mode s.aj s.jG s.aI s.bo s.dg s.In s.Out s.bT st.aX st.Next st.dE st.aB st.kH st.az.ai=some (Ad s st.aj id):=by
 have a:=ZG q;have hl:=a.bq;unfold zd4;rw[Jn q hL,aw,Sy hl q.bq.bN a.after,aw];refine (Yz s st.aj (K:=λd=>(zaM 5000 s.ai s.aH s.aq s.aR s.am.kF s.am.cT s.am.fC s.am.bL s.bS s.Mode s.aj s.jG s.aI s.bo s.dg s.In s.Out s.bT).bind λf=>(lO 5000 f st.aj d).bind λg=>some g) id _).trans ?_;have h:∀j∈st.aj,j.Id=id->∀x∈st.aj,x.Id=id->x=j:=λj hj e x i o=>Ur q i hj (o.trans e.symm);unfold Ad;cases e:st.aj.find? (λj=>j.Id == id) with
 |none=>grind
 |some j=>
  have h1:=List.find?_some e;simp only[nh] at h1;have hj:=yB9 e;obtain ⟨b,p⟩:=FE a.spec q.spec hl j;by_cases r:Ax st.aj j=true
  ·have:(st.aj.filter (Ax st.aj)).find? (λj=>j.Id == id)=some j:=by
    cases t:(st.aj.filter (Ax st.aj)).find? (λj=>j.Id == id) with
    |none=>simp_all
    |some x=>grind
   grind [mj,lw.spec]
  grind
section
variable{l:List aM}
theorem set_ok(hl:l.length<=300)(hs:bW l){k:Nat}(hk:k<l.length){j:aM}(hj:gn j)(a:j.Id=l[k].Id):zcS 5000 l j=some (l.set k j,0):=by have:=hj.mO;unfold zcS;rw[tY hj,aw,if_neg (by simp),a,Hs hl hs hk,aw];dsimp only;rw[if_neg (by simp),CA (by omega),aw,bY hk,aw,yCl]
theorem PM(hl:l.length<=300)(hs:bW l){k:Nat}(hk:k<l.length){j:aM}(hj:gn j)(d:j.Id=l[k].Id){Q:List Int}(a:pT Q) :
  zb6 5000 Q l l[k] j=some (l.set k j,nW Q l[k].Queue j.Queue,0):=by
 unfold zb6;rw[set_ok hl hs hk hj d,aw];dsimp only;rw[if_neg (by simp),LJ a,aw];dsimp only[fA];unfold nW;by_cases h:j.Queue=l[k].Queue
 ·simp_all
 ·rw[if_pos (by simp_all),if_neg h,LJ (Gu a _),aw]
end
def wN(A:List bV)(a:bV):List bV:=match A with
 |[]=>[a]
 |b::A=>if b.aW<a.aW then b::wN A a else a::b::A
theorem jq(A:List bV)(a:bV):(wN A a).Perm (a::A):=by
 induction A with
 |nil=>exact List.Perm.refl _
 |cons b A ih=>grind [wN]
theorem ki{A:List bV}{a x:bV}:x∈wN A a↔x=a\/x∈A:=by rw[(jq A a).mem_iff,gu]
theorem XN{A:List bV}{a:bV}(h:zT A)(hn:∀b∈A,b.aW≠a.aW):zT (wN A a):=by
 induction A with
 |nil=>simp[wN,zT]
 |cons b A ih=>
  unfold zT at h ih ⊢;rw[ql,yBw] at h;unfold wN;split
  ·rename_i g;rw[ql,yBw];refine ⟨λx e=>?_,ih h.2 λc d=>hn c (nS _ d)⟩;obtain ⟨c,d,rfl⟩:=iP.1 e;rcases ki.1 d with rfl | d
   ·exact g
   simp_all
  grind [List.pairwise_cons]
theorem qS{A B:List bV}(h:A.Perm B)(i:Int)(c:Nat):cw A i c=cw B i c:=by
 induction h with
 |nil=>rfl
 |cons x _ ih=>grind [Zn]
 |swap x y l=>simp only[Zn];omega
 |trans _ _ h1 h2=>omega
theorem msetV{α:Type}{L:List (Int×α)}{k:Int}{a:α}(h:dq L k=none):kr L k a=L++[(k,a)]:=by
 induction L with
 |nil=>rfl
 |cons p L ih=>
  obtain ⟨d,f⟩:=p;simp only[dq] at h;split at h
  ·simp at h
  ·rename_i e;simp only[kr,if_neg e,ih h,JS]
def oX(j:aM)(a:Int):aM:=gX j 3 a false 3
def dM(j:aM)(sh:List dj):bV:={ aW:=j.Id,ay:=j.ay,ah:=sh }
def gP(st:ca)(k:Nat)(j:aM)(sh:List dj):ca:=
 { st with aj:=st.aj.set k (oX j st.aX),ae:=wN st.ae (dM j sh),az:={ aq:=nW st.az.aq j.Queue j.Queue,ai:=ON st.az.ai } }
section
variable{s:bm}{st:ca}(q:aY s st){k:Nat}(hk:k<st.aj.length)(h1:st.aj[k].State=1){sh:List dj}(hs:jC s st.aj[k] sh)(hf:um (aV s.ai st.ae) (dM st.aj[k] sh))
include q hk h1
theorem LU:∀a∈st.ae,a.aW≠st.aj[k].Id:=λa d e=>by
 obtain ⟨R,H⟩:=JJ q.spec q.bq q.cn;have:=(H _ (bC hk)).has.1 ⟨a,d,e⟩
 grind [sM]
theorem Si:st.aj[k].aJ<281474976710656:=by have j:=q.bq.each _ (bC hk);have:=j.version;have:=DD st.aj[k].State;have:=q.spec.tO;omega
theorem BL:gn (oX st.aj[k] st.aX):=by have j:=q.bq.each _ (bC hk);exact Pd j.ok q.nums.now false (ns:=3) (by rw[h1];rfl) (Si q hk h1)
include hs hf
theorem Of:aV s.ai (gP st k st.aj[k] sh).ae=kL (aV s.ai st.ae) (dM st.aj[k] sh):=by
 show aV s.ai (wN st.ae (dM st.aj[k] sh))=_;refine yCq (by grind [ZE,ZF]) λi h1 h2=>OH λc=>?_;have hn:i<s.ai.length:=by grind [ZE]
 rw[kf hn h1 c,mT h2,qi,Ci,zr,kf hn (by grind [ZE]) c,qS (jq ..),Zn];omega
theorem VF{L:List (Int×bV)}(hL:L.Perm (mapA st.ae)):∃r,zaS 5000 st.az.aq st.aj L st.aj[k].Id sh s.ai s.aH s.aq s.aR s.am.kF s.am.cT s.am.fC s.am.bL s.bS s.Mode s.aj s.jG s.aI s.bo s.dg s.In s.Out s.bT st.aX st.az.ai (aV s.ai st.ae) =
   some (r,(gP st k st.aj[k] sh).az.aq,(gP st k st.aj[k] sh).aj,0,aV s.ai (gP st k st.aj[k] sh).ae,(gP st k st.aj[k] sh).az.ai)/\r.Perm (mapA (gP st k st.aj[k] sh).ae):=by
 have u:=ZG q;have hl:=u.bq;have w:=q.bq.each _ (bC hk);have f:=w.ok;have U:=f.mO;have sl:sh.length<=300:=by have:=m_ hs.shares (by omega);have:=q.spec.nodes.hi;omega
 have i:=Az q;have none:dq L st.aj[k].Id=none:=by
  rw[Gj hL (by
   have e:(mapA st.ae).map Prod.fst=st.ae.map (·.aW):=by simp[mapA]
   rw[e];exact i.imp λh=>by omega)]
  grind [GL,LU]
 obtain ⟨W,y,A⟩:=KW u.spec q.spec st.aj[k] sh sl;have:=A.2 hs;subst this;obtain ⟨E,G,K⟩:=WQ f (what:=3) q.nums.now false;have N:ze st.aj[k].State 3=some 3:=by rw[h1];rfl
 have o:E=(oX st.aj[k] st.aX,0):=by
  rcases K with ⟨_,g | g⟩ | ⟨X,d,_,p⟩
  ·simp_all
  ·have:=Si q hk h1;omega
  ·rw[N] at d;injection d with d
   subst d;exact p
 subst o;have O:=zM q;obtain ⟨v,P,d,p⟩:=Jp (M:=L) (a:=dM st.aj[k] sh) (F:=aV s.ai st.ae) (by rw[ZE];have:=q.spec.nodes.hi;omega) sl O;have Q:tR L (aV s.ai st.ae) (dM st.aj[k] sh):=by
  refine ⟨f.id,λe=>?_,by rw[ZE];exact hs.shares,f.need,none,hf⟩;have R:sh=[]:=e;have t:=hs.TU;rw[R] at t;have:=f.many
  grind [kz]
 have z:=d.2 Q;obtain ⟨m1,T⟩:=p z;refine ⟨v.1,?_,?_⟩
 ·unfold zaS;rw[get_some hl q.bq.bN hk (by omega),aw];dsimp only;rw[if_neg (by simp),if_neg (by simp[h1])];rw[show gp 5000 ({ ai:=s.ai,aH:=s.aH,aq:=s.aq,aR:=s.aR,am:=({ kF:=s.am.kF,cT:=s.am.cT,fC:=s.am.fC,bL:=s.am.bL }:Pt),bS:=s.bS,Mode:=s.Mode,aj:=s.aj,jG:=s.jG,aI:=s.aI,bo:=s.bo,dg:=s.dg,In:=s.In,Out:=s.Out,bT:=s.bT }:bm) st.aj[k] sh=some true from y,wh,if_neg (by simp),G,wh,if_neg (by simp)];rw[show zaW 5000 L ({ aW:=st.aj[k].Id,ay:=st.aj[k].ay,ah:=sh }:bV) (aV s.ai st.ae)=some v from P,wh,if_neg (by simp[z]),LR q.use.nodes.1,wh,PM hl q.bq.bN hk (BL q hk h1) rfl q.use.stamps,wh];rw[Of q hk h1 hs hf,T.eq];rfl
 ·rw[m1];show (kr L st.aj[k].Id (dM st.aj[k] sh)).Perm _;rw[msetV none];show (L++[(st.aj[k].Id,dM st.aj[k] sh)]).Perm (mapA (wN st.ae (dM st.aj[k] sh)));refine List.Perm.trans ?_ ((jq st.ae (dM st.aj[k] sh)).map _).symm;exact (yCi.trans (List.Perm.cons _ hL))
theorem Kz(hcl:∀x∈sh,∀b∈st.aB,b.Node=x.Node->¬b.bO<st.aX+st.aj[k].aO):aY s (gP st k st.aj[k] sh):=by
 obtain ⟨R,H⟩:=JJ q.spec q.bq q.cn;have g:=q.bq.each _ (bC hk);have w:=BL q hk h1;have p:=Az q;have t:=LU q hk h1;have Nd:=R.Nd;have ver:=g.version;rw[h1] at ver;have r:Vr s st st.aj[k] (oX st.aj[k] st.aX):=by refine ⟨rfl,⟨w,g.next,g.user,g.queue,g.born,Pu _,g.fin,?_⟩,λ_=>(q.waits _ (bC hk) (by omega)).fits,rfl,λ_=>by omega⟩;show st.aj[k].aJ+1<=s.aI+i_ 3;have:i_ 1=0:=rfl;have:i_ 3=1:=rfl;omega
 have J:=r.bq (st':=gP st k st.aj[k] sh) hk q rfl rfl rfl;have o:zT (wN st.ae (dM st.aj[k] sh)):=XN p t;have u:=g.ok.wall;have v:∀(i:Nat)(hi:i<s.ai.length) c,cw (dM st.aj[k] sh::st.ae) i c<=cmp c s.ai[i]:=λi hi c=>by
  have hl:i<(aV s.ai st.ae).length:=by grind [ZE]
  have:=rB.1 (hf i hl) c;rw[qi,Ci,zr,kf hi hl c] at this
  grind [Zn]
 refine ⟨q.spec,⟨q.nums.now,q.nums.next,q.nums.book⟩,J,r.waits hk q rfl,Wu q.spec J ⟨λi hi=>?_,λi hi c=>?_⟩ λx f=>?_,⟨q.jh.cM,q.jh.live,λa d=>?_⟩,⟨q.use.len,q.use.use,by show (nW _ _ _).length=_;rw[Nh];exact q.use.qlen,Sl q.use.nodes,Qd q.use.stamps _ _⟩⟩
 ·have hm:∀a∈wN st.ae (dM st.aj[k] sh),(∃j∈(gP st k st.aj[k] sh).aj,j.Id=a.aW)/\ba a.ah s.ai.length/\aN a.ay:=λa d=>by
   rcases ki.1 d with rfl | d
   ·exact ⟨⟨oX st.aj[k] st.aX,Nx.2 ⟨k,by show k<(st.aj.set k _).length;simp_all,yBC _⟩,rfl⟩,hs.shares,g.ok.need⟩
   ·obtain ⟨x,f,P⟩:=q.cn.mem _ d;exact ⟨idsC hk r.id ⟨x,f,P.Ej.symm⟩,Nd _ d⟩
  obtain ⟨m1,y,z⟩:=hm _ (bC hi);exact ⟨asc_at o i hi,m1,y,z⟩
 ·show cw (wN st.ae (dM st.aj[k] sh)) i c<=_
  grind [qS,jq]
 ·rcases LM q.bq.bN hk f with rfl | ⟨f,c⟩
  ·refine ⟨⟨λ_=>rfl,λ_=>⟨_,ki.2 (.inl rfl),rfl⟩⟩,λa d e=>?_⟩;rcases ki.1 d with rfl | d
   ·exact ⟨rfl,rfl,⟨hs.shares,hs.TU,hs.q,hs.part⟩,by show st.aX<st.aX+st.aj[k].aO;omega⟩
   ·exact absurd e (t a d)
  ·have h:=H x f;refine ⟨⟨λ⟨a,d,e⟩=>?_,λA=>?_⟩,λa d e=>?_⟩
   ·rcases ki.1 d with rfl | d
    ·exact absurd e.symm c
    ·exact h.has.1 ⟨a,d,e⟩
   ·obtain ⟨a,d,e⟩:=h.has.2 A;exact ⟨a,ki.2 (.inr d),e⟩
   ·rcases ki.1 d with rfl | d
    ·exact absurd e.symm c
    ·exact (h.YN a d e).up rfl
 ·intro x f e;rcases ki.1 d with rfl | d
  ·rcases LM q.bq.bN hk f with rfl | ⟨f,c⟩
   ·exact hcl
   ·exact absurd e c
  ·rcases mem_set f with rfl | f
   ·exact absurd (show a.aW=st.aj[k].Id from e.symm) (t a d)
   ·exact q.jh.yU a d x f e
end
def B_(q:jt)(w:AB):fY×Bool:=(zaP 5000 q w).getD ({ aW:=0,At:=0,ah:=[] },false)
section
variable{nodes:List (List bM)}{q:jt}{L:Nat}(hL:L<=200)(hq:pK q)(hp:PR nodes q L)
include hL hq hp
theorem RI{w:AB}(a:gL q w):zaK 5000 nodes w.Part w.aL w.ay w.aO q.aX q.S.aH=some (B_ q w)/\zaP 5000 q w=some (B_ q w)/\∃T,CO q T/\vl q w T (B_ q w):=by grind [Wx,B_]
structure zg (q:jt) (w:AB) (cK:Int) (sh:List dj):Prop where
 lo:q.aX<=cK
 hi:cK<=1099511627776
 shares:ba sh q.S.ai.length
 TU:kz sh=w.aL
 part:∀y∈sh,y.Node∈cA q w
 fit:∀(k:Nat)(h:k<q.S.ai.length)(t:Int),cK<=t->t<cK+w.aO->wW (mulR (dm sh k) w.ay) (bH q k t)
theorem Xx{w:AB}(a:gL q w){t:Int}(i:q.aX<=t)(f:(cJ q w t).2=true):zg q w t (cJ q w t).1:=by
 have o:=Zo hL hq hp a f;obtain ⟨F,p,h,_,e⟩:=CB (by omega) hq hp a i o;have w1:cJ q w t=BY F (cA q w) w.aL w.ay:=by grind [cJ]
 have M:=hq.spec.parts.ok _ (jZ a).2;rw[w1] at f ⊢;obtain ⟨p1,r,v,z⟩:=Tk h (by grind [FZ.len]) a.need a.ux f;rw[p.len] at p1;refine ⟨i,o,p1,r,v,λk hk u A E=>?_⟩;have d:k<F.length:=by grind [FZ.len]
 have G:aN (bH q k u):=hp.right k u (by omega) (by omega) (by omega);refine mulR_le (xU (λy K=>by have:=p1.mem y K;omega) _) a.need ?_ G;rcases z k d with g | g
 ·left;intro c;have h1:=(p.low k d).le u _ A E rfl c;have h2:=g c;omega
 omega
theorem zu{w:AB}(a:gL q w)(h:(B_ q w).2=true):zg q w (B_ q w).1.At (B_ q w).1.ah:=by obtain ⟨_,_,T,d,e⟩:=RI hL hq hp a;obtain ⟨f,g,_,_,i⟩:=e.yes h;rw[i];exact Xx hL hq hp a ((d.mem _).1 f).1 g
end
def iM(j:aM)(p:fY):D_:={ bO:=p.At,To:=p.At+j.aO,ay:=j.ay,ah:=p.ah }
theorem KQ{q:jt}{w:AB}{j:aM}{p:fY}(h:zg q w p.At p.ah)(hj:gn j)(hq:pK q):qv (iM j p) q.S.ai.length:=by
 have n:=hq.now;have a:=hj.wall;have d:=h.lo;have hi:=h.hi;have nn:=hq.spec.nodes.hi;refine ⟨h.shares,?_,hj.need,?_,?_⟩
 ·have:=m_ h.shares (by omega);show p.ah.length<=300;omega
 ·show 0<=p.At;omega
 ·show p.At+j.aO<=_;omega
theorem Kg{q:jt}{u:D_}(hq:pK q)(d:qv u q.S.ai.length)(hl:q.L.length+1≤100):pK (pM q u):=
 ⟨hq.spec,hq.now,hq.cM,fun v a=>by
  rcases ld.1 a with a | a
  ·exact hq.used v a
  ·rw [zK.1 a]; exact d,by show (q.L++[u]).length≤100; simp_all⟩
section
variable{nodes:List (List bM)}{q:jt}{L:Nat}(hL:L<=200)(hq:pK q)(hp:PR nodes q L){st:ca}{j:aM}(hj:f_ q.S st j)
include hL hq hp hj
theorem MO{r:fY×Bool}(h:r.2=true):(named j r).1={ aW:=j.Id,At:=r.1.At,ah:=r.1.ah }/\(named j r).2=true:=by unfold named;simp_all
theorem rp:YE 5000 nodes j q.S.ai q.S.aH q.S.aq q.S.aR q.S.am.kF q.S.am.cT q.S.am.fC q.S.am.bL q.S.bS q.S.Mode q.S.aj q.S.jG q.S.aI q.S.bo q.S.dg q.S.In q.S.Out q.S.bT q.aX q.S.aH=some (named j (B_ q (cY q.S j))):=by
 have d:=vr hq.spec rfl hj;obtain ⟨a,_,_⟩:=RI hL hq hp d;obtain ⟨i,e,f⟩:=tV ⟨hj.ok.queue.1,hj.queue⟩;have g:=hj.queue;have h:=hj.ok.queue.1;rw[f] at a ⊢;unfold YE;rw[mj (jY hq.spec),aw,if_neg (by simp_all),e,aw];dsimp only at a ⊢;rw[a,aw];unfold named
 grind
end
structure CX where
 st:ca
 q:jt
 P:List fY
 S:List fY
def Oe(l:List aM)(id:Int):Nat:=l.findIdx λj=>j.Id == id
def ou(st:ca)(j:aM)(sh:List dj):ca:=gP st (Oe st.aj j.Id) j sh
def dF(s:bm)(q:jt)(j:aM):fY×Bool:=named j (B_ q (cY s j))
def zc(s:bm)(x:CX)(j:aM):CX:=
 if Ad s x.st.aj j.Id=true then
  if (dF s x.q j).2=true then
   if (dF s x.q j).1.At > x.q.aX then { st:=x.st,q:=pM x.q (iM j (dF s x.q j).1),P:=x.P++[(dF s x.q j).1],S:=x.S }
   else { st:=ou x.st j (dF s x.q j).1.ah,q:=pM x.q (iM j (dF s x.q j).1),P:=x.P,S:=x.S++[(dF s x.q j).1] }
  else x
 else x
theorem Cy{l:List aM}(hs:bW l){i:Nat}(hi:i<l.length):Oe l l[i].Id=i:=by unfold Oe;have h:l.findIdx (λj=>j.Id == l[i].Id)<l.length:=List.findIdx_lt_length.2 ⟨l[i],bC hi,by simp⟩;have:=List.findIdx_getElem (w:=h);simp only[nh] at this;exact hs.inj h hi this
structure gq (s:bm) (st0:ca) (x:CX) (n:Nat):Prop where
 sound:aY s x.st
 now:x.st.aX=st0.aX
 next:x.st.Next=st0.Next
 book:x.st.dE=st0.dE
 cM:x.st.aB=st0.aB
 use:x.st.kH=st0.kH
 len:x.st.aj.length=st0.aj.length
 bq:∀m (h:m<x.st.aj.length) (h':m<st0.aj.length),x.st.aj[m]=st0.aj[m]\/x.st.aj[m]=oX st0.aj[m] st0.aX
 ref:pK x.q
 qs:x.q.S=s
 qn:x.q.aX=st0.aX
 qb:x.q.aB=st0.aB
 xh:x.q.L.length<=30+n
 used:∀(k:Nat)(c:Nat),cw x.st.ae k c<=cmp c (bj x.q.L k st0.aX)
 xk:x.P.length+x.S.length<=n
theorem gq.up{s:bm}{st0:ca}{x:CX}{n:Nat}(h:gq s st0 x n):gq s st0 x (n+1):={ h with xh:=by have:=h.xh;omega,xk:=by have:=h.xk;omega }
theorem BD(q:jt)(u:D_)(k t:Int)(c:Nat):cmp c (bj (pM q u).L k t)=cmp c (bj q.L k t)+cmp c (jR u k t):=by grind [pM,lW,qO]
section
variable{s:bm}{st0:ca}{x:CX}{n:Nat}(I:gq s st0 x n)(q0:aY s st0)
include I q0
theorem gq.Ej{j:aM}(hj:j∈st0.aj)(hm:Ad s x.st.aj j.Id=true):∃m,∃h:m<x.st.aj.length,x.st.aj[m]=j/\j.State=1:=by
 obtain ⟨m,hm',e,_,h1⟩:=Uz hm;have hl:m<st0.aj.length:=by grind [gq.len]
 obtain ⟨i,hi,rfl⟩:=iW hj;rcases I.bq m hm' hl with g | g
 ·rw[g] at e h1;have:=q0.bq.bN.inj hl hi e
  grind
 grind [oX,gX]
end
section
variable{s:bm}{st0:ca}{x:CX}{n:Nat}(I:gq s st0 x n)(q0:aY s st0)(hn:n<=30){nodes:List (List bM)}{b:Nat}(hb:b<=200)(hp:PR nodes x.q b){j:aM}(hj:j∈st0.aj)(hm:Ad s x.st.aj j.Id=true)
include I q0 hn hb hp hj hm
structure xT (s:bm) (x:CX) (j:aM) (m:Nat) (hm:m<x.st.aj.length) (p:fY):Prop where
 cK:x.st.aj[m]=j
 one:x.st.aj[m].State=1
 kJ:jC s x.st.aj[m] p.ah
 fits:p.At=x.st.aX->um (aV s.ai x.st.ae) (dM x.st.aj[m] p.ah)
 yU:p.At=x.st.aX->∀y∈p.ah,∀b∈x.st.aB,b.Node=y.Node->¬b.bO<x.st.aX+x.st.aj[m].aO
 id:p.aW=j.Id
 place:zg x.q (cY s j) p.At p.ah
theorem mR(h:(dF s x.q j).2=true):∃m,∃hm:m<x.st.aj.length,xT s x j m hm (dF s x.q j).1:=by
 obtain ⟨m,hm',e,h1⟩:=I.Ej q0 hj hm;have K:=I.qs;have d:=I.sound.bq.each _ (bC hm');rw[e] at d;have A:f_ x.q.S x.st j:=by simp_all
 have O:gL x.q (cY s j):=vr (st:=x.st) I.sound.spec K d;have M:(B_ x.q (cY s j)).2=true:=by grind [dF,named]
 have P:=zu hb I.ref hp O M;obtain ⟨Q,_⟩:=MO hb I.ref hp A M;have pl:(dF s x.q j).1={ aW:=j.Id,At:=(B_ x.q (cY s j)).1.At,ah:=(B_ x.q (cY s j)).1.ah }:=Q;obtain ⟨R,T,v⟩:=tV (s:=s) (j:=j) ⟨d.ok.queue.1,d.queue⟩;have U:(cY s j).ay=j.ay:=by rw[v]
 have W:(cY s j).aO=j.aO:=by rw[v]
 have wm:(cY s j).aL=j.aL:=by rw[v]
 have wp:(cY s j).Part=s.aq[j.Queue.toNat].Part:=by rw[v]
 have w:=P.fit;have a:=P.shares;have X:=P.lo;rw[U,W] at w;rw[K] at a w;have xn:x.q.aX=x.st.aX:=by rw[I.qn,I.now]
 have N:=d.ok.wall;refine ⟨m,hm',e,by simp_all,?_,λp=>?_,λp=>?_,by rw[pl],by simp_all⟩
 ·rw[e,pl];refine ⟨a,by grind [zg.TU],⟨d.ok.queue.1,d.queue⟩,λy z=>?_⟩;have:=P.part y z
  grind [cA]
 ·rw[e];rw[pl] at p ⊢;dsimp only at p ⊢;intro i hi;have g:i<s.ai.length:=by grind [ZE]
  have Y:=zM I.sound;refine rB.2 λc=>?_;have l1:=rB.1 (Y _ (bC hi)) c;have o:=eW (jA a i) (rB.1 d.ok.need c);unfold qi;rw[Ci,zr];show 0<=_-dm (B_ x.q (cY s j)).1.ah i * cmp c j.ay/\_-dm (B_ x.q (cY s j)).1.ah i * cmp c j.ay<=1048576;have f:=w i g x.q.aX (by omega) (by omega) c;rw[zr] at f;have fl:cmp c (bH x.q i x.q.aX)<=cmp c (aV s.ai x.st.ae)[i]:=by
   rw[kf g hi];have u:=I.used i c;have nv:=rB.1 (I.sound.spec.nodes.ok _ (bC g)) c;unfold bH;split
   ·grind [NF,kf]
   grind [Ci,zi,gq.qn]
  omega
 ·rw[e];rw[pl] at p ⊢;dsimp only at p ⊢;intro y z bk r Z aa;obtain ⟨i,hi,rfl⟩:=iW z;have o:=JL a hi;obtain ⟨y0,y1,y2,y3⟩:=a.mem _ z;have bl:=(I.sound.jh.live _ r).2;obtain ⟨E,G,rfl⟩:=iW r;have b1:=(I.sound.jh.cM.each E G).one;have sp:=b1.span
  let t:=max x.st.aX x.st.aB[E].bO
  have t1:x.st.aX<=t:=by omega
  have t2:t<x.st.aX+j.aO:=by omega
  have hk:((B_ x.q (cY s j)).1.ah[i]).Node.toNat<s.ai.length:=by omega
  have f:=w _ hk t (by omega) (by omega);rw[yCr y0,o] at f;have mz:Dq x.q.aB ((B_ x.q (cY s j)).1.ah[i]).Node t:=⟨x.st.aB[E],by rw[I.qb,<-I.cM];omega,Z,by omega,by omega⟩;have fz:bH x.q ((B_ x.q (cY s j)).1.ah[i]).Node t=bP:=by unfold bH;grind
  rw[fz] at f;apply d.ok.ux;refine OH λc=>?_;have fc:=f c;rw[zr,NF] at fc;rw[NF];have n0:=rB.1 d.ok.need c;have:1 * cmp c j.ay<=((B_ x.q (cY s j)).1.ah[i]).aL * cmp c j.ay:=yAW y2 n0.1;omega
end
theorem gq.step{s:bm}{st0:ca}{x:CX}{n:Nat}(I:gq s st0 x n)(q0:aY s st0)(hn:n<=30){nodes:List (List bM)}{b:Nat}(hb:b<=200)(hp:PR nodes x.q b){j:aM}(hj:j∈st0.aj):gq s st0 (zc s x j) (n+1):=by
 unfold zc;split
 rotate_left
 ·exact I.up
 rename_i hm;split
 rotate_left
 ·exact I.up
 rename_i o;obtain ⟨m,hm',F⟩:=mR I q0 hn hb hp hj hm o;have A:=I.sound.bq.each _ (bC hm');have z:=A.ok;rw[F.cK] at A z;have E:qv (iM j (dF s x.q j).1) x.q.S.ai.length:=KQ F.place z I.ref;have G:=Kg I.ref E (by have:=I.xh;omega);have xh:(pM x.q (iM j (dF s x.q j).1)).L.length<=30+(n+1):=by have:=I.xh;show (x.q.L++[_]).length<=_;grind
 have M:=F.place.lo;have more:∀k c,cmp c (bj x.q.L k st0.aX)<=cmp c (bj (pM x.q (iM j (dF s x.q j).1)).L k st0.aX):=λk c=>by rw[BD];have:=If E k st0.aX c;omega
 split
 ·exact { I with
   ref:=G
   qs:=I.qs
   qn:=I.qn
   qb:=I.qb
   xh:=xh
   used:=λk c=>Int.le_trans (I.used k c) (more k c)
   xk:=by have:=I.xk;grind }
 ·rename_i O;have cK:(dF s x.q j).1.At=x.st.aX:=by grind [gq.qn,gq.now]
  have Q:Oe x.st.aj j.Id=m:=by rw[<-F.cK];exact Cy I.sound.bq.bN hm'
  have R:ou x.st j (dF s x.q j).1.ah=gP x.st m x.st.aj[m] (dF s x.q j).1.ah:=by unfold ou;rw[Q,F.cK]
  have U:=Kz I.sound hm' F.one F.kJ (F.fits cK) (F.yU cK);rw[R];exact {
   sound:=U
   now:=I.now
   next:=I.next
   book:=I.book
   cM:=I.cM
   use:=I.use
   len:=by show (x.st.aj.set m _).length=_;rw[WC];exact I.len
   bq:=λi h K=>by
    have hi:i<x.st.aj.length:=by grind [gq.len]
    show (x.st.aj.set m (oX x.st.aj[m] x.st.aX))[i]'(by simp_all)=_\/(x.st.aj.set m (oX x.st.aj[m] x.st.aX))[i]'(by simp_all)=_;by_cases g:m=i
    ·subst g;rw[yBC];right;rcases I.bq m hm' K with g | g
     ·rw[g,I.now]
     grind [xT.one,oX,gX]
    ·rw[yBM g];exact I.bq i hi K
   ref:=G
   qs:=I.qs
   qn:=I.qn
   qb:=I.qb
   xh:=xh
   used:=λk c=>by
    show cw (wN x.st.ae (dM x.st.aj[m] (dF s x.q j).1.ah)) k c<=_;rw[qS (jq ..),Zn,BD];have u:=I.used k c;have W:jR (iM j (dF s x.q j).1) k st0.aX=mulR (dm (dF s x.q j).1.ah k) j.ay:=by
     unfold jR;have X:=z.wall;rw[if_pos]
     ·rfl
     ·show (dF s x.q j).1.At<=st0.aX/\st0.aX<(dF s x.q j).1.At+j.aO
      grind [gq.now]
    rw[W,zr,F.cK];show dm (dF s x.q j).1.ah k * cmp c j.ay+_<=_;omega
   xk:=by have:=I.xk;grind }
theorem find_at{l:List aM}(hl:l.length<=300)(hs:bW l){i:Nat}(hi:i<l.length):ZL 5000 l l[i].Id=some (i:Int):=by
 obtain ⟨r,e,h1,h2,_⟩:=zp hl l[i].Id;have d:0<=r:=h1.2 ⟨_,bC hi,rfl⟩;have a:=h2 d;have:=hs.inj a.hi hi a.is
 grind
section
variable{l:List aM}(hl:l.length<=300)(hs:bW l)
include hl hs in
include hl hs in
include hl hs in
include hl hs in
end
section
variable{s:bm}{st:ca}(q:aY s st){k:Nat}(hk:k<st.aj.length)(h1:st.aj[k].State=1){sh:List dj}(hs:jC s st.aj[k] sh)(hf:um (aV s.ai st.ae) (dM st.aj[k] sh))(hcl:∀x∈sh,∀b∈st.aB,b.Node=x.Node->¬b.bO<st.aX+st.aj[k].aO)
include q hk h1 hs hf hcl
end
def Zh:UY:={ aW:=0,dk:=0,aF:=0 }
def cx0(s:bm)(st:ca):CX:={ st:=st,q:=tq s st,P:=[],S:=[] }
def dY(s:bm)(st:ca)(r:List aM):CX:=r.foldl (zc s) (cx0 s st)
section
variable{s:bm}{st0:ca}(q0:aY s st0)(h30:st0.aj.length<=30)
include q0 h30
theorem VI:gq s st0 (cx0 s st0) 0:={
 sound:=q0
 now:=rfl
 next:=rfl
 book:=rfl
 cM:=rfl
 use:=rfl
 len:=rfl
 bq:=λm h g=>.inl rfl
 ref:=Rb (ZG q0) q0 h30
 qs:=rfl
 qn:=rfl
 qb:=rfl
 xh:=by
  have:=q_ (ZG q0) q0;show (st0.ae.map (eS st0)).length<=_
  grind
 used:=λk c=>by
  have d:=ZG q0;show cw st0.ae k c<=cmp c (bj (st0.ae.map (eS st0)) k st0.aX);rw[Bj,TY];unfold cw;have:∀A:List bV,(∀a∈A,a∈st0.ae)->(A.map λa=>dm a.ah k * cmp c a.ay)=A.map ((λu=>cmp c (jR u k st0.aX))∘eS st0):=λA e=>List.map_congr_left λa f=>by have b:=DY d q0 (e a f);show _=cmp c (jR (eS st0 a) k st0.aX);unfold jR;rw[if_pos (show (eS st0 a).bO<=st0.aX/\st0.aX<(eS st0 a).To from ⟨Pu _,b.1⟩),zr];rfl
  grind
 xk:=PF _ }
theorem AY{r:List aM}{i:Nat}(hi:i<r.length):dY s st0 (r.take (i+1))=zc s (dY s st0 (r.take i)) r[i]:=by grind [dY,List.take_succ_eq_append_getElem]
end
structure EX where
 c:CX
 h:aM
 hd:UY
def noJ:aM:={ Id:=0,cu:=0,Queue:=0,aL:=0,ay:={ bA:=0,Mem:=0,bE:=0,bG:=0 },aO:=0,aF:=[],State:=0,Ok:=false,cG:=false,aJ:=0,cI:=0,Start:=0,End:=0,Array:=0 }
def uK(s:bm)(x:EX)(j:aM):Bool:=
 x.hd.aW != 0&&((!(dF s (pM x.c.q (iM j (dF s x.c.q j).1)) x.h).2) || decide ((dF s (pM x.c.q (iM j (dF s x.c.q j).1)) x.h).1.At > x.hd.dk))
def jc(s:bm)(x:CX)(j:aM):CX:={ st:=ou x.st j (dF s x.q j).1.ah,q:=pM x.q (iM j (dF s x.q j).1),P:=x.P,S:=x.S++[(dF s x.q j).1] }
def o_(s:bm)(x:EX)(j:aM):EX:=
 if Ad s x.c.st.aj j.Id=true then
  if (dF s x.c.q j).2=true then
   if (dF s x.c.q j).1.At > x.c.q.aX then
    if x.hd.aW=0 then { c:=x.c,h:=j,hd:={ aW:=j.Id,dk:=(dF s x.c.q j).1.At,aF:=0 } } else x
   else if uK s x j=true then x
   else { c:=jc s x.c j,h:=x.h,hd:=x.hd }
  else x
 else x
def zeroH':UY:={ aW:=0,dk:=0,aF:=0 }
def ex0(s:bm)(st:ca):EX:={ c:={ st:=st,q:=tq s st,P:=[],S:=[] },h:=noJ,hd:=zeroH' }
def cN(s:bm)(st:ca)(r:List aM):EX:=r.foldl (o_ s) (ex0 s st)
theorem pz{s:bm}{st0:ca}{r:List aM}{i:Nat}(hi:i<r.length):cN s st0 (r.take (i+1))=o_ s (cN s st0 (r.take i)) r[i]:=by grind [cN,List.take_succ_eq_append_getElem]
def nV(s:bm)(x:EX)(j:aM):Prop:=Ad s x.c.st.aj j.Id=true/\(dF s x.c.q j).2=true/\¬(dF s x.c.q j).1.At > x.c.q.aX/\uK s x j=false
theorem vC{s:bm}{x:EX}{j:aM}(h:nV s x j):o_ s x j={ c:=jc s x.c j,h:=x.h,hd:=x.hd }:=by unfold o_;rw[if_pos h.1,if_pos h.2.1,if_neg h.2.2.1,if_neg (by simp[h.2.2.2])]
theorem uJ{s:bm}{x:EX}{j:aM}(h:¬nV s x j):(o_ s x j).c=x.c:=by
 unfold o_;unfold nV at h
 grind
theorem Ux{s:bm}{x:EX}{j:aM}(h:nV s x j):jc s x.c j=zc s x.c j:=by unfold zc jc;rw[if_pos h.1,if_pos h.2.1,if_neg h.2.2.1]
structure Jv (s:bm) (st0:ca) (x:EX) (n:Nat):Prop where
 c:gq s st0 x.c n
 pn:x.c.P=[]
 hd:x.hd.aW≠0->x.h∈st0.aj/\x.hd.aW=x.h.Id
 aft:x.hd.aF=0
theorem Jv.step{s:bm}{st0:ca}{x:EX}{n:Nat}(I:Jv s st0 x n)(q0:aY s st0)(hn:n<=30){nodes:List (List bM)}{b:Nat}(hb:b<=200)(hp:PR nodes x.c.q b){j:aM}(hj:j∈st0.aj):Jv s st0 (o_ s x j) (n+1):=by
 by_cases h:nV s x j
 ·rw[vC h];refine ⟨?_,I.pn,I.hd,I.aft⟩;show gq s st0 (jc s x.c j) (n+1);rw[Ux h];exact I.c.step q0 hn hb hp hj
 ·refine ⟨by rw[uJ h];exact I.c.up,by rw[uJ h];exact I.pn,?_,?_⟩
  ·have:=I.hd;unfold o_
   grind
  ·have:=I.aft;unfold o_
   grind
theorem PR.up{nodes:List (List bM)}{q:jt}{a b:Nat}(h:PR nodes q a)(o:a<=b):PR nodes q b:=⟨h.len,⟨λk i=>⟨(h.cK.each k i).1,by have:=(h.cK.each k i).2;omega⟩,h.cK.first⟩,h.val⟩
theorem BI(N:Nat)(p:AD)(j:aM)(a:List aD)(b:List (List Int))(c:List xL)(o r t u v w y z A d e f g h i:Int) :
  zcZ N p j a b c o r t u v w y z A d e f g h i=YE N p.cH j a b c o r t u v w y z A d e f g h i p.fo p.cE:=rfl
section
variable{s:bm}{st0:ca}{x:CX}{n:Nat}(I:gq s st0 x n)(q0:aY s st0){nodes:List (List bM)}{b:Nat}(hb:b<=200)(hp:PR nodes x.q b)
include I q0 hb hp
theorem planE{j:aM}(hj:j∈st0.aj):YE 5000 nodes j s.ai s.aH s.aq s.aR s.am.kF s.am.cT s.am.fC s.am.bL s.bS s.Mode s.aj s.jG s.aI s.bo s.dg s.In s.Out s.bT st0.aX s.aH=some (dF s x.q j):=by
 obtain ⟨m,hm,rfl⟩:=iW hj;have d:=q0.bq.each _ (bC hm);have a:f_ x.q.S st0 st0.aj[m]:=by rw[I.qs];exact d
 have e:=rp hb I.ref hp a;rw[I.qs,I.qn] at e;exact e
end
section
variable{s:bm}{st0:ca}{x:EX}{n:Nat}(I:Jv s st0 x n)(q0:aY s st0)(hn:n<=29){nodes:List (List bM)}{b:Nat}(hb:b<=190)(hp:PR nodes x.c.q b){j:aM}(hj:j∈st0.aj)(hm:Ad s x.c.st.aj j.Id=true)(h2:(dF s x.c.q j).2=true)(h3:¬(dF s x.c.q j).1.At > x.c.q.aX)
include I q0 hn hb hp hj hm h2 h3
theorem EC{p:List (Int×bV)}(hL:p.Perm (mapA x.c.st.ae)):∃y a,zc0 5000 x.c.S x.c.st.az.aq x.c.st.aj p j (dF s x.c.q j).1 { fo:=st0.aX,cE:=s.aH,cH:=nodes } x.h.Id x.h.cu x.h.Queue x.h.aL x.h.ay.bA x.h.ay.Mem x.h.ay.bE x.h.ay.bG x.h.aO x.h.aF x.h.State x.h.Ok x.h.cG x.h.aJ x.h.cI x.h.Start x.h.End x.h.Array x.hd.aW x.hd.dk
   s.ai s.aH s.aq s.aR s.am.kF s.am.cT s.am.fC s.am.bL s.bS s.Mode s.aj s.jG s.aI s.bo s.dg s.In s.Out s.bT st0.aX x.c.st.az.ai (aV s.ai x.c.st.ae) =
   some ((o_ s x j).c.st.az.aq,(o_ s x j).c.st.aj,y,(o_ s x j).c.S,(o_ s x j).c.st.az.ai,aV s.ai (o_ s x j).c.st.ae,{ fo:=st0.aX,cE:=s.aH,cH:=a }) /\
  y.Perm (mapA (o_ s x j).c.st.ae)/\PR a (o_ s x j).c.q (b+2)/\(o_ s x j).h=x.h/\(o_ s x j).hd=x.hd:=by
 obtain ⟨m,hm',F⟩:=mR I.c q0 (by omega) (by omega) hp hj hm h2;have i:=q0.bq.each _ hj;have P:f_ x.c.q.S st0 j:=by rw[I.c.qs];exact i
 have Q:=F.place.lo;have cK:(dF s x.c.q j).1.At=x.c.st.aX:=by have:=I.c.qn;have:=I.c.now;omega
 have hw:gL x.c.q (cY s j):=by have:=vr (st:=st0) q0.spec I.c.qs i;exact this
 obtain ⟨_,_,N⟩:=tV (s:=s) (j:=j) ⟨i.ok.queue.1,i.queue⟩;have R:(cY s j).ay=j.ay:=by rw[N]
 have T:(cY s j).aO=j.aO:=by rw[N]
 have O:=F.place.fit;rw[R,T] at O;obtain ⟨a,r,z⟩:=GM (by omega) I.c.ref hp F.place.shares i.ok.need i.ok.wall F.place.lo F.place.hi O;have xh:=I.c.xh;have U:qv (iM j (dF s x.c.q j).1) x.c.q.S.ai.length:=KQ F.place i.ok I.c.ref;have W:=Kg I.c.ref U (by omega);have t:PR a (pM x.c.q (iM j (dF s x.c.q j).1)) (b+2):=z;have A:x.hd.aW≠0->YE 5000 a x.h s.ai s.aH s.aq s.aR s.am.kF s.am.cT s.am.fC s.am.bL s.bS s.Mode s.aj s.jG s.aI s.bo s.dg s.In s.Out s.bT st0.aX s.aH=some (dF s (pM x.c.q (iM j (dF s x.c.q j).1)) x.h):=λo=>by
  have hi:=q0.bq.each _ (I.hd o).1;have E:f_ (pM x.c.q (iM j (dF s x.c.q j).1)).S st0 x.h:=by show f_ x.c.q.S st0 x.h;rw[I.c.qs];exact hi
  have e:=rp (by omega) W t E;have X:(pM x.c.q (iM j (dF s x.c.q j).1)).S=s:=I.c.qs;have Y:(pM x.c.q (iM j (dF s x.c.q j).1)).aX=st0.aX:=I.c.qn;rw[X,Y] at e;exact e
 obtain ⟨y,G,u⟩:=VF I.c.sound hm' F.one F.kJ (F.fits cK) hL;have Z:Oe x.c.st.aj j.Id=m:=by rw[<-F.cK];exact Cy I.c.sound.bq.bN hm'
 have v:ou x.c.st j (dF s x.c.q j).1.ah=gP x.c.st m x.c.st.aj[m] (dF s x.c.q j).1.ah:=by unfold ou;rw[Z,F.cK]
 rw[<-v,I.c.now] at G;rw[<-v] at u;have K:x.c.st.aj[m].Id=j.Id:=by rw[F.cK]
 rw[K] at G;have pl:=I.c.xk;have nl:nodes.length<=300:=by have:=hp.len;have:=I.c.ref.spec.nodes.hi;omega
 unfold zc0 zbs zbj;dsimp only;rw[FR (by omega),aw,aw];dsimp only;rw[I.c.qn] at r;rw[r,aw,if_neg (by simp),fA];unfold Vc;have M:uK s x j=false->o_ s x j={ c:=jc s x.c j,h:=x.h,hd:=x.hd }:=λh=>vC ⟨hm,h2,h3,h⟩;have no:uK s x j=true->o_ s x j=x:=λh=>by unfold o_;rw[if_pos hm,if_pos h2,if_neg h3,if_pos h]
 have fin:uK s x j=false->∃f d,(zaS 5000 x.c.st.az.aq x.c.st.aj p j.Id (dF s x.c.q j).1.ah s.ai s.aH s.aq s.aR s.am.kF s.am.cT s.am.fC s.am.bL s.bS s.Mode s.aj s.jG s.aI s.bo s.dg s.In s.Out s.bT st0.aX x.c.st.az.ai (aV s.ai x.c.st.ae)).bind (λg=>
   if (g.2.2.2.1 != 0)=true then
    some (g.2.1,g.2.2.1,g.1,x.c.S,g.2.2.2.2.2,g.2.2.2.2.1,({ fo:=st0.aX,cE:=s.aH,cH:=nodes }:AD))
   else
    (cB x.c.S ([(dF s x.c.q j).1]:List fY)).bind λz6=>
    some (g.2.1,g.2.2.1,g.1,z6,g.2.2.2.2.2,g.2.2.2.2.1,({ fo:=st0.aX,cE:=s.aH,cH:=a }:AD))) =
   some ((o_ s x j).c.st.az.aq,(o_ s x j).c.st.aj,f,(o_ s x j).c.S,(o_ s x j).c.st.az.ai,aV s.ai (o_ s x j).c.st.ae,{ fo:=st0.aX,cE:=s.aH,cH:=d }) /\
  f.Perm (mapA (o_ s x j).c.st.ae)/\PR d (o_ s x j).c.q (b+2)/\(o_ s x j).h=x.h/\(o_ s x j).hd=x.hd:=λh=>by
  refine ⟨y,a,?_⟩;rw[M h,G,aw,if_neg (by simp),Bi (by grind),aw];exact ⟨rfl,u,t,rfl,rfl⟩
 have w:uK s x j=true->∃f d,some (x.c.st.az.aq,x.c.st.aj,p,x.c.S,x.c.st.az.ai,aV s.ai x.c.st.ae,({ fo:=st0.aX,cE:=s.aH,cH:=nodes }:AD)) =
   some ((o_ s x j).c.st.az.aq,(o_ s x j).c.st.aj,f,(o_ s x j).c.S,(o_ s x j).c.st.az.ai,aV s.ai (o_ s x j).c.st.ae,{ fo:=st0.aX,cE:=s.aH,cH:=d }) /\
  f.Perm (mapA (o_ s x j).c.st.ae)/\PR d (o_ s x j).c.q (b+2)/\(o_ s x j).h=x.h/\(o_ s x j).hd=x.hd:=λh=>by
  refine ⟨p,nodes,?_⟩;rw[no h];exact ⟨rfl,hL,hp.up (by omega),rfl,rfl⟩
 by_cases o:x.hd.aW=0
 ·have hl:uK s x j=false:=by unfold uK;simp[o]
  rw[aw,if_neg (by simp[o])];exact fin hl
 ·rw[aw,if_pos (by simp[o])];have eh:=A o;rw[show ({ Id:=x.h.Id,cu:=x.h.cu,Queue:=x.h.Queue,aL:=x.h.aL,ay:=({ bA:=x.h.ay.bA,Mem:=x.h.ay.Mem,bE:=x.h.ay.bE,bG:=x.h.ay.bG }:aD),aO:=x.h.aO,aF:=x.h.aF,State:=x.h.State,Ok:=x.h.Ok,cG:=x.h.cG,aJ:=x.h.aJ,cI:=x.h.cI,Start:=x.h.Start,End:=x.h.End,Array:=x.h.Array }:aM)=x.h from rfl,eh,aw];by_cases hl:uK s x j=true
  ·rw[if_pos (by unfold uK at hl;simp_all)];exact w hl
  ·rw[if_neg (by unfold uK at hl;simp_all)];exact fin (by simpa using hl)
end
def Xs(s:bm)(x:EX):Int:=if x.hd.aW=0 then 0 else (dF s x.c.q x.h).1.At
section
variable{s:bm}{st0:ca}(q0:aY s st0)(h30:st0.aj.length<=30)
include q0 h30
theorem einv0:Jv s st0 (ex0 s st0) 0:=⟨VI q0 h30,rfl,λh=>absurd rfl h,rfl⟩
theorem YO{L:List (Int×bV)}(hL:L.Perm (mapA st0.ae)):∃r,zbt 5000 st0.az.aq st0.aj L s.ai s.aH s.aq s.aR s.am.kF s.am.cT s.am.fC s.am.bL s.bS s.Mode s.aj s.jG s.aI s.bo s.dg s.In s.Out s.bT st0.aX st0.Next st0.dE st0.aB st0.kH st0.az.ai=some r/\r.Perm (st0.aj.filter (Ax st0.aj)) /\
  (∀i,i<=r.length->Jv s st0 (cN s st0 (r.take i)) i/\∃nodes,PR nodes (cN s st0 (r.take i)).c.q (93+2 * i)) /\
  ∃ t, zeA 5000 st0.az.aq st0.aj L s.ai s.aH s.aq s.aR s.am.kF s.am.cT s.am.fC s.am.bL s.bS s.Mode s.aj s.jG s.aI s.bo s.dg s.In s.Out s.bT st0.aX st0.Next st0.dE st0.aB st0.kH st0.az.ai (aV s.ai st0.ae) =
   some ((cN s st0 r).c.st.az.aq,(cN s st0 r).c.st.aj,t,{ Started:=(cN s st0 r).c.S,fE:=[],zd:={ aW:=(cN s st0 r).hd.aW,dk:=(cN s st0 r).hd.dk,aF:=Xs s (cN s st0 r) } },0,(cN s st0 r).c.st.az.ai,aV s.ai (cN s st0 r).c.st.ae)/\t.Perm (mapA (cN s st0 r).c.st.ae):=by
 have R:=ZG q0;have Z:=q0.jh.cM.len;have al:=q_ R q0;obtain ⟨r,er,T⟩:=Wz q0 hL h30;have rl:r.length<=30:=by grind [List.Perm.length_eq,List.length_filter_le]
 have K:∀j∈r,j∈st0.aj:=λj hj=>(ND.1 (T.mem_iff.1 hj)).1;obtain ⟨g,W,M⟩:=xj R q0 h30 (Jn q0 hL);have w:PR g (tq s st0) 93:=M.up (by omega);have step:∀i (hi:i<r.length) (I:Jv s st0 (cN s st0 (r.take i)) i) nodes,PR nodes (cN s st0 (r.take i)).c.q (93+2 * i)->∃a,PR a (cN s st0 (r.take (i+1))).c.q (93+2 * (i+1)):=λi hi I nodes hp=>by
  rw[pz hi];by_cases h:nV s (cN s st0 (r.take i)) r[i]
  ·obtain ⟨t,a,_,_,z,_⟩:=EC I q0 (by omega) (by omega) hp (K _ (bC hi)) h.1 h.2.1 h.2.2.1 (List.Perm.refl _);exact ⟨a,by rw[show 93+2 * (i+1)=93+2 * i+2 by omega];exact z⟩
  ·rw[uJ h];exact ⟨nodes,hp.up (by omega)⟩
 have A:∀i,i<=r.length->Jv s st0 (cN s st0 (r.take i)) i/\∃nodes,PR nodes (cN s st0 (r.take i)).c.q (93+2 * i):=by
  intro i;induction i with
  |zero=>intro _;exact ⟨einv0 q0 h30,g,w⟩
  |succ i ih=>intro hi;obtain ⟨I,nodes,hp⟩:=ih (by omega);refine ⟨?_,step i (by omega) I nodes hp⟩;rw[pz (show i<r.length by omega)];exact I.step q0 (by omega) (by omega) hp (K _ (bC _))
 refine ⟨r,er,T,A,?_⟩
 suffices h:bR (zeA 5000 st0.az.aq st0.aj L s.ai s.aH s.aq s.aR s.am.kF s.am.cT s.am.fC s.am.bL s.bS s.Mode s.aj s.jG s.aI s.bo s.dg s.In s.Out s.bT st0.aX st0.Next st0.dE st0.aB st0.kH st0.az.ai (aV s.ai st0.ae)) λx=>∃t,x=((cN s st0 r).c.st.az.aq,(cN s st0 r).c.st.aj,t,{ Started:=(cN s st0 r).c.S,fE:=[],zd:={ aW:=(cN s st0 r).hd.aW,dk:=(cN s st0 r).hd.dk,aF:=Xs s (cN s st0 r) } },0,(cN s st0 r).c.st.az.ai,aV s.ai (cN s st0 r).c.st.ae)/\t.Perm (mapA (cN s st0 r).c.st.ae) by obtain ⟨x,e,t,rfl,h⟩:=h;exact ⟨t,e,h⟩
 unfold zeA;rw[W,aw];dsimp only;rw[er,aw];refine jj r.length (λi x=>∃u nodes,∃fp:fY,x=((i:Int),(cN s st0 (r.take i)).c.st.az.ai,aV s.ai (cN s st0 (r.take i)).c.st.ae,({ fo:=st0.aX,cE:=s.aH,cH:=nodes }:AD),(cN s st0 (r.take i)).h.Id,(cN s st0 (r.take i)).h.cu,(cN s st0 (r.take i)).h.Queue,(cN s st0 (r.take i)).h.aL,(cN s st0 (r.take i)).h.ay.bA,(cN s st0 (r.take i)).h.ay.Mem,(cN s st0 (r.take i)).h.ay.bE,(cN s st0 (r.take i)).h.ay.bG,(cN s st0 (r.take i)).h.aO,(cN s st0 (r.take i)).h.aF,(cN s st0 (r.take i)).h.State,(cN s st0 (r.take i)).h.Ok,(cN s st0 (r.take i)).h.cG,(cN s st0 (r.take i)).h.aJ,(cN s st0 (r.take i)).h.cI,(cN s st0 (r.take i)).h.Start,(cN s st0 (r.take i)).h.End,(cN s st0 (r.take i)).h.Array,(cN s st0 (r.take i)).hd.aW,(cN s st0 (r.take i)).hd.dk,(cN s st0 (r.take i)).hd.aF,fp.aW,fp.At,fp.ah,(cN s st0 (r.take i)).c.st.az.aq,(cN s st0 (r.take i)).c.st.aj,u,(cN s st0 (r.take i)).c.S)/\u.Perm (mapA (cN s st0 (r.take i)).c.st.ae)/\PR nodes (cN s st0 (r.take i)).c.q (93+2 * i)) (λi x f hi N p=>?_) (λx f N=>?_)
  ⟨L,g,{ aW:=0,At:=0,ah:=[] },rfl,hL,w⟩ (by omega)
 ·obtain ⟨u,nodes,fp,rfl,d,hp⟩:=N;obtain ⟨I,_⟩:=A i (by omega);have o:=pz (s:=s) (st0:=st0) hi;have hj:=K _ (bC hi);have y:=mayV I.c.sound d r[i].Id;rw[I.c.now,I.c.next,I.c.book,I.c.cM,I.c.use] at y;have E:=planE I.c q0 (by omega) hp hj;dsimp only;rw[if_pos (cR hi),fA,bY hi,aw,y,aw,bU (show i<1000000 by omega),bx];refine ⟨λh=>?_,λh=>?_⟩
  ·have e:cN s st0 (r.take (i+1))=cN s st0 (r.take i):=by rw[o];unfold o_;rw[if_neg (by simpa using h)]
   refine p _ ⟨u,nodes,fp,?_,?_,?_⟩
   ·rw[e]
   ·rw[e];exact d
   ·rw[e];exact hp.up (by omega)
  ·have hm:Ad s (cN s st0 (r.take i)).c.st.aj r[i].Id=true:=by simpa using h
   rw[BI];dsimp only;rw[E,aw,bx];refine ⟨λh=>?_,λO=>?_⟩
   ·have e:cN s st0 (r.take (i+1))=cN s st0 (r.take i):=by rw[o];unfold o_;rw[if_pos hm,if_neg (by simpa using h)]
    refine p _ ⟨u,nodes,(dF s (cN s st0 (r.take i)).c.q r[i]).1,?_,?_,?_⟩
    ·rw[e]
    ·rw[e];exact d
    ·rw[e];exact hp.up (by omega)
   ·have h2:(dF s (cN s st0 (r.take i)).c.q r[i]).2=true:=by simpa using O
    unfold iZ;rw[aw,bx];have U:=I.c.qn;refine ⟨λG=>?_,λG=>?_⟩
    ·have h3:(dF s (cN s st0 (r.take i)).c.q r[i]).1.At > (cN s st0 (r.take i)).c.q.aX:=by rw[U];exact of_decide_eq_true G
     unfold zeU Vc;rw[aw];by_cases v:(cN s st0 (r.take i)).hd.aW=0
     ·have e:cN s st0 (r.take (i+1))={ c:=(cN s st0 (r.take i)).c,h:=r[i],hd:={ aW:=r[i].Id,dk:=(dF s (cN s st0 (r.take i)).c.q r[i]).1.At,aF:=0 } }:=by
       rw[o];unfold o_;rw[if_pos hm,if_pos h2,if_pos h3,if_pos v]
      rw[if_pos (by simp[v]),wh];refine p _ ⟨u,nodes,(dF s (cN s st0 (r.take i)).c.q r[i]).1,?_,?_,?_⟩
      ·rw[e]
      ·rw[e];exact d
      ·rw[e];exact hp.up (by omega)
     ·have e:cN s st0 (r.take (i+1))=cN s st0 (r.take i):=by
       rw[o];unfold o_;rw[if_pos hm,if_pos h2,if_pos h3,if_neg v]
      rw[if_neg (by simp[v]),wh];refine p _ ⟨u,nodes,(dF s (cN s st0 (r.take i)).c.q r[i]).1,?_,?_,?_⟩
      ·rw[e]
      ·rw[e];exact d
      ·rw[e];exact hp.up (by omega)
    ·have h3:¬(dF s (cN s st0 (r.take i)).c.q r[i]).1.At > (cN s st0 (r.take i)).c.q.aX:=by rw[U];exact λh=>G (decide_eq_true h)
     obtain ⟨t,a,X,P,z,Y,Q⟩:=EC I q0 (by omega) (by omega) hp hj hm h2 h3 d;rw[X,aw];refine p _ ⟨t,a,(dF s (cN s st0 (r.take i)).c.q r[i]).1,?_,?_,?_⟩
     ·rw[o,Y,Q]
     ·rw[o];exact P
     ·rw[o,show 93+2 * (i+1)=93+2 * i+2 by omega];exact z
 ·obtain ⟨u,nodes,fp,rfl,d,hp⟩:=N;obtain ⟨I,_⟩:=A r.length (cO _);rw[xr] at d hp I ⊢;dsimp only;rw[if_neg (by simp),fA];unfold Vc;rw[aw];by_cases v:(cN s st0 r).hd.aW=0
  ·rw[if_neg (by simp[v]),bg];refine ⟨u,?_,d⟩;unfold Xs;rw[if_pos v,I.aft]
  ·have E:=planE I.c q0 (by omega) hp (I.hd v).1;rw[if_pos (by simp[v]),BI];dsimp only;rw[show ({ Id:=(cN s st0 r).h.Id,cu:=(cN s st0 r).h.cu,Queue:=(cN s st0 r).h.Queue,aL:=(cN s st0 r).h.aL,ay:=({ bA:=(cN s st0 r).h.ay.bA,Mem:=(cN s st0 r).h.ay.Mem,bE:=(cN s st0 r).h.ay.bE,bG:=(cN s st0 r).h.ay.bG }:aD),aO:=(cN s st0 r).h.aO,aF:=(cN s st0 r).h.aF,State:=(cN s st0 r).h.State,Ok:=(cN s st0 r).h.Ok,cG:=(cN s st0 r).h.cG,aJ:=(cN s st0 r).h.aJ,cI:=(cN s st0 r).h.cI,Start:=(cN s st0 r).h.Start,End:=(cN s st0 r).h.End,Array:=(cN s st0 r).h.Array }:aM)=(cN s st0 r).h from rfl,E,aw,bg];refine ⟨u,?_,d⟩;unfold Xs;rw[if_neg v]
end
def YP:zcA:={ zZ:={ aW:=0,At:=0,ah:=[] },dW:={ Id:=0,cu:=0,Queue:=0,aL:=0,ay:={ bA:=0,Mem:=0,bE:=0,bG:=0 },aO:=0,aF:=[],State:=0,Ok:=false,cG:=false,aJ:=0,cI:=0,Start:=0,End:=0,Array:=0 } }
section
variable{nodes:List (List bM)}{q:jt}{L:Nat}(hL:L<=200)(hq:pK q)(hp:PR nodes q L){st:ca}{j:aM}(hj:f_ q.S st j)
include hL hq hp hj
theorem JB:∃a,zbf 5000 nodes j q.aX q.S.aH q.S.ai q.S.aH q.S.aq q.S.aR q.S.am.kF q.S.am.cT q.S.am.fC q.S.am.bL q.S.bS q.S.Mode q.S.aj q.S.jG q.S.aI q.S.bo q.S.dg q.S.In q.S.Out q.S.bT =
   (if (named j (B_ q (cY q.S j))).2=true then some (a,{ zZ:=(named j (B_ q (cY q.S j))).1,dW:=j },true) else some (nodes,YP,false)) /\
  ((B_ q (cY q.S j)).2=true->PR a (pM q (iM j (named j (B_ q (cY q.S j))).1)) (L+2)):=by
 have r:=vr hq.spec rfl hj;have t:=rp hL hq hp hj;unfold zbf;rw[t,aw];by_cases h:(B_ q (cY q.S j)).2=true
 ·obtain ⟨i,f⟩:=MO hL hq hp hj h;have P:=zu hL hq hp r h;obtain ⟨_,_,o⟩:=tV ⟨hj.ok.queue.1,hj.queue⟩;have u:(cY q.S j).ay=j.ay:=by rw[o]
  have v:(cY q.S j).aO=j.aO:=by rw[o]
  have p:=P.fit;rw[u,v] at p;obtain ⟨a,e,d⟩:=GM hL hq hp P.shares hj.ok.need hj.ok.wall P.lo P.hi p;refine ⟨a,?_,λ_=>?_⟩
  ·rw[i,f,if_neg (by simp),if_pos rfl];dsimp only;rw[e,aw,pd (hp.len.trans d.len.symm)];rfl
  ·rw[i];exact d
 ·have f:(named j (B_ q (cY q.S j)))=({ aW:=0,At:=0,ah:=[] },false):=by unfold named;simp_all
  refine ⟨nodes,?_,λg=>absurd g h⟩;rw[f,if_pos (by simp),if_neg (by simp)];rfl
end
section
variable{s:bm}{st0:ca}(q0:aY s st0)(h30:st0.aj.length<=30)
include q0 h30
theorem JC{L:List (Int×bV)}(hL:L.Perm (mapA st0.ae)):∃r,zbt 5000 st0.az.aq st0.aj L s.ai s.aH s.aq s.aR s.am.kF s.am.cT s.am.fC s.am.bL s.bS s.Mode s.aj s.jG s.aI s.bo s.dg s.In s.Out s.bT st0.aX st0.Next st0.dE st0.aB st0.kH st0.az.ai=some r/\r.Perm (st0.aj.filter (Ax st0.aj)) /\
  (∀i,i<=r.length->gq s st0 (dY s st0 (r.take i)) i/\∃nodes,PR nodes (dY s st0 (r.take i)).q (93+2 * i)) /\
  ∃ u, zcM 5000 st0.az.aq st0.aj L s.ai s.aH s.aq s.aR s.am.kF s.am.cT s.am.fC s.am.bL s.bS s.Mode s.aj s.jG s.aI s.bo s.dg s.In s.Out s.bT st0.aX st0.Next st0.dE st0.aB st0.kH st0.az.ai (aV s.ai st0.ae) =
   some ((dY s st0 r).st.az.aq,(dY s st0 r).st.aj,u,{ Started:=(dY s st0 r).S,fE:=(dY s st0 r).P,zd:=Zh },0,(dY s st0 r).st.az.ai,aV s.ai (dY s st0 r).st.ae)/\u.Perm (mapA (dY s st0 r).st.ae):=by
 have R:=ZG q0;have bl:=q0.jh.cM.len;have al:=q_ R q0;obtain ⟨r,er,T⟩:=Wz q0 hL h30;have rl:r.length<=30:=by grind [List.Perm.length_eq,List.length_filter_le]
 have G:∀j∈r,j∈st0.aj:=λj hj=>(ND.1 (T.mem_iff.1 hj)).1;obtain ⟨d,X,o⟩:=xj R q0 h30 (Jn q0 hL);have v:PR d (tq s st0) 93:=⟨o.len,⟨λk h=>⟨(o.cK.each k h).1,by have:=(o.cK.each k h).2;omega⟩,o.cK.first⟩,o.val⟩;have step:∀i (hi:i<r.length) (I:gq s st0 (dY s st0 (r.take i)) i) nodes,PR nodes (dY s st0 (r.take i)).q (93+2 * i)->∃a,zbf 5000 nodes r[i] st0.aX s.aH s.ai s.aH s.aq s.aR s.am.kF s.am.cT s.am.fC s.am.bL s.bS s.Mode s.aj s.jG s.aI s.bo s.dg s.In s.Out s.bT =
   (if (dF s (dY s st0 (r.take i)).q r[i]).2=true then some (a,{ zZ:=(dF s (dY s st0 (r.take i)).q r[i]).1,dW:=r[i] },true) else some (nodes,YP,false)) /\
   ((dF s (dY s st0 (r.take i)).q r[i]).2=true->PR a (pM (dY s st0 (r.take i)).q (iM r[i] (dF s (dY s st0 (r.take i)).q r[i]).1)) (93+2 * (i+1))):=λi hi I nodes hp=>by
  have ji:=q0.bq.each _ (G _ (bC hi));have K:f_ (dY s st0 (r.take i)).q.S st0 r[i]:=by grind [gq.qs]
  obtain ⟨a,e,h⟩:=JB (by omega) I.ref hp K;rw[I.qs,I.qn] at e;refine ⟨a,e,λg=>?_⟩;rw[I.qs] at h;have:(B_ (dY s st0 (r.take i)).q (cY s r[i])).2=true:=by grind [dF,named]
  have:=h this;rw[show 93+2 * (i+1)=93+2 * i+2 by omega];exact this
 have y:∀i,i<=r.length->gq s st0 (dY s st0 (r.take i)) i/\∃nodes,PR nodes (dY s st0 (r.take i)).q (93+2 * i):=by
  intro i;induction i with
  |zero=>intro _;exact ⟨VI q0 h30,d,v⟩
  |succ i ih=>
   intro hi;obtain ⟨I,nodes,hp⟩:=ih (by omega);rw[AY q0 h30 (show i<r.length by omega)];refine ⟨I.step q0 (by omega) (by omega) hp (G _ (bC _)),?_⟩;obtain ⟨a,_,h⟩:=step i (by omega) I nodes hp;have M:PR nodes (dY s st0 (r.take i)).q (93+2 * (i+1)):=⟨hp.len,⟨λk h=>⟨(hp.cK.each k h).1,by have:=(hp.cK.each k h).2;omega⟩,hp.cK.first⟩,hp.val⟩
   grind [zc]
 refine ⟨r,er,T,y,?_⟩
 suffices h:bR (zcM 5000 st0.az.aq st0.aj L s.ai s.aH s.aq s.aR s.am.kF s.am.cT s.am.fC s.am.bL s.bS s.Mode s.aj s.jG s.aI s.bo s.dg s.In s.Out s.bT st0.aX st0.Next st0.dE st0.aB st0.kH st0.az.ai (aV s.ai st0.ae)) λx=>∃u,x=((dY s st0 r).st.az.aq,(dY s st0 r).st.aj,u,{ Started:=(dY s st0 r).S,fE:=(dY s st0 r).P,zd:=Zh },0,(dY s st0 r).st.az.ai,aV s.ai (dY s st0 r).st.ae)/\u.Perm (mapA (dY s st0 r).st.ae) by obtain ⟨x,e,u,rfl,h⟩:=h;exact ⟨u,e,h⟩
 unfold zcM ze3;rw[X,aw,aw];dsimp only;rw[er,aw];refine jj r.length (λi x=>∃z nodes,x=((i:Int),(dY s st0 (r.take i)).st.az.ai,aV s.ai (dY s st0 (r.take i)).st.ae,(dY s st0 (r.take i)).st.az.aq,(dY s st0 (r.take i)).st.aj,z,nodes,(dY s st0 (r.take i)).P,(dY s st0 (r.take i)).S)/\z.Perm (mapA (dY s st0 (r.take i)).st.ae)/\PR nodes (dY s st0 (r.take i)).q (93+2 * i)) (λi x f hi N Y=>?_) (λx f N=>?_)
  ⟨L,d,rfl,hL,v⟩ (by omega)
 ·obtain ⟨z,nodes,rfl,p,hp⟩:=N;obtain ⟨I,_⟩:=y i (by omega);have t:=AY (s:=s) q0 h30 hi;have w:=mayV I.sound p r[i].Id;rw[I.now,I.next,I.book,I.cM,I.use] at w;obtain ⟨a,A,U⟩:=step i hi I nodes hp;have M:PR nodes (dY s st0 (r.take i)).q (93+2 * (i+1)):=⟨hp.len,⟨λk h=>⟨(hp.cK.each k h).1,by have:=(hp.cK.each k h).2;omega⟩,hp.cK.first⟩,hp.val⟩;dsimp only;rw[if_pos (cR hi),fA,bY hi,aw,w,aw,bU (show i<1000000 by omega)];unfold zc at t;rw[bx];refine ⟨λh=>?_,λh=>?_⟩
  ·grind
  ·have hm:Ad s (dY s st0 (r.take i)).st.aj r[i].Id=true:=by grind
   rw[if_pos hm] at t;rw[A];by_cases g:(dF s (dY s st0 (r.take i)).q r[i]).2=true
   ·rw[if_pos g] at t;rw[if_pos g,aw,if_neg (by simp)];unfold zdC;rw[aw];have pl:=I.xk;by_cases W:(dF s (dY s st0 (r.take i)).q r[i]).1.At > (dY s st0 (r.take i)).q.aX
    ·rw[if_pos W] at t;have Z:(dF s (dY s st0 (r.take i)).q r[i]).1.At > st0.aX:=by grind [gq.qn]
     rw[if_pos (by grind),Bi (by grind),aw]
     grind
    ·rw[if_neg W] at t;have Z:¬(dF s (dY s st0 (r.take i)).q r[i]).1.At > st0.aX:=by grind [gq.qn]
     obtain ⟨m,hm',F⟩:=mR I q0 (by omega) (by omega) hp (G _ (bC hi)) hm g;have aa:=F.place.lo;have cK:(dF s (dY s st0 (r.take i)).q r[i]).1.At=(dY s st0 (r.take i)).st.aX:=by grind [gq.qn,gq.now]
     obtain ⟨u,O,P⟩:=VF I.sound hm' F.one F.kJ (F.fits cK) p;have ix:Oe (dY s st0 (r.take i)).st.aj r[i].Id=m:=by rw[<-F.cK];exact Cy I.sound.bq.bN hm'
     have E:ou (dY s st0 (r.take i)).st r[i] (dF s (dY s st0 (r.take i)).q r[i]).1.ah=gP (dY s st0 (r.take i)).st m (dY s st0 (r.take i)).st.aj[m] (dF s (dY s st0 (r.take i)).q r[i]).1.ah:=by unfold ou;rw[ix,F.cK]
     rw[<-E,I.now] at O;rw[<-E] at P;have Q:(dY s st0 (r.take i)).st.aj[m].Id=(dF s (dY s st0 (r.take i)).q r[i]).1.aW:=by rw[F.cK,F.id]
     rw[Q] at O;rw[if_neg (by grind),O,aw,if_pos (by rfl),Bi (by grind),aw]
     grind
   grind
 ·obtain ⟨z,nodes,rfl,p,hp⟩:=N;dsimp only;rw[if_neg (by simp),bg];rw[xr] at p ⊢;exact ⟨z,rfl,p⟩
end
def gH(st0:ca)(id:Int):aD:=((st0.aj.find? λj=>j.Id == id).map (·.ay)).getD bP
theorem AK{s:bm}{st0:ca}(q0:aY s st0){j:aM}(hj:j∈st0.aj):gH st0 j.Id=j.ay:=by obtain ⟨i,hi,rfl⟩:=iW hj;unfold gH;rw[find_ix q0.bq.bN hi];rfl
structure TI (s:bm) (st0:ca) (st:ca) (S:List fY):Prop where
 each:∀p∈S,∃j∈st0.aj,p.aW=j.Id/\ba p.ah s.ai.length/\kz p.ah=j.aL
 used:∀(k:Nat)(c:Nat),cw st.ae k c=cw st0.ae k c+(S.map λp=>dm p.ah k * cmp c (gH st0 p.aW)).sum
 len:st.ae.length=st0.ae.length+S.length
theorem TI.zero(s:bm)(st0:ca):TI s st0 st0 []:=⟨λp hp=>(by cases hp),λk c=>(by simp),rfl⟩
section
variable{s:bm}{st0:ca}{x:CX}{n:Nat}(I:gq s st0 x n)(q0:aY s st0){j:aM}(hj:j∈st0.aj){m:Nat}{hm':m<x.st.aj.length}(F:xT s x j m hm' (dF s x.q j).1)
include I q0 hj F
theorem Hc:(jc s x j).st=gP x.st m x.st.aj[m] (dF s x.q j).1.ah:=by
 have a:Oe x.st.aj j.Id=m:=by rw[<-F.cK];exact Cy I.sound.bq.bN hm'
 show ou x.st j _=_;unfold ou;rw[a,F.cK]
theorem TI.start(T:TI s st0 x.st x.S):TI s st0 (jc s x j).st (jc s x j).S:=by
 refine ⟨λp hp=>?_,λk c=>?_,?_⟩
 ·rcases ld.1 hp with hp | hp
  ·exact T.each p hp
  ·rw[zK] at hp;subst hp;refine ⟨j,hj,F.id,F.kJ.shares,?_⟩;have:=F.kJ.TU
   rwa [F.cK] at this
 ·rw[Hc I q0 hj F];show cw (wN x.st.ae (dM x.st.aj[m] (dF s x.q j).1.ah)) k c=_+((x.S++[_]).map _).sum;rw[qS (jq ..),Zn,T.used,yBL,List.sum_append];simp only[ql,List.map_nil,yCw,List.sum_nil];rw[F.id,AK q0 hj];show dm (dF s x.q j).1.ah k * cmp c x.st.aj[m].ay+_=_;rw[F.cK];omega
 ·rw[Hc I q0 hj F];show (wN x.st.ae (dM x.st.aj[m] (dF s x.q j).1.ah)).length=_+(x.S++[_]).length;rw[(jq ..).length_eq,Fa,T.len,yZ,xAe];omega
end
def cyc(s:bm)(st0:ca)(r:List aM):CX:=if s.Mode=1 then (cN s st0 r).c else dY s st0 r
structure Yf (s:bm) (st0:ca) (x:CX):Prop where
 inv:∃n,n<=30/\gq s st0 x n
 ti:TI s st0 x.st x.S
 none:x.S=[]->x.st=st0
section
variable{s:bm}{st0:ca}(q0:aY s st0)(h30:st0.aj.length<=30)
include q0 h30
theorem erun_ok{r:List aM}(g:r.length<=30)(d:∀j∈r,j∈st0.aj)(a:∀i,i<=r.length->Jv s st0 (cN s st0 (r.take i)) i/\∃nodes,PR nodes (cN s st0 (r.take i)).c.q (93+2 * i)) :
  ∀i,i<=r.length->Yf s st0 (cN s st0 (r.take i)).c:=by
 intro i;induction i with
 |zero=>intro _;exact ⟨⟨0,by omega,(einv0 q0 h30).c⟩,TI.zero s st0,λ_=>rfl⟩
 |succ i ih=>
  intro hi;have C:=ih (by omega);obtain ⟨I,nodes,hp⟩:=a i (by omega);obtain ⟨f,_⟩:=a (i+1) hi;have hj:=d _ (bC (show i<r.length by omega));refine ⟨⟨i+1,by omega,f.c⟩,?_,?_⟩
  ·rw[pz (show i<r.length by omega)];by_cases h:nV s (cN s st0 (r.take i)) r[i]
   ·rw[vC h];obtain ⟨m,hm',F⟩:=mR I.c q0 (by omega) (by omega) hp hj h.1 h.2.1;exact TI.start I.c q0 hj F C.ti
   ·rw[uJ h];exact C.ti
  ·rw[pz (show i<r.length by omega)];by_cases h:nV s (cN s st0 (r.take i)) r[i]
   ·rw[vC h];intro e;exact absurd e (by simp[jc])
   ·rw[uJ h];exact C.none
theorem crun_ok{r:List aM}(t:r.length<=30)(o:∀j∈r,j∈st0.aj)(d:∀i,i<=r.length->gq s st0 (dY s st0 (r.take i)) i/\∃nodes,PR nodes (dY s st0 (r.take i)).q (93+2 * i)) :
  ∀i,i<=r.length->Yf s st0 (dY s st0 (r.take i)):=by
 intro i;induction i with
 |zero=>intro _;exact ⟨⟨0,by omega,VI q0 h30⟩,TI.zero s st0,λ_=>rfl⟩
 |succ i ih=>
  intro hi;have C:=ih (by omega);obtain ⟨I,nodes,hp⟩:=d i (by omega);obtain ⟨p,_⟩:=d (i+1) hi;have hj:=o _ (bC (show i<r.length by omega));have e:=AY (s:=s) q0 h30 (show i<r.length by omega);have a:((dY s st0 (r.take (i+1))).st=(dY s st0 (r.take i)).st/\(dY s st0 (r.take (i+1))).S=(dY s st0 (r.take i)).S) \/
    (Ad s (dY s st0 (r.take i)).st.aj r[i].Id=true/\(dF s (dY s st0 (r.take i)).q r[i]).2=true/\dY s st0 (r.take (i+1))=jc s (dY s st0 (r.take i)) r[i]):=by
   rw[e];unfold zc jc;by_cases h1:Ad s (dY s st0 (r.take i)).st.aj r[i].Id=true
   ·rw[if_pos h1];by_cases h2:(dF s (dY s st0 (r.take i)).q r[i]).2=true
    ·rw[if_pos h2];by_cases h3:(dF s (dY s st0 (r.take i)).q r[i]).1.At > (dY s st0 (r.take i)).q.aX
     ·rw[if_pos h3];exact .inl ⟨rfl,rfl⟩
     ·rw[if_neg h3];exact .inr ⟨h1,h2,rfl⟩
    ·rw[if_neg h2];exact .inl ⟨rfl,rfl⟩
   ·rw[if_neg h1];exact .inl ⟨rfl,rfl⟩
  refine ⟨⟨i+1,by omega,p⟩,?_,?_⟩
  ·rcases a with ⟨f,h⟩ | ⟨h1,h2,g⟩
   ·rw[f,h];exact C.ti
   ·rw[g];obtain ⟨m,hm',F⟩:=mR I q0 (by omega) (by omega) hp hj h1 h2;exact TI.start I q0 hj F C.ti
  ·rcases a with ⟨f,h⟩ | ⟨h1,h2,g⟩
   ·rw[f,h];exact C.none
   ·rw[g];intro e;exact absurd e (by simp[jc])
theorem UN{L:List (Int×bV)}(hL:L.Perm (mapA st0.ae)):∃r,zbt 5000 st0.az.aq st0.aj L s.ai s.aH s.aq s.aR s.am.kF s.am.cT s.am.fC s.am.bL s.bS s.Mode s.aj s.jG s.aI s.bo s.dg s.In s.Out s.bT st0.aX st0.Next st0.dE st0.aB st0.kH st0.az.ai=some r/\r.Perm (st0.aj.filter (Ax st0.aj)) /\
  Yf s st0 (cyc s st0 r)/\∃g P h,zc2 5000 st0.az.aq st0.aj L s.ai s.aH s.aq s.aR s.am.kF s.am.cT s.am.fC s.am.bL s.bS s.Mode s.aj s.jG s.aI s.bo s.dg s.In s.Out s.bT st0.aX st0.Next st0.dE st0.aB st0.kH st0.az.ai (aV s.ai st0.ae) =
   some ((cyc s st0 r).st.az.aq,(cyc s st0 r).st.aj,g,{ Started:=(cyc s st0 r).S,fE:=P,zd:=h },0,(cyc s st0 r).st.az.ai,aV s.ai (cyc s st0 r).st.ae)/\g.Perm (mapA (cyc s st0 r).st.ae):=by
 unfold zc2;rw[mj (ZG q0).spec,aw];unfold cyc;by_cases hm:s.Mode=1
 ·obtain ⟨r,er,a,d,g,e,f⟩:=YO q0 h30 hL;have i:r.length<=30:=by rw[a.length_eq];exact kj (yCg _ _) h30
  have o:∀j∈r,j∈st0.aj:=λj hj=>(ND.1 (a.mem_iff.1 hj)).1;have ok:=erun_ok q0 h30 i o d r.length (cO _);rw[xr] at ok;refine ⟨r,er,a,by rw[if_pos hm];exact ok,g,[],{ aW:=(cN s st0 r).hd.aW,dk:=(cN s st0 r).hd.dk,aF:=Xs s (cN s st0 r) },?_,by rw[if_pos hm];exact f⟩;rw[if_pos (show (s.Mode == 1)=true by simp[hm]),wh,if_pos hm];dsimp only;rw[e,aw]
 ·obtain ⟨r,er,a,d,g,e,f⟩:=JC q0 h30 hL;have i:r.length<=30:=by rw[a.length_eq];exact kj (yCg _ _) h30
  have o:∀j∈r,j∈st0.aj:=λj hj=>(ND.1 (a.mem_iff.1 hj)).1;have ok:=crun_ok q0 h30 i o d r.length (cO _);rw[xr] at ok;refine ⟨r,er,a,by rw[if_neg hm];exact ok,g,(dY s st0 r).P,Zh,?_,by rw[if_neg hm];exact f⟩;rw[if_neg (show ¬(s.Mode == 1)=true by simp[hm]),wh,if_neg hm];dsimp only;rw[e,aw]
end
end Go.Plain
end
section
set_option maxRecDepth 100000
namespace Go.Plain
open Go.Abs
theorem Og:fO 5000=some true:=by kernel_rfl
theorem Se{F:List aD}(h:F.length<=1000000):zbP 5000 F=some F:=by unfold zbP zc3;rw[Bh h];rfl
def mD(st0:ca)(k:Int)(a:aD)(S:List fY):aD:=S.foldl (λa p=>sI a (mulR (dm p.ah k) (gH st0 p.aW))) a
theorem Ig(st0:ca)(k:Int)(c:Nat):∀(S:List fY)(a:aD),cmp c (mD st0 k a S)=cmp c a+(S.map λp=>dm p.ah k * cmp c (gH st0 p.aW)).sum
 |[],a=>by simp[mD]
 |p :: S, a => by have:=Ig st0 k c S (sI a (mulR (dm p.ah k) (gH st0 p.aW)));show cmp c (mD st0 k _ S)=_;rw[this,qO,zr,ql,yCw];omega
theorem Oq(w:zdF):zdq 5000 w=some true:=by
 unfold zdq;rw[Og,aw,if_neg (by simp)];obtain ⟨r1,e,h⟩:=few23 w.S w.St;obtain ⟨aa,R,h'⟩:=few30P w.S w.St;rw[e] at R;simp only[au] at R;subst R;rw[e,aw];by_cases hl:(!r1)=true
 ·simp_all
 rw[if_neg hl];simp only[im,nO] at hl;have X:=h hl;have h30:=h' hl;by_cases q:aY w.S w.St
 ·rw[Td X q,aw];obtain ⟨r,_,hr,C,L',P,hh,o,ab⟩:=UN q h30 (List.Perm.refl (mapA w.St.ae));generalize w.S=s at *;generalize w.St=st at *;generalize cyc s st r=x at *;dsimp only;obtain ⟨⟨n,hn,I⟩,T,_⟩:=C;have nl:s.ai.length<=300:=by have:=q.spec.nodes.hi;omega
  have z:∀A,(aV s.ai A).length=s.ai.length:=λA=>ZE;have pl:=I.xk;rw[if_neg (by simp),Se (by rw[z];omega),wh,show zc2 5000 st.az.aq st.aj (List.map (λa=>(a.aW,a)) st.ae) s.ai s.aH s.aq s.aR s.am.kF s.am.cT s.am.fC s.am.bL s.bS s.Mode s.aj s.jG s.aI s.bo s.dg s.In s.Out s.bT st.aX st.Next st.dE st.aB st.kH st.az.ai (aV s.ai st.ae)=_ from o,wh];dsimp only;rw[Se (by rw[z];omega),wh,if_neg (by simp[z])];refine bR.eq (wi (aV s.ai st.ae) (λ_ _=>True) (λk f hk _ hf=>?_) (λf _=>?_) (by rw[z];omega))
  ·have u:k<s.ai.length:=by rw[<-z st.ae];exact hk
   have v:k<(aV s.ai x.st.ae).length:=by rw[z];exact u
   rw[if_pos (cR hk),bY v,aw];have lv:=rB.1 (zM q _ (bC hk));have lx:=rB.1 (zM I.sound _ (bC v));have Y:∀c,cmp c (aV s.ai st.ae)[k]=cmp c s.ai[k]-cw st.ae k c:=λc=>kf u hk c;have Z:∀c,cmp c (aV s.ai x.st.ae)[k]=cmp c s.ai[k]-cw x.st.ae k c:=λc=>kf u v c;have d:∀p∈x.S,aN (gH st p.aW)/\ba p.ah s.ai.length/\p.ah.length<=300:=λp hp=>by obtain ⟨j,hj,O,U,_⟩:=T.each p hp;have jo:=(q.bq.each _ hj).ok;refine ⟨by rw[O,AK q hj];exact jo.need,U,?_⟩;have:=m_ U (by omega);omega
   have E:∀p∈x.S,∀c,0<=dm p.ah k * cmp c (gH st p.aW):=λp hp c=>by obtain ⟨h1,h2,_⟩:=d p hp;exact (eW (jA h2 k) (rB.1 h1 c)).1
   have G:∀i,∀c,cmp c (aV s.ai x.st.ae)[k]<=cmp c (mD st k (aV s.ai x.st.ae)[k] (x.S.take i))/\cmp c (mD st k (aV s.ai x.st.ae)[k] (x.S.take i))<=cmp c (aV s.ai st.ae)[k]:=λi c=>by
    rw[Ig];have nn:∀(l:List fY),(∀p∈l,p∈x.S)->0<=(l.map λp=>dm p.ah k * cmp c (gH st p.aW)).sum:=λl=>by
     induction l with
     |nil=>intro _;simp
     |cons p l ih=>intro hm;rw[ql,yCw];have:=E p (hm p (rJ ..)) c;have:=ih λy K=>hm y (nS _ K);omega
    have a:=nn (x.S.take i) λp hp=>Ky hp;have b:=nn (x.S.drop i) λp hp=>ZS hp;have t:=T.used k c;have sp:(x.S.map λp=>dm p.ah k * cmp c (gH st p.aW)).sum=((x.S.take i).map λp=>dm p.ah k * cmp c (gH st p.aW)).sum+((x.S.drop i).map λp=>dm p.ah k * cmp c (gH st p.aW)).sum:=by
     conv=>lhs;rw[<-J_ i x.S]
     rw[yBL,List.sum_append]
    have:=Y c;have:=Z c;omega
   refine jj x.S.length (λi y=>y=((i:Int),(mD st k (aV s.ai x.st.ae)[k] (x.S.take i)).bA,(mD st k (aV s.ai x.st.ae)[k] (x.S.take i)).Mem,(mD st k (aV s.ai x.st.ae)[k] (x.S.take i)).bE,(mD st k (aV s.ai x.st.ae)[k] (x.S.take i)).bG)) (λi y g hi K hg=>?_) (λy g K=>?_) rfl (by omega)
   ·subst K;dsimp only;obtain ⟨j,hj,O,U,e3⟩:=T.each _ (bC hi);obtain ⟨n1,Q,n3⟩:=d _ (bC hi);obtain ⟨m,hm,rfl⟩:=iW hj;have M:=find_at X.bq q.bq.bN hm;rw[<-O] at M;have W:gH st x.S[i].aW=st.aj[m].ay:=by rw[O,AK q (bC hm)]
    rw[if_pos (cR hi),bY hi,aw,M,aw,fA,if_neg (by simp),GK n3 Q,aw,bY hm,aw,e3];dsimp only;rw[if_neg (by simp),aw,HX n3 Q k,aw,AE (by rw[<-W];exact n1) (jA Q k),wh];have pt:=G i;have N:RY 5000 (mD st k (aV s.ai x.st.ae)[k] (x.S.take i)) (mulR (dm x.S[i].ah k) st.aj[m].ay)=some (sI (mD st k (aV s.ai x.st.ae)[k] (x.S.take i)) (mulR (dm x.S[i].ah k) st.aj[m].ay)):=Wh (λc=>by have:=pt c;have:=lx c;have:=lv c;omega) (λc=>by rw[zr,<-W];have:=eW (jA Q k) (rB.1 n1 c);omega)
    rw[show RY 5000 ({ bA:=(mD st k (aV s.ai x.st.ae)[k] (x.S.take i)).bA,Mem:=(mD st k (aV s.ai x.st.ae)[k] (x.S.take i)).Mem,bE:=(mD st k (aV s.ai x.st.ae)[k] (x.S.take i)).bE,bG:=(mD st k (aV s.ai x.st.ae)[k] (x.S.take i)).bG }:aD) (mulR (dm x.S[i].ah k) st.aj[m].ay)=_ from N,wh,bU (show i<1000000 by omega)];refine hg _ ?_;have et:mD st k (aV s.ai x.st.ae)[k] (x.S.take (i+1))=sI (mD st k (aV s.ai x.st.ae)[k] (x.S.take i)) (mulR (dm x.S[i].ah k) st.aj[m].ay):=by unfold mD;rw[Fk hi,List.foldl_append];show sI _ (mulR _ (gH st x.S[i].aW))=_;rw[W]
    rw[et]
   ·subst K;dsimp only;rw[if_neg (by simp),xr,bY hk,aw];have ee:mD st k (aV s.ai x.st.ae)[k] x.S=(aV s.ai st.ae)[k]:=OH λc=>by
     rw[Ig];have:=T.used k c;have:=Y c;have:=Z c;omega
    have eb:aD.beq ({ bA:=(mD st k (aV s.ai x.st.ae)[k] x.S).bA,Mem:=(mD st k (aV s.ai x.st.ae)[k] x.S).Mem,bE:=(mD st k (aV s.ai x.st.ae)[k] x.S).bE,bG:=(mD st k (aV s.ai x.st.ae)[k] x.S).bG }:aD) (aV s.ai st.ae)[k]=true:=fy.2 ee;rw[eb,if_neg (by simp),bU (show k<1000000 by omega)];exact hf True.intro
  ·simp only[eL,bX,cr,bg]
 grind [Um]
end Go.Plain
end
