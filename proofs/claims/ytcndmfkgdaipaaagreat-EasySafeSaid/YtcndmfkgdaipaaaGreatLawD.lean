/- Lemmas. -/
import Derived.Test.YtcndmfkgdaipaaaGreatLawC
import Derived.KernelRfl
set_option linter.all false
open Go.IntKind (i64 u64)
section
namespace Go.Plain
open Go.Abs
theorem eS{F:List aE}{A:List bG}:(cD F A).length=F.length:=by
 induction A generalizing F with
 |nil=>rfl
 |cons a A ih=>have:=ih (F:=lj F a);rw[ze1] at this;exact this
theorem qe{A:List bG}:∀{F:List aE}{i:Nat}(h:i<F.length)(d:i<(cD F A).length)(c:Nat),cmp c (cD F A)[i]=cmp c F[i]-cP A i c:=by
 induction A with
 |nil=>grind [cD,cP]
 |cons a A ih=>
  intro F i h d c;have hl:i<(lj F a).length:=by grind [ze1]
  have:=ih (F:=lj F a) hl (by grind [eS]) c;rw[nE,qk,Dz,B_] at this;rw[zdO];have e:(cD F (a::A))[i]=(cD (lj F a) A)[i]'(by grind):=rfl
  grind
def others(A:List bG)(id:Int):List bG:=A.filter λb=>decide (b.aS≠id)
def AR(x what:Int):Option Int:=
 if what=1/\x=1 then some 2 else if what=2/\x=2 then some 1 else if what=3/\x=1 then some 3 else if what=4/\x=3 then some 1 else if what=5/\x=3 then some 4 else if what=6/\x=3 then some 4
 else if what=6/\EU x then some 6 else if what=7/\(x=3\/x=4) then some 5 else if what=8/\x=4 then some 6 else none
theorem Uw(x what:Int):wv 5000 x what=some ((AR x what).getD 0,(AR x what).isSome):=by
 unfold wv AR;simp only[dV,QV,ee,aw,bK,mV];by_cases h1:what=1/\x=1
 ·simp_all
 rw[if_neg h1,if_neg h1];by_cases h2:what=2/\x=2
 ·simp_all
 rw[if_neg h2,if_neg h2];by_cases h3:what=3/\x=1
 ·simp_all
 rw[if_neg h3,if_neg h3]
 grind
def HasS(x:Int):Prop:=x=3\/x=4
instance (x:Int):Decidable (HasS x):=by unfold HasS;infer_instance
def lm(x:Int):Prop:=x=5\/x=6
instance (x:Int):Decidable (lm x):=by unfold lm;infer_instance
theorem Wc(x:Int):Wn 5000 x=some (decide (lm x)):=by unfold Wn;congr 1;rw[Bool.eq_iff_iff];rw[bB];simp only[gC,mV,lm]
def gp(j:aJ)(what a:Int)(ok:Bool)(ns:Int):aJ:=
  { j with
    State:=ns
    aK:=j.aK+1
    Ok:=if what=5 then ok else if what=6\/what=8\/what=7/\j.State=3 then false else j.Ok
    cL:=if what=6 then true else if what=7 then false else j.cL
    Start:=if what=3 then a else if what=4 then 0 else j.Start
    End:=if lm ns then a else j.End }
theorem Ri{j:aJ}(h:fy j){what i:Int}(hn:0<=i/\i<=1099511627776)(ok:Bool){ns:Int}(hs:AR j.State what=some ns)(E:j.aK<281474976710656):fy (gp j what i ok ns):=by
 have p:=h.version;have t:=h.start;have u:=h.fin;have v:=h.state.start;have w:=h.state.fin;have y:=h.state.ok;have z:=h.state.kill;have g:(what=1/\j.State=1/\ns=2)\/(what=2/\j.State=2/\ns=1)\/(what=3/\j.State=1/\ns=3)\/(what=4/\j.State=3/\ns=1)\/(what=5/\j.State=3/\ns=4)\/(what=6/\j.State=3/\ns=4)\/(what=6/\EU j.State/\ns=6)\/(what=7/\(j.State=3\/j.State=4)/\ns=5)\/(what=8/\j.State=4/\ns=6):=by
  unfold AR at hs;split at hs
  ·simp_all
  split at hs
  ·simp_all
  split at hs
  ·simp_all
  split at hs
  ·simp_all
  split at hs
  ·simp_all
  split at hs
  ·simp_all
  grind
 have f:j.State<4->j.Ok=false:=λm=>by grind
 have d:j.State<4->j.cL=false:=λm=>by grind
 have o:EU j.State->j.State<3:=λA=>by rcases A with e | e <;> omega
 refine ⟨h.id,h.user,h.queue,h.many,h.need,h.vI,h.wall,h.kR,h.after,by grind [gp],h.born,?_,?_,h.arr,?_⟩
 ·simp only[gp];omega
 ·simp only[gp];omega
 ·have st0:j.State<3->j.Start=0:=λm=>yCo λq=>by omega
  have a:j.State<5->j.End=0:=λm=>yCo λq=>by omega
  rcases g with ⟨rfl,e,rfl⟩ | ⟨rfl,e,rfl⟩ | ⟨rfl,e,rfl⟩ | ⟨rfl,e,rfl⟩ | ⟨rfl,e,rfl⟩ | ⟨rfl,e,rfl⟩ | ⟨rfl,e,rfl⟩ | ⟨rfl,e,rfl⟩ | ⟨rfl,e,rfl⟩
  ·constructor <;> simp[gp,lm,f (by omega),d (by omega),st0 (by omega),a (by omega)]
  ·constructor <;> simp[gp,lm,f (by omega),d (by omega),st0 (by omega),a (by omega)]
  ·constructor <;> simp[gp,lm,f (by omega),d (by omega),st0 (by omega),a (by omega)]
  ·constructor <;> simp[gp,lm,f (by omega),d (by omega),a (by omega)]
  ·constructor <;> simp[gp,lm,d (by omega),a (by omega)]
  ·constructor <;> simp[gp,lm,a (by omega)]
  ·have:=o e;constructor <;> simp[gp,lm,f (by omega),d (by omega),st0 (by omega),a (by omega)]
  ·constructor <;> simp[gp,lm]
  ·constructor <;> simp[gp,lm]
theorem XS{j:aJ}(h:fy j){what a:Int}(hn:0<=a/\a<=1099511627776)(ok:Bool) :
  bO (vy 5000 j what a ok) λr=>(r.2≠0/\(AR j.State what=none\/j.aK=281474976710656))\/∃ns,AR j.State what=some ns/\j.aK<281474976710656/\r=(gp j what a ok ns,0):=by
 have e:=h.version;have m:=h.kR;unfold vy;dsimp only[dV];rw[uZ h,aw,if_neg (by simp)];simp only[OZ,aw];rw[if_neg (by simp_all),Uw,aw];cases hs:AR j.State what with
 |none=>rw[if_pos (by simp),aY];simp_all
 |some ns=>
  dsimp only[Option.isSome,Option.getD];rw[if_neg (by simp),bx];refine ⟨λf=>by grind [aY],λf=>?_⟩;simp only[mV] at f;rw[show zaG 5000 j.aF=some j.aF from yI (by omega),aw,wr (x:=j.aK+1) (by omega) (by omega)];simp only[Wc,aw,mV,JC,ne_eq,gV,bB];have fin:∀(o k:Bool)(t:Int),o=(if what=5 then ok else if what=6\/what=8\/what=7/\j.State=3 then false else j.Ok)->k=(if what=6 then true else if what=7 then false else j.cL)->t=(if what=3 then a else if what=4 then 0 else j.Start) ->
    bO (if lm ns then some (({ Id:=j.Id,ca:=j.ca,Queue:=j.Queue,aM:=j.aM,ay:=j.ay,aR:=j.aR,aF:=j.aF,State:=ns,Ok:=o,cL:=k,aK:=j.aK+1,cQ:=j.cQ,Start:=t,End:=a,Array:=j.Array }:aJ),(0:Int)) else some (({ Id:=j.Id,ca:=j.ca,Queue:=j.Queue,aM:=j.aM,ay:=j.ay,aR:=j.aR,aF:=j.aF,State:=ns,Ok:=o,cL:=k,aK:=j.aK+1,cQ:=j.cQ,Start:=t,End:=j.End,Array:=j.Array }:aJ),(0:Int)))
     λr=>(r.2≠0/\((some ns:Option Int)=none\/j.aK=281474976710656))\/∃d,(some ns:Option Int)=some d/\j.aK<281474976710656/\r=(gp j what a ok d,0):=λo k t g hk i=>by
   subst g hk i;rw[bx];refine ⟨λq=>?_,λq=>?_⟩ <;> rw[aY] <;> refine .inr ⟨ns,rfl,by omega,?_⟩ <;> simp only[gp,q,if_true,cu]
  grind
structure AS (st:bZ) (F:List aE):Prop where
 EY:yH F.length st.ah
 yh:F.length<=300
 XZ:∀r∈F,aN r
 nodes:0<=st.az.aj
 now:0<=st.aQ/\st.aQ<=1099511627776
theorem good_of{s:a_}{st:bZ}(q:bg s st):yH s.aj.length st.ah:=λa d=>by obtain ⟨j,hj,P⟩:=q.b_.mem a d;exact ⟨P.iR.shares,by rw[P.need];exact (q.bn.each j hj).ok.need⟩
theorem No{s:a_}{st:bZ}(q:bg s st):∀r∈cD s.aj st.ah,aN r:=λr a=>by
 obtain ⟨i,hi,rfl⟩:=jV a;have hn:i<s.aj.length:=by grind [eS]
 refine wB.2 λc=>?_;rw[qe hn hi c];have h1:=(oZ q.b_ q.spec.nodes.ok).2 i hn c;have h2:=wQ (good_of q) i c;have h3:=wB.1 (q.spec.nodes.ok _ (bH hn)) c;omega
end Go.Plain
end
section
namespace Go.Plain
open Go.Abs
variable{s:a_}{st st':bZ}
theorem iT.up{j:aJ}(h:iT s st j)(o:st.Next<=st'.Next)(i:st'.aQ=st.aQ):iT s st' j:=
 ⟨h.ok,by have:=h.next;omega,h.user,h.queue,by rw[i];exact h.born,by rw[i];exact h.start,by rw[i];exact h.fin,h.version⟩
theorem eX.up{j:aJ}{a:bG}(h:eX s st j a)(e:st'.aQ=st.aQ):eX s st' j a:=⟨h.Gk,h.need,h.iR,by rw[e];exact h.now⟩
theorem mem_set{l:List aJ}{k:Nat}{j x:aJ}(h:x∈l.set k j):x=j\/x∈l:=by grind
theorem idsC{l:List aJ}{k:Nat}(hk:k<l.length){j:aJ}(e:j.Id=l[k].Id){d:Int}(h:∃i∈l,i.Id=d):∃i∈l.set k j,i.Id=d:=by grind [List.mem_iff_getElem]
theorem OF{l:List aJ}(hs:bS l){k:Nat}(hk:k<l.length){j x:aJ}(h:x∈l.set k j):x=j\/x∈l/\x.Id≠l[k].Id:=by
 obtain ⟨m,hm,rfl⟩:=jV h;rw[yBy] at hm;by_cases c:k=m
 ·simp_all
 ·rw[yBM c];exact .inr ⟨bH _,λe=>c (hs.inj hm hk e).symm⟩
structure WR (s:a_) (st:bZ) (o j:aJ):Prop where
 id:j.Id=o.Id
 OV:iT s st j
 fits:j.State<5->jA 5000 s j.Queue j.aM j.ay=some true
 after:j.aF=o.aF
 live:j.State<5->o.State<5
theorem WR.waits{k:Nat}(hk:k<st.ai.length){j:aJ}(r:WR s st st.ai[k] j)(q:bg s st)(e:st'.ai=st.ai.set k j):∀x∈st'.ai,IF s st' x:=by
 intro x o hs;rw[e] at o;have up:∀d,(∃i∈st.ai,i.Id=d)->∃i∈st'.ai,i.Id=d:=λd h=>by rw[e];exact idsC hk r.id h
 rcases mem_set o with rfl | o
 ·refine ⟨r.fits hs,λd u=>up _ ?_⟩;rw[r.after] at u;exact (q.waits _ (bH hk) (r.live hs)).after d u
 ·have:=q.waits x o hs;exact ⟨this.fits,λd u=>up _ (this.after d u)⟩
theorem WR.bn{k:Nat}(hk:k<st.ai.length){j:aJ}(r:WR s st st.ai[k] j)(q:bg s st)(e:st'.ai=st.ai.set k j)(u:st'.Next=st.Next)(o:st'.aQ=st.aQ):dw s st':=by
 refine ⟨by rw[e,yBy];exact q.bn.len,λx i=>?_,by rw[e];exact RD q.bn.bM hk r.id⟩;rw[e] at i;rcases mem_set i with rfl | i
 ·exact r.OV.up (by omega) o
 ·exact (q.bn.each x i).up (by omega) o
theorem asc_at{A:List bG}(h:Az A):∀i (hi:i<A.length),∀m (h:m<A.length),m+1=i->A[m].aS<A[i].aS:=λi hi m hm e=>by
 have:=yBg.1 h m i (by simp_all) (by simp_all) (by omega)
 simp_all
end Go.Plain
end
section
namespace Go.Plain
open Go.Abs
theorem Nq{α:Type}{L:List (Int×α)}(hn:(L.map Prod.fst).Nodup){k:Int}{a:α}(h:(k,a)∈L):dh L k=some a:=by
 induction L with
 |nil=>cases h
 |cons p L ih=>
  obtain ⟨d,e⟩:=p;rw[tX,List.nodup_cons] at hn;simp only[dh]
  grind
theorem HP{α:Type}{L:List (Int×α)}{k:Int}{a:α}(h:dh L k=some a):(k,a)∈L:=by
 induction L with
 |nil=>simp[dh] at h
 |cons p L ih=>grind [Go.Abs.dh]
theorem Ij{α:Type}{L M:List (Int×α)}(h:L.Perm M)(hn:(M.map Prod.fst).Nodup)(k:Int):dh L k=dh M k:=by
 have d:(L.map Prod.fst).Nodup:=((h.map Prod.fst).nodup_iff).2 hn;cases hl:dh L k with
 |some a=>grind [Nq,HP]
 |none=>
  cases hm:dh M k with
  |none=>rfl
  |some a=>grind [Nq,HP]
theorem WY{L:List (Int×bG)}{A:List bG}(h:L.Perm (mapA A))(a:Az A):aZ 5000 L=aZ 5000 (mapA A):=by
 have d:((mapA A).map Prod.fst).Nodup:=by
  have e:(mapA A).map Prod.fst=A.map (·.aS):=by simp[mapA]
  rw[e];exact a.imp λh=>by omega
 have f:Bh (λk=>k) L=Bh (λk=>k) (mapA A):=by
  unfold Bh;have c:(L.length<=1000000/\(L.map Prod.fst).Nodup/\∀p∈L,(Lit.int .i64 p.1).wf=true)↔((mapA A).length<=1000000/\((mapA A).map Prod.fst).Nodup/\∀p∈mapA A,(Lit.int .i64 p.1).wf=true):=by grind [List.Perm.length_eq]
  by_cases g:(L.length<=1000000/\(L.map Prod.fst).Nodup/\∀p∈L,(Lit.int .i64 p.1).wf=true)
  ·rw[if_pos g,if_pos (c.1 g)]
   grind [Go.mergeSort_of_perm_i]
  grind
 grind [Go.Abs.aZ,Ij]
section
variable{s:a_}{st:bZ}(q:bg s st){L:List (Int×bG)}(hL:L.Perm (mapA st.ah))
include q hL
theorem Lu:Qh 5000 st.az.am st.ai L st.aQ st.Next st.cR st.aA st.gz st.az.aj=some st:=by have a:=Ul q;have:=YZ (Eg a q);unfold Qh at this ⊢;rw[WY hL (Cu q)];exact this
omit hL in
theorem Vo{a b:aJ}(d:a∈st.ai)(hb:b∈st.ai)(h:a.Id=b.Id):a=b:=by
 obtain ⟨i,hi,rfl⟩:=jV d;obtain ⟨j,hj,rfl⟩:=jV hb;have:=q.bn.bM.inj hi hj h
 simp_all
theorem readyV(h30:st.ai.length<=30):∃r,zdh 5000 st.az.am st.ai L s.aj s.aH s.am s.aT s.aq.mG s.aq.de s.aq.f_ s.aq.bW s.cj s.Mode s.ai s.kX s.aI s.br s.dm s.In s.Out s.ce st.aQ st.Next st.cR st.aA st.gz st.az.aj=some r/\r.Perm (st.ai.filter (Ag st.ai)):=by have a:=Ul q;have hl:=a.bn;have e:∀j∈st.ai.filter (Ag st.ai),fy j:=λj hj=>(q.bn.each j (RI.1 hj).1).ok;have d:(st.ai.filter (Ag st.ai)).length<=30:=kL (List.length_filter_le _ _) h30;obtain ⟨r,f,hp⟩:=VJ a.spec q.spec { aQ:=st.aQ,gz:=st.gz } e (by omega);refine ⟨r,?_,hp⟩;unfold zdh;rw[Lu q hL,aw,SI hl q.bn.bM a.after,aw,R_ _ _ (by grind),Bu,rT a.spec,aw,f];rfl
end
def yN(s:a_)(l:List aJ)(id:Int):Bool:=match l.find? λj=>j.Id == id with
 |some j=>Ag l j&&(eJ 5000 s l j).getD false
 |none=>false
theorem find_ix{l:List aJ}(hs:bS l){i:Nat}(hi:i<l.length):(l.find? λj=>j.Id == l[i].Id)=some l[i]:=by
 cases h:l.find? (λj=>j.Id == l[i].Id) with
 |none=>
  have:=List.find?_eq_none.1 h _ (bH hi)
  simp_all
 |some j=>
  have h1:=List.find?_some h;simp only[mV] at h1;obtain ⟨k,hk,rfl⟩:=jV (yBA h);have:=hs.inj hk hi h1
  simp_all
theorem mayB_at{s:a_}{l:List aJ}(hs:bS l){i:Nat}(hi:i<l.length):yN s l l[i].Id=(Ag l l[i]&&(eJ 5000 s l l[i]).getD false):=by grind [yN,find_ix]
theorem Vs{s:a_}{l:List aJ}{id:Int}(h:yN s l id=true):∃i,∃hi:i<l.length,l[i].Id=id/\Ag l l[i]=true/\l[i].State=1:=by
 unfold yN at h;cases e:l.find? (λj=>j.Id == id) with
 |none=>simp_all
 |some j=>
  rw[e] at h;simp only[bK] at h;have h1:=List.find?_some e;simp only[mV] at h1;obtain ⟨i,hi,rfl⟩:=jV (yBA e);refine ⟨i,hi,h1,h.1,?_⟩;have:=h.1;unfold Ag at this
  simp_all
theorem YS(s:a_)(l:List aJ){K:aJ->Option Bool}(id:Int):∀r:List aJ,lpR (λ(d:aJ) (e:Unit) f=>if (d.Id == id)=true then K d else f ()) (λ(e:Unit)=>some false) r ()=match r.find? λj=>j.Id == id with
  |some j=>K j
  |none=>some false
 |[]=>rfl
 |a :: r => by
  unfold lpR;rw[List.find?_cons];cases h:(a.Id == id) with
  |true=>simp_all
  |false=>rw[if_neg (by simp)];exact YS s l id r
theorem mayV{s:a_}{st:bZ}(q:bg s st){L:List (Int×bG)}(hL:L.Perm (mapA st.ah))(id:Int) :
  fE 5000 st.az.am st.ai L id s.aj s.aH s.am s.aT s.aq.mG s.aq.de s.aq.f_ s.aq.bW s.cj s.Mode s.ai s.kX s.aI s.br s.dm s.In s.Out s.ce st.aQ st.Next st.cR st.aA st.gz st.az.aj=some (yN s st.ai id):=by
 have a:=Ul q;have hl:=a.bn;unfold fE;rw[Lu q hL,aw,SI hl q.bn.bM a.after,aw];refine (YS s st.ai (K:=λd=>(zaW 5000 s.aj s.aH s.am s.aT s.aq.mG s.aq.de s.aq.f_ s.aq.bW s.cj s.Mode s.ai s.kX s.aI s.br s.dm s.In s.Out s.ce).bind λf=>(eJ 5000 f st.ai d).bind λg=>some g) id _).trans ?_;have h:∀j∈st.ai,j.Id=id->∀x∈st.ai,x.Id=id->x=j:=λj hj e x i m=>Vo q i hj (m.trans e.symm);unfold yN;cases e:st.ai.find? (λj=>j.Id == id) with
 |none=>grind
 |some j=>
  have h1:=List.find?_some e;simp only[mV] at h1;have hj:=yBA e;obtain ⟨b,o⟩:=GL a.spec q.spec hl j;by_cases r:Ag st.ai j=true
  ·have:(st.ai.filter (Ag st.ai)).find? (λj=>j.Id == id)=some j:=by
    cases p:(st.ai.filter (Ag st.ai)).find? (λj=>j.Id == id) with
    |none=>simp_all
    |some x=>grind
   grind [rT,lX.spec]
  grind
end Go.Plain
end
section
namespace Go.Plain
open Go.Abs
section
variable{l:List aJ}
theorem set_ok(hl:l.length<=300)(hs:bS l){k:Nat}(hk:k<l.length){j:aJ}(hj:fy j)(a:j.Id=l[k].Id):zcS 5000 l j=some (l.set k j,0):=by have:=hj.kR;unfold zcS;rw[uZ hj,aw,if_neg (by simp),a,IV hl hs hk,aw];dsimp only;rw[if_neg (by simp),DE (by omega),aw,bX hk,aw,yBL]
theorem Qw(hl:l.length<=300)(hs:bS l){k:Nat}(hk:k<l.length){j:aJ}(hj:fy j)(d:j.Id=l[k].Id){Q:List Int}(a:jS Q) :
  zbD 5000 Q l l[k] j=some (l.set k j,jJ Q l[k].Queue j.Queue,0):=by
 unfold zbD;rw[set_ok hl hs hk hj d,aw];dsimp only;rw[if_neg (by simp),MH a,aw];dsimp only[dV];unfold jJ;by_cases h:j.Queue=l[k].Queue
 ·simp_all
 ·rw[if_pos (by simp_all),if_neg h,MH (Ia a _),aw]
end
end Go.Plain
end
section
namespace Go.Plain
open Go.Abs
def iK(A:List bG)(a:bG):List bG:=match A with
 |[]=>[a]
 |b::A=>if b.aS<a.aS then b::iK A a else a::b::A
theorem qO(A:List bG)(a:bG):(iK A a).Perm (a::A):=by
 induction A with
 |nil=>exact List.Perm.refl _
 |cons b A ih=>grind [iK]
theorem kw{A:List bG}{a x:bG}:x∈iK A a↔x=a\/x∈A:=by rw[(qO A a).mem_iff,gB]
theorem insA_asc{A:List bG}{a:bG}(h:Az A)(hn:∀b∈A,b.aS≠a.aS):Az (iK A a):=by
 induction A with
 |nil=>simp[iK,Az]
 |cons b A ih=>
  unfold Az at h ih ⊢;rw[tX,yBw] at h;unfold iK;split
  ·rename_i g;rw[tX,yBw];refine ⟨λx e=>?_,ih h.2 λc d=>hn c (pN _ d)⟩;obtain ⟨c,d,rfl⟩:=iS.1 e;rcases kw.1 d with rfl | d
   ·exact g
   simp_all
  grind [List.pairwise_cons]
theorem y_{A B:List bG}(h:A.Perm B)(i:Int)(c:Nat):cP A i c=cP B i c:=by
 induction h with
 |nil=>rfl
 |cons x _ ih=>grind [zdO]
 |swap x y l=>simp only[zdO];omega
 |trans _ _ h1 h2=>omega
theorem msetV{α:Type}{L:List (Int×α)}{k:Int}{a:α}(h:dh L k=none):jR L k a=L++[(k,a)]:=by
 induction L with
 |nil=>rfl
 |cons p L ih=>
  obtain ⟨d,f⟩:=p;simp only[dh] at h;split at h
  ·simp at h
  ·rename_i e;simp only[jR,if_neg e,ih h,Jd]
def jt(j:aJ)(a:Int):aJ:=gp j 3 a false 3
def dS(j:aJ)(sh:List cO):bG:={ aS:=j.Id,ay:=j.ay,ae:=sh }
def iy(st:bZ)(k:Nat)(j:aJ)(sh:List cO):bZ:=
 { st with ai:=st.ai.set k (jt j st.aQ),ah:=iK st.ah (dS j sh),az:={ am:=jJ st.az.am j.Queue j.Queue,aj:=Kq st.az.aj } }
section
variable{s:a_}{st:bZ}(q:bg s st){k:Nat}(hk:k<st.ai.length)(h1:st.ai[k].State=1){sh:List cO}(hs:jH s st.ai[k] sh)(hf:v_ (cD s.aj st.ah) (dS st.ai[k] sh))
include q hk h1
theorem Fy:∀a∈st.ah,a.aS≠st.ai[k].Id:=λa d e=>by
 obtain ⟨R,H⟩:=Gf q.spec q.bn q.b_;have:=(H _ (bH hk)).has.1 ⟨a,d,e⟩
 grind [tA]
theorem Kx:st.ai[k].aK<281474976710656:=by have j:=q.bn.each _ (bH hk);have:=j.version;have:=Ew st.ai[k].State;have:=q.spec.uj;omega
theorem Cz:fy (jt st.ai[k] st.aQ):=by have j:=q.bn.each _ (bH hk);exact Ri j.ok q.nums.now false (ns:=3) (by rw[h1];rfl) (Kx q hk h1)
include hs hf
theorem Rz:cD s.aj (iy st k st.ai[k] sh).ah=lj (cD s.aj st.ah) (dS st.ai[k] sh):=by
 show cD s.aj (iK st.ah (dS st.ai[k] sh))=_;refine yCq (by grind [eS,ze1]) λi h1 h2=>dW λc=>?_;have hn:i<s.aj.length:=by grind [eS]
 rw[qe hn h1 c,nE h2,qk,Dz,B_,qe hn (by grind [eS]) c,y_ (qO ..),zdO];omega
theorem startV{L:List (Int×bG)}(hL:L.Perm (mapA st.ah)):∃p,za6 5000 st.az.am st.ai L st.ai[k].Id sh s.aj s.aH s.am s.aT s.aq.mG s.aq.de s.aq.f_ s.aq.bW s.cj s.Mode s.ai s.kX s.aI s.br s.dm s.In s.Out s.ce st.aQ st.az.aj (cD s.aj st.ah) =
   some (p,(iy st k st.ai[k] sh).az.am,(iy st k st.ai[k] sh).ai,0,cD s.aj (iy st k st.ai[k] sh).ah,(iy st k st.ai[k] sh).az.aj)/\p.Perm (mapA (iy st k st.ai[k] sh).ah):=by
 have u:=Ul q;have hl:=u.bn;have w:=q.bn.each _ (bH hk);have f:=w.ok;have U:=f.kR;have sl:sh.length<=300:=by have:=jh hs.shares (by omega);have:=q.spec.nodes.hi;omega
 have i:=Cu q;have none:dh L st.ai[k].Id=none:=by
  rw[Ij hL (by
   have e:(mapA st.ah).map Prod.fst=st.ah.map (·.aS):=by simp[mapA]
   rw[e];exact i.imp λh=>by omega)]
  grind [Iq,Fy]
 obtain ⟨W,y,A⟩:=Ng u.spec q.spec st.ai[k] sh sl;have:=A.2 hs;subst this;obtain ⟨E,G,K⟩:=XS f (what:=3) q.nums.now false;have N:AR st.ai[k].State 3=some 3:=by rw[h1];rfl
 have m:E=(jt st.ai[k] st.aQ,0):=by
  rcases K with ⟨_,g | g⟩ | ⟨X,d,_,o⟩
  ·simp_all
  ·have:=Kx q hk h1;omega
  ·rw[N] at d;injection d with d
   subst d;exact o
 subst m;have O:=No q;obtain ⟨v,P,d,o⟩:=KP (M:=L) (a:=dS st.ai[k] sh) (F:=cD s.aj st.ah) (by rw[eS];have:=q.spec.nodes.hi;omega) sl O;have Q:vM L (cD s.aj st.ah) (dS st.ai[k] sh):=by
  refine ⟨f.id,λe=>?_,by rw[eS];exact hs.shares,f.need,none,hf⟩;have R:sh=[]:=e;have t:=hs.Sm;rw[R] at t;have:=f.many
  grind [kK]
 have z:=d.2 Q;obtain ⟨m1,T⟩:=o z;refine ⟨v.1,?_,?_⟩
 ·unfold za6;rw[get_some hl q.bn.bM hk (by omega),aw];dsimp only;rw[if_neg (by simp),if_neg (by simp[h1])];rw[show zfh 5000 ({ aj:=s.aj,aH:=s.aH,am:=s.am,aT:=s.aT,aq:=({ mG:=s.aq.mG,de:=s.aq.de,f_:=s.aq.f_,bW:=s.aq.bW }:Lx),cj:=s.cj,Mode:=s.Mode,ai:=s.ai,kX:=s.kX,aI:=s.aI,br:=s.br,dm:=s.dm,In:=s.In,Out:=s.Out,ce:=s.ce }:a_) st.ai[k] sh=some true from y,xk,if_neg (by simp),G,xk,if_neg (by simp)];rw[show zaZ 5000 L ({ aS:=st.ai[k].Id,ay:=st.ai[k].ay,ae:=sh }:bG) (cD s.aj st.ah)=some v from P,xk,if_neg (by simp[z]),Mw q.use.nodes.1,xk,Qw hl q.bn.bM hk (Cz q hk h1) rfl q.use.stamps,xk];rw[Rz q hk h1 hs hf,T.eq];rfl
 ·rw[m1];show (jR L st.ai[k].Id (dS st.ai[k] sh)).Perm _;rw[msetV none];show (L++[(st.ai[k].Id,dS st.ai[k] sh)]).Perm (mapA (iK st.ah (dS st.ai[k] sh)));refine List.Perm.trans ?_ ((qO st.ah (dS st.ai[k] sh)).map _).symm;exact (yCj.trans (List.Perm.cons _ hL))
theorem CA(hcl:∀x∈sh,∀b∈st.aA,b.Node=x.Node->¬b.bQ<st.aQ+st.ai[k].aR):bg s (iy st k st.ai[k] sh):=by
 obtain ⟨R,H⟩:=Gf q.spec q.bn q.b_;have g:=q.bn.each _ (bH hk);have v:=Cz q hk h1;have o:=Cu q;have p:=Fy q hk h1;have EY:=R.EY;have ver:=g.version;rw[h1] at ver;have r:WR s st st.ai[k] (jt st.ai[k] st.aQ):=by refine ⟨rfl,⟨v,g.next,g.user,g.queue,g.born,Py _,g.fin,?_⟩,λ_=>(q.waits _ (bH hk) (by omega)).fits,rfl,λ_=>by omega⟩;show st.ai[k].aK+1<=s.aI+jB 3;have:jB 1=0:=rfl;have:jB 3=1:=rfl;omega
 have J:=r.bn (st':=iy st k st.ai[k] sh) hk q rfl rfl rfl;have m:Az (iK st.ah (dS st.ai[k] sh)):=insA_asc o p;have t:=g.ok.wall;have u:∀(i:Nat)(hi:i<s.aj.length) c,cP (dS st.ai[k] sh::st.ah) i c<=cmp c s.aj[i]:=λi hi c=>by
  have hl:i<(cD s.aj st.ah).length:=by grind [eS]
  have:=wB.1 (hf i hl) c;rw[qk,Dz,B_,qe hi hl c] at this
  grind [zdO]
 refine ⟨q.spec,⟨q.nums.now,q.nums.next,q.nums.book⟩,J,r.waits hk q rfl,Zl q.spec J ⟨λi hi=>?_,λi hi c=>?_⟩ λx f=>?_,⟨q.ju.cA,q.ju.live,λa d=>?_⟩,⟨q.use.len,q.use.use,by show (jJ _ _ _).length=_;rw[NX];exact q.use.qlen,SU q.use.nodes,Pr q.use.stamps _ _⟩⟩
 ·have hm:∀a∈iK st.ah (dS st.ai[k] sh),(∃j∈(iy st k st.ai[k] sh).ai,j.Id=a.aS)/\bm a.ae s.aj.length/\aN a.ay:=λa d=>by
   rcases kw.1 d with rfl | d
   ·exact ⟨⟨jt st.ai[k] st.aQ,OT.2 ⟨k,by show k<(st.ai.set k _).length;simp_all,yBD _⟩,rfl⟩,hs.shares,g.ok.need⟩
   ·obtain ⟨x,f,P⟩:=q.b_.mem _ d;exact ⟨idsC hk r.id ⟨x,f,P.Gk.symm⟩,EY _ d⟩
  obtain ⟨m1,w,y⟩:=hm _ (bH hi);exact ⟨asc_at m i hi,m1,w,y⟩
 ·show cP (iK st.ah (dS st.ai[k] sh)) i c<=_
  grind [y_,qO]
 ·rcases OF q.bn.bM hk f with rfl | ⟨f,c⟩
  ·refine ⟨⟨λ_=>rfl,λ_=>⟨_,kw.2 (.inl rfl),rfl⟩⟩,λa d e=>?_⟩;rcases kw.1 d with rfl | d
   ·exact ⟨rfl,rfl,⟨hs.shares,hs.Sm,hs.q,hs.part⟩,by show st.aQ<st.aQ+st.ai[k].aR;omega⟩
   ·exact absurd e (p a d)
  ·have h:=H x f;refine ⟨⟨λ⟨a,d,e⟩=>?_,λz=>?_⟩,λa d e=>?_⟩
   ·rcases kw.1 d with rfl | d
    ·exact absurd e.symm c
    ·exact h.has.1 ⟨a,d,e⟩
   ·obtain ⟨a,d,e⟩:=h.has.2 z;exact ⟨a,kw.2 (.inr d),e⟩
   ·rcases kw.1 d with rfl | d
    ·exact absurd e.symm c
    ·exact (h.XI a d e).up rfl
 ·intro x f e;rcases kw.1 d with rfl | d
  ·rcases OF q.bn.bM hk f with rfl | ⟨f,c⟩
   ·exact hcl
   ·exact absurd e c
  ·rcases mem_set f with rfl | f
   ·exact absurd (show a.aS=st.ai[k].Id from e.symm) (p a d)
   ·exact q.ju.uB a d x f e
end
end Go.Plain
end
section
namespace Go.Plain
open Go.Abs
def dO(q:gR)(w:Cw):jN×Bool:=(zaF 5000 q w).getD ({ aS:=0,At:=0,ae:=[] },false)
section
variable{nodes:List (List bY)}{q:gR}{L:Nat}(hL:L<=200)(hq:sf q)(hp:PR nodes q L)
include hL hq hp
theorem RY{w:Cw}(a:iB q w):zaK 5000 nodes w.Part w.aM w.ay w.aR q.aQ q.S.aH=some (dO q w)/\zaF 5000 q w=some (dO q w)/\∃T,D_ q T/\wu q w T (dO q w):=by grind [ZT,dO]
structure Ba (q:gR) (w:Cw) (dg:Int) (sh:List cO):Prop where
 lo:q.aQ<=dg
 hi:dg<=1099511627776
 shares:bm sh q.S.aj.length
 Sm:kK sh=w.aM
 part:∀y∈sh,y.Node∈cB q w
 fit:∀(k:Nat)(h:k<q.S.aj.length)(t:Int),dg<=t->t<dg+w.aR->yj (mulR (dL sh k) w.ay) (bI q k t)
theorem Y_{w:Cw}(a:iB q w){t:Int}(i:q.aQ<=t)(f:(cJ q w t).2=true):Ba q w t (cJ q w t).1:=by
 have m:=aaa hL hq hp a f;obtain ⟨F,o,h,_,e⟩:=DU (by omega) hq hp a i m;have w1:cJ q w t=DA F (cB q w) w.aM w.ay:=by grind [cJ]
 have M:=hq.spec.parts.ok _ (jQ a).2;rw[w1] at f ⊢;obtain ⟨p1,p,v,z⟩:=Um h (by grind [Ja.len]) a.need a.vI f;rw[o.len] at p1;refine ⟨i,m,p1,p,v,λk hk u A E=>?_⟩;have d:k<F.length:=by grind [Ja.len]
 have G:aN (bI q k u):=hp.right k u (by omega) (by omega) (by omega);refine mulR_le (yL (λy K=>by have:=p1.mem y K;omega) _) a.need ?_ G;rcases z k d with g | g
 ·left;intro c;have h1:=(o.low k d).le u _ A E rfl c;have h2:=g c;omega
 omega
theorem KW{w:Cw}(a:iB q w)(h:(dO q w).2=true):Ba q w (dO q w).1.At (dO q w).1.ae:=by obtain ⟨_,_,T,d,e⟩:=RY hL hq hp a;obtain ⟨f,g,_,_,i⟩:=e.yes h;rw[i];exact Y_ hL hq hp a ((d.mem _).1 f).1 g
end
def lu(j:aJ)(p:jN):BZ:={ bQ:=p.At,To:=p.At+j.aR,ay:=j.ay,ae:=p.ae }
theorem Mc{q:gR}{w:Cw}{j:aJ}{p:jN}(h:Ba q w p.At p.ae)(hj:fy j)(hq:sf q):rN (lu j p) q.S.aj.length:=by
 have n:=hq.now;have a:=hj.wall;have d:=h.lo;have hi:=h.hi;have nn:=hq.spec.nodes.hi;refine ⟨h.shares,?_,hj.need,?_,?_⟩
 ·have:=jh h.shares (by omega);show p.ae.length<=300;omega
 ·show 0<=p.At;omega
 ·show p.At+j.aR<=_;omega
theorem Nu{q:gR}{u:BZ}(hq:sf q)(d:rN u q.S.aj.length)(hl:q.L.length+1≤100):sf (tP q u):=
 ⟨hq.spec,hq.now,hq.cA,fun v a=>by
  rcases mC.1 a with a | a
  ·exact hq.used v a
  ·rw [Bp.1 a]; exact d,by show (q.L++[u]).length≤100; simp_all⟩
section
variable{nodes:List (List bY)}{q:gR}{L:Nat}(hL:L<=200)(hq:sf q)(hp:PR nodes q L){st:bZ}{j:aJ}(hj:iT q.S st j)
include hL hq hp hj
theorem Xm{r:jN×Bool}(h:r.2=true):(named j r).1={ aS:=j.Id,At:=r.1.At,ae:=r.1.ae }/\(named j r).2=true:=by unfold named;simp_all
theorem zX:zaM 5000 nodes j q.S.aj q.S.aH q.S.am q.S.aT q.S.aq.mG q.S.aq.de q.S.aq.f_ q.S.aq.bW q.S.cj q.S.Mode q.S.ai q.S.kX q.S.aI q.S.br q.S.dm q.S.In q.S.Out q.S.ce q.aQ q.S.aH=some (named j (dO q (eH q.S j))):=by
 have d:=Cp hq.spec rfl hj;obtain ⟨a,_,_⟩:=RY hL hq hp d;obtain ⟨i,e,f⟩:=Aw ⟨hj.ok.queue.1,hj.queue⟩;have g:=hj.queue;have h:=hj.ok.queue.1;rw[f] at a ⊢;unfold zaM;rw[rT (kH hq.spec),aw,if_neg (by simp_all),e,aw];dsimp only at a ⊢;rw[a,aw];unfold named
 grind
end
end Go.Plain
end
section
namespace Go.Plain
open Go.Abs
structure CX where
 st:bZ
 q:gR
 P:List jN
 S:List jN
def Vl(l:List aJ)(id:Int):Nat:=l.findIdx λj=>j.Id == id
def su(st:bZ)(j:aJ)(sh:List cO):bZ:=iy st (Vl st.ai j.Id) j sh
def ft(s:a_)(q:gR)(j:aJ):jN×Bool:=named j (dO q (eH s j))
def SG(s:a_)(x:CX)(j:aJ):CX:=
 if yN s x.st.ai j.Id=true then
  if (ft s x.q j).2=true then
   if (ft s x.q j).1.At > x.q.aQ then { st:=x.st,q:=tP x.q (lu j (ft s x.q j).1),P:=x.P++[(ft s x.q j).1],S:=x.S }
   else { st:=su x.st j (ft s x.q j).1.ae,q:=tP x.q (lu j (ft s x.q j).1),P:=x.P,S:=x.S++[(ft s x.q j).1] }
  else x
 else x
theorem Kv{l:List aJ}(hs:bS l){i:Nat}(hi:i<l.length):Vl l l[i].Id=i:=by unfold Vl;have h:l.findIdx (λj=>j.Id == l[i].Id)<l.length:=List.findIdx_lt_length.2 ⟨l[i],bH hi,by simp⟩;have:=List.findIdx_getElem (w:=h);simp only[mV] at this;exact hs.inj h hi this
structure sv (s:a_) (st0:bZ) (x:CX) (n:Nat):Prop where
 sound:bg s x.st
 now:x.st.aQ=st0.aQ
 next:x.st.Next=st0.Next
 book:x.st.cR=st0.cR
 cA:x.st.aA=st0.aA
 use:x.st.gz=st0.gz
 len:x.st.ai.length=st0.ai.length
 bn:∀m (h:m<x.st.ai.length) (h':m<st0.ai.length),x.st.ai[m]=st0.ai[m]\/x.st.ai[m]=jt st0.ai[m] st0.aQ
 ref:sf x.q
 qs:x.q.S=s
 qn:x.q.aQ=st0.aQ
 qb:x.q.aA=st0.aA
 yh:x.q.L.length<=30+n
 used:∀(k:Nat)(c:Nat),cP x.st.ah k c<=cmp c (ba x.q.L k st0.aQ)
 Am:x.P.length+x.S.length<=n
theorem sv.up{s:a_}{st0:bZ}{x:CX}{n:Nat}(h:sv s st0 x n):sv s st0 x (n+1):={ h with yh:=by have:=h.yh;omega,Am:=by have:=h.Am;omega }
theorem CU(q:gR)(u:BZ)(k t:Int)(c:Nat):cmp c (ba (tP q u).L k t)=cmp c (ba q.L k t)+cmp c (kg u k t):=by grind [tP,nK,wH]
section
variable{s:a_}{st0:bZ}{x:CX}{n:Nat}(I:sv s st0 x n)(q0:bg s st0)
include I q0
theorem sv.Gk{j:aJ}(hj:j∈st0.ai)(hm:yN s x.st.ai j.Id=true):∃m,∃h:m<x.st.ai.length,x.st.ai[m]=j/\j.State=1:=by
 obtain ⟨m,o,e,_,h1⟩:=Vs hm;have hl:m<st0.ai.length:=by grind [sv.len]
 obtain ⟨i,hi,rfl⟩:=jV hj;rcases I.bn m o hl with g | g
 ·rw[g] at e h1;have:=q0.bn.bM.inj hl hi e
  grind
 grind [jt,gp]
end
section
variable{s:a_}{st0:bZ}{x:CX}{n:Nat}(I:sv s st0 x n)(q0:bg s st0)(hn:n<=30){nodes:List (List bY)}{b:Nat}(hb:b<=200)(hp:PR nodes x.q b){j:aJ}(hj:j∈st0.ai)(hm:yN s x.st.ai j.Id=true)
include I q0 hn hb hp hj hm
structure Gj (s:a_) (x:CX) (j:aJ) (m:Nat) (hm:m<x.st.ai.length) (p:jN):Prop where
 dg:x.st.ai[m]=j
 one:x.st.ai[m].State=1
 iR:jH s x.st.ai[m] p.ae
 fits:p.At=x.st.aQ->v_ (cD s.aj x.st.ah) (dS x.st.ai[m] p.ae)
 uB:p.At=x.st.aQ->∀y∈p.ae,∀b∈x.st.aA,b.Node=y.Node->¬b.bQ<x.st.aQ+x.st.ai[m].aR
 id:p.aS=j.Id
 place:Ba x.q (eH s j) p.At p.ae
theorem zp(h:(ft s x.q j).2=true):∃m,∃hm:m<x.st.ai.length,Gj s x j m hm (ft s x.q j).1:=by
 obtain ⟨m,p,e,h1⟩:=I.Gk q0 hj hm;have M:=I.qs;have d:=I.sound.bn.each _ (bH p);rw[e] at d;have F:iT x.q.S x.st j:=by simp_all
 have Q:iB x.q (eH s j):=Cp (st:=x.st) I.sound.spec M d;have N:(dO x.q (eH s j)).2=true:=by grind [ft,named]
 have P:=KW hb I.ref hp Q N;obtain ⟨R,_⟩:=Xm hb I.ref hp F N;have pl:(ft s x.q j).1={ aS:=j.Id,At:=(dO x.q (eH s j)).1.At,ae:=(dO x.q (eH s j)).1.ae }:=R;obtain ⟨T,U,z⟩:=Aw (s:=s) (j:=j) ⟨d.ok.queue.1,d.queue⟩;have W:(eH s j).ay=j.ay:=by rw[z]
 have X:(eH s j).aR=j.aR:=by rw[z]
 have wm:(eH s j).aM=j.aM:=by rw[z]
 have wp:(eH s j).Part=s.am[j.Queue.toNat].Part:=by rw[z]
 have A:=P.fit;have a:=P.shares;have Y:=P.lo;rw[W,X] at A;rw[M] at a A;have xn:x.q.aQ=x.st.aQ:=by rw[I.qn,I.now]
 have O:=d.ok.wall;refine ⟨m,p,e,by simp_all,?_,λv=>?_,λv=>?_,by rw[pl],by simp_all⟩
 ·rw[e,pl];refine ⟨a,by grind [Ba.Sm],⟨d.ok.queue.1,d.queue⟩,λy E=>?_⟩;have:=P.part y E
  grind [cB]
 ·rw[e];rw[pl] at v ⊢;dsimp only at v ⊢;intro i hi;have g:i<s.aj.length:=by grind [eS]
  have Z:=No I.sound;refine wB.2 λc=>?_;have l1:=wB.1 (Z _ (bH hi)) c;have o:=iC (sq a i) (wB.1 d.ok.need c);unfold qk;rw[Dz,B_];show 0<=_-dL (dO x.q (eH s j)).1.ae i * cmp c j.ay/\_-dL (dO x.q (eH s j)).1.ae i * cmp c j.ay<=1048576;have f:=A i g x.q.aQ (by omega) (by omega) c;rw[B_] at f;have fl:cmp c (bI x.q i x.q.aQ)<=cmp c (cD s.aj x.st.ah)[i]:=by
   rw[qe g hi];have u:=I.used i c;have nv:=wB.1 (I.sound.spec.nodes.ok _ (bH g)) c;unfold bI;split
   ·grind [OO,qe]
   grind [Dz,Bk,sv.qn]
  omega
 ·rw[e];rw[pl] at v ⊢;dsimp only at v ⊢;intro y E bk w en aa;obtain ⟨i,hi,rfl⟩:=jV E;have o:=Kf a hi;obtain ⟨y0,y1,y2,y3⟩:=a.mem _ E;have bl:=(I.sound.ju.live _ w).2;obtain ⟨G,K,rfl⟩:=jV w;have b1:=(I.sound.ju.cA.each G K).one;have sp:=b1.span
  let t:=max x.st.aQ x.st.aA[G].bQ
  have t1:x.st.aQ<=t:=by omega
  have t2:t<x.st.aQ+j.aR:=by omega
  have hk:((dO x.q (eH s j)).1.ae[i]).Node.toNat<s.aj.length:=by omega
  have f:=A _ hk t (by omega) (by omega);rw[yCs y0,o] at f;have mz:Fv x.q.aA ((dO x.q (eH s j)).1.ae[i]).Node t:=⟨x.st.aA[G],by rw[I.qb,<-I.cA];omega,en,by omega,by omega⟩;have fz:bI x.q ((dO x.q (eH s j)).1.ae[i]).Node t=bV:=by unfold bI;grind
  rw[fz] at f;apply d.ok.vI;refine dW λc=>?_;have fc:=f c;rw[B_,OO] at fc;rw[OO];have n0:=wB.1 d.ok.need c;have:1 * cmp c j.ay<=((dO x.q (eH s j)).1.ae[i]).aM * cmp c j.ay:=yAW y2 n0.1;omega
end
theorem sv.step{s:a_}{st0:bZ}{x:CX}{n:Nat}(I:sv s st0 x n)(q0:bg s st0)(hn:n<=30){nodes:List (List bY)}{b:Nat}(hb:b<=200)(hp:PR nodes x.q b){j:aJ}(hj:j∈st0.ai):sv s st0 (SG s x j) (n+1):=by
 unfold SG;split
 rotate_left
 ·exact I.up
 rename_i hm;split
 rotate_left
 ·exact I.up
 rename_i z;obtain ⟨m,o,F⟩:=zp I q0 hn hb hp hj hm z;have E:=I.sound.bn.each _ (bH o);have A:=E.ok;rw[F.dg] at E A;have G:rN (lu j (ft s x.q j).1) x.q.S.aj.length:=Mc F.place A I.ref;have K:=Nu I.ref G (by have:=I.yh;omega);have yh:(tP x.q (lu j (ft s x.q j).1)).L.length<=30+(n+1):=by have:=I.yh;show (x.q.L++[_]).length<=_;grind
 have O:=F.place.lo;have more:∀k c,cmp c (ba x.q.L k st0.aQ)<=cmp c (ba (tP x.q (lu j (ft s x.q j).1)).L k st0.aQ):=λk c=>by rw[CU];have:=Ji G k st0.aQ c;omega
 split
 ·exact { I with
   ref:=K
   qs:=I.qs
   qn:=I.qn
   qb:=I.qb
   yh:=yh
   used:=λk c=>Int.le_trans (I.used k c) (more k c)
   Am:=by have:=I.Am;grind }
 ·rename_i Q;have dg:(ft s x.q j).1.At=x.st.aQ:=by grind [sv.qn,sv.now]
  have R:Vl x.st.ai j.Id=m:=by rw[<-F.dg];exact Kv I.sound.bn.bM o
  have U:su x.st j (ft s x.q j).1.ae=iy x.st m x.st.ai[m] (ft s x.q j).1.ae:=by unfold su;rw[R,F.dg]
  have W:=CA I.sound o F.one F.iR (F.fits dg) (F.uB dg);rw[U];exact {
   sound:=W
   now:=I.now
   next:=I.next
   book:=I.book
   cA:=I.cA
   use:=I.use
   len:=by show (x.st.ai.set m _).length=_;rw[yBy];exact I.len
   bn:=λi h M=>by
    have hi:i<x.st.ai.length:=by grind [sv.len]
    show (x.st.ai.set m (jt x.st.ai[m] x.st.aQ))[i]'(by simp_all)=_\/(x.st.ai.set m (jt x.st.ai[m] x.st.aQ))[i]'(by simp_all)=_;by_cases g:m=i
    ·subst g;rw[yBD];right;rcases I.bn m o M with g | g
     ·rw[g,I.now]
     grind [Gj.one,jt,gp]
    ·rw[yBM g];exact I.bn i hi M
   ref:=K
   qs:=I.qs
   qn:=I.qn
   qb:=I.qb
   yh:=yh
   used:=λk c=>by
    show cP (iK x.st.ah (dS x.st.ai[m] (ft s x.q j).1.ae)) k c<=_;rw[y_ (qO ..),zdO,CU];have u:=I.used k c;have X:kg (lu j (ft s x.q j).1) k st0.aQ=mulR (dL (ft s x.q j).1.ae k) j.ay:=by
     unfold kg;have Y:=A.wall;rw[if_pos]
     ·rfl
     ·show (ft s x.q j).1.At<=st0.aQ/\st0.aQ<(ft s x.q j).1.At+j.aR
      grind [sv.now]
    rw[X,B_,F.dg];show dL (ft s x.q j).1.ae k * cmp c j.ay+_<=_;omega
   Am:=by have:=I.Am;grind }
end Go.Plain
end
section
namespace Go.Plain
open Go.Abs
theorem DG{l:List aJ}(hl:l.length<=300)(hs:bS l){i:Nat}(hi:i<l.length):OP 5000 l l[i].Id=some (i:Int):=by
 obtain ⟨r,e,h1,h2,_⟩:=qE hl l[i].Id;have d:0<=r:=h1.2 ⟨_,bH hi,rfl⟩;have a:=h2 d;have:=hs.inj a.hi hi a.is
 grind
section
variable{l:List aJ}(hl:l.length<=300)(hs:bS l)
include hl hs in
theorem ref_dep(d:Gt):bO (zfe 5000 d l) λr=>(r=1↔VH l d):=by
 unfold zfe;obtain ⟨r,e,h⟩:=ZE hl d.aS;rcases h with ⟨_,h⟩ | ⟨i,hi,h1,_⟩
 ·obtain ⟨x,ex,h3,_⟩:=qE hl d.aS;have f:x<0:=by
   grind
  rw[ex,aw,dV,if_pos (by simp_all)];show bO (if true=true then _ else _) _;rw[if_pos rfl,aY];exact ⟨λh=>by omega,λ⟨j,hj,a,_⟩=>absurd a (h j hj)⟩
 ·rw[<-h1,DG hl hs hi,aw,dV,if_neg (by simp),bX hi,aw,aw]
  grind [Oj,dV,aY]
include hl hs in
theorem ref_met{j:aJ}(a:j.aF.length<=10):fD (zdM 5000 j l) (∀d∈j.aF,VH l d):=by
 unfold zdM;refine ON j.aF (VH l) _ (λh=>h) (λi f hi Q h1 h2=>?_) (λf h=>?_) (by omega)
 ·rw[if_pos (cK hi),bX hi,aw];refine (ref_dep hl hs _).bind λr e=>?_;rw[bx,bT (show i<1000000 by omega)]
  grind [aY]
 ·simp only[ed,bU,cu];exact qR h
include hl hs in
theorem met_eq{j:aJ}(a:j.aF.length<=10):∃b,mW 5000 j l=some b/\zdM 5000 j l=some b:=by
 obtain ⟨b,e,h⟩:=ZA hl hs a;obtain ⟨c,d,h2⟩:=ref_met hl hs a
 grind
include hl hs in
theorem is_eq{j:aJ}(a:j.aF.length<=10):fH 5000 j l=some (Ag l j):=by
 obtain ⟨b,d,e⟩:=met_eq hl hs a;unfold fH Ag
 grind
end
theorem count_eq{l:List aJ}(hl:l.length<=300)(q:Int):zd1 5000 l q (3,4) (-1)=some (l.countP λj=>(j.Queue == q)&&hasB j.State:Int):=by
 unfold zd1;apply bO.eq;refine zR hl (λj=>(j.Queue == q)&&hasB j.State) (λf c i hi e a=>?_) (λf=>?_)
 ·simp only[dV];rw[if_pos (cK hi),bX hi,aw,bT (show i<1000000 by omega),bT (show c<1000000 by omega)];have d:(decide ((-1:Int)<0))=true:=rfl;simp only[d,Bool.true_or,if_true,bU,cu];simp only[hasB] at a;by_cases h:(l[i].Queue == q)=true
  ·rw[if_pos h];simp only[h,yBX] at a;by_cases h2:(l[i].State == 3)=true
   ·rw[if_pos h2];rw[if_pos (by simp[h2])] at a;exact a
   ·rw[if_neg h2];simp only[yCr] at h2;simp only[h2,yC7] at a;by_cases h3:(l[i].State == 4)=true
    ·rw[if_pos h3];rw[if_pos h3] at a;exact a
    ·rw[if_neg h3];rw[if_neg h3] at a;exact a
  ·rw[if_neg h];simp only[yCr] at h;simp only[h,Bool.false_and,bU,cu] at a;exact a
 ·simp only;rw[if_neg (by simp),aY]
theorem may_eq{s:a_}(hs:lz s)(k:bo s){l:List aJ}(hl:l.length<=300)(j:aJ) :
  ∃b,eJ 5000 s l j=some b/\zfg 5000 s l j=some b:=by
 unfold eJ oK zfg;by_cases hq:0<=j.Queue/\j.Queue<s.am.length
 ·obtain ⟨g,e⟩:=EL (l:=s.am) hq.1 hq.2;rw[if_pos (by simp_all),DO hs k,aw,aw,if_neg (by simp),e,aw,if_neg (by simp_all),aw];generalize s.am[j.Queue.toNat]=d;rw[IR hl,of_eq hl,aw,aw];refine ⟨decide (((l.countP λi=>(i.Queue == j.Queue)&&hasB i.State:Nat):Int)<d.jx)&&decide (((l.countP λi=>((i.Queue == j.Queue)&&(i.ca == j.ca))&&hasB i.State:Nat):Int)<d.eO),?_,?_⟩
  ·grind
  apply bO.eq;refine zR hl (λi=>((i.Queue == j.Queue)&&(i.ca == j.ca))&&hasB i.State) (λf c i hi m a=>?_) (λf=>?_)
  ·simp only[dV];rw[if_pos (cK hi),bX hi,bT (show i<1000000 by omega),bT (show c<1000000 by omega)];simp only[aw,if_true,bU,cu];simp only[hasB] at a;by_cases h:(l[i].Queue == j.Queue)=true
   ·rw[if_pos h];simp only[h,yBX] at a;by_cases h1:(l[i].ca == j.ca)=true
    ·rw[if_pos h1];simp only[h1,yBX] at a;by_cases h2:(l[i].State == 3)=true
     ·rw[if_pos h2];rw[if_pos (by simp[h2])] at a;exact a
     ·rw[if_neg h2];simp only[yCr] at h2;simp only[h2,yC7] at a;by_cases h3:(l[i].State == 4)=true
      ·rw[if_pos h3];rw[if_pos h3] at a;exact a
      ·rw[if_neg h3];rw[if_neg h3] at a;exact a
    ·rw[if_neg h1];simp only[yCr] at h1;simp only[h1,Bool.false_and,bU,cu] at a;exact a
   ·rw[if_neg h];simp only[yCr] at h;simp only[h,Bool.false_and,bU,cu] at a;exact a
  ·simp only;rw[if_neg (by simp),count_eq hl,aw,aY]
 ·rw[if_neg (by simp_all),aw,if_pos (by simp),if_pos (by grind)]
  simp_all
end Go.Plain
end
section
namespace Go.Plain
open Go.Abs
theorem jz{o:Option Bool}{p:Prop}(h:fD o p)(hp:p):o=some true:=by obtain ⟨b,e,hb⟩:=h;simp_all
theorem TL{x:Int}(h:0<=x/\x<=281474976710656):zek 5000 x=some (Kq x):=by
 unfold zek Kq;by_cases e:x=281474976710656
 ·simp_all
 ·rw[if_neg (by simp_all),if_neg (by omega),wr (by omega) (by omega)]
theorem PH{J:List aJ}{A:List bG}{B:List iH}{U Q:List Int}(i:J.length<=300)(m:A.length<=300)(o:B.length<=300)(p:U.length<=300)(hl:Q.length<=300)(h:jS Q)(d next a f q:Int) :
  zbB 5000 J A B U Q d next a f q=some (J,A,B,U,mS Q q,d,next,a,f):=by
 unfold zbB zdv;rw[yI (by omega),yI (by omega),yI (by omega),yI (by omega),yI (by omega)];simp only[aw,dV];unfold mS;by_cases hq:0<=q/\q<Q.length
 ·obtain ⟨g,e⟩:=EL (l:=Q) hq.1 hq.2;rw[if_pos (show ((decide (q≥0))&&(decide (q<(Q.length:Int))))=true by simp_all),if_pos hq,e,aw,TL (h _ (bH g)),aw,aw,eI g];rfl
 grind
theorem MW{st:bZ}(h:TK st)(hs:bS st.ai)(a:jS st.az.am){k:Nat}(hk:k<st.ai.length){j:aJ}(d:j.Id=st.ai[k].Id)(hq:j.Queue=st.ai[k].Queue) :
  zdA 5000 st j=some { st with ai:=st.ai.set k j,az:={ am:=jJ st.az.am j.Queue j.Queue,aj:=st.az.aj } }:=by
 have h1:=h.bn;have h2:=h.b_;have h3:=h.cA;have e:=h.use;have f:=h.stamps;unfold zdA zdB jJ;rw[yI (by omega),yI (by omega),yI (by omega),yI (by omega),yI (by omega)];simp only[aw];rw[d,DG h1 hs hk,aw,bX hk,aw,aw,yBL,PH (by simp_all) h2 (by omega) (by omega) (by omega) a,aw]
 simp_all
theorem KF{a:bG}:∀{A:List bG}{i:Nat},i<=A.length->(∀m (h:m<A.length),m<i->A[m].aS<a.aS)->(∀h:i<A.length,¬A[i].aS<a.aS)->iK A a=A.take i++a::A.drop i
 |[],i,hi,_,_=>by simp[iK]
 |b :: A, 0, _, _, h => by have:=h (by simp);rw[List.getElem_cons_zero] at this;rw[iK,if_neg this];rfl
 |b :: A, i + 1, hi, h1, h2 => by
  have d:=h1 0 (by simp) (by omega);rw[List.getElem_cons_zero] at d;rw[iK,if_pos d,KF (i:=i) (by simp_all) (λm hm e=>by
   grind) (λhm=>by
   simp_all)]
  rfl
theorem Ph{l:List bG}(hl:l.length<=300){id:Int}(h:∀a∈l,a.aS≠id):zbZ 5000 l id=some (-1):=by
 unfold zbZ;refine bO.eq (vo l (λ_ _=>True) (λi f hi _ d=>?_) (λf _=>?_) (by omega))
 ·have:=h _ (bH hi);rw[if_pos (cK hi),bX hi,aw,if_neg (by simp_all),bT (show i<1000000 by omega)]
  simp_all
 ·simp only[ed,bU,cu,aY]
theorem XB{F:List aE}{A:List bG}{a:bG}(K:F.length<=300)(X:A.length<=250)(ok:1<=a.aS/\a.aS<=1048576)(M:a.ae≠[])(hs:bm a.ae F.length)(hl:a.ae.length<=300)(O:aN a.ay)
  (none:∀b∈A,b.aS≠a.aS) (sl:∀b∈A,b.ae.length<=300) (EY:yH F.length (iK A a)) (u:Ev F (iK A a)):zdi 5000 F A a=some (iK A a,0):=by
 have Y:0<a.ae.length:=Uj.2 M;unfold zdi;rw[dV,if_neg (by simp_all),jz (Cs a.ae F.length hl) hs,aw,if_neg (by simp),jz (wM a.ay) O,aw];dsimp only;rw[if_neg (by simp),Ph (by omega) none,aw,if_neg (by simp)];refine bO.eq ?_;have fin:∀(i:Nat)(f:Int->Option (List bG×Int)),i<=A.length->iK A a=A.take i++a::A.drop i->bO ((slice? A 0 (i:Int)).bind λv=>
       (bP [] v).bind λw=>
       (bP w ([a]:List bG)).bind λg=>
       (slice? A (i:Int) (A.length:Int)).bind λo=>
       (bP g o).bind λd=>
       (zbI 5000 d F).bind λp=>
       if (!p.2)=true then
        some (A,(20:Int))
       else
        some (d,0)) λx=>x=(iK A a,0):=λi f hi e=>by
  rw[sC hi,aw,yI (by grind),aw,Cj (by grind),aw,gu hi,aw,Cj (by grind),aw];rw[show A.take i++[a]++A.drop i=iK A a by simp_all];have y:∀b∈iK A a,b.ae.length<=300:=λb hb=>by grind
  have P:(iK A a).length<=300:=by grind
  obtain ⟨r,R,h1⟩:=Oi K P y EY;rw[show zbI 5000 (iK A a) F=some r from R,aw,h1.2 u,if_neg (by simp),aY]
 have lp := jm (Q := λx => x = (iK A a, (0 : Int))) A.length (λi x => x = (i : Int) /\ ∀ m (h : m < A.length), m < i -> A[m].aS < a.aS) (b := λ(T : Int -> Option (List bG × Int)) (t : Int)=>
     jn (λ(U:Bool)=>
      if U=true then
       T (i64.wrap (t+1))
      else
       (slice? A 0 t).bind λv=>
       (bP [] v).bind λw=>
       (bP w ([a]:List bG)).bind λg=>
       (slice? A t (A.length:Int)).bind λo=>
       (bP g o).bind λd=>
       (zbI 5000 d F).bind λp=>
       if (!p.2)=true then
        some (A,20)
       else
        some (d,0)) λG=>
     if (decide (t<(A.length:Int)))=true then
     (aC A t).bind λz=>
     G (decide (z.aS<a.aS))
     else
     G false) (λi x f hi E W=>?_) (λx f E=>?_) (x0:=0) ⟨rfl,λm _ h=>by omega⟩ (N:=5000) (by omega)
 ·exact lp
 ·obtain ⟨rfl,hm⟩:=E;rw[dV,if_pos (cK hi),bX hi,aw,bx,bT (show i<1000000 by omega)];refine ⟨λh=>W _ ⟨rfl,λm h1 h2=>?_⟩,λh=>fin i f (by omega) (KF (by omega) hm λ_=>by simp_all)⟩
  grind
 ·obtain ⟨rfl,hm⟩:=E;rw[dV,if_neg (by simp)];dsimp only;rw[if_neg (by simp)];exact fin A.length f (by omega) (KF (by omega) hm λh=>by omega)
section
variable{s:a_}{st:bZ}(q:bg s st){k:Nat}(hk:k<st.ai.length)(h1:st.ai[k].State=1){sh:List cO}(hs:jH s st.ai[k] sh)(hf:v_ (cD s.aj st.ah) (dS st.ai[k] sh))(hcl:∀x∈sh,∀b∈st.aA,b.Node=x.Node->¬b.bQ<st.aQ+st.ai[k].aR)
include q hk h1 hs hf hcl
theorem Vd(g:st.ah.length<=250):zc7 5000 s st st.ai[k].Id sh=some (iy st k st.ai[k] sh,0):=by
 have f:=Ul q;have p:=Eg f q;have u:=q.bn.each _ (bH hk);have d:=u.ok;have ver:=Kx q hk h1;have y:=d.version;have sl:sh.length<=300:=by have:=jh hs.shares (by omega);have:=q.spec.nodes.hi;omega
 have h:=CA q hk h1 hs hf hcl;obtain ⟨m,_⟩:=Gf h.spec h.bn h.b_;have o:zeL 5000 1 3=some 3:=rfl;have i:zeN 5000 st.ai[k] 3 st.aQ false=some (jt st.ai[k] st.aQ):=by
  unfold zeN jt;rw[h1,o,aw,wr (by omega) (by omega)]
  grind [dV,gp,lm]
 have v:=XB (F:=s.aj) (A:=st.ah) (a:=dS st.ai[k] sh) (by have:=q.spec.nodes.hi;omega) g d.id (λe=>by
  have w:sh=[]:=e;have t:=hs.Sm;rw[w] at t;have:=d.many
  grind [kK]) hs.shares sl d.need (Fy q hk h1) (λb hb=>kL (f.shares b hb) (by decide)) m.EY m.fit
 unfold zc7 jf;rw[DG f.bn q.bn.bM hk,aw,if_neg (by simp),bX hk,aw,if_neg (by simp[h1]),xk,jz (FR f.spec q.spec st.ai[k] sh sl) hs,xk,if_neg (by simp),xk,jz (yp _ (by grind [fy.kR])) d,xk,if_neg (by simp),h1,o,xk,if_neg (by simp),if_neg (by grind),xk,if_neg (by simp),xk,
  show zdi 5000 s.aj st.ah ({ aS:=st.ai[k].Id,ay:=st.ai[k].ay,ae:=sh }:bG)=_ from v,Option.bind_some,if_neg (by simp),Option.bind_some,i,Option.bind_some,MW p q.bn.bM q.use.stamps hk (j:=jt st.ai[k] st.aQ) rfl rfl,Option.bind_some,TL q.use.nodes,Option.bind_some]
 rfl
end
theorem Yq{B:List iH}(hl:B.length<=300){n a b:Int}(h:∀k∈B,k.Node=n->¬k.bQ<b):zbb 5000 B n a b=some false:=by
 unfold zbb;refine bO.eq (vo B (λ_ _=>True) (λi f hi _ d=>?_) (λf _=>?_) (by omega))
 ·have:=h _ (bH hi);rw[if_pos (cK hi),bX hi,aw,if_neg (by grind),bT (show i<1000000 by omega)]
  simp_all
 ·simp only[ed,bU,cu,aY]
theorem may_ref{s:a_}{st:bZ}(q:bg s st)(id:Int):zdI 5000 s st id=some (yN s st.ai id):=by
 have d:=Ul q;have hl:=d.bn;have hs:=q.bn.bM;unfold zdI;obtain ⟨x,ex,h3,f,_⟩:=qE hl id;rw[ex,aw];by_cases g:0<=x
 ·have a:=f g;have hi:=a.hi;have e:st.ai[x.toNat].Id=id:=a.is;obtain ⟨i,rfl⟩:∃i:Nat,x=(i:Int):=⟨x.toNat,by omega⟩;simp only[yBL] at hi e;subst e;rw[if_pos (by simp),bX hi,aw,aw,is_eq hl hs (d.after _ (bH hi)),aw];rw[mayB_at hs hi];obtain ⟨c,c1,h⟩:=may_eq d.spec q.spec hl st.ai[i]
  grind
 ·rw[if_neg (by simp_all)];unfold yN
  grind
end Go.Plain
end
section
namespace Go.Plain
open Go.Abs
def cx0(s:a_)(st:bZ):CX:={ st:=st,q:=yi s st,P:=[],S:=[] }
section
variable{s:a_}{st0:bZ}(q0:bg s st0)(h30:st0.ai.length<=30)
include q0 h30
theorem cinv0:sv s st0 (cx0 s st0) 0:={
 sound:=q0
 now:=rfl
 next:=rfl
 book:=rfl
 cA:=rfl
 use:=rfl
 len:=rfl
 bn:=λm h g=>.inl rfl
 ref:=RK (Ul q0) q0 h30
 qs:=rfl
 qn:=rfl
 qb:=rfl
 yh:=by
  have:=rZ (Ul q0) q0;show (st0.ah.map (eV st0)).length<=_
  grind
 used:=λk c=>by
  have d:=Ul q0;show cP st0.ah k c<=cmp c (ba (st0.ah.map (eV st0)) k st0.aQ);rw[Ck,Wg];unfold cP;have:∀A:List bG,(∀a∈A,a∈st0.ah)->(A.map λa=>dL a.ae k * cmp c a.ay)=A.map ((λu=>cmp c (kg u k st0.aQ))∘eV st0):=λA e=>List.map_congr_left λa f=>by have b:=Fa d q0 (e a f);show _=cmp c (kg (eV st0 a) k st0.aQ);unfold kg;rw[if_pos (show (eV st0 a).bQ<=st0.aQ/\st0.aQ<(eV st0 a).To from ⟨Py _,b.1⟩),B_];rfl
  grind
 Am:=OX _ }
end
end Go.Plain
end
section
namespace Go.Plain
open Go.Abs
structure EX where
 c:CX
 h:aJ
 hd:Wi
def noJ:aJ:={ Id:=0,ca:=0,Queue:=0,aM:=0,ay:={ bF:=0,Mem:=0,bJ:=0,bL:=0 },aR:=0,aF:=[],State:=0,Ok:=false,cL:=false,aK:=0,cQ:=0,Start:=0,End:=0,Array:=0 }
def vJ(s:a_)(x:EX)(j:aJ):Bool:=
 x.hd.aS != 0&&((!(ft s (tP x.c.q (lu j (ft s x.c.q j).1)) x.h).2) || decide ((ft s (tP x.c.q (lu j (ft s x.c.q j).1)) x.h).1.At > x.hd.dx))
def Bz(s:a_)(x:CX)(j:aJ):CX:={ st:=su x.st j (ft s x.q j).1.ae,q:=tP x.q (lu j (ft s x.q j).1),P:=x.P,S:=x.S++[(ft s x.q j).1] }
def oB(s:a_)(x:EX)(j:aJ):EX:=
 if yN s x.c.st.ai j.Id=true then
  if (ft s x.c.q j).2=true then
   if (ft s x.c.q j).1.At > x.c.q.aQ then
    if x.hd.aS=0 then { c:=x.c,h:=j,hd:={ aS:=j.Id,dx:=(ft s x.c.q j).1.At,aF:=0 } } else x
   else if vJ s x j=true then x
   else { c:=Bz s x.c j,h:=x.h,hd:=x.hd }
  else x
 else x
def zeroH':Wi:={ aS:=0,dx:=0,aF:=0 }
def ex0(s:a_)(st:bZ):EX:={ c:={ st:=st,q:=yi s st,P:=[],S:=[] },h:=noJ,hd:=zeroH' }
def bA(s:a_)(st:bZ)(r:List aJ):EX:=r.foldl (oB s) (ex0 s st)
theorem jb{s:a_}{st0:bZ}{r:List aJ}{i:Nat}(hi:i<r.length):bA s st0 (r.take (i+1))=oB s (bA s st0 (r.take i)) r[i]:=by grind [bA,List.take_succ_eq_append_getElem]
def lw(s:a_)(x:EX)(j:aJ):Prop:=yN s x.c.st.ai j.Id=true/\(ft s x.c.q j).2=true/\¬(ft s x.c.q j).1.At > x.c.q.aQ/\vJ s x j=false
theorem qU{s:a_}{x:EX}{j:aJ}(h:lw s x j):oB s x j={ c:=Bz s x.c j,h:=x.h,hd:=x.hd }:=by unfold oB;rw[if_pos h.1,if_pos h.2.1,if_neg h.2.2.1,if_neg (by simp[h.2.2.2])]
theorem us{s:a_}{x:EX}{j:aJ}(h:¬lw s x j):(oB s x j).c=x.c:=by
 unfold oB;unfold lw at h
 grind
theorem Up{s:a_}{x:EX}{j:aJ}(h:lw s x j):Bz s x.c j=SG s x.c j:=by unfold SG Bz;rw[if_pos h.1,if_pos h.2.1,if_neg h.2.2.1]
structure NJ (s:a_) (st0:bZ) (x:EX) (n:Nat):Prop where
 c:sv s st0 x.c n
 pn:x.c.P=[]
 hd:x.hd.aS≠0->x.h∈st0.ai/\x.hd.aS=x.h.Id
 aft:x.hd.aF=0
theorem NJ.step{s:a_}{st0:bZ}{x:EX}{n:Nat}(I:NJ s st0 x n)(q0:bg s st0)(hn:n<=30){nodes:List (List bY)}{b:Nat}(hb:b<=200)(hp:PR nodes x.c.q b){j:aJ}(hj:j∈st0.ai):NJ s st0 (oB s x j) (n+1):=by
 by_cases h:lw s x j
 ·rw[qU h];refine ⟨?_,I.pn,I.hd,I.aft⟩;show sv s st0 (Bz s x.c j) (n+1);rw[Up h];exact I.c.step q0 hn hb hp hj
 ·refine ⟨by rw[us h];exact I.c.up,by rw[us h];exact I.pn,?_,?_⟩
  ·have:=I.hd;unfold oB
   grind
  ·have:=I.aft;unfold oB
   grind
theorem PR.up{nodes:List (List bY)}{q:gR}{a b:Nat}(h:PR nodes q a)(o:a<=b):PR nodes q b:=⟨h.len,⟨λk i=>⟨(h.dg.each k i).1,by have:=(h.dg.each k i).2;omega⟩,h.dg.first⟩,h.val⟩
theorem CL(N:Nat)(p:BO)(j:aJ)(a:List aE)(b:List (List Int))(c:List zT)(m o t u v w y z A d e f g h i:Int) :
  zde N p j a b c m o t u v w y z A d e f g h i=zaM N p.cH j a b c m o t u v w y z A d e f g h i p.ff p.cG:=rfl
section
variable{s:a_}{st0:bZ}{x:CX}{n:Nat}(I:sv s st0 x n)(q0:bg s st0){nodes:List (List bY)}{b:Nat}(hb:b<=200)(hp:PR nodes x.q b)
include I q0 hb hp
theorem planE{j:aJ}(hj:j∈st0.ai):zaM 5000 nodes j s.aj s.aH s.am s.aT s.aq.mG s.aq.de s.aq.f_ s.aq.bW s.cj s.Mode s.ai s.kX s.aI s.br s.dm s.In s.Out s.ce st0.aQ s.aH=some (ft s x.q j):=by
 obtain ⟨m,hm,rfl⟩:=jV hj;have d:=q0.bn.each _ (bH hm);have a:iT x.q.S st0 st0.ai[m]:=by rw[I.qs];exact d
 have e:=zX hb I.ref hp a;rw[I.qs,I.qn] at e;exact e
end
section
variable{s:a_}{st0:bZ}{x:EX}{n:Nat}(I:NJ s st0 x n)(q0:bg s st0)(hn:n<=29){nodes:List (List bY)}{b:Nat}(hb:b<=190)(hp:PR nodes x.c.q b){j:aJ}(hj:j∈st0.ai)(hm:yN s x.c.st.ai j.Id=true)(h2:(ft s x.c.q j).2=true)(h3:¬(ft s x.c.q j).1.At > x.c.q.aQ)
include I q0 hn hb hp hj hm h2 h3
theorem FE{p:List (Int×bG)}(hL:p.Perm (mapA x.c.st.ah)):∃A a,zdd 5000 x.c.S x.c.st.az.am x.c.st.ai p j (ft s x.c.q j).1 { ff:=st0.aQ,cG:=s.aH,cH:=nodes } x.h.Id x.h.ca x.h.Queue x.h.aM x.h.ay.bF x.h.ay.Mem x.h.ay.bJ x.h.ay.bL x.h.aR x.h.aF x.h.State x.h.Ok x.h.cL x.h.aK x.h.cQ x.h.Start x.h.End x.h.Array x.hd.aS x.hd.dx
   s.aj s.aH s.am s.aT s.aq.mG s.aq.de s.aq.f_ s.aq.bW s.cj s.Mode s.ai s.kX s.aI s.br s.dm s.In s.Out s.ce st0.aQ x.c.st.az.aj (cD s.aj x.c.st.ah) =
   some ((oB s x j).c.st.az.am,(oB s x j).c.st.ai,A,(oB s x j).c.S,(oB s x j).c.st.az.aj,cD s.aj (oB s x j).c.st.ah,{ ff:=st0.aQ,cG:=s.aH,cH:=a }) /\
  A.Perm (mapA (oB s x j).c.st.ah)/\PR a (oB s x j).c.q (b+2)/\(oB s x j).h=x.h/\(oB s x j).hd=x.hd:=by
 obtain ⟨m,t,F⟩:=zp I.c q0 (by omega) (by omega) hp hj hm h2;have i:=q0.bn.each _ hj;have R:iT x.c.q.S st0 j:=by rw[I.c.qs];exact i
 have T:=F.place.lo;have dg:(ft s x.c.q j).1.At=x.c.st.aQ:=by have:=I.c.qn;have:=I.c.now;omega
 have hw:iB x.c.q (eH s j):=by have:=Cp (st:=st0) q0.spec I.c.qs i;exact this
 obtain ⟨_,_,P⟩:=Aw (s:=s) (j:=j) ⟨i.ok.queue.1,i.queue⟩;have U:(eH s j).ay=j.ay:=by rw[P]
 have W:(eH s j).aR=j.aR:=by rw[P]
 have Q:=F.place.fit;rw[U,W] at Q;obtain ⟨a,u,E⟩:=VY (by omega) I.c.ref hp F.place.shares i.ok.need i.ok.wall F.place.lo F.place.hi Q;have yh:=I.c.yh;have X:rN (lu j (ft s x.c.q j).1) x.c.q.S.aj.length:=Mc F.place i.ok I.c.ref;have Y:=Nu I.c.ref X (by omega);have v:PR a (tP x.c.q (lu j (ft s x.c.q j).1)) (b+2):=E;have G:x.hd.aS≠0->zaM 5000 a x.h s.aj s.aH s.am s.aT s.aq.mG s.aq.de s.aq.f_ s.aq.bW s.cj s.Mode s.ai s.kX s.aI s.br s.dm s.In s.Out s.ce st0.aQ s.aH=some (ft s (tP x.c.q (lu j (ft s x.c.q j).1)) x.h):=λo=>by
  have hi:=q0.bn.each _ (I.hd o).1;have K:iT (tP x.c.q (lu j (ft s x.c.q j).1)).S st0 x.h:=by show iT x.c.q.S st0 x.h;rw[I.c.qs];exact hi
  have e:=zX (by omega) Y v K;have Z:(tP x.c.q (lu j (ft s x.c.q j).1)).S=s:=I.c.qs;have qn:(tP x.c.q (lu j (ft s x.c.q j).1)).aQ=st0.aQ:=I.c.qn;rw[Z,qn] at e;exact e
 obtain ⟨A,M,w⟩:=startV I.c.sound t F.one F.iR (F.fits dg) hL;have ix:Vl x.c.st.ai j.Id=m:=by rw[<-F.dg];exact Kv I.c.sound.bn.bM t
 have y:su x.c.st j (ft s x.c.q j).1.ae=iy x.c.st m x.c.st.ai[m] (ft s x.c.q j).1.ae:=by unfold su;rw[ix,F.dg]
 rw[<-y,I.c.now] at M;rw[<-y] at w;have N:x.c.st.ai[m].Id=j.Id:=by rw[F.dg]
 rw[N] at M;have pl:=I.c.Am;have nl:nodes.length<=300:=by have:=hp.len;have:=I.c.ref.spec.nodes.hi;omega
 unfold zdd zbE zbm;dsimp only;rw[yI (by omega),aw,aw];dsimp only;rw[I.c.qn] at u;rw[u,aw,if_neg (by simp),dV];unfold Wp;have O:vJ s x j=false->oB s x j={ c:=Bz s x.c j,h:=x.h,hd:=x.hd }:=λh=>qU ⟨hm,h2,h3,h⟩;have no:vJ s x j=true->oB s x j=x:=λh=>by unfold oB;rw[if_pos hm,if_pos h2,if_neg h3,if_pos h]
 have fin:vJ s x j=false->∃f d,(za6 5000 x.c.st.az.am x.c.st.ai p j.Id (ft s x.c.q j).1.ae s.aj s.aH s.am s.aT s.aq.mG s.aq.de s.aq.f_ s.aq.bW s.cj s.Mode s.ai s.kX s.aI s.br s.dm s.In s.Out s.ce st0.aQ x.c.st.az.aj (cD s.aj x.c.st.ah)).bind (λg=>
   if (g.2.2.2.1 != 0)=true then
    some (g.2.1,g.2.2.1,g.1,x.c.S,g.2.2.2.2.2,g.2.2.2.2.1,({ ff:=st0.aQ,cG:=s.aH,cH:=nodes }:BO))
   else
    (bP x.c.S ([(ft s x.c.q j).1]:List jN)).bind λz6=>
    some (g.2.1,g.2.2.1,g.1,z6,g.2.2.2.2.2,g.2.2.2.2.1,({ ff:=st0.aQ,cG:=s.aH,cH:=a }:BO))) =
   some ((oB s x j).c.st.az.am,(oB s x j).c.st.ai,f,(oB s x j).c.S,(oB s x j).c.st.az.aj,cD s.aj (oB s x j).c.st.ah,{ ff:=st0.aQ,cG:=s.aH,cH:=d }) /\
  f.Perm (mapA (oB s x j).c.st.ah)/\PR d (oB s x j).c.q (b+2)/\(oB s x j).h=x.h/\(oB s x j).hd=x.hd:=λh=>by
  refine ⟨A,a,?_⟩;rw[O h,M,aw,if_neg (by simp),Cj (by grind),aw];exact ⟨rfl,w,v,rfl,rfl⟩
 have z:vJ s x j=true->∃f d,some (x.c.st.az.am,x.c.st.ai,p,x.c.S,x.c.st.az.aj,cD s.aj x.c.st.ah,({ ff:=st0.aQ,cG:=s.aH,cH:=nodes }:BO)) =
   some ((oB s x j).c.st.az.am,(oB s x j).c.st.ai,f,(oB s x j).c.S,(oB s x j).c.st.az.aj,cD s.aj (oB s x j).c.st.ah,{ ff:=st0.aQ,cG:=s.aH,cH:=d }) /\
  f.Perm (mapA (oB s x j).c.st.ah)/\PR d (oB s x j).c.q (b+2)/\(oB s x j).h=x.h/\(oB s x j).hd=x.hd:=λh=>by
  refine ⟨p,nodes,?_⟩;rw[no h];exact ⟨rfl,hL,hp.up (by omega),rfl,rfl⟩
 by_cases o:x.hd.aS=0
 ·have hl:vJ s x j=false:=by unfold vJ;simp[o]
  rw[aw,if_neg (by simp[o])];exact fin hl
 ·rw[aw,if_pos (by simp[o])];have eh:=G o;rw[show ({ Id:=x.h.Id,ca:=x.h.ca,Queue:=x.h.Queue,aM:=x.h.aM,ay:=({ bF:=x.h.ay.bF,Mem:=x.h.ay.Mem,bJ:=x.h.ay.bJ,bL:=x.h.ay.bL }:aE),aR:=x.h.aR,aF:=x.h.aF,State:=x.h.State,Ok:=x.h.Ok,cL:=x.h.cL,aK:=x.h.aK,cQ:=x.h.cQ,Start:=x.h.Start,End:=x.h.End,Array:=x.h.Array }:aJ)=x.h from rfl,eh,aw];by_cases hl:vJ s x j=true
  ·rw[if_pos (by unfold vJ at hl;simp_all)];exact z hl
  ·rw[if_neg (by unfold vJ at hl;simp_all)];exact fin (by simpa using hl)
end
end Go.Plain
end
section
namespace Go.Plain
open Go.Abs
def aftE(s:a_)(x:EX):Int:=if x.hd.aS=0 then 0 else (ft s x.c.q x.h).1.At
section
variable{s:a_}{st0:bZ}(q0:bg s st0)(h30:st0.ai.length<=30)
include q0 h30
theorem einv0:NJ s st0 (ex0 s st0) 0:=⟨cinv0 q0 h30,rfl,λh=>absurd rfl h,rfl⟩
theorem XF{L:List (Int×bG)}(hL:L.Perm (mapA st0.ah)):∃r,zdh 5000 st0.az.am st0.ai L s.aj s.aH s.am s.aT s.aq.mG s.aq.de s.aq.f_ s.aq.bW s.cj s.Mode s.ai s.kX s.aI s.br s.dm s.In s.Out s.ce st0.aQ st0.Next st0.cR st0.aA st0.gz st0.az.aj=some r/\r.Perm (st0.ai.filter (Ag st0.ai)) /\
  (∀i,i<=r.length->NJ s st0 (bA s st0 (r.take i)) i/\∃nodes,PR nodes (bA s st0 (r.take i)).c.q (93+2 * i)) /\
  ∃ p, zcr 5000 st0.az.am st0.ai L s.aj s.aH s.am s.aT s.aq.mG s.aq.de s.aq.f_ s.aq.bW s.cj s.Mode s.ai s.kX s.aI s.br s.dm s.In s.Out s.ce st0.aQ st0.Next st0.cR st0.aA st0.gz st0.az.aj (cD s.aj st0.ah) =
   some ((bA s st0 r).c.st.az.am,(bA s st0 r).c.st.ai,p,{ Started:=(bA s st0 r).c.S,jI:=[],rk:={ aS:=(bA s st0 r).hd.aS,dx:=(bA s st0 r).hd.dx,aF:=aftE s (bA s st0 r) } },0,(bA s st0 r).c.st.az.aj,cD s.aj (bA s st0 r).c.st.ah)/\p.Perm (mapA (bA s st0 r).c.st.ah):=by
 have P:=Ul q0;have X:=q0.ju.cA.len;have Y:=rZ P q0;obtain ⟨r,er,Q⟩:=readyV q0 hL h30;have Z:r.length<=30:=by grind [List.Perm.length_eq,List.length_filter_le]
 have F:∀j∈r,j∈st0.ai:=λj hj=>(RI.1 (Q.mem_iff.1 hj)).1;obtain ⟨g,T,G⟩:=GN P q0 h30 (Lu q0 hL);have v:PR g (yi s st0) 93:=G.up (by omega);have step:∀i (hi:i<r.length) (I:NJ s st0 (bA s st0 (r.take i)) i) nodes,PR nodes (bA s st0 (r.take i)).c.q (93+2 * i)->∃a,PR a (bA s st0 (r.take (i+1))).c.q (93+2 * (i+1)):=λi hi I nodes hp=>by
  rw[jb hi];by_cases h:lw s (bA s st0 (r.take i)) r[i]
  ·obtain ⟨p,a,_,_,y,_⟩:=FE I q0 (by omega) (by omega) hp (F _ (bH hi)) h.1 h.2.1 h.2.2.1 (List.Perm.refl _);exact ⟨a,by rw[show 93+2 * (i+1)=93+2 * i+2 by omega];exact y⟩
  ·rw[us h];exact ⟨nodes,hp.up (by omega)⟩
 have z:∀i,i<=r.length->NJ s st0 (bA s st0 (r.take i)) i/\∃nodes,PR nodes (bA s st0 (r.take i)).c.q (93+2 * i):=by
  intro i;induction i with
  |zero=>intro _;exact ⟨einv0 q0 h30,g,v⟩
  |succ i ih=>intro hi;obtain ⟨I,nodes,hp⟩:=ih (by omega);refine ⟨?_,step i (by omega) I nodes hp⟩;rw[jb (show i<r.length by omega)];exact I.step q0 (by omega) (by omega) hp (F _ (bH _))
 refine ⟨r,er,Q,z,?_⟩
 suffices h:bO (zcr 5000 st0.az.am st0.ai L s.aj s.aH s.am s.aT s.aq.mG s.aq.de s.aq.f_ s.aq.bW s.cj s.Mode s.ai s.kX s.aI s.br s.dm s.In s.Out s.ce st0.aQ st0.Next st0.cR st0.aA st0.gz st0.az.aj (cD s.aj st0.ah)) λx=>∃p,x=((bA s st0 r).c.st.az.am,(bA s st0 r).c.st.ai,p,{ Started:=(bA s st0 r).c.S,jI:=[],rk:={ aS:=(bA s st0 r).hd.aS,dx:=(bA s st0 r).hd.dx,aF:=aftE s (bA s st0 r) } },0,(bA s st0 r).c.st.az.aj,cD s.aj (bA s st0 r).c.st.ah)/\p.Perm (mapA (bA s st0 r).c.st.ah) by obtain ⟨x,e,p,rfl,h⟩:=h;exact ⟨p,e,h⟩
 unfold zcr;rw[T,aw];dsimp only;rw[er,aw];refine jm r.length (λi x=>∃t nodes,∃fp:jN,x=((i:Int),(bA s st0 (r.take i)).c.st.az.aj,cD s.aj (bA s st0 (r.take i)).c.st.ah,({ ff:=st0.aQ,cG:=s.aH,cH:=nodes }:BO),(bA s st0 (r.take i)).h.Id,(bA s st0 (r.take i)).h.ca,(bA s st0 (r.take i)).h.Queue,(bA s st0 (r.take i)).h.aM,(bA s st0 (r.take i)).h.ay.bF,(bA s st0 (r.take i)).h.ay.Mem,(bA s st0 (r.take i)).h.ay.bJ,(bA s st0 (r.take i)).h.ay.bL,(bA s st0 (r.take i)).h.aR,(bA s st0 (r.take i)).h.aF,(bA s st0 (r.take i)).h.State,(bA s st0 (r.take i)).h.Ok,(bA s st0 (r.take i)).h.cL,(bA s st0 (r.take i)).h.aK,(bA s st0 (r.take i)).h.cQ,(bA s st0 (r.take i)).h.Start,(bA s st0 (r.take i)).h.End,(bA s st0 (r.take i)).h.Array,(bA s st0 (r.take i)).hd.aS,(bA s st0 (r.take i)).hd.dx,(bA s st0 (r.take i)).hd.aF,fp.aS,fp.At,fp.ae,(bA s st0 (r.take i)).c.st.az.am,(bA s st0 (r.take i)).c.st.ai,t,(bA s st0 (r.take i)).c.S)/\t.Perm (mapA (bA s st0 (r.take i)).c.st.ah)/\PR nodes (bA s st0 (r.take i)).c.q (93+2 * i)) (λi x f hi K o=>?_) (λx f K=>?_)
  ⟨L,g,{ aS:=0,At:=0,ae:=[] },rfl,hL,v⟩ (by omega)
 ·obtain ⟨t,nodes,fp,rfl,d,hp⟩:=K;obtain ⟨I,_⟩:=z i (by omega);have m:=jb (s:=s) (st0:=st0) hi;have hj:=F _ (bH hi);have w:=mayV I.c.sound d r[i].Id;rw[I.c.now,I.c.next,I.c.book,I.c.cA,I.c.use] at w;have A:=planE I.c q0 (by omega) hp hj;dsimp only;rw[if_pos (cK hi),dV,bX hi,aw,w,aw,bT (show i<1000000 by omega),bx];refine ⟨λh=>?_,λh=>?_⟩
  ·have e:bA s st0 (r.take (i+1))=bA s st0 (r.take i):=by rw[m];unfold oB;rw[if_neg (by simpa using h)]
   refine o _ ⟨t,nodes,fp,?_,?_,?_⟩
   ·rw[e]
   ·rw[e];exact d
   ·rw[e];exact hp.up (by omega)
  ·have hm:yN s (bA s st0 (r.take i)).c.st.ai r[i].Id=true:=by simpa using h
   rw[CL];dsimp only;rw[A,aw,bx];refine ⟨λh=>?_,λM=>?_⟩
   ·have e:bA s st0 (r.take (i+1))=bA s st0 (r.take i):=by rw[m];unfold oB;rw[if_pos hm,if_neg (by simpa using h)]
    refine o _ ⟨t,nodes,(ft s (bA s st0 (r.take i)).c.q r[i]).1,?_,?_,?_⟩
    ·rw[e]
    ·rw[e];exact d
    ·rw[e];exact hp.up (by omega)
   ·have h2:(ft s (bA s st0 (r.take i)).c.q r[i]).2=true:=by simpa using M
    unfold jq;rw[aw,bx];have R:=I.c.qn;refine ⟨λE=>?_,λE=>?_⟩
    ·have h3:(ft s (bA s st0 (r.take i)).c.q r[i]).1.At > (bA s st0 (r.take i)).c.q.aQ:=by rw[R];exact of_decide_eq_true E
     unfold zfi Wp;rw[aw];by_cases u:(bA s st0 (r.take i)).hd.aS=0
     ·have e:bA s st0 (r.take (i+1))={ c:=(bA s st0 (r.take i)).c,h:=r[i],hd:={ aS:=r[i].Id,dx:=(ft s (bA s st0 (r.take i)).c.q r[i]).1.At,aF:=0 } }:=by
       rw[m];unfold oB;rw[if_pos hm,if_pos h2,if_pos h3,if_pos u]
      rw[if_pos (by simp[u]),xk];refine o _ ⟨t,nodes,(ft s (bA s st0 (r.take i)).c.q r[i]).1,?_,?_,?_⟩
      ·rw[e]
      ·rw[e];exact d
      ·rw[e];exact hp.up (by omega)
     ·have e:bA s st0 (r.take (i+1))=bA s st0 (r.take i):=by
       rw[m];unfold oB;rw[if_pos hm,if_pos h2,if_pos h3,if_neg u]
      rw[if_neg (by simp[u]),xk];refine o _ ⟨t,nodes,(ft s (bA s st0 (r.take i)).c.q r[i]).1,?_,?_,?_⟩
      ·rw[e]
      ·rw[e];exact d
      ·rw[e];exact hp.up (by omega)
    ·have h3:¬(ft s (bA s st0 (r.take i)).c.q r[i]).1.At > (bA s st0 (r.take i)).c.q.aQ:=by rw[R];exact λh=>E (decide_eq_true h)
     obtain ⟨p,a,U,N,y,W,O⟩:=FE I q0 (by omega) (by omega) hp hj hm h2 h3 d;rw[U,aw];refine o _ ⟨p,a,(ft s (bA s st0 (r.take i)).c.q r[i]).1,?_,?_,?_⟩
     ·rw[m,W,O]
     ·rw[m];exact N
     ·rw[m,show 93+2 * (i+1)=93+2 * i+2 by omega];exact y
 ·obtain ⟨t,nodes,fp,rfl,d,hp⟩:=K;obtain ⟨I,_⟩:=z r.length (cM _);rw[xO] at d hp I ⊢;dsimp only;rw[if_neg (by simp),dV];unfold Wp;rw[aw];by_cases u:(bA s st0 r).hd.aS=0
  ·rw[if_neg (by simp[u]),aY];refine ⟨t,?_,d⟩;unfold aftE;rw[if_pos u,I.aft]
  ·have A:=planE I.c q0 (by omega) hp (I.hd u).1;rw[if_pos (by simp[u]),CL];dsimp only;rw[show ({ Id:=(bA s st0 r).h.Id,ca:=(bA s st0 r).h.ca,Queue:=(bA s st0 r).h.Queue,aM:=(bA s st0 r).h.aM,ay:=({ bF:=(bA s st0 r).h.ay.bF,Mem:=(bA s st0 r).h.ay.Mem,bJ:=(bA s st0 r).h.ay.bJ,bL:=(bA s st0 r).h.ay.bL }:aE),aR:=(bA s st0 r).h.aR,aF:=(bA s st0 r).h.aF,State:=(bA s st0 r).h.State,Ok:=(bA s st0 r).h.Ok,cL:=(bA s st0 r).h.cL,aK:=(bA s st0 r).h.aK,cQ:=(bA s st0 r).h.cQ,Start:=(bA s st0 r).h.Start,End:=(bA s st0 r).h.End,Array:=(bA s st0 r).h.Array }:aJ)=(bA s st0 r).h from rfl,A,aw,aY];refine ⟨t,?_,d⟩;unfold aftE;rw[if_neg u]
end
end Go.Plain
end
section
set_option maxRecDepth 100000
namespace Go.Plain
open Go.Abs
theorem Pk:zdU 5000=some true:=by kernel_rfl
section
variable{s:a_}{st0:bZ}(r:List aJ)
theorem Xq(d:Nat):∀k,k+d<=r.length->(bA s st0 (r.take k)).c.S <+: (bA s st0 (r.take (k+d))).c.S:=by
 induction d with
 |zero=>simp_all
 |succ d ih=>
  intro k hk;refine (ih k (by omega)).trans ?_;rw[show k+(d+1)=(k+d)+1 by omega,jb (show k+d<r.length by omega)];by_cases h:lw s (bA s st0 (r.take (k+d))) r[k+d]
  ·rw[qU h];exact List.prefix_append _ _
  rw[us h];exact List.prefix_refl _
theorem nextE(d:Nat):∀k,k+d<=r.length->((bA s st0 (r.take k)).c.S=(bA s st0 (r.take (k+d))).c.S/\(bA s st0 (r.take k)).c.st=(bA s st0 (r.take (k+d))).c.st) \/
  ∃m,∃hm:m<r.length,m<k+d/\(bA s st0 (r.take m)).c.S=(bA s st0 (r.take k)).c.S/\(bA s st0 (r.take m)).c.st=(bA s st0 (r.take k)).c.st/\lw s (bA s st0 (r.take m)) r[m]:=by
 induction d with
 |zero=>intro k _;exact .inl ⟨rfl,rfl⟩
 |succ d ih=>
  intro k hk;by_cases h:lw s (bA s st0 (r.take k)) r[k]
  ·exact .inr ⟨k,by omega,by omega,rfl,rfl,h⟩
  have e:(bA s st0 (r.take (k+1))).c=(bA s st0 (r.take k)).c:=by rw[jb (show k<r.length by omega),us h]
  rcases ih (k+1) (by omega) with g | ⟨m,hm,o,a,f,i⟩
  ·rw[e,show k+1+d=k+(d+1) by omega] at g;exact .inl g
  ·rw[e] at a f;exact .inr ⟨m,hm,by omega,a,f,i⟩
end
theorem Zi(w:zc1):zej 5000 w=some true:=by
 unfold zej;rw[Pk,aw,if_neg (by simp)];obtain ⟨r1,e,h⟩:=few23 w.S w.St;obtain ⟨ab,O,h'⟩:=few30P w.S w.St;rw[e] at O;simp only[au] at O;subst O;rw[e,aw];by_cases hl:(!r1)=true
 ·simp_all
 rw[if_neg hl];simp only[gV,oT] at hl;have hw:=h hl;have h30:=h' hl;by_cases q:bg w.S w.St
 ·rw[UB hw q,aw];obtain ⟨r,_,hr,G,L',u,P⟩:=XF q h30 (List.Perm.refl (mapA w.St.ah));generalize w.S=s at *;generalize w.St=st at *;dsimp only;have rl:r.length<=30:=by grind [List.Perm.length_eq,List.length_filter_le]
  have rm:∀j∈r,j∈st.ai:=λj hj=>(RI.1 (hr.mem_iff.1 hj)).1;obtain ⟨I,_⟩:=G r.length (cM _);rw[xO] at I;have sh:=Lu I.c.sound P;rw[I.c.now,I.c.next,I.c.book,I.c.cA,I.c.use] at sh;have snd:fZ 5000 s (bA s st r).c.st=some true:=jz (Ey (Ul I.c.sound)) I.c.sound;have same:zbj 5000 (bA s st r).c.st (bA s st r).c.st=some true:=Qf (Eg (Ul I.c.sound) I.c.sound);rw[if_neg (by simp),show zcr 5000 st.az.am st.ai (List.map (λa=>(a.aS,a)) st.ah) s.aj s.aH s.am s.aT s.aq.mG s.aq.de s.aq.f_ s.aq.bW s.cj s.Mode s.ai s.kX s.aI s.br s.dm s.In s.Out s.ce st.aQ st.Next st.cR st.aA st.gz st.az.aj (cD s.aj st.ah)=_ from u,aw,dV];dsimp only;rw[if_neg (by simp),sh,aw,snd,aw,if_neg (by decide)];have pl:=I.c.Am;refine bO.eq (jm (bA s st r).c.S.length (λi x=>∃k,k<=r.length/\(bA s st (r.take k)).c.S.length=i/\x=((i:Int),(bA s st (r.take k)).c.st.aQ,(bA s st (r.take k)).c.st.Next,(bA s st (r.take k)).c.st.cR,(bA s st (r.take k)).c.st.ai,(bA s st (r.take k)).c.st.ah,(bA s st (r.take k)).c.st.aA,(bA s st (r.take k)).c.st.gz,(bA s st (r.take k)).c.st.az.am,(bA s st (r.take k)).c.st.az.aj))
   (λi x f hi Q R=>?_) (λx f Q=>?_) ⟨0,OX _,rfl,rfl⟩ (by omega))
  ·obtain ⟨k,hk,T,rfl⟩:=Q;dsimp only;rcases nextE (s:=s) (st0:=st) r (r.length-k) k (by omega) with g | ⟨m,hm,_,Y,Z,v⟩
   ·rw[show k+(r.length-k)=r.length by omega,xO] at g
    grind
   have E:bA s st (r.take (m+1))=oB s (bA s st (r.take m)) r[m]:=jb hm;rw[qU v] at E;have pre:=Xq (s:=s) (st0:=st) r (r.length-(m+1)) (m+1) (by omega);rw[show m+1+(r.length-(m+1))=r.length by omega,xO] at pre;rw[<-Y] at T;rw[<-Z];obtain ⟨J,nodes,hp⟩:=G m (by omega);obtain ⟨n,hn,F⟩:=zp J.c q (by omega) (by omega) hp (rm _ (bH hm)) v.1 v.2.1;have z:(bA s st (r.take (m+1))).c.S=(bA s st (r.take m)).c.S++[(ft s (bA s st (r.take m)).c.q r[m]).1]:=Fp (λx=>x.c.S) E;have K:(bA s st (r.take (m+1))).c.st=su (bA s st (r.take m)).c.st r[m] (ft s (bA s st (r.take m)).c.q r[m]).1.ae:=Fp (λx=>x.c.st) E;have el:(bA s st r).c.S[i]=(ft s (bA s st (r.take m)).c.q r[m]).1:=by
    obtain ⟨t,et⟩:=pre
    grind
   have no:=v.2.2.1;generalize ad:(ft s (bA s st (r.take m)).c.q r[m]).1=p at *;have af:=F.place.lo;have dg:p.At=(bA s st (r.take m)).c.st.aQ:=by have:=J.c.qn;have:=J.c.now;omega
   have ix:Vl (bA s st (r.take m)).c.st.ai r[m].Id=n:=by rw[<-F.dg];exact Kv J.c.sound.bn.bM hn
   have U:su (bA s st (r.take m)).c.st r[m] p.ae=iy (bA s st (r.take m)).c.st n (bA s st (r.take m)).c.st.ai[n] p.ae:=by unfold su;rw[ix,F.dg]
   have W:p.aS=(bA s st (r.take m)).c.st.ai[n].Id:=by rw[F.dg,F.id]
   have A:=Ul J.c.sound;have d:=may_ref J.c.sound r[m].Id;rw[v.1] at d;have al:=rZ A J.c.sound;have jl:=J.c.len;have o:=Vd J.c.sound hn F.one F.iR (F.fits dg) (F.uB dg) (by omega);have M:=DG A.bn J.c.sound.bn.bM hn;have bl:=J.c.sound.ju.cA.len;rw[<-W] at o M;rw[<-F.id] at d;have N:p.ae.length<=300:=by have:=jh F.iR.shares (by omega);have:=J.c.sound.spec.nodes.hi;omega
   rw[if_pos (cK hi),bX hi,aw,el,M,aw,dV,if_neg (by grind)];rw[show zdI 5000 s ({ aQ:=(bA s st (r.take m)).c.st.aQ,Next:=(bA s st (r.take m)).c.st.Next,cR:=(bA s st (r.take m)).c.st.cR,ai:=(bA s st (r.take m)).c.st.ai,ah:=(bA s st (r.take m)).c.st.ah,aA:=(bA s st (r.take m)).c.st.aA,gz:=(bA s st (r.take m)).c.st.gz,az:=({ am:=(bA s st (r.take m)).c.st.az.am,aj:=(bA s st (r.take m)).c.st.az.aj }:VX) }:bZ) p.aS=some true from d,aw];dsimp only;rw[if_neg (by simp),bX hn,aw,jz (FR A.spec J.c.sound.spec _ _ N) F.iR,aw,if_neg (by simp),II N F.iR.shares,aw,aw,F.iR.Sm,if_neg (by simp)];have ak:=J.c.sound.nums.now;have aa:=(J.c.sound.bn.each _ (bH hn)).ok.wall;refine vo p.ae (λ_ _=>True) (λy g X _ hg=>?_) (λg _=>?_) (by omega)
   ·rw[if_pos (cK X),bX X,aw,aw,wr (by omega) (by omega),Yq (by omega) (F.uB dg _ (bH X)),aw,if_neg (by simp),bT (show y<1000000 by omega)]
    grind
   ·rw[if_neg (by simp)];rw[show zc7 5000 s ({ aQ:=(bA s st (r.take m)).c.st.aQ,Next:=(bA s st (r.take m)).c.st.Next,cR:=(bA s st (r.take m)).c.st.cR,ai:=(bA s st (r.take m)).c.st.ai,ah:=(bA s st (r.take m)).c.st.ah,aA:=(bA s st (r.take m)).c.st.aA,gz:=(bA s st (r.take m)).c.st.gz,az:=({ am:=(bA s st (r.take m)).c.st.az.am,aj:=(bA s st (r.take m)).c.st.az.aj }:VX) }:bZ) p.aS p.ae=_ from o,aw,if_neg (by simp),bT (show i<1000000 by omega),<-U,<-K];exact R _ ⟨m+1,by omega,by rw[z];simp[T],rfl⟩
  ·obtain ⟨k,hk,T,rfl⟩:=Q;dsimp only;rw[if_neg (by simp),aw];rcases nextE (s:=s) (st0:=st) r (r.length-k) k (by omega) with g | ⟨m,hm,_,Y,Z,v⟩
   ·rw[show k+(r.length-k)=r.length by omega,xO] at g;rw[g.2];rw[show zbj 5000 (bA s st r).c.st ({ aQ:=(bA s st r).c.st.aQ,Next:=(bA s st r).c.st.Next,cR:=(bA s st r).c.st.cR,ai:=(bA s st r).c.st.ai,ah:=(bA s st r).c.st.ah,aA:=(bA s st r).c.st.aA,gz:=(bA s st r).c.st.gz,az:=({ am:=(bA s st r).c.st.az.am,aj:=(bA s st r).c.st.az.aj }:VX) }:bZ)=some true from same,aw,aY]
   ·exfalso;have E:bA s st (r.take (m+1))=oB s (bA s st (r.take m)) r[m]:=jb hm;rw[qU v] at E;have z:(bA s st (r.take (m+1))).c.S=(bA s st (r.take m)).c.S++[(ft s (bA s st (r.take m)).c.q r[m]).1]:=Fp (λx=>x.c.S) E;have pre:=Xq (s:=s) (st0:=st) r (r.length-(m+1)) (m+1) (by omega);rw[show m+1+(r.length-(m+1))=r.length by omega,xO,z] at pre;have:=pre.length_le
    grind
 grind [VF]
end Go.Plain
end
