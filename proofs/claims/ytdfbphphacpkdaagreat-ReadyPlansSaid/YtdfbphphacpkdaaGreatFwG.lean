/- DfwPs, DfwPt, DfwRl, DfwPu, DfwPv, DfwPz, DfwPy, DfwKy, DfwDl, DfwAb, DfwAd, DfwAe -/
import Derived.Test.YtdfbphphacpkdaaGreatFwF
import Derived.Test.YtdfbphphacpkdaaGreatFwC
import Derived.Test.YtdfbphphacpkdaaGreatFwB
import Derived.Lib.SlKeysI
import Derived.KernelRfl
set_option linter.all false
section
namespace Go.Abs
noncomputable section
variable[Gl][Y:Ty]
variable{σ σ1 F:TH}{σD σ1D:ae}{s:MS}{ct:CT}
theorem rO.er{x y:TB}(h:rO x y):y.er=x.er:=by rcases h with ⟨i,l,A,E,o,u,rfl,rfl⟩ | ⟨j,st,l,v,G,rfl,rfl⟩ <;> rfl
theorem Gf{j:Nat}{st:Bool}:∀(l:List (Int×TT j))(i:Nat),((wz (Jt j st) i l).all λe=>e.2.1.low 0)=true:=by
 intro l;induction l with
 |nil=>intro i;rfl
 |cons p l ih=>
  intro i;obtain ⟨k,a⟩:=p;simp only[wz,List.all_cons,ih,JX];unfold Jt;split
  ·have:∀d:List C,D.low.cq 0 (d.map .c)=true:=by
    intro d;induction d with
    |nil=>rfl
    |cons c d ih=>simp only[iH,D.low.cq,D.low,ih,JX]
   exact this _
  ·rfl
theorem aC.Dm{α u:Type}{R:α->u->Prop}:∀{l:List α}{o:List u},l.length=o.length->(∀(j:Nat) a b,l[j]? = some a->o[j]? = some b->R a b)->aC R l o:=by
 intro l;induction l with
 |nil=>
  intro o h _;cases o with
  |nil=>exact .nil
  |cons _ _=>simp at h
 |cons a l ih=>
  intro o h A;cases o with
  |nil=>simp at h
  |cons b o=>exact .cons (A 0 a b rfl rfl) (ih (by simp_all) λj x y E G=>A (j+1) x y E G)
theorem aC.map{α j o u:Type}{R:o->u->Prop}{f:α->o}{g:j->u}{A:α->j->Prop}(h:∀a b,A a b->R (f a) (g b)){l:List α}{E:List j}(a:aC A l E):aC R (l.map f) (E.map g):=by
 induction a with
 |nil=>exact .nil
 |cons x _ ih=>exact .cons (h _ _ x) ih
theorem GC.low{x:TC}(g:GC σ x):x.er.low σ.length=true:=by
 cases x with
 |own i c v n=>
  obtain ⟨blk,j,_⟩:=g;simp only[TC.er,D.low,aQ]
  grind
 |op i c v n k a off=>
  obtain ⟨blk,j,_⟩:=g;simp only[TC.er,D.low,aQ]
  grind
 |os i c v n o len=>
  obtain ⟨blk,j,_⟩:=g;simp only[TC.er,D.low,aQ]
  grind
 |ap c off len sz k=>simp only[TC.er,D.low,aQ];exact g
 |d x=>exact g
 |Cj f u=>exact wF g
 |_=>rfl
def f_(m:Nat)(s:MS)(b:Nat):Nat:=if b<m then b else (mU b s.ρ).getD 0
theorem Bd.Hl{m b o:Nat}(h:Bd m s b o):f_ m s b=o:=by
 rcases h with ⟨u,j⟩ | ⟨u,j⟩
 ·rw[f_,if_pos u,j]
 ·rw[f_,if_neg (by omega),j];rfl
def BF(σ σ1 σs F:TH)(s:MS)(i:Nat):Prop:=∃x y,σ1[f_ σ.length s i]? = some x/\F[i]? = some y /\
 ((∃w e g d,x=.cells w e/\y=.cells g d/\aC (λa b=>CM σ.length σ1 σs s a b∨(a=b/\GC σ a)) (e.map Prod.snd) (d.map Prod.snd))∨rO x y)
structure MX (σ σ1 σs F:TH) (s:MS) (n:Nat):Prop where
 len:F.length=σ.length+n
 MJ:σs.length=F.length
 sr:SR σs F
 bf:∀i,i<F.length->BF σ σ1 σs F s i
 mi:MI σ.length σ1 s
 nd:vw (s.ρ.map Prod.snd)=true
 fz:∀b∈s.fz,σ.length<=b/\b∉s.ρ.map Prod.snd
 kn:∀i,σ.length<=i->i<F.length->∃b',mU i s.ρ=some b'
theorem sy{i o:Nat}:∀{l:List (Nat×Nat)},mU i l=some o->(i,o)∈l:=by
 intro l;induction l with
 |nil=>grind [mU]
 |cons p l ih=>grind [mU,Nat.eq_of_beq_eq_true]
theorem OP:∀{l:List (Nat×Nat)},vw (l.map Prod.snd)=true->∀i j o,(i,o)∈l->(j,o)∈l->i=j:=by
 intro l;induction l with
 |nil=>simp_all
 |cons p l ih=>
  intro h i j o d e;simp only[iH,vw,bp,eS,yCj] at h;have no:∀k,(k,p.2)∈l->False:=λk hk=>h.1 p.2 (dY.2 ⟨_,hk,rfl⟩) (yCf _)
  grind
section
variable{σs:TH}{n:Nat}(X:MX σ σ1 σs F s n)(H1:RH σ1 σ1D)
include X H1
theorem MX.rn:Rn σ.length σ1D (F.map TB.er) (f_ σ.length s) (λb=>b∈s.fz):={
 le:=by grind [MX.len]
 id:=λi u=>by rw[f_,if_pos u]
 inj:=λi j u G e=>by
  rw[ql] at u G;unfold f_ at e;split at e
  ·rename_i h1;split at e
   ·exact e
   ·rename_i h2;obtain ⟨o,A⟩:=X.kn j (by omega) G;rw[A] at e;have:=(X.mi.ge _ (sy A)).2
    grind
  ·rename_i h1;obtain ⟨o,A⟩:=X.kn i (by omega) u;split at e
   ·rw[A] at e;have:=(X.mi.ge _ (sy A)).2
    grind
   ·obtain ⟨U,E⟩:=X.kn j (by omega) G;rw[A,E] at e;simp only[Option.getD_some] at e;subst e;exact OP X.nd i j o (sy A) (sy E)
 fr:=λi u O=>by
  rw[ql] at u;obtain ⟨h1,h2⟩:=X.fz _ O;unfold f_ at h1 h2;split at h1
  ·omega
  ·rename_i K;rw[if_neg K] at h2;obtain ⟨o,A⟩:=X.kn i (by omega) u;rw[A] at h2;exact h2 (dY.2 ⟨_,sy A,rfl⟩)
 row:=λb R=>by obtain ⟨i,l,Z,cv,h⟩:=X.mi.fz b R;exact ⟨i,l,H1.row h⟩
 sz:=λi u=>by
  rw[ql] at u;obtain ⟨x,y,h1,h2,h3⟩:=X.bf i u;refine ⟨x.er,y.er,by rw[H1.eqD,gP,h1];rfl,by simp_all,?_⟩
  grind [aC.len,List.length_map,TB.er,Ob.sz,rO.er] }
theorem MX.cell{x y:TC}(c:CM σ.length σ1 σs s x y):cO σ1D (F.map TB.er) (f_ σ.length s) (λb=>b∈s.fz) x.er y.er:=by
 have N:=X.rn H1;rcases c with ⟨c1,c2,_⟩ | ⟨i,b,v,l,Z,rfl,o,A,u⟩ | ⟨i,b,E,v,l0,aa,j,lv,l,Z,rfl,o,A,rfl,h5⟩ | ⟨b,E,off,sz,rfl,o,rfl,u⟩ | ⟨b,E,rfl,o,rfl,u⟩ | ⟨f,b,E,sz,rfl,o,rfl,u⟩
 ·grind [cO.le,cO.data]
 ·rw[u];exact cO.ca N o (H1.row A)
 ·have hF:=X.sr.row b j l lv Z h5;have G:=(d_.1 hF).1;obtain ⟨x,y,K,O,R⟩:=X.bf b G;have q:=o.Hl;subst q;rw[A] at K;rw[hF] at O;simp only[aj] at K O;subst K O;rcases R with ⟨w,cs,w',ab,e,_⟩ | R
  ·simp at e
  ·rcases R with ⟨i',l',_,_,_,_,U,e5⟩ | ⟨_,_,_,_,_,U,_⟩
   ·simp only[TB.row.injEq] at U e5;obtain ⟨rfl,e6,_,_⟩:=U;obtain ⟨rfl,e7,_,_⟩:=e5;cases e6;cases e7;exact cO.sl N (by simp_all)
   simp_all
 ·have:=cO.ptr (F:=λb=>b∈s.fz) N (i:=b) (off:=off) (sz:=sz) (by grind [MX.MJ]);rw[o.Hl] at this;exact this
 ·have:=cO.mp (F:=λb=>b∈s.fz) N (i:=b) (by grind [MX.MJ]);rw[o.Hl] at this;exact this
 ·have:=cO.ptr (F:=λb=>b∈s.fz) N (i:=b) (off:=0) (sz:=sz) (by grind [MX.MJ]);rw[o.Hl] at this;exact cO.fn1 this
theorem MX.rnH:Ox σ.length σ1D (F.map TB.er) (f_ σ.length s) (λb=>b∈s.fz):={
 toRn:=X.rn H1
 ob:=λi E=>by
  rw[ql] at E;obtain ⟨x,y,h1,h2,G⟩:=X.bf i E;refine ⟨x.er,y.er,by rw[H1.eqD,gP,h1];rfl,by simp_all,?_⟩;rcases G with ⟨w,Z,w',K,rfl,rfl,o⟩ | o
  ·refine ⟨_,rfl,?_⟩;have:=aC.map (R:=cO σ1D (F.map TB.er) (f_ σ.length s) (λb=>b∈s.fz)) (f:=TC.er) (g:=TC.er) (λa b h=>?_) o
   ·rw[Q_,Q_] at this;exact this
   ·rcases h with h | ⟨rfl,h⟩
    ·exact X.cell H1 h
    ·exact cO.low (X.rn H1) h.low
  ·rw[o.er];rcases o with ⟨j,l,lv,cv,O,U,rfl,rfl⟩ | ⟨j,st,l,v,v',rfl,rfl⟩
   ·refine ⟨_,rfl,aC.Dm rfl λk a b u A=>?_⟩;rw[u] at A;simp only[aj] at A;subst A;rw[gP,bU] at u;obtain ⟨c,_,rfl⟩:=u;exact cO.data (X.rn H1) rfl
   ·exact ⟨rfl,Gf l 0⟩ }
theorem MX.val{v y:TV}{d:D}(h:VM σ.length σ1 σs s v y)(o:RT v d):cO σ1D (F.map TB.er) (f_ σ.length s) (λb=>b∈s.fz) d (eD y):=by
 have cell:∀{x y:TC}{d:D},CM σ.length σ1 σs s x y->RC x d->cO σ1D (F.map TB.er) (f_ σ.length s) (λb=>b∈s.fz) d y.er:=λ{x y d} c r=>by
  rcases r with rfl | rfl
  ·exact cO.le (λ_ _ _ _ _ _=>.any _) (X.cell H1 c)
  ·exact X.cell H1 c
 cases v with
 |c x => cases y with
  |c y=>exact cell h o
  |_=>exact h.elim
 |agg A => cases y with
  |agg R=>
   obtain ⟨ds,rfl,o⟩:=o;refine cO.agg (aC.Dm ?_ λj a b E u=>?_)
   ·rw[<-o.len,ql];exact aC.len h
   ·rw[gP,bU] at u;obtain ⟨y,G,rfl⟩:=u;obtain ⟨x,U,Z⟩:=aC.get' h j y G;obtain ⟨x',K,O⟩:=o.get' j a E
    grind
  |_=>exact h.elim
 |aI A=>exact h.elim
theorem MX.valL{vs o:List TV}{ds:List D}(h:aC (VM σ.length σ1 σs s) vs o)(j:eW vs ds):aC (cO σ1D (F.map TB.er) (f_ σ.length s) (λb=>b∈s.fz)) ds (o.map eD):=by
 induction h generalizing ds with
 |nil=>cases j;exact .nil
 |cons h _ ih=>
  cases j with
  |cons r j=>exact .cons (X.val H1 h r) (ih j)
theorem MX.vals{vs o:List TV}{ds:List D}(h:aC (VM σ.length σ1 σs s) vs o)(u:eW vs ds):cO σ1D (F.map TB.er) (f_ σ.length s) (λb=>b∈s.fz) (one ds) (one (o.map eD)):=by
 have j:aC (cO σ1D (F.map TB.er) (f_ σ.length s) (λb=>b∈s.fz)) ds (o.map eD):=by
  induction h generalizing ds with
  |nil=>cases u;exact .nil
  |cons h _ ih=>
   cases u with
   |cons r u=>exact .cons (X.val H1 h r) (ih u)
 generalize o.map eD=es at j ⊢;cases j with
 |nil=>exact cO.aI .nil
 |cons h r=>
  cases r with
  |nil=>exact h
  |cons x r=>exact cO.aI (.cons h (.cons x r))
end
end
end Go.Abs
end
section
namespace Go.Abs
noncomputable section
variable[Gl][Y:Ty]
variable{σ σ1 F:TH}{σD σ1D:ae}{ct:CT}
theorem WR{b:Nat}{ps:List PC}(h:∀p∈ps,p.rw=true->p.blk≠b):WD (ps.map PC.pl) b/\notM (ps.map PC.pl) b:=by
 refine ⟨λi d=>?_,λj st d=>?_⟩
 ·rw[dY] at d;obtain ⟨p,g,e⟩:=d;cases p with
  |w k o=>simp only[PC.pl,Pl.w.injEq] at e;exact h _ g rfl e.1
  |h=>grind [PC.pl]
  |m=>grind [PC.pl]
 ·rw[dY] at d;obtain ⟨p,g,e⟩:=d;cases p with
  |m k o=>simp only[PC.pl,Pl.m.injEq] at e;exact h _ g rfl e.1
  |h=>grind [PC.pl]
  |w=>grind [PC.pl]
theorem Zy{b j:Nat}{ps:List PC}(h:∀p,PC.h b j p∉ps):WI (ps.map PC.pl) b j:=by
 intro c d;rw[dY] at d;obtain ⟨p,g,e⟩:=d;cases p with
 |h k o q=>grind [PC.pl]
 |w=>grind [PC.pl]
 |m=>grind [PC.pl]
theorem mx_of{rs rv:List TV}{x:cV ct.items}{ds:List jb}{s1 s2 s:MS}(hs:dD (ct.pl.map PC.pl) 0 σ σ1=true)(h1:FO σ.length σ1 ct.out rs ⟨[],[],[],[]⟩=some s1)(h2:Da σ.length σ σ1 ct.pl s1=some s2)(h3:BS σ.length σ1 σ.length ct.nb s2=some s)
  (T:(vw (s.ρ.map Prod.snd)&&(s.fz.all (λb=>Nat.ble σ.length b&&!((s.ρ.map Prod.snd).any (Nat.beq b)))&&s.ρ.all λp=>Nat.blt p.1 (σ.length+ct.nb.length)))=true) (h:rc ct.items (s.rw++s.cl)=some x)
  (L:Laid ct σ ds rv F) (ak:dk ct.items x=ds) (H:RH σ σD) (H1:RH σ1 σ1D) (E:Ext σ σ1) (g:∀v∈rs,GV σ1 v) :
  ∃σs,MX σ σ1 σs F s ct.nb.length/\aC (VM σ.length σ1 σs s) rs rv:=by
 simp only[bp,fE] at T;obtain ⟨an,ax,bb⟩:=T;have hS:=TY H hs E;have hg:∀(b:Nat) w d,σ1[b]? = some (.cells w d)->∀p∈d,GC σ1 p.2:=λb w d K p hp=>(H1.hg b w d K p hp).1;obtain ⟨La,a1,a2,a3,a4,a5⟩:=XA h1 g;obtain ⟨L2,Lb,b1,b2,b3,b4,b5,b6,b7⟩:=YJ hg h2;obtain ⟨L3,Lc,c1,c2,c3,c4,c5,c6⟩:=YM hg h3;have hq:ds=L2++(L3++(La++(Lb++(Lc++[])))):=by grind [Tt]
 clear ak;subst hq;have Ro:=gC L.h1 H;have C:=jK L.h4;have S:=L.sr;obtain ⟨n1,_,_⟩:=wv L.h5;obtain ⟨e1,r1⟩:=b6 σ _ _ _ L.h1;have q2:=L.h2;rw[e1] at q2;obtain ⟨e2,r2⟩:=c5 _ _ _ q2;have q3:=L.h3;rw[e2] at q3;obtain ⟨e3,r3⟩:=a5 _ _ _ _ q3;have q4:=L.h4;rw[e3] at q4;have hl:∀(b:Nat) w d w1 t,L.gK[b]? = some (.cells w d)->σ1[b]? = some (.cells w1 t)->d.length=t.length:=λb w d w1 t x y=>by
  obtain ⟨N,z,o⟩:=hS b _ ((Ro.cells b w d).2 x);obtain ⟨w2,a0,rfl,hl,_⟩:=o
  grind
 obtain ⟨e4,r4,r5⟩:=b7 _ _ _ _ _ q4 hl;have q5:=L.h5;rw[e4] at q5;have r6:=c6 _ _ _ _ q5;have a6:L.au.length=σ.length:=by rw[C.len,Ro.len]
 have aa:F.length=σ.length+ct.nb.length:=by grind [Laid.fl]
 have a7:∀k:Nat,F[σ.length+k]? = L.l[k]?:=λk=>by grind [Laid.fa]
 refine ⟨L.gK++L.nb,⟨aa,S.len.symm,S,λi hi=>?_,?_,an,λb K=>?_,λi hi bc=>?_⟩,aC.mono (λ_ _=>VM.mono (b3.trans c3)) r3⟩
 ·rcases qG i σ.length with m | a8
  ·have ab:f_ σ.length s i=i:=by rw[f_,if_pos m]
   have K:=cT m;obtain ⟨N,x1,o⟩:=hS i _ K;unfold BF;rw[ab];have rm:(∀w d,σ[i]≠.cells w d)->∃x y,σ1[i]? = some x/\F[i]? = some y/\rO x y:=λhn=>by
    rcases r1 i with ⟨O,t2⟩ | ⟨x,y,O,t2,U⟩
    ·have hr:L.gK[i]? = some σ[i]:=by grind
     have hF:F[i]? = some σ[i]:=by rw[L.lt H m];exact C.same i _ hr hn
     obtain ⟨nw,nm⟩:=WR O;refine ⟨N,_,x1,hF,?_⟩;cases r:σ[i] with
     |cells w d=>grind
     |row i0 l lv cv=>rw[r] at o;obtain ⟨l1,bd,be,rfl,o⟩:=o;obtain ⟨rfl,rfl,rfl⟩:=o nw;exact .inl ⟨_,_,_,_,_,_,rfl,rfl⟩
     |mp j st l v=>rw[r] at o;obtain ⟨j1,bh,l1,Z,rfl,o⟩:=o;have:=o nm;rw[this];exact .inr ⟨_,_,_,_,_,rfl,rfl⟩
    ·refine ⟨x,y,O,?_,U⟩;rw[L.lt H m];refine C.same i y t2 λw d e=>?_;subst e;rcases U with ⟨_,_,_,_,_,_,_,e⟩ | ⟨_,_,_,_,_,_,e⟩ <;> simp at e
   cases r:σ[i] with
   |row i0 l lv cv=>grind
   |mp j st l v=>grind
   |cells w d=>
    rw[r] at o K;obtain ⟨w1,t,rfl,l1,o⟩:=o;have hr:=(Ro.cells i w d).1 K;obtain ⟨w',a9,O,t2⟩:=r5 i w d hr;obtain ⟨w2,a0,U,_,t4,_⟩:=C.fwd i w d hr;rw[O] at U;simp only[aj,TB.cells.injEq] at U;obtain ⟨rfl,rfl⟩:=U;refine ⟨_,_,x1,by rw[L.lt H m];exact O,.inl ⟨w1,t,w',a9,rfl,rfl,aC.Dm (by grind) λj a b ha u=>?_⟩⟩;rw[gP,bU] at ha u;obtain ⟨p,ha,rfl⟩:=ha;obtain ⟨q,u,rfl⟩:=u;by_cases ad:∃c,PC.h i j c∈ct.pl
    ·obtain ⟨c,T⟩:=ad;obtain ⟨w3,bi,w4,bk,x,y,u1,u2,u3,u4,u5⟩:=r4 i j c T;rw[x1] at u1;rw[O] at u2;simp only[aj,TB.cells.injEq] at u1 u2;obtain ⟨_,rfl⟩:=u1;obtain ⟨_,rfl⟩:=u2;rw[ha] at u3;rw[u] at u4;simp only[aj] at u3 u4;subst u3 u4;exact .inl (u5.mono c3)
    ·have af:∀c,PC.h i j c∉ct.pl:=λc T=>ad ⟨c,T⟩;have hj:j<d.length:=by grind
     have h0:=cT hj;have Z:=o j _ p h0 ha (Zy af);have v2:=t2 j af;rw[u,h0] at v2;simp only[aj] at v2;refine .inr ⟨by grind,?_⟩;rw[Z];exact (H.hg i w d K _ (vB h0)).1
  ·obtain ⟨k,rfl⟩:=yB8 a8;have hk:k<ct.nb.length:=by omega
   have R:=cT hk;obtain ⟨u1,u2⟩:=r6 k _ R;unfold BF;rw[a7];by_cases G:∃A,ct.nb[k]=.cells A
   ·obtain ⟨A,e⟩:=G;obtain ⟨b',w,d,ys,Z,v2,v3,v4⟩:=u1 A e;rw[f_,if_neg (by omega),Z];exact ⟨_,_,v2,v3,.inl ⟨w,d,0,ys,rfl,rfl,aC.mono (λ_ _ h=>.inl h) v4⟩⟩
   ·have hn:∀A,ct.nb[k]≠.cells A:=λA e=>G ⟨A,e⟩;obtain ⟨b',x,y,Z,v2,v3,v4⟩:=r2 k _ R hn;rw[f_,if_neg (by omega),Z,u2 hn]
    grind
 ·exact c4 (b4 (a4 ⟨by simp,by simp⟩))
 ·have:=ax b K;simp only[bp,eS,yCj] at this;exact ⟨zE this.1,λhm=>this.2 b hm (yCf b)⟩
 ·obtain ⟨k,rfl⟩:=yB8 hi;have hk:k<ct.nb.length:=by omega
  have R:=cT hk;by_cases G:∃A,ct.nb[k]=.cells A
  ·obtain ⟨A,e⟩:=G
   grind
  grind
theorem XO{rs e:List TV}{x:cV ct.items}{ds:List jb}(h:Uj ct σ σ1 rs=some x)(L:Laid ct σ ds e F)(d:dk ct.items x=ds)(H:RH σ σD)(H1:RH σ1 σ1D)(E:Ext σ σ1)(g:∀v∈rs,GV σ1 v) :
  ∃s σs,MX σ σ1 σs F s ct.nb.length/\aC (VM σ.length σ1 σs s) rs e:=by
 unfold Uj at h;split at h
 ·simp at h
 rename_i hs;split at h
 ·simp at h
 rename_i s1 j;split at h
 ·simp at h
 rename_i p k;split at h
 ·simp at h
 rename_i s m;split at h
 rotate_left
 ·simp at h
 rename_i o;exact ⟨s,mx_of hs j k m o h L d H H1 E g⟩
theorem Tp{σ σ1:TH}{rs:List TV}{ct:CT}{x:cV ct.items}:∀{cs:List CT}{y:nP cs},QV σ σ1 rs cs=some y->qo cs y=some ⟨ct,x⟩->Uj ct σ σ1 rs=some x:=by
 intro cs;induction cs with
 |nil=>grind
 |cons c cs ih=>
  intro y h hs;cases cs with
  |nil=>
   simp only[QV] at h;simp only[qo,aj,Wg] at hs
   grind
  |cons d cs=>
   simp only[QV] at h;split at h
   ·rename_i a g;simp only[aj] at h;subst h;simp only[qo,aj,Wg] at hs
    grind
   ·split at h
    ·rename_i b e;simp only[aj] at h;subst h;exact ih (y:=b) e hs
    simp_all
theorem zip3{σ:TH}{vs:List TV}{ds:List D}(a:eW vs ds):(∀v∈vs,GV σ v)->∀(i t:Nat)(x:RV)(p:Nat),dR t (yx i vs)=some (x,p)->∃d v,x=.v v/\lk t (iZ i ds)=some d/\RT v d/\GV σ v:=by
 induction a with
 |nil=>grind [yx,dR]
 |cons e _ ih=>
  intro g i t x p h;simp only[yx,dR] at h;simp only[iZ,lk]
  grind
theorem eW.len{vs:List TV}{ds:List D}(a:eW vs ds):vs.length=ds.length:=by
 induction a with
 |nil=>rfl
 |cons _ _ ih=>simp[ih]
def cJ.ok(P:Program)(B:cJ):Prop:=∀(j:List CT)(o:FuncId)(u:List TV)(σ:TH)(y:nP j)(ct:CT)(x:cV ct.items)(A:List TV)(E:TH)(σD:ae)(ds:List D),B j o u σ=some y->qo j y=some ⟨ct,x⟩->kC ct σ x=some (A,E)->RH σ σD->eW u ds->(∀v∈u,GV σ v) ->
 aN P o=true/\Ok P o ds σD (one (A.map eD)) (E.map TB.er)
theorem cJ.ok.inl{P:Program}{B:cJ}(G:cJ.ok P B)(S:pL)(H:List (Nat×Nat))(J:List (Nat×JH))(C:List (Nat×List CT))(n N:Nat)(X:Ku)(K:An):UF ⟨P,S,H,J,C,n,N,B,X,K⟩:=by
 intro O R U σ y ct x Z au σD ds h o j E u A;obtain ⟨h1,h2⟩:=G O R U σ y ct x Z au σD ds h o j E u A;obtain ⟨L⟩:=kr j;obtain ⟨k1,k2,k3,k4,k5,k6⟩:=L.all E
 grind
def Ku.ok(P:Program)(X:Ku):Prop:=∀(ct:CT)(u:FuncId)(x:List TV)(σ:TH)(A:List TV)(o:TH)(σD:ae)(ds:List D),X ct u x σ=some (A,o)->RH σ σD->eW x ds->(∀v∈x,GV σ v) ->
 aN P u=true/\∃r j,RH o j/\RT (vX A) r/\GV o (vX A)/\Ext σ o/\Ok P u ds σD r j/\(∀b,b<σD.length->j[b]? = σD[b]?)
theorem Ku.ok.two{P:Program}{X:Ku}(j:Ku.ok P X)(S:pL)(H:List (Nat×Nat))(J:List (Nat×JH))(C:List (Nat×List CT))(n N:Nat)(B:cJ)(o:An):ExOk ⟨P,S,H,J,C,n,N,B,X,o⟩:=j
theorem Xp{P:Program}{S:pL}{N:Nat}{B I:cJ}{X:Ku}{T:An}(cW:P.follows .mixedOrders=true)(hS:ed P S)(hB:cJ.ok P B)(hI:cJ.ok P I)(hX:Ku.ok P X):cJ.ok P (inl1 P S N B T I X):=by
 intro G gi U σ y ct x Z K σD ds h k m q o r;cases G with
 |nil=>grind
 |cons g G=>
  simp only[inl1] at h;split at h
  ·exact hB _ gi U σ y ct x Z K σD ds h k m q o r
  split at h
  ·rename_i fn hg;split at h
   ·rename_i E hc;split at h
    ·rename_i he;simp only[bp] at he;obtain ⟨L⟩:=kr m;have R0:Ref (yx 0 U) σ (iZ 0 ds) σD:=⟨q,λt x p h=>by
      obtain ⟨d,v,rfl,h1,h2,h3⟩:=zip3 o r 0 t x p h;exact ⟨d,h1,h2,h3⟩⟩
     refine ⟨he.1,?_⟩;refine oA hg hc (by rw[<-o.len];simp_all) ?_;refine (TL ⟨P,S,g.H,g.J,g.C,E.ntmps,N,I,X,T⟩ cW hS ⟨hI.inl _ _ _ _ _ _ _ _,hX.two _ _ _ _ _ _ _ _⟩ E.body 1 _ _ _ y _ _ h R0).dE λx' u e hP=>.inl ?_;obtain ⟨O,A,p1,_,p3,p4⟩:=hP;have fin:(match De (Cu O A) E.results with | some rs=>QV σ A rs (g::G) | none=>none)=some y->∃j ρ F,E.results.mapM (mY u e)=some j/\Ox σD.length e (K.map TB.er) ρ F/\(∀b,F b->σD.length<=b)/\cO e (K.map TB.er) ρ F (one j) (one (Z.map eD)):=by
      intro h4;split at h4
      ·rename_i rs R;obtain ⟨j,h5,h6,h7⟩:=EO p1 R;have h8:=Tp h4 k;obtain ⟨s,σs,X,hv⟩:=XO h8 L rfl q p1.hh p3 h7;refine ⟨j,_,_,h5,by rw[q.len];exact X.rnH p1.hh,λb hb=>by rw[q.len];exact (X.fz b hb).1,X.vals p1.hh hv h6⟩
      simp_all
     cases x' with
     |exit i=>grind
     |normal=>grind
     |ret=>grind
    simp_all
   simp_all
  simp_all
theorem UQ{n:Nat}{x:TC}(h:Th n x=true):x≠.any:=λe=>by grind [Th]
theorem MD{σ:TH}{x:TC}(h:Th σ.length x=true):GC σ x:=by
 cases x with
 |d x=>exact h
 |own=>grind [Th]
 |op=>grind [Th]
 |ap=>grind [Th]
 |os=>grind [Th]
 |Cj=>grind [Th]
 |_=>trivial
theorem exV_eD{n:Nat}{v:TV}{d:D}(h:Wc n v=true)(r:RT v d):d=eD v:=by
 cases v with
 |c x=>exact RT.c1 (UQ h) r
 |agg e=>obtain ⟨ds,rfl,hd⟩:=r;simp only[Wc,fE] at h;rw[hd.eq λy g=>UQ (h y g)];rfl
 |aI e=>grind [Wc]
theorem exV_nt{n:Nat}{v:TV}(h:Wc n v=true):nT v:=by
 cases v with
 |aI d=>grind [Wc]
 |_=>trivial
theorem exV_gv{σ:TH}{v:TV}(h:Wc σ.length v=true):GV σ v:=by
 cases v with
 |c x=>exact MD h
 |agg d=>simp only[Wc,fE] at h;exact λx e=>MD (h x e)
 |aI d=>grind [Wc]
theorem XW{n:Nat}:∀{vs:List TV}{ds:List D},vs.all (Wc n)=true->eW vs ds->ds=vs.map eD:=by
 intro vs;induction vs with
 |nil=>intro ds _ h;cases h;rfl
 |cons v vs ih=>
  intro ds h a;cases a with
  |cons r a=>
   simp only[List.all_cons,bp] at h
   grind [exV_eD]
theorem Ge{pl:List Pl}{σ σ1:TH}(h:dD pl 0 σ σ1=true):σ.length<=σ1.length:=by
 rcases qG σ1.length σ.length with d | e
 ·obtain ⟨blk,g,_⟩:=yV h σ1.length _ (cT d)
  simp_all
 omega
theorem KQ{P:Program}{g:FuncId}{fn:Func}{y:jE}{fz:Bool}{ds:List D}{r:D}{σ au:ae}(hg:P.funcs[g]? = some fn)(A:fX P fn fz=some y)(E:ds.length<=y.ntmps)
  (h:Sem P y.body y.ntmps (iZ 0 ds) σ λx al σ1=>(x=.normal∨x=.ret)/\∃e,y.results.mapM (mY al σ1)=some e/\σ1=au/\one e=r):Ok P g ds σ r au:=by
 unfold fX at A;split at A
 ·rename_i c hb;split at A
  ·rename_i ac rs h1 h2;simp only[aj] at A;subst A;dsimp only at h E;intro M Fz w u R hs O;refine k_ hg hb ?_;have A0:dP fn.ntmps σ M Fz w (iZ 0 ds) (u++Array.replicate (fn.ntmps-u.size) undef):=by
    refine ⟨by simp_all,λt d S=>?_⟩;obtain ⟨_,h3⟩:=Cd ds 0 t d S;rw[xAe] at h3;have T:t<u.size:=by grind
    exact ⟨u[t],by grind,O t d _ h3 (oF T)⟩
   refine JR (h c h1 M Fz w { tmps:=u++Array.replicate (fn.ntmps-u.size) undef,defers:=[] } _ R A0 λx j m a' w' M' U hQ hd R' N EV hl=>?_);obtain ⟨hx,e,hm,rfl,rfl⟩:=hQ;have Z:rs.mapM (IW (uA fn.ntmps j) m)=some e:=by
    have a0:∀(l:List (Nat×Option (Option Nat))) e,l.mapM (mY j m)=some e->l.mapM (IW (uA fn.ntmps j) m)=some e:=by
     intro l;induction l with
     |nil=>simp_all
     |cons p l ih=>
      intro e h;rw[Pq] at h ⊢;cases G:mY j m p with
      |none=>simp_all
      |some d=>
       rw[G] at h;have:IW (uA fn.ntmps j) m p=some d:=by
        obtain ⟨t,o⟩:=p;cases o with
        |none=>exact N.cK.2.2 t d G
        |some k=>
         simp only[mY] at G;split at G
         ·rename_i b off sz aa;simp only[IW,N.cK.2.2 t _ aa];exact G
         simp_all
       rw[this];cases hr:l.mapM (mY j m) with
       |none=>simp_all
       |some q=>simp_all
    simp_all
   have ab:vD x=.normal∨vD x=.ret:=by rcases hx with rfl | rfl <;> simp[vD]
   refine ⟨ab,Mk.end hd R' EV λad K L mv=>?_⟩;have ak:dP fn.ntmps m M' U ad j a'.tmps:=⟨N.1,λt d S=>by obtain ⟨v,q1,q2⟩:=N.2 t d S;exact ⟨v,q1,mv d v q2⟩⟩
   obtain ⟨v,an,ax⟩:=ig (P:=P) K ak.cK.1 h2 Z;exact ⟨v,an,v,_,_,rfl,K,ax,L⟩
  simp_all
 simp_all
theorem SB.er0{b:Nat}{x y:TB}(h:SB [] b x y):y.er=x.er:=by
 cases x with
 |cells w E=>
  obtain ⟨w1,u,rfl,Z,o⟩:=h;simp only[TB.er,Ob.cells.injEq];apply Qg;intro j;rw[gP,gP];cases e:E[j]? with
  |none=>simp_all
  |some p=>
   have G:j<u.length:=by grind
   have:=o j p _ e (cT G) (λc A=>by grind)
   grind
 |row i l lv cv=>
  obtain ⟨K,O,R,rfl,o⟩:=h;obtain ⟨rfl,_,_⟩:=o λc A=>by grind
  rfl
 |mp j st l v=>obtain ⟨j1,U,K,v1,e,o⟩:=h;rw[o λc st A=>by grind]
theorem ex1xok{P:Program}{S:pL}{N:Nat}{I:cJ}{X:Ku}{U:An}(cW:P.follows .mixedOrders=true)(hS:ed P S)(hI:cJ.ok P I)(hX:Ku.ok P X):Ku.ok P (ex1 P S N U I X):=by
 intro ct gi vs σ rv au σD ds h y m A;unfold ex1 at h;split at h
 ·rename_i fn hg;split at h
  ·rename_i r hc;split at h
   ·rename_i Z;simp only[bp] at Z;have R0:Ref (yx 0 vs) σ (iZ 0 ds) σD:=⟨y,λt x p h=>by
     obtain ⟨d,v,rfl,g,h2,h3⟩:=zip3 m A 0 t x p h;exact ⟨d,g,h2,h3⟩⟩
    obtain ⟨⟨rs,σ1⟩,h,u⟩:=xM h;have T:=TL ⟨P,S,ct.H,ct.J,ct.C,r.ntmps,N,I,X,U⟩ cW hS ⟨hI.inl _ _ _ _ _ _ _ _,hX.two _ _ _ _ _ _ _ _⟩ r.body 1 _ _ _ (rs,σ1) _ _ h R0;dsimp only at u;split at u
    rotate_left
    ·grind
    rename_i hk;simp only[bp] at hk;obtain ⟨hx,hs,hb⟩:=hk;simp only[aj,aM] at u;obtain ⟨rfl,rfl⟩:=u;have aa:=Ge hs;have ad:(σ++σ1.drop σ.length).length=σ1.length:=by simp_all
    have xt:Ext σ (σ++σ1.drop σ.length):=λb blk h=>⟨blk,by grind,BE.refl blk⟩;have E:RH (σ++σ1.drop σ.length) ((σ++σ1.drop σ.length).map TB.er):=by
     refine RH.mk' λb w cs e p hp=>?_;rcases qG b σ.length with g | g
     ·rw[DK g] at e;obtain ⟨g1,g2⟩:=y.hg b w cs e p hp;exact ⟨g1.mono xt,g2⟩
     ·rw[KE g] at e;rw[fE] at hb;have:=hb _ (vB e);simp only[sBlk,fE,bp] at this;obtain ⟨t1,t2⟩:=this p hp;exact ⟨MD (by simp_all),zE t2⟩
    rw[fE] at hx;have G:∀v∈rs,nT v:=λv hv=>exV_nt (hx v hv);have K:∀v∈rs,GV (σ++σ1.drop σ.length) v:=λv hv=>exV_gv (by simp_all);refine ⟨Z.1,one (rs.map eD),(σ++σ1.drop σ.length).map TB.er,E,NM G,Ng K,xt,?_,λb e=>?_⟩
    ·refine KQ hg hc (by rw[<-m.len];simp_all) (T.dE λx' o k hP=>.inl ?_);obtain ⟨L,q,p1,_,p3,p4⟩:=hP;have fin:(match De (Cu L q) r.results with | some rs=>some (rs,q) | none=>none)=some (rs,σ1)->∃j,r.results.mapM (mY o k)=some j/\k=(σ++σ1.drop σ.length).map TB.er/\one j=one (rs.map eD):=by
      intro O;split at O
      ·rename_i ak R;simp only[aj,aM] at O;obtain ⟨rfl,rfl⟩:=O;obtain ⟨j,h5,h6,h7⟩:=EO p1 R;refine ⟨j,h5,?_,by grind [XW]⟩;rw[p1.hh.eqD];apply Qg;intro b;rw[gP,gP];rcases qG b σ.length with g | g
       ·rw[DK g];obtain ⟨ab,e1,e2⟩:=TY y hs p3 b _ (cT g)
        grind [SB.er0]
       grind [Nat.add_sub_cancel']
      simp_all
     cases x' with
     |exit i=>grind
     |normal=>exact ⟨.inl rfl,fin p4⟩
     |ret=>exact ⟨.inr rfl,fin p4⟩
    grind [RH.eqD]
   simp_all
  simp_all
 simp_all
theorem Me{P:Program}{S:pL}{N:Nat}{B:cJ}{e:An}(cW:P.follows .mixedOrders=true)(g:ed P S)(j:cJ.ok P B):∀(d:Nat),cJ.ok P (KA P S N B e d).1/\Ku.ok P (KA P S N B e d).2:=by
 intro d;induction d with
 |zero=>exact ⟨λq k m σ y ct x o p σD ds h=>by grind [KA],λct k m σ o p σD ds h=>by grind [KA]⟩
 |succ d ih=>exact ⟨Xp cW g j ih.1 ih.2,ex1xok cW g ih.1 ih.2⟩
end
end Go.Abs
end
section
namespace Go.Abs
variable[Gl]
def D.dB(ρ:Nat->Nat):D->D
 |.c x=>.c x
 |.any=>.any
 |.ptr b o s=>.ptr (ρ b) o s
 |.sl b o l e s=>.sl (ρ b) o l e s
 |.mp b=>.mp (ρ b)
 |.fn f a b=>.fn f (ui ρ a) (ui ρ b)
 |.agg ds=>.agg (ui ρ ds)
 |.aI ds=>.aI (ui ρ ds)
where ui (ρ:Nat->Nat):List D->List D
 |[]=>[]
 |d::ds=>d.dB ρ::ui ρ ds
theorem Cc(ρ:Nat->Nat)(l:List D):D.dB.ui ρ l=l.map (D.dB ρ):=by
 induction l with
 |nil=>rfl
 |cons d l ih=>grind [D.dB.ui]
theorem iY(ρ:Nat->Nat)(l:List D)(i:Nat):(D.dB.ui ρ l)[i]? = (l[i]?).map (D.dB ρ):=by rw[Cc,gP]
theorem kR(ρ:Nat->Nat)(l:List D):(D.dB.ui ρ l).length=l.length:=by rw[Cc,ql]
def Ob.dB(ρ:Nat->Nat):Ob->Ob
 |.cells o=>.cells (o.map (D.dB ρ))
 |.map es j=>.map (es.map λe=>(e.1,e.2.1.dB ρ,e.2.2)) j
 |.gone n=>.gone n
theorem Ob.oM(ρ:Nat->Nat)(ob:Ob):(ob.dB ρ).sz=ob.sz:=by cases ob <;> simp[Ob.dB,Ob.sz]
section
variable{σ H:ae}{M:Nat->Option Nat}{Fz:Nat->Prop}{w:World}{ρ:Nat->Nat}
theorem V.back{n:Nat}{U:Nat->Option Nat}(hM:∀i,i<n->U i=M (ρ i))(E:∀i,i<n->σ[ρ i]? = (H[i]?).map (Ob.dB ρ)){d:D}{v:Value}(h:V σ M Fz w (d.dB ρ) v):d.low n=true->V H U Fz w d v:=by
 generalize hd:d.dB ρ=d' at h;induction h generalizing d with
 |c h=>intro _;cases d <;> simp only[D.dB,reduceCtorEq,D.c.injEq] at hd;subst hd;exact .c h
 |any v=>intro _;cases d <;> simp only[D.dB,reduceCtorEq] at hd;exact .any v
 |ptr a Z h u A=>
  intro j;cases d <;> simp only[D.dB,reduceCtorEq,D.ptr.injEq] at hd
  obtain ⟨rfl,rfl,rfl⟩:=hd;simp only[D.low,aQ] at j;rw[E _ j,bU] at h;obtain ⟨x,o,rfl⟩:=h;rw[Ob.oM] at u A;exact .ptr a x o u λe=>by simp_all
 |sl a n' cap K Z h u A=>
  intro j;cases d <;> simp only[D.dB,reduceCtorEq,D.sl.injEq] at hd
  obtain ⟨rfl,rfl,rfl,rfl,rfl⟩:=hd;simp only[D.low,aQ] at j;rw[E _ j,bU] at h;obtain ⟨x,o,rfl⟩:=h;rw[Ob.oM] at u A;exact .sl a n' cap K x o u λe=>by simp_all
 |mp c Z h A=>
  intro j;cases d <;> simp only[D.dB,reduceCtorEq,D.mp.injEq] at hd
  subst hd;simp only[D.low,aQ] at j;rw[E _ j,bU] at h;obtain ⟨x,o,rfl⟩:=h;rw[Ob.oM] at A;exact .mp c x o λe=>by simp_all
 |fn G ws o h2 A hw O R=>
  intro j;cases d <;> simp only[D.dB,reduceCtorEq,D.fn.injEq] at hd
  obtain ⟨rfl,rfl,rfl⟩:=hd;simp only[D.low,bp] at j;rw[kR] at o h2;exact .fn G ws o h2 (λi d v a b=>O i _ v (by grind [iY]) b rfl (D.aO j.1 i d a)) (λi d v a b=>R i _ v (by grind [iY]) b rfl (D.aO j.2 i d a))
 |agg G o A ih=>
  intro j;cases d <;> simp only[D.dB,reduceCtorEq,D.agg.injEq] at hd
  subst hd;simp only[D.low] at j;rw[kR] at o;exact .agg G o (λi d v a b=>ih i _ v (by grind [iY]) b rfl (D.aO j i d a))
 |aI G o A ih=>
  intro j;cases d <;> simp only[D.dB,reduceCtorEq,D.aI.injEq] at hd
  subst hd;simp only[D.low] at j;rw[kR] at o;exact .aI G o (λi d v a b=>ih i _ v (by grind [iY]) b rfl (D.aO j i d a))
theorem V.HB{n:Nat}{G:Nat->Option Nat}(O:∀i,i<n->M (ρ i)=G i)(R:∀i,i<n->σ[ρ i]? = (H[i]?).map (Ob.dB ρ)){d:D}{v:Value}(h:V H G Fz w d v):d.low n=true->V σ M Fz w (d.dB ρ) v:=by
 induction h with
 |c h=>intro _;exact .c h
 |any v=>intro _;exact .any v
 |ptr a u h A o=>intro j;simp only[D.low,aQ] at j;exact .ptr a (u.dB ρ) (by simp_all) (by grind [Ob.oM]) λe=>by grind [Ob.oM]
 |sl a U cap E u h A o=>intro j;simp only[D.low,aQ] at j;exact .sl a U cap E (u.dB ρ) (by simp_all) (by grind [Ob.oM]) λe=>by rw[O _ j];exact o (by grind [Ob.oM])
 |mp c u h o=>intro j;simp only[D.low,aQ] at j;exact .mp c (u.dB ρ) (by simp_all) λe=>by grind [Ob.oM]
 |fn x Z K h2 o hw aa ab=>
  intro j;simp only[D.low,bp] at j;refine .fn x Z (by grind [kR]) (by grind [kR]) (λi d v a b=>?_) (λi d v a b=>?_)
  ·grind [iY,D.aO]
  grind [iY,D.aO]
 |agg x K o ih=>
  intro j;simp only[D.low] at j;refine .agg x (by grind [kR]) (λi d v a b=>?_)
  grind [iY,D.aO]
 |aI x K o ih=>
  intro j;simp only[D.low] at j;refine .aI x (by grind [kR]) (λi d v a b=>?_)
  grind [iY,D.aO]
theorem bE.back{n:Nat}{G:Nat->Option Nat}(O:∀i,i<n->G i=M (ρ i))(x:∀i,i<n->σ[ρ i]? = (H[i]?).map (Ob.dB ρ)){ob:Ob}{o:Obj}(R:ob.low n=true)(h:bE σ M Fz w (ob.dB ρ) o):bE H G Fz w ob o:=by
 cases ob with
 |cells cs=>obtain ⟨j,T,rfl,u,K⟩:=h;simp only[ql] at u;refine ⟨j,T,rfl,u,λi d v a b=>?_⟩;obtain ⟨U,Z⟩:=K i (d.dB ρ) v (by simp_all) b;exact ⟨V.back O x U (D.aO R i d a),Z⟩
 |map es A=>
  obtain ⟨j,E,u,K⟩:=h;simp only[ql] at u;refine ⟨j,E,u,λi k d m e a b=>?_⟩
  grind [Ob.low,V.back]
 |gone m=>exact h
theorem bE.HB{n:Nat}{E:Nat->Option Nat}(O:∀i,i<n->M (ρ i)=E i)(u:∀i,i<n->σ[ρ i]? = (H[i]?).map (Ob.dB ρ)){ob:Ob}{o:Obj}(R:ob.low n=true)(h:bE H E Fz w ob o):bE σ M Fz w (ob.dB ρ) o:=by
 cases ob with
 |cells cs=>obtain ⟨j,T,rfl,U,G⟩:=h;refine ⟨j,T,rfl,by simp_all,λi d v a b=>?_⟩;rw[gP,bU] at a;obtain ⟨K,a,rfl⟩:=a;obtain ⟨Z,h4⟩:=G i K v a b;exact ⟨V.HB O u Z (D.aO R i K a),h4⟩
 |map es x=>
  obtain ⟨j,A,U,G⟩:=h;refine ⟨j,A,by simp_all,λi k d m e a b=>?_⟩
  grind [Ob.low,V.HB]
 |gone m=>exact h
end
end Go.Abs
end
section
namespace Go.Abs
noncomputable section
variable[Gl][Y:Ty]
def cZ(P:Program)(g:FuncId)(s:dA):Prop:=aN P g=true/\∀(x:cV s.xN.items)(y:nP s.My)(d:List TV)(σ:TH)(ct:CT)(z:cV ct.items)(e:List TV)(h:TH),
 s.f x=some y->kC s.xN [] x=some (d,σ)->qo s.My y=some ⟨ct,z⟩->kC ct σ z=some (e,h)->Ok P g (d.map eD) (σ.map TB.er) (one (e.map eD)) (h.map TB.er)
theorem D.zU(ρ:Nat->Nat){d:D}(h:d.low 0=true):d.dB ρ=d:=by
 have j:∀(k:Nat)(d:D),SizeOf.sizeOf d<k->d.low 0=true->d.dB ρ=d:=by
  intro k;induction k with
  |zero=>omega
  |succ k ih=>
   have cq:∀(ds:List D),SizeOf.sizeOf ds<k+1->D.low.cq 0 ds=true->D.dB.ui ρ ds=ds:=by
    intro ds;induction ds with
    |nil=>intro _ _;rfl
    |cons x ds u=>
     intro hs h;simp only[D.low.cq,bp,List.cons.sizeOf_spec] at h hs
     grind [D.dB.ui]
   intro d hs h;cases d with
   |c x=>rfl
   |any=>rfl
   |ptr b o s=>grind [D.low]
   |sl b o l e s=>grind [D.low]
   |mp b=>grind [D.low]
   |fn f a b=>
    simp only[D.low,bp,D.fn.sizeOf_spec] at h hs
    grind [D.dB]
   |agg ds=>grind [D.low,D.dB]
   |aI ds=>grind [D.low,D.dB]
 exact j (SizeOf.sizeOf d+1) d (Nat.lt_succ_self _) h
theorem Lu(ρ:Nat->Nat)(l:List C):(l.map D.c).map (D.dB ρ)=l.map D.c:=by rw[Q_];rfl
theorem Jg(ρ:Nat->Nat)(c:CC)(a:c.dn):(pd c a).er.dB ρ=(pd c a).er:=by rw[jZ];rfl
theorem Zs(ρ:Nat->Nat)(i:Nat)(a:TT i):((exp i a).map TC.er).map (D.dB ρ)=(exp i a).map TC.er:=by rw[sC,Q_];rfl
def Ai(ρ:Nat->Nat)(x y:TB):Prop:=(∃w e g d,x=.cells w e/\y=.cells g d/\aC (λ(a b:Nat×TC)=>b.2.er=a.2.er.dB ρ) e d)∨rO x y
structure gL (ρ:Nat->Nat) (n:Nat) (σ0 σ:TH):Prop where
 len:σ0.length=n
 bs:∀i,i<n->∃x y,σ0[i]? = some x/\σ[ρ i]? = some y/\Ai ρ x y
variable{ρ:Nat->Nat}{n m0:Nat}{σ0 σ:TH}
theorem gL.set(h:gL ρ n σ0 σ)(inj:∀i j,i<n->j<n->ρ i=ρ j->i=j){b:Nat}(G:b<n){x y:TB}(u:Ai ρ x y):gL ρ n (σ0.set b x) (σ.set (ρ b) y):={
 len:=by rw[yBB];exact h.len
 bs:=λi o=>by
  by_cases e:i=b
  ·subst e;obtain ⟨A,E,h1,h2,_⟩:=h.bs i o
   grind
  ·obtain ⟨A,E,h1,h2,K⟩:=h.bs i o
   grind }
theorem gL.row(h:gL ρ n σ0 σ){b i:Nat}(A:b<n){l:List (TT i)}{E G:Nat}(K:σ[ρ b]? = some (.row i l E G)):∃j o,σ0[b]? = some (.row i l j o):=by
 obtain ⟨x,y,h1,u,O⟩:=h.bs b A;rw[K] at u;simp only[aj] at u;subst u;rcases O with ⟨_,_,_,_,_,e,_⟩ | ⟨i',l',R,U,Z,aa,e1,e2⟩ | ⟨_,_,_,_,_,_,e⟩
 ·simp at e
 ·grind
 simp_all
theorem gL.mp(h:gL ρ n σ0 σ){b j:Nat}{st:Bool}(u:b<n){l:List (Int×TT j)}{v:Nat}(A:σ[ρ b]? = some (.mp j st l v)):∃E,σ0[b]? = some (.mp j st l E):=by
 obtain ⟨x,y,O,o,G⟩:=h.bs b u;rw[A] at o;simp only[aj] at o;subst o;rcases G with ⟨_,_,_,_,_,e,_⟩ | ⟨_,_,_,_,_,_,_,e⟩ | ⟨R,K,U,Z,v2,e1,e2⟩
 ·simp at e
 ·simp at e
 grind
theorem gL.cells(h:gL ρ n σ0 σ){b:Nat}(A:b<n){w:Nat}{cs:List (Nat×TC)}(E:σ[ρ b]? = some (.cells w cs)):∃u j,σ0[b]? = some (.cells u j)/\aC (λ(a b:Nat×TC)=>b.2.er=a.2.er.dB ρ) j cs:=by
 obtain ⟨x,y,O,o,G⟩:=h.bs b A;rw[E] at o;simp only[aj] at o;subst o;rcases G with ⟨u,j,R,K,U,Z,h4⟩ | ⟨_,_,_,_,_,_,_,e⟩ | ⟨_,_,_,_,_,_,e⟩
 ·grind
 ·simp at e
 simp_all
theorem Fg{p q:CP}{ds r:List jb}{y:TC}(j:rCP ρ n p q=true)(h:gL ρ n σ0 σ)(g:ub σ q ds=some (y,r)):∃v,ub σ0 p ds=some (v,r)/\y.er=v.er.dB ρ:=by
 unfold rCP at j;split at j
 ·rename_i a b;have:=of_decide_eq_true j;subst this;cases ds with
  |nil=>grind [ub]
  |cons d ds=>
   simp only[ub] at g ⊢
   grind [Jg]
 ·cases ds with
  |nil=>grind [ub]
  |cons d ds=>
   simp only[ub] at g ⊢;split at g
   ·rename_i L N;simp only[aj,aM] at g;obtain ⟨rfl,rfl⟩:=g;exact ⟨_,rfl,rfl⟩
   simp_all
 ·rename_i b u;simp only[bp] at j;have e:=cr j.1;have k:=qK.mp j.2;subst e;simp only[ub] at g ⊢;split at g
  ·rename_i i l O R hs;simp only[aj,aM] at g;obtain ⟨rfl,rfl⟩:=g;obtain ⟨x,A,E⟩:=h.row k hs;rw[E];exact ⟨_,rfl,rfl⟩
  simp_all
 ·rename_i b o s u S G;simp only[bp] at j;obtain ⟨e,k,m,t⟩:=j;have e:=cr e;have k:=qK.mp k;have m:=cr m;have t:=cr t;subst e m t;simp only[ub] at g ⊢;split at g
  ·simp only[aj,aM] at g;obtain ⟨rfl,rfl⟩:=g;rw[h.len,qK.mpr k];exact ⟨_,rfl,rfl⟩
  simp_all
 ·rename_i b u;simp only[bp] at j;have e:=cr j.1;have k:=qK.mp j.2;subst e;simp only[ub] at g ⊢;split at g
  ·simp only[aj,aM] at g;obtain ⟨rfl,rfl⟩:=g;rw[h.len,qK.mpr k];exact ⟨_,rfl,rfl⟩
  simp_all
 ·rename_i f b s T u G;simp only[bp] at j;obtain ⟨e,k,m,t⟩:=j;have e:=cr e;have k:=qK.mp k;have m:=cr m;have t:=cr t;subst e m t;simp only[ub] at g ⊢;split at g
  ·simp only[aj,aM] at g;obtain ⟨rfl,rfl⟩:=g;rw[h.len,qK.mpr k];exact ⟨_,rfl,rfl⟩
  simp_all
 ·rename_i d U;have:=Uu j;subst this;simp only[ub] at g ⊢;split at g
  ·rename_i K;simp only[aj,aM] at g;obtain ⟨rfl,rfl⟩:=g;exact ⟨_,rfl,(D.zU ρ K).symm⟩
  simp_all
 simp_all
theorem Jn:∀{ps g:List CP}{ds r:List jb}{j:List TC},KI ρ n ps g=true->gL ρ n σ0 σ->xA σ g ds=some (j,r)->∃d,xA σ0 ps ds=some (d,r)/\aC (λ(y m:TC)=>y.er=m.er.dB ρ) j d:=by
 intro ps;induction ps with
 |nil=>
  intro g ds r j k h e;cases g with
  |nil=>simp only[xA,aj,aM] at e;obtain ⟨rfl,rfl⟩:=e;exact ⟨[],rfl,.nil⟩
  |cons _ _=>grind [KI]
 |cons p ps ih=>
  intro g ds r j k h e;cases g with
  |nil=>grind [KI]
  |cons q g=>
   simp only[KI,bp] at k;simp only[xA] at e;split at e
   ·rename_i x A o;split at e
    ·rename_i E G t;simp only[aj,aM] at e;obtain ⟨rfl,rfl⟩:=e;obtain ⟨m,K,u⟩:=Fg k.1 h o;obtain ⟨d,L,v⟩:=ih k.2 h t;exact ⟨m::d,by grind [xA],.cons u v⟩
    simp_all
   simp_all
theorem XQ{a b:cI}(h:eqVC a b=true):a=b:=by
 unfold eqVC at h;split at h
 ·simp_all
 ·simp_all
 ·simp_all
 ·simp_all
 simp_all
theorem aC.KR{o j:List TC}(h:aC (λ(y u:TC)=>y.er=u.er.dB ρ) o j):o.map TC.er=D.dB.ui ρ (j.map TC.er):=by
 induction h with
 |nil=>rfl
 |cons h _ ih=>grind [D.dB.ui]
theorem Ww{p q:RO}{ds r:List jb}{v:TV}(j:rRO ρ n p q=true)(h:gL ρ n σ0 σ)(e:vV σ q ds=some (v,r)):∃u,vV σ0 p ds=some (u,r)/\eD v=(eD u).dB ρ:=by
 unfold rRO at j;split at j
 ·rename_i a b;have:=XQ j;subst this;cases ds with
  |nil=>grind [vV]
  |cons d ds=>
   cases a with
   |c c=>
    simp only[vV] at e ⊢;split at e
    ·simp only[aj,aM] at e;obtain ⟨rfl,rfl⟩:=e;exact ⟨_,rfl,(Jg ρ _ _).symm⟩
    simp_all
   |st i=>
    simp only[vV] at e ⊢;split at e
    ·simp only[aj,aM] at e;obtain ⟨rfl,rfl⟩:=e;refine ⟨_,rfl,?_⟩
     grind [eD,D.dB,Cc,Zs]
    simp_all
   |fp i=>
    simp only[vV] at e ⊢;split at e
    ·simp only[aj,aM] at e;obtain ⟨rfl,rfl⟩:=e;exact ⟨_,rfl,rfl⟩
    simp_all
   |k g=>grind [vV]
 ·rename_i a b;simp only[vV] at e;split at e
  ·rename_i x y m;simp only[aj,aM] at e;obtain ⟨rfl,rfl⟩:=e;obtain ⟨o,A,t⟩:=Fg j h m;exact ⟨.c o,by grind [vV],t⟩
  simp_all
 ·rename_i a b;simp only[vV] at e;split at e
  ·rename_i E y m;simp only[aj,aM] at e;obtain ⟨rfl,rfl⟩:=e;obtain ⟨o,A,t⟩:=Jn j h m;refine ⟨.agg o,by grind [vV],?_⟩;simp only[eD,D.dB,t.KR]
  simp_all
 simp_all
theorem Tz:∀{ps e:List RO}{ds r:List jb}{vs:List TV},QM ρ n ps e=true->gL ρ n σ0 σ->jr σ e ds=some (vs,r)->∃g,jr σ0 ps ds=some (g,r)/\aC (λ(v m:TV)=>eD v=(eD m).dB ρ) vs g:=by
 intro ps;induction ps with
 |nil=>
  intro e ds r o j h d;cases e with
  |nil=>simp only[jr,aj,aM] at d;obtain ⟨rfl,rfl⟩:=d;exact ⟨[],rfl,.nil⟩
  |cons _ _=>grind [QM]
 |cons p ps ih=>
  intro e ds r o j h d;cases e with
  |nil=>grind [QM]
  |cons q e=>
   simp only[QM,bp] at j;simp only[jr] at d;split at d
   ·rename_i x G t;split at d
    ·rename_i K L u;simp only[aj,aM] at d;obtain ⟨rfl,rfl⟩:=d;obtain ⟨y,N,A⟩:=Ww j.1 h t;obtain ⟨k,O,E⟩:=ih j.2 h u;exact ⟨y::k,by grind [jr],.cons A E⟩
    simp_all
   simp_all
theorem PG(inj:∀i j,i<m0->j<m0->ρ i=ρ j->i=j):∀{ps t:List PC}{σ0 σ y:TH}{ds r:List jb},yn ρ m0 n ps t=true->gL ρ m0 σ0 σ->bG σ t ds=some (y,r)->∃g,bG σ0 ps ds=some (g,r)/\gL ρ m0 g y:=by
 intro ps;induction ps with
 |nil=>
  intro t σ0 σ y ds r A h m;cases t with
  |nil=>simp only[bG,aj,aM] at m;obtain ⟨rfl,rfl⟩:=m;exact ⟨σ0,rfl,h⟩
  |cons _ _=>grind [yn]
 |cons p ps ih=>
  intro t σ0 σ y ds r A h m;cases t with
  |nil=>grind [yn]
  |cons q t=>
   simp only[yn,bp] at A;obtain ⟨k,x⟩:=A;unfold rPC at k;split at k
   ·grind [bG]
   ·rename_i b i L i';simp only[bp] at k;obtain ⟨e,o,u⟩:=k;have e:=cr e;have o:=qK.mp o;have u:=cr u;subst e u;cases ds with
    |nil=>grind [bG]
    |cons d ds=>
     simp only[bG] at m;split at m
     ·rename_i l j N O R S E;split at m
      ·rename_i T;have:=cr T;subst this;obtain ⟨G,K,U⟩:=h.row o E;obtain ⟨g,Z,a2⟩:=ih x (h.set inj o (.inr (.inl ⟨j,l,G+1,K+1,O+1,R+1,rfl,rfl⟩))) m
       grind [bG]
      simp_all
     simp_all
   ·rename_i b j st L j' aa;simp only[bp,lO] at k;obtain ⟨e,o,u,e3⟩:=k;have e:=cr e;have o:=qK.mp o;have u:=cr u;subst e u e3;cases ds with
    |nil=>grind [bG]
    |cons d ds=>
     simp only[bG] at m;split at m
     ·rename_i l j0 ab N v S E;obtain ⟨v0,U⟩:=h.mp o E;obtain ⟨g,Z,a2⟩:=ih x (h.set inj o (.inr (.inr ⟨j,st,l,v0+1,v+1,rfl,rfl⟩))) m
      grind [bG]
     simp_all
   simp_all
theorem Si:∀{ps g:List NB}{ds r:List jb}{l:TH},v_ ρ n ps g=true->cS g ds=some (l,r)->cS ps ds=some (l,r):=by
 intro ps;induction ps with
 |nil=>grind [v_]
 |cons p ps ih=>
  intro g ds r l h k;cases g with
  |nil=>grind [v_]
  |cons q g=>
   simp only[v_,bp] at h;obtain ⟨e,j⟩:=h;unfold rNB at e;split at e
   ·grind [cS]
   ·have:=cr e;subst this;cases ds with
    |nil=>grind [cS]
    |cons d ds=>grind [cS]
   ·simp only[bp,lO] at e;have:=cr e.1;subst this;have:=e.2;subst this;cases ds with
    |nil=>grind [cS]
    |cons d ds=>grind [cS]
   simp_all
theorem aC.set{α o:Type}{R:α->o->Prop}{l:List α}{m:List o}(h:aC R l m){a:α}{b:o}(u:R a b):∀j:Nat,aC R (l.set j a) (m.set j b):=by
 induction h with
 |nil=>intro j;exact .nil
 |cons h r ih=>
  intro j;cases j with
  |zero=>exact .cons u r
  |succ j=>exact .cons h (ih j)
theorem Vs(inj:∀i j,i<m0->j<m0->ρ i=ρ j->i=j){k σs:TH}(hs:gL ρ n k σs):∀{ps m:List PC}{σ0 σ t:TH}{ds r:List jb},yn ρ m0 n ps m=true->gL ρ m0 σ0 σ->du σs m σ ds=some (t,r)->∃d,du k ps σ0 ds=some (d,r)/\gL ρ m0 d t:=by
 intro ps;induction ps with
 |nil=>
  intro m σ0 σ t ds r v h o;cases m with
  |nil=>simp only[du,aj,aM] at o;obtain ⟨rfl,rfl⟩:=o;exact ⟨σ0,rfl,h⟩
  |cons _ _=>grind [yn]
 |cons p ps ih=>
  intro m σ0 σ t ds r v h o;cases m with
  |nil=>grind [yn]
  |cons q m=>
   simp only[yn,bp] at v;obtain ⟨g,y⟩:=v;unfold rPC at g;split at g
   ·rename_i b j p T U Z;simp only[bp] at g;obtain ⟨e,u,A,G⟩:=g;have e:=cr e;have u:=qK.mp u;have A:=cr A;subst e A;simp only[du] at o;split at o
    ·rename_i x r' w cs K L;obtain ⟨N,a1,O⟩:=Fg G hs K;obtain ⟨E,R,h3,S⟩:=h.cells u L;obtain ⟨d,b1,b2⟩:=ih y (h.set inj u (.inl ⟨E+1,_,w+1,_,rfl,rfl,S.set (a:=(E+1,N)) (b:=(w+1,x)) O j⟩)) o
     grind [du]
    simp_all
   ·grind [du]
   ·grind [du]
   simp_all
theorem TM{e σs:TH}(hs:gL ρ n e σs):∀{ps j:List NB}{g l:TH}{ds:List jb},v_ ρ n ps j=true->(∀b∈g,Ai ρ b b)->de σs j g ds=some l->∃t,de e ps g ds=some t/\aC (Ai ρ) t l:=by
 intro ps;induction ps with
 |nil=>
  intro j g l ds A y d;cases j with
  |nil=>simp only[de,aj] at d;subst d;exact ⟨[],rfl,.nil⟩
  |cons _ _=>grind [v_]
 |cons p ps ih=>
  intro j g l ds A y d;cases j with
  |nil=>grind [v_]
  |cons q j=>
   simp only[v_,bp] at A;obtain ⟨k,m⟩:=A;cases g with
   |nil=>grind [de]
   |cons b g=>
    have o:∀b∈g,Ai ρ b b:=λx N=>y x (h_ _ N);unfold rNB at k;split at k
    ·rename_i as O;simp only[de] at d;split at d
     ·rename_i T r K;split at d
      ·rename_i L u;simp only[aj] at d;subst d;obtain ⟨E,R,S⟩:=Jn k hs K;obtain ⟨t,G,v⟩:=ih m o u;refine ⟨.cells 0 (E.map λx=>(0,x))::t,by grind [de],.cons (.inl ⟨0,_,0,_,rfl,rfl,?_⟩) v⟩;clear G v R K u ih;induction S with
       |nil=>exact .nil
       |cons h _ ih=>exact .cons h ih
      simp_all
     simp_all
    ·simp only[de] at d;split at d
     ·rename_i L u;simp only[aj] at d;subst d;obtain ⟨t,G,v⟩:=ih m o u;exact ⟨_,by grind [de],.cons (y b (iz ..)) v⟩
     simp_all
    ·simp only[de] at d;split at d
     ·rename_i L u;simp only[aj] at d;subst d;obtain ⟨t,G,v⟩:=ih m o u;exact ⟨_,by grind [de],.cons (y b (iz ..)) v⟩
     simp_all
    simp_all
theorem Ai.new{o:List NB}{ds r:List jb}{l:TH}(h:cS o ds=some (l,r)):∀b∈l,Ai ρ b b:=by
 intro b A;obtain ⟨k,hk⟩:=yB7 A;cases b with
 |cells w E=>have:=(vG h k).1 w E hk;subst this;exact .inl ⟨w,[],w,[],rfl,rfl,.nil⟩
 |row i l u x=>exact .inr (.inl ⟨i,l,u,x,u,x,rfl,rfl⟩)
 |mp j st l v=>exact .inr (.inr ⟨j,st,l,v,v,rfl,rfl⟩)
theorem gL.TS(h:gL ρ m0 σ0 σ){j l:TH}(u:aC (Ai ρ) j l)(A:∀k,ρ (m0+k)=σ.length+k)(lt:∀i,i<m0->ρ i<σ.length):gL ρ (m0+j.length) (σ0++j) (σ++l):={
 len:=by rw[Jw,h.len]
 bs:=λi E=>by
  rcases qG i m0 with o | o
  ·obtain ⟨x,y,a,b,c⟩:=h.bs i o
   grind
  ·obtain ⟨k,rfl⟩:=yB8 o;have hk:k<j.length:=by omega
   obtain ⟨y,a,b⟩:=u.get k _ (cT hk)
   grind [gL.len] }
theorem aC.refl'{α:Type}{R:α->α->Prop}{l:List α}(h:∀b∈l,R b b):aC R l l:=by
 induction l with
 |nil=>exact .nil
 |cons a l ih=>exact .cons (h a (iz ..)) (ih λb j=>h b (h_ _ j))
theorem Uv{d ct:CT}{F:TH}{x:List TV}{ds:List jb}{y:cV d.items}(inj:∀i j,i<m0->j<m0->ρ i=ρ j->i=j)(A:rCT ρ m0 d ct=true)(hs:gL ρ m0 σ0 σ)(N:∀k,ρ (m0+k)=σ.length+k)(lt:∀i,i<m0->ρ i<σ.length)
  {σD:ae} (H:RH σ σD) (L:Laid ct σ ds x F) (hd:dk d.items y=ds) :
  ∃e F0,kC d σ0 y=some (e,F0)/\aC (λ(v O:TV)=>eD v=(eD O).dB ρ) x e/\gL ρ (m0+d.nb.length) F0 F:=by
 simp only[rCT,bp] at A;obtain ⟨q,g,h⟩:=A;have E:=gC L.h1 H;have C:=jK L.h4;obtain ⟨m,a1,G⟩:=PG inj g hs L.h1;have r:=Si h L.h2;have o:L.nb.length=d.nb.length:=Av r;have t:gL ρ (m0+d.nb.length) (m++L.nb) (L.gK++L.nb):=by rw[<-o];exact G.TS (aC.refl' (Ai.new r)) (by grind [vh.len]) (by grind [vh.len])
 obtain ⟨e,c1,R⟩:=Tz q t L.h3;obtain ⟨p,d1,S⟩:=Vs inj t g G L.h4;obtain ⟨K,T,U⟩:=TM t h (Ai.new r) L.h5;have u:K.length=d.nb.length:=(wv T).1;refine ⟨e,p++K,?_,R,?_⟩
 ·grind [kC]
 ·have Z:F=L.au++L.l:=L.e;rw[Z,<-u];exact S.TS U (by rw[C.len,E.len];exact N) (by rw[C.len,E.len];exact lt)
end
end Go.Abs
end
section
namespace Go.Abs
noncomputable section
variable[Gl][Y:Ty]
theorem relocH{P:Program}{g:FuncId}{ds O:List D}{H p:ae}{r:D}(ok:Ok P g O H r p)(ak:H.length<=p.length)
  (ab:p.all (Ob.low p.length)=true) (hr:r.low p.length=true)
  {σ σ':ae} {ρ ρ0:Nat->Nat} (ag:∀i,i<H.length->ρ0 i=ρ i) (N:Ox 0 σ H ρ0 (λ_=>False)) (hd:aC (cO σ H ρ0 (λ_=>False)) ds O)
  (inj:∀i j,i<p.length->j<p.length->ρ i=ρ j->i=j) (hi:∀i,H.length<=i->i<p.length->σ.length<=ρ i)
  (s2:∀i,i<p.length->σ'[ρ i]? = (p[i]?).map (Ob.dB ρ)) (s3:∀j,(∀i,i<p.length->ρ i≠j)->σ'[j]? = σ[j]?) :
  Ok P g ds σ (r.dB ρ) σ':=by
 intro M Fz w vs R hs hv
 let K:Nat->Option Nat:=mN H.length ρ0 M
 have eF:∀Fz:Nat->Prop,ZU (λ_=>False) M Fz=Fz:=λFz=>by
  funext c;refine propext ⟨λh=>?_,.inl⟩;rcases h with h | ⟨b,h,_⟩
  ·exact h
  simp_all
 have an:∀i,i<H.length->K i=M (ρ i):=λi h=>by simp only[K,mN,h,if_true,ag i h]
 have A:∀i c,K i=some c->i<H.length/\M (ρ i)=some c:=λi c h=>by grind [mN]
 have R0:Rel H K Fz w:=by
  have:=N.rel R
  grind
 refine (ok K Fz w vs R0 (by rw[hs,hd.len]) (λi d v a b=>by
  obtain ⟨d1,S,h2⟩:=hd.get' i d a;have:=h2 M Fz w v R (hv i d1 v S b)
  grind)).mono λe w' he=>?_
 obtain ⟨v,M1,T,rfl,U,ax,x⟩:=he;have a0:∀i c,M1 i=some c->i<p.length:=λi c h=>by
  obtain ⟨_,ob,o,h2,_⟩:=U.blk i c h
  grind
 let m:Nat->Option Nat:=λj=>(List.range p.length).find? λi=>ρ i == j
 have t:∀i,i<p.length->m (ρ i)=some i:=λi h=>by
  cases e:m (ρ i) with
  |none=>grind
  |some k=>grind
 have q:∀j i,m j=some i->i<p.length/\ρ i=j:=λj i e=>⟨XZ.1 (List.mem_of_find?_eq_some e),by grind⟩;have u:∀j,m j=none->∀i,i<p.length->ρ i≠j:=λj e i h=>by grind
 let Z:Nat->Option Nat:=λj=>match m j with | some i=>M1 i | none=>M j
 have m1:∀j i,m j=some i->Z j=M1 i:=λj i h=>by grind
 have m2:∀j,m j=none->Z j=M j:=λj h=>by grind
 have ad:∀i,i<p.length->Z (ρ i)=M1 i:=λi h=>m1 _ _ (t i h);have apart:∀j c b,m j=none->M j=some c->K b≠some c:=λj c b S h2 E=>by obtain ⟨hb,E⟩:=A b c E;exact u j S b (by omega) (R.inj _ _ _ E h2)
 have lt:∀j c,M j=some c->c<w.heap.size:=λj c h=>by
  obtain ⟨_,_,o,_,E,_⟩:=R.blk j c h
  grind
 have af:ba σ M Fz w σ' Z T w':={
  size:=x.size
  frame:=λc hc hn=>x.frame c hc λb hb=>hn (ρ b) (A b c hb).2
  ja:=λj c h=>by
   cases e:m j with
   |some i=>
    rw[m1 j i e] at h;rcases x.ja i c h with ⟨b0,y⟩ | y
    ·grind
    omega
   |none=>grind
  fz:=x.fz
  lD:=λc h=>by
   rcases x.lD c h with y | ⟨b,y⟩ | y
   ·grind
   ·grind
   omega
  nF:=x.nF
  keep:=λj ob h=>by
   cases e:m j with
   |some i=>
    obtain ⟨S,h2⟩:=q j i e;have hj:j<σ.length:=(d_.1 h).1;have aa:i<H.length:=by grind
    obtain ⟨q1,q2,q3,q4,q5⟩:=N.sz i aa;rw[ag i aa,h2,h] at q3;simp only[aj] at q3;subst q3;obtain ⟨a1,h4,h5,h6⟩:=x.keep i q2 q4
    grind [Ob.oM]
   |none=>grind
  out:=x.out }
 have R2:Rel σ' Z T w':={
  blk:=λj c h=>by
   cases e:m j with
   |some i=>rw[m1 j i e] at h;obtain ⟨S,h2⟩:=q j i e;obtain ⟨E,ob,o,h4,h5,h6⟩:=U.blk i c h;exact ⟨E,ob.dB ρ,o,by grind,h5,bE.HB ad s2 (fE.1 ab _ (vB h4)) h6⟩
   |none=>
    rw[m2 j e] at h;obtain ⟨E,ob,o,h4,h5,h6⟩:=R.blk j c h;refine ⟨λhf=>?_,ob,o,by grind,by rw[x.frame c (lt j c h) λb=>apart j c b e h];exact h5,h6.mono af⟩;rcases x.lD c hf with y | ⟨b,y⟩ | y
    ·grind
    ·grind
    grind
  inj:=λj L c h G=>by
   cases e:m j with
   |some i=>
    rw[m1 j i e] at h;cases e':m L with
    |some i'=>
     rw[m1 L i' e'] at G;have:=U.inj i i' c h G
     grind
    |none=>
     rw[m2 L e'] at G;rcases x.ja i c h with ⟨b0,y⟩ | y
     ·grind
     grind
   |none=>
    rw[m2 j e] at h;cases e':m L with
    |some i'=>
     rw[m1 L i' e'] at G;rcases x.ja i' c G with ⟨b0,y⟩ | y
     ·grind
     grind
    |none=>rw[m2 L e'] at G;exact R.inj _ _ _ h G
  fz:=U.fz
  gl:=U.gl }
 grind [V.HB]
theorem castO{α d:Type}(e:α=d){o:Option α}{y:d}(h:cast (M_ Option e) o=some y):∃g,o=some g/\HEq g y:=by grind
theorem Do{i j:List It}(e:i=j){x:cV i}{y:cV j}(h:HEq x y):dk i x=dk j y:=by grind
theorem XS{A B d g:Type}(e:A=d)(e':B=g){x:A ⊕ B}{y:d ⊕ g}(h:HEq x y):(∃a j,x=.inl a/\y=.inl j/\HEq a j)∨(∃b k,x=.inr b/\y=.inr k/\HEq b k):=by grind
theorem UV:∀{a b:List CT},a.map CT.items=b.map CT.items->∀{j:nP a}{y:nP b}{ct:CT}{x:cV ct.items},HEq j y->qo b y=some ⟨ct,x⟩ ->
  ∃(i:Nat)(g:CT)(k:cV g.items),qo a j=some ⟨g,k⟩/\a[i]? = some g/\b[i]? = some ct/\dk g.items k=dk ct.items x:=by
 intro a;induction a with
 |nil=>grind
 |cons c a ih=>
  intro b e j y ct x m hs;cases b with
  |nil=>simp at e
  |cons d b=>
   simp only[iH,yBP] at e;cases a with
   |nil=>
    cases b with
    |cons _ _=>simp at e
    |nil=>simp only[qo,aj,Wg] at hs;obtain ⟨rfl,hs⟩:=hs;cases hs;exact ⟨0,c,j,rfl,rfl,rfl,Do e.1 m⟩
   |cons t a=>
    cases b with
    |nil=>simp at e
    |cons A b=>
     rcases XS (by rw[e.1]) (Fx e.2) m with ⟨u,v,rfl,rfl,h⟩ | ⟨u,v,rfl,rfl,h⟩
     ·simp only[qo,aj,Wg] at hs;obtain ⟨rfl,hs⟩:=hs;cases hs;exact ⟨0,c,u,rfl,rfl,rfl,Do e.1 h⟩
     ·obtain ⟨i,g,k,o,p,q,r⟩:=ih e.2 h hs;exact ⟨i+1,g,k,o,p,q,r⟩
theorem Tj{ρ:Nat->Nat}{m0:Nat}:∀{a b:List CT},Yy ρ m0 a b=true->∀(i:Nat) c d,a[i]? = some c->b[i]? = some d->rCT ρ m0 c d=true:=by
 intro a;induction a with
 |nil=>simp_all
 |cons x a ih=>
  intro b h i c d e g;cases b with
  |nil=>grind
  |cons y b=>
   simp only[Yy,bp] at h
   grind
theorem RI{ρ:Nat->Nat}{m0 n:Nat}:∀{ps e:List PC},yn ρ m0 n ps e=true->∀q∈e,∃b,b<m0/\q.blk=ρ b:=by
 intro ps;induction ps with
 |nil=>grind [yn]
 |cons p ps ih=>
  intro e h q g;cases e with
  |nil=>grind
  |cons j e=>
   simp only[yn,bp] at h;rcases eU.1 g with rfl | g
   ·have d:=h.1;unfold rPC at d;split at d
    ·simp only[bp] at d;exact ⟨_,qK.mp d.2.1,(cr d.1).symm⟩
    ·simp only[bp] at d;exact ⟨_,qK.mp d.2.1,(cr d.1).symm⟩
    ·simp only[bp] at d;exact ⟨_,qK.mp d.2.1,(cr d.1).symm⟩
    simp_all
   grind
theorem VE{x y:TC}(d:x=.d (.c (.lit (.slice none 0 0))))(h:(!(vP x) || vP y)=true):x=y:=by
 subst d;simp only[vP,Fj,Bool.false_or] at h
 grind
theorem Yn:∀{xs d:List (Nat×TC)},UH.exC xs d=true->∀(j:Nat) x y,xs[j]? = some x->d[j]? = some y->(!(vP x.2) || vP y.2)=true:=by
 intro xs;induction xs with
 |nil=>simp_all
 |cons a xs ih=>
  intro d h j x y e g;cases d with
  |nil=>grind
  |cons b d=>
   obtain ⟨_,a⟩:=a;obtain ⟨_,b⟩:=b;simp only[UH.exC,bp] at h
   grind
theorem Zg{σ:TH}{ρ:List (Nat×Nat)}:∀{d:TH}{e:Nat},UH σ ρ e d=true->∀(i:Nat) w g k xs,d[i]? = some (.cells w g)->σ[(mU (e+i) ρ).getD 0]? = some (.cells k xs)->UH.exC xs g=true:=by
 intro d;induction d with
 |nil=>simp_all
 |cons b d ih=>
  intro e h i w g k xs j m;cases i with
  |zero=>
   simp only[List.getElem?_cons_zero,aj] at j;subst j;simp only[UH,bp] at h
   simp_all
  |succ i=>
   simp only[List.getElem?_cons_succ] at j;have o:UH σ ρ (e+1) d=true:=by
    cases b with
    |cells w p=>simp only[UH,bp] at h;exact h.2
    |row=>exact h
    |mp=>exact h
   grind
theorem rO.symm{x y:TB}(h:rO x y):rO y x:=by
 rcases h with ⟨i,l,A,E,o,u,rfl,rfl⟩ | ⟨j,st,l,v,G,rfl,rfl⟩
 ·exact .inl ⟨i,l,o,u,A,E,rfl,rfl⟩
 ·exact .inr ⟨j,st,l,G,v,rfl,rfl⟩
theorem MX.can{σ σs F:TH}{σD:ae}{s:MS}{n:Nat}(X:MX [] σ σs F s n)(H1:RH σ σD)(hf:s.fz=[])(he:UH σ s.ρ 0 F=true){ρ:Nat->Nat}(ad:∀i,i<F.length->f_ 0 s i=ρ i):gL ρ F.length F σ:={
 len:=rfl
 bs:=λi hi=>by
  obtain ⟨x,y,h1,h2,h3⟩:=X.bf i hi;have R:([]:TH).length=0:=rfl;rw[R] at h1;refine ⟨y,x,h2,by simp_all,?_⟩;rcases h3 with ⟨w,cs,w',G,rfl,rfl,O⟩ | O
  ·refine .inl ⟨w',G,w,cs,rfl,rfl,?_⟩;have ab:f_ 0 s i=(mU i s.ρ).getD 0:=by rw[f_,if_neg (by omega)]
   have ex:=Zg he i w' G w cs h2 (by simp_all);refine aC.Dm ?_ λj a b ha hb=>?_
   ·have:=O.len
    simp_all
   ·have c:=(O.get j b.2 (by simp_all));obtain ⟨a',A,c⟩:=c;rw[gP,ha] at A;simp only[Option.map_some,aj] at A;subst A;have e1:=Yn ex j b a hb ha;have blk:∀b u:Nat,Bd 0 s b u->b<F.length->u=ρ b:=λb u hb R=>by grind [Bd.Hl]
    rcases c with c | ⟨c1,c2⟩
    ·rcases c with ⟨_,c2,c3⟩ | ⟨i',u,v,l,cv,_,o,_⟩ | ⟨i',E,u,v,l0,af,j',lv,l,cv,U,o,h3,Z,h5⟩ | ⟨E,u,off,sz,U,o,Z,K⟩ | ⟨E,u,U,o,Z,K⟩ | ⟨f1,E,u,sz,U,o,Z,K⟩
     ·grind [VE,D.zU]
     ·simp_all
     ·have hF:=X.sr.row E j' l lv cv h5;have aa:=(d_.1 hF).1;obtain ⟨x,y,u1,u2,u3⟩:=X.bf E aa;have q:f_ 0 s E=u:=o.Hl;rw[R,q,h3] at u1;rw[hF] at u2;simp only[aj] at u1 u2;subst u1 u2;rcases u3 with ⟨_,_,_,_,e,_⟩ | ⟨i2,l2,_,_,_,_,e4,e5⟩ | ⟨_,_,_,_,_,e4,_⟩
      ·simp at e
      ·grind [TC.er,D.dB]
      simp_all
     ·grind [TC.er,D.dB,MX.MJ]
     ·grind [TC.er,D.dB,MX.MJ]
     grind [TC.er,D.dB,D.dB.ui,MX.MJ]
    grind [D.zU,GC.low]
  ·exact .inr O.symm }
theorem OB_low(m i:Nat)(l:List (TT i)):(OB (enc i) l).low m=true:=by
 have:∀d:List C,D.low.cq m (d.map .c)=true:=by
  intro d;induction d with
  |nil=>rfl
  |cons c d ih=>simp only[iH,D.low.cq,D.low,ih,JX]
 exact this _
theorem Fp{m:Nat}:∀{ds:List D},(∀d∈ds,d.low m=true)->D.low.cq m ds=true:=by
 intro ds;induction ds with
 |nil=>intro _;rfl
 |cons d ds ih=>
  intro h;simp only[D.low.cq,bp]
  simp_all
theorem RH.low{σ:TH}(H:RH σ (σ.map TB.er)):(σ.map TB.er).all (Ob.low (σ.map TB.er).length)=true:=by
 rw[fE];intro G o;rw[dY] at o;obtain ⟨blk,u,rfl⟩:=o;obtain ⟨b,u⟩:=yB7 u;rw[ql];cases blk with
 |cells w x=>refine Fp λd hd=>?_;rw[dY] at hd;obtain ⟨p,A,rfl⟩:=hd;exact ((H.hg b w x u p A).1).low
 |row i l K O=>exact OB_low _ i l
 |mp j st l v=>have:=Gf (st:=st) l 0;simp only[TB.er,Ob.low];rw[fE] at this ⊢;exact λe E=>D.dK (KZ _) (this e E)
theorem eD_low{σ:TH}{v:TV}(g:GV σ v)(e:nT v):(eD v).low σ.length=true:=by
 cases v with
 |c x=>exact GC.low g
 |agg h=>refine Fp λd hd=>?_;rw[dY] at hd;obtain ⟨x,j,rfl⟩:=hd;exact (g x j).low
 |aI h=>exact e.elim
theorem XB{m:Nat}{ds:List D}(h:∀d∈ds,d.low m=true):(one ds).low m=true:=by
 cases ds with
 |nil=>rfl
 |cons d ds=>
  cases ds with
  |nil=>exact h d (iz ..)
  |cons e ds=>exact Fp h
theorem XV{ρ:Nat->Nat}{e d:List TV}(h:aC (λ(v k:TV)=>eD v=(eD k).dB ρ) e d):one (e.map eD)=(one (d.map eD)).dB ρ:=by
 have g:e.map eD=D.dB.ui ρ (d.map eD):=by
  induction h with
  |nil=>rfl
  |cons h _ ih=>grind [D.dB.ui]
 rw[g];cases d with
 |nil=>rfl
 |cons v j=>
  cases j with
  |nil=>rfl
  |cons m j=>rfl
theorem Jh(ρ:Nat->Nat):∀{l:List (Value×D×Nat)},(∀e∈l,e.2.1.low 0=true)->(l.map λe=>(e.1,e.2.1.dB ρ,e.2.2))=l:=by
 intro l;induction l with
 |nil=>simp_all
 |cons e l ih=>grind [D.zU]
theorem KR{ρ:Nat->Nat}{x y:TB}(h:Ai ρ x y):y.er=x.er.dB ρ:=by
 rcases h with ⟨w,k,m,d,rfl,rfl,h⟩ | h
 ·simp only[TB.er,Ob.dB,Ob.cells.injEq];rw[Q_];induction h with
  |nil=>rfl
  |cons h _ ih=>simp_all
 ·rw[h.er];rcases h with ⟨i,l,o,p,e,g,rfl,rfl⟩ | ⟨j,st,l,v,q,rfl,rfl⟩
  ·grind [TB.er,Ob.dB,Lu]
  ·have:=Gf (st:=st) l 0;rw[fE] at this;simp only[TB.er,Ob.dB,Ob.map.injEq,Iq];exact (Jh ρ this).symm
theorem Yr{P:Program}{O:Kl}(hO:∀p∈O,cZ P p.1 p.2):cJ.ok P (inlS O):=by
 intro cs gi vs σ y ct x rv au σD ds h Z aa R a2 a5;cases cs with
 |nil=>grind
 |cons bl cs=>
  simp only[inlS] at h;split at h
  rotate_left
  ·simp at h
  rename_i k0 k hH;split at h
  rotate_left
  ·simp at h
  rename_i g s hk;split at h
  rotate_left
  ·simp at h
  rename_i bt x0 hg r;split at h
  rotate_left
  ·simp at h
  rename_i ab σ0 ad;split at h
  rotate_left
  ·simp at h
  rename_i E;simp only[bp] at E;obtain ⟨E,af⟩:=E;split at h
  rotate_left
  ·simp at h
  rename_i ak _;obtain ⟨y0,a6,hy⟩:=castO (Fx ak) h;have:=cr hg;subst this;obtain ⟨an,ax⟩:=hO _ (vB hk);refine ⟨an,?_⟩;dsimp only at ax;obtain ⟨i,o,z0,a7,ha,hb,a0⟩:=UV ak hy Z;have hr:=Tj af i o ct ha hb;unfold absS at r;split at r
  ·simp_all
  rename_i s1 G;split at r
  ·simp_all
  rename_i ms T;split at r
  rotate_left
  ·simp_all
  rename_i hc;split at r
  rotate_left
  ·simp_all
  rename_i x1 a8;simp only[aj,aM] at r;obtain ⟨rfl,rfl⟩:=r;simp only[bp,List.isEmpty_iff] at hc;obtain ⟨bu,a9,bb,bv⟩:=hc;obtain ⟨L0⟩:=kr ad;have H0:RH ([]:TH) []:=⟨rfl,λb blk h=>by simp at h,λb w cs h=>by simp at h⟩;obtain ⟨σs,X,bc⟩:=mx_of (ct:=s.xN) (σ:=[]) (σ1:=σ) (s2:=s1) rfl G (by rw[bb];rfl) T (by grind) a8 L0 rfl H0 R (λb blk h=>by simp at h) a5
  have bw:σ0.length=s.xN.nb.length:=by grind [MX.len]
  let ρ:=SW s.xN.nb.length σ.length ms.ρ
  have K:∀i,i<σ0.length->f_ 0 ms i=ρ i:=λi A=>by simp only[ρ,SW,f_];rw[if_neg (by omega),qK.mpr (by omega)]
  have t:∀k,ρ (σ0.length+k)=σ.length+k:=λk=>by
   simp only[ρ,SW];have:Nat.blt (σ0.length+k) s.xN.nb.length=false:=by
    rw[Bool.eq_false_iff]
    simp_all
   simp_all
  have C0:gL ρ σ0.length σ0 σ:=X.can R a9 E K;have N:Ox 0 σD (σ0.map TB.er) (f_ 0 ms) (λ_=>False):=by
   have:=X.rnH R
   simp_all
  have hd:aC (cO σD (σ0.map TB.er) (f_ 0 ms) (λ_=>False)) ds (ab.map eD):=by
   have:=X.valL R bc a2
   simp_all
  have lt:∀i,i<σ0.length->ρ i<σ.length:=λi A=>by
   obtain ⟨x,y,u1,u2,_⟩:=C0.bs i A
   grind
  have a1:∀i j,i<σ0.length->j<σ0.length->ρ i=ρ j->i=j:=λi j A U e=>by rw[<-K i A,<-K j U] at e;exact N.inj i j (by simp_all) (by simp_all) e
  obtain ⟨L⟩:=kr aa;obtain ⟨k1,k2,k3,k4,k5,k6⟩:=L.all R;have hr:rCT ρ σ0.length o ct=true:=by grind
  obtain ⟨bd,F0,u,be,CF⟩:=Uv a1 hr C0 t lt R L a0;obtain ⟨j1,j2,j3,j4,j5,j6⟩:=L0.all H0;obtain ⟨LF⟩:=kr u;obtain ⟨i1,i2,i3,i4,i5,i6⟩:=LF.all j1;have ok:=ax x1 y0 ab σ0 o z0 bd F0 a6 ad a7 u;have S:F0.length=σ0.length+o.nb.length:=CF.len;have bh:au.length=σ.length+ct.nb.length:=by
   have a:=(jK L.h4).len;have b:=(gC L.h1 R).len
   grind [wv,Laid.h5,Laid.fl]
  have bi:ct.nb.length=o.nb.length:=by
   have:∀{ps qs:List NB},v_ ρ (σ0.length+o.nb.length) ps qs=true->qs.length=ps.length:=by
    intro ps;induction ps with
    |nil=>grind [v_]
    |cons p ps ih=>intro qs h;cases qs with | nil=>grind [v_] | cons q qs=>simp only[v_,bp] at h;grind
   simp only[rCT,bp] at hr
   grind
  have g0:=Ha LF.h3;have bk:(σ0.map TB.er).length=σ0.length:=ql _;have m:(F0.map TB.er).length=F0.length:=ql _;rw[XV be];refine relocH ok (by omega) i1.low ?_ (ρ0:=f_ 0 ms) (λi A=>K i (by omega)) N hd ?_ ?_ ?_ ?_
  ·rw[m];refine XB λd hd=>?_;rw[dY] at hd;obtain ⟨v,hv,rfl⟩:=hd;exact eD_low ((g0 v hv).gv LF.sr) (g0 v hv).nt
  ·intro i j A U e;rw[m] at A U;rcases qG i σ0.length with G | G
   ·rcases qG j σ0.length with T | T
    ·grind
    grind [Nat.exists_eq_add_of_le]
   ·obtain ⟨k,rfl⟩:=yB8 G;rw[t] at e;rcases qG j σ0.length with T | T
    ·grind
    grind [Nat.exists_eq_add_of_le]
  ·grind [Nat.exists_eq_add_of_le,RH.len]
  ·intro i A;rw[m,S] at A;obtain ⟨x,y,u1,u2,u3⟩:=CF.bs i A
   grind [KR]
  ·intro j U;rw[m,S] at U;rcases qG j σD.length with G | G
   ·refine k5 j G λhm=>?_;rw[dY] at hm;obtain ⟨q,hq,e⟩:=hm;simp only[rCT,bp] at hr
    grind [RI]
   ·rw[R.len] at G;obtain ⟨k,rfl⟩:=yB8 G;have:o.nb.length<=k:=by
     rcases qG k o.nb.length with T | T
     ·exact absurd (t k) (U (σ0.length+k) (by omega))
     omega
    rw[yBC (by grind),yBC (by grind [RH.len])]
theorem osp_ok{P:Program}{B:cJ}(o:cJ.ok P B){g:FuncId}{s:dA}(p:aN P g=true)
  (h:∀x,(match kC s.xN [] x with | some (vs,σ)=>B s.My g vs σ | none=>none)=s.f x):cZ P g s:=by
 refine ⟨p,λx y vs σ ct z q r d k hs t=>?_⟩;rw[<-h x,k] at d;dsimp only at d;obtain ⟨e⟩:=kr k;have u:RH ([]:TH) []:=⟨rfl,λb blk h=>by simp at h,λb w K h=>by simp at h⟩;obtain ⟨A,L,N,O,R,S⟩:=e.all u;have m:=Ha e.h3;have E:eW vs (vs.map eD):=by
  have:∀(vs:List TV),(∀v∈vs,nT v)->eW vs (vs.map eD):=by
   intro vs;induction vs with
   |nil=>intro _;exact .nil
   |cons v vs ih=>intro h;exact .cons (RT.eD (h v (iz ..))) (ih λx G=>h x (h_ _ G))
  exact this vs λv j=>(m v j).nt
 exact (o s.My g vs σ y ct z q r _ _ d hs t A E λv j=>(m v j).gv e.sr).2
end
end Go.Abs
end
section
namespace Go.Abs
noncomputable section
variable[Gl][Y:Ty]
def rF(P:Program)(O:Kl):Prop:=∀p∈O,cZ P p.1 p.2
theorem rF.nil{P:Program}:rF P []:=λp h=>by simp at h
theorem rF.cons{P:Program}{O:Kl}{g:FuncId}{s:dA}(h:cZ P g s)(r:rF P O):rF P ((g,s)::O):=λp j=>by
 rcases eU.1 j with rfl | j
 ·exact h
 ·exact r p j
def OU(O:Kl)(K:cJ):cJ:=λd g e σ=>match d with
 |[]=>none
 |ct :: d => match ct.H with
  |[(_,k)]=>match Nat.beq k 999999 with | true=>K (ct::d) g e σ | false=>inlS O (ct::d) g e σ
  |_=>none
theorem Gy{P:Program}{O:Kl}{K:cJ}(r:rF P O)(t:cJ.ok P K):cJ.ok P (OU O K):=by
 intro u k m σ y ct x o p σD ds h d e q g j;unfold OU at h;split at h
 ·simp at h
 split at h
 ·split at h
  ·exact t _ k m σ y ct x o p σD ds h d e q g j
  ·exact Yr r _ k m σ y ct x o p σD ds h d e q g j
 simp_all
def inlG(P:Program)(S:pL)(N:Nat)(O:Kl)(K:cJ):cJ:=(KA P S N (OU O K) (resO O) 30).1
theorem Yv{P:Program}{S:pL}{N:Nat}{O:Kl}{K:cJ}(cW:P.follows .mixedOrders=true)(d:ed P S)(e:rF P O)(g:cJ.ok P K):cJ.ok P (inlG P S N O K):=(Me cW d (Gy e g) 30).1
def tG(P:Program)(g:Nat)(S:pL)(O:Kl)(K:cJ)(H:List (Nat×Nat))(J:List (Nat×JH))(C:List (Nat×List CT))(d out:List cI)(N:Nat)(a:qh d):Option (kg out):=
 match P.funcs[g]? with
 |some f => match fX P f true with
  |some e => match aN P g && Nat.ble d.length e.ntmps with
   |true=>tF P S (OU O K) (resO O) H J C 30 e d out N a
   |false=>none
  |none=>none
 |none=>none
theorem tG_ok{P:Program}{g:Nat}{S:pL}{O:Kl}{K:cJ}{H:List (Nat×Nat)}{J:List (Nat×JH)}{C:List (Nat×List CT)}{d out:List cI}{N:Nat}{f:qh d->Option (kg out)}(cW:P.follows .mixedOrders=true)(j:ed P S)(m:rF P O)(o:cJ.ok P K)(h:∀a,tG P g S O K H J C d out N a=f a):bj P g ⟨d,out,f⟩:=by
 intro a r e;dsimp only at a r e ⊢;rw[<-h a] at e;unfold tG at e;split at e
 ·rename_i fn p;split at e
  ·rename_i t q;split at e
   ·rename_i k;simp only[bp] at k;exact tF_ok cW j p k.1 q ⟨(Me (B:=OU O K) cW j (Gy m o) 30).1.inl _ _ _ _ _ _ _ _,(Me (B:=OU O K) cW j (Gy m o) 30).2.two _ _ _ _ _ _ _ _⟩ k.2 e
   simp_all
  simp_all
 simp_all
def oG(P:Program)(g:Nat)(S:pL)(O:Kl)(K:cJ)(N:Nat)(s:dA)(x:cV s.xN.items):Option (nP s.My):=
 match kC s.xN [] x with
 |some (d,σ)=>inlG P S N O K s.My g d σ
 |none=>none
theorem oG_ok{P:Program}{g:Nat}{S:pL}{O:Kl}{K:cJ}{N:Nat}{s:dA}(cW:P.follows .mixedOrders=true)(d:ed P S)(e:rF P O)(j:cJ.ok P K)(k:aN P g=true)(h:∀x,oG P g S O K N s x=s.f x):cZ P g s:=osp_ok (Yv cW d e j) k h
end
end Go.Abs
end
section
namespace Go.Abs
noncomputable section
variable[Gl][Y:Ty]
abbrev XE:D:=.c (.lit (.slice none 0 0))
def MP (es sz:Nat) (z:List D):jE:=⟨1,8,[(2,none)],.seq (.zI [⟨some 2,.xQ (.k XE),none⟩])
 (.seq (.seq (.zI [⟨some 3,.xQ (.t 0),none⟩,⟨some 4,.gY 3 false (.t 3),none⟩])
  (.cond (.t 4) (.seq (.zI [⟨some 2,.xQ (.k XE),none⟩]) .ret) .skip))
 (.seq (.zI [⟨some 5,.ic es 0 z [],none⟩,⟨some 6,.xQ (.t 0),none⟩,⟨some 7,.append es sz (.t 5) (.t 6),none⟩,⟨some 2,.xQ (.t 7),none⟩]) .ret)),true⟩
def cloneF(i:Nat)(a:qh [cI.c (.sl i)]):Option (kg [cI.c (.sl i)]):=cf ([]:List (TT i)) a.1
theorem dt{P:Program}:lP P (λ_ _ _ _=>none):=λt g ds σ r d wr h=>by simp at h
theorem qN{P:Program}{g i sz:Nat}{z:List D}{fn:Func}(cW:P.follows .mixedOrders=true)(k:P.funcs[g]? = some fn)(o:aN P g=true)(p:fX P fn true=some (MP (ar i) sz z))(hs:Nat.ble sz 1000=true):bj P g ⟨[.c (.sl i)],[.c (.sl i)],cloneF i⟩:=by
 intro a r j;obtain ⟨l,u⟩:=a;dsimp only at j;show Pure P g [.c (.ca false (l.map (enc i)))] (.c (.ca false (r.map (enc i))));obtain ⟨q,rfl⟩:=sU (l:=([]:List (TT i))) (m:=l) j;refine Up (λe d=>?_) ?_ ?_
 ·rw[dY] at d;obtain ⟨x,_,rfl⟩:=d;intro h;have:=pz i x;rw[h] at this;have t:=Y.ps i
  simp_all
 ·refine qT k o p (zE rfl) ?_;refine Sem.i_ (Sem.oB cW dt (bK.op (xD rfl) fG rfl (bK.nil (.inl ?_))));refine Sem.i_ ?_;refine Sem.i_ (Sem.oB cW dt (bK.op (xD rfl) fG rfl (bK.op (eo (b:=false) rfl rfl) fG rfl (bK.nil (.inl ?_)))));refine Sem.cond (b:=false) rfl (λh=>by simp at h) λ_=>Sem.skip cW (.inl ?_);refine Sem.i_ (Sem.oB cW dt (bK.op (iw (f:=enc i) (l:=([]:List (TT i))) rfl rfl rfl (pz i) rfl rfl rfl) fG rfl (bK.op (xD rfl) fG rfl
   (bK.op (tp (f:=enc i) (l:=([]:List (TT i))) (m:=r) (r:=r) (pz i) rfl rfl rfl rfl (zK (pz i)) j hs rfl rfl) fG rfl (bK.op (xD rfl) fG rfl (bK.nil (.inl ?_)))))))
  refine Sem.ret cW ⟨.inr rfl,_,_,rfl,WQ (l:=r) (pz i) (Y.ps i) rfl rfl,BC.KK rfl⟩
 ·intro d;rw[d];refine qT k o p (zE rfl) ?_;refine Sem.i_ (Sem.oB cW dt (bK.op (xD rfl) fG rfl (bK.nil (.inl ?_))));refine Sem.i_ ?_;refine Sem.i_ (Sem.oB cW dt (bK.op (xD rfl) fG rfl (bK.op (eo (b:=true) rfl rfl) fG rfl (bK.nil (.inl ?_)))));refine Sem.cond (b:=true) rfl (λ_=>?_) λh=>by simp at h
  refine Sem.i_ (Sem.oB cW dt (bK.op (xD rfl) fG rfl (bK.nil (.inl ?_))));refine Sem.ret cW ⟨.inr rfl,_,_,rfl,rfl,BC.KK rfl⟩
theorem ok_nil{P:Program}{g:FuncId}{es:List (List C)}{r:D}{σ σ':ae}(q:∀e∈es,e≠[])(K:Ok P g [.c (.ca true es)] σ r σ')(L:es=[]->Ok P g [.c (.lit (.slice none 0 0))] σ r σ'):Ok P g [.c (.ca false es)] σ r σ':=by
 intro M Fz w h R hs N;have t:h[0]? = some (h[0]'(by simp_all)):=oF _;have j:=N 0 _ _ rfl t;generalize T:h[0]'(by simp_all)=x at j t;have only:∀d,V σ M Fz w d x->∀(i:Nat) u v,[d][i]? = some u->h[i]? = some v->V σ M Fz w u v:=by grind
 cases j with
 |c A=>
  generalize E:C.ca false es=y at A;cases A with
  |ca ar a cap O G c m k o p=>
   simp only[C.ca.injEq] at E;obtain ⟨rfl,rfl⟩:=E;cases a with
   |some a=>exact K M Fz w h R hs (only _ (.c (.ca ar (some a) cap (λ_=>rfl) G c m k o p)))
   |none=>
    have S:es=[]:=by simp_all
    subst S;have:=G rfl;subst this;exact L rfl M Fz w h R hs (only _ (.c (.lit _)))
  |_=>grind
theorem Ql{P:Program}{g:FuncId}{ds:List D}(h:Ok P g ds [] XE [])(es:Nat):Ok P g ds [] (.sl 0 0 0 es 0) [.cells []]:=by
 intro M Fz w r R hs t;refine (h M Fz w r R hs t).mono λe G u=>?_;obtain ⟨v,k,m,x,j,p,d⟩:=u;have y:∀b,k b=none:=λb=>by
  cases q:k b with
  |none=>rfl
  |some c=>obtain ⟨_,A,o,K,_⟩:=j.blk b c q;grind
 refine ⟨v,k,m,x,⟨λb c q=>(by simp_all),j.inj,j.fz,j.gl⟩,?_,⟨d.size,d.frame,d.ja,d.fz,d.lD,d.nF,λb A q=>by grind,d.out⟩⟩;cases p with
 |c E=>
  cases E with
  |lit=>exact .sl none 0 0 (λh=>absurd rfl h) (.cells []) rfl (cn _) λ_=>.inl ⟨rfl,rfl,rfl,rfl,rfl,rfl⟩
theorem ZF{i:Nat}{l:List (TT i)}:Ox 0 [OB (enc i) l] [OB (enc i) l] id (λ_=>False):={
 le:=KZ _
 id:=λi h=>rfl
 inj:=λi j _ _ h=>h
 fr:=λ_ _ h=>h
 row:=λ_ h=>h.elim
 sz:=λj g=>by simp_all
 ob:=λj g=>by
  have:j=0:=by simp_all
  subst this;have N:Rn 0 [OB (enc i) l] [OB (enc i) l] id (λ_=>False):=⟨KZ _,λi h=>rfl,λi j _ _ h=>h,λ_ _ h=>h,λ_ h=>h.elim,λj g=>by simp_all⟩
  refine ⟨_,_,rfl,rfl,_,rfl,aC.Dm rfl λk a b d e=>?_⟩;rw[d] at e;simp only[aj] at e;subst e;rw[gP,bU] at d;obtain ⟨c,_,rfl⟩:=d;exact cO.data N rfl }
theorem ko{P:Program}{g i sz:Nat}{z:List D}{fn:Func}(cW:P.follows .mixedOrders=true)(t:P.funcs[g]? = some fn)(A:aN P g=true)(u:fX P fn true=some (MP (ar i) sz z))(hs:Nat.ble sz 1000=true) :
  cZ P g ⟨.mk [.v (.c (.sl i))] [] [] [] [] [],[.mk [.p (.hd 0)] [] [.row i] [] [] []],λx=>cf ([]:List (TT i)) x⟩:=by
 refine ⟨A,λx y E σ ct z G K q r d L=>?_⟩;dsimp only at q r d;change cV [It.cc (.sl i)] at x;change cV [It.ls i] at y;have o:some ([TV.c (.sl i x)],([]:TH))=some (E,σ):=by rw[<-r];have e:dk (CT.items (.mk [.v (.c (.sl i))] [] [] [] [] [])) x=[⟨.cc (.sl i),x⟩]:=rfl;unfold kC;rw[e];simp only[CT.pl,CT.nb,CT.out,bG,cS,jr,vV,Cq,du,de,Kp];rfl
 simp only[aj,aM] at o;obtain ⟨rfl,rfl⟩:=o;simp only[qo,aj,Wg] at d;obtain ⟨rfl,N⟩:=d;have p:some ([TV.c (.own i 0 0 (List.length (α:=TT i) y))],[TB.row i y 0 0])=some (G,K):=by rw[<-L];have e:dk (CT.items (.mk [.p (.hd 0)] [] [.row i] [] [] [])) y=[⟨.ls i,y⟩]:=rfl;unfold kC;rw[e];simp only[CT.pl,CT.nb,CT.out,bG,cS,jr,vV,ub,Cq,du,de,Kp,List.nil_append,List.getElem?_cons_zero]
 simp only[aj,aM] at p;obtain ⟨rfl,rfl⟩:=p;obtain ⟨v,rfl⟩:=sU (l:=([]:List (TT i))) (m:=x) q;show Ok P g [.c (.ca false (List.map (enc i) y))] [] (OS (ar i) 0 (List.length (α:=TT i) y)) [OB (enc i) y];refine ok_nil (λe k=>?_) ?_ ?_
 ·rw[dY] at k;obtain ⟨x,_,rfl⟩:=k;intro h;have:=pz i x;rw[h] at this;have r:=Y.ps i
  simp_all
 ·refine oA t u (zE rfl) ?_;refine Sem.i_ (Sem.oB cW dt (bK.op (xD rfl) fG rfl (bK.nil (.inl ?_))));refine Sem.i_ ?_;refine Sem.i_ (Sem.oB cW dt (bK.op (xD rfl) fG rfl (bK.op (eo (b:=false) rfl rfl) fG rfl (bK.nil (.inl ?_)))));refine Sem.cond (b:=false) rfl (λh=>by simp at h) λ_=>Sem.skip cW (.inl ?_);refine Sem.i_ (Sem.oB cW dt (bK.op (iw (f:=enc i) (l:=([]:List (TT i))) rfl rfl rfl (pz i) rfl rfl rfl) fG rfl (bK.op (xD rfl) fG rfl
   (bK.op (tp (f:=enc i) (l:=([]:List (TT i))) (pz i) rfl rfl rfl rfl (zK (pz i)) q hs rfl rfl) fG rfl (bK.op (xD rfl) fG rfl (bK.nil (.inl ?_)))))))
  refine Sem.ret cW ⟨.inr rfl,_,id,λ_=>False,rfl,ZF,λ_ h=>h.elim,?_⟩;exact cO.sl ZF.toRn (i:=0) (Nat.lt_succ_self 0)
 ·intro k;have k:y=([]:List (TT i)):=List.map_eq_nil_iff.1 k;subst k;have e:OS (ar i) 0 (List.length (α:=TT i) [])=.sl 0 0 0 (ar i) 0:=by simp[OS]
  rw[e];refine Ql ?_ (ar i);refine oA t u (zE rfl) ?_;refine Sem.i_ (Sem.oB cW dt (bK.op (xD rfl) fG rfl (bK.nil (.inl ?_))));refine Sem.i_ ?_;refine Sem.i_ (Sem.oB cW dt (bK.op (xD rfl) fG rfl (bK.op (eo (b:=true) rfl rfl) fG rfl (bK.nil (.inl ?_)))));refine Sem.cond (b:=true) rfl (λ_=>?_) λh=>by simp at h
  refine Sem.i_ (Sem.oB cW dt (bK.op (xD rfl) fG rfl (bK.nil (.inl ?_))));refine Sem.ret cW ⟨.inr rfl,_,id,λ_=>False,rfl,⟨⟨cn _,λi h=>rfl,λi j _ _ h=>h,λ_ _ h=>h,λ_ h=>h.elim,λi h=>by simp at h⟩,λi h=>by simp at h⟩,λ_ h=>h.elim,?_⟩;exact cO.data ⟨cn _,λi h=>rfl,λi j _ _ h=>h,λ_ _ h=>h,λ_ h=>h.elim,λi h=>by simp at h⟩ rfl
theorem Zm{σ:ae}(h:∀ob∈σ,∃(i:Nat)(l:List (TT i)),ob=OB (enc i) l){m:Nat}(hm:m<=σ.length):Ox m σ σ id (λ_=>False):=by have N:Rn m σ σ id (λ_=>False):=⟨hm,λi _=>rfl,λi j _ _ e=>e,λ_ _ e=>e,λ_ e=>e.elim,λi d=>⟨_,_,cT d,cT d,rfl⟩⟩;refine ⟨N,λi d=>⟨_,_,cT d,cT d,?_⟩⟩;obtain ⟨k,l,e⟩:=h _ (bn d);rw[e];refine ⟨_,rfl,aC.Dm rfl λk a b g o=>?_⟩;rw[g] at o;simp only[aj] at o;subst o;rw[gP,bU] at g;obtain ⟨c,_,rfl⟩:=g;exact cO.data N rfl
theorem BJ{P:Program}{g ii sz:Nat}{z:List D}{fn:Func}(cW:P.follows .mixedOrders=true)(K:P.funcs[g]? = some fn)(he:aN P g=true)(L:fX P fn true=some (MP (ar ii) sz z))(hs:Nat.ble sz 1000=true) :
  cZ P g ⟨.mk [.p (.hd 0)] [] [.row ii] [] [] [],[.mk [.p (.hd 1)] [] [.row ii] [] [] []],λx=>cf ([]:List (TT ii)) x⟩:=by
 refine ⟨he,λx y p σ ct z rv au A N k hq=>?_⟩;dsimp only at A N k;change cV [It.ls ii] at x;change cV [It.ls ii] at y;have t:some ([TV.c (.own ii 0 0 (List.length (α:=TT ii) x))],[TB.row ii x 0 0])=some (p,σ):=by rw[<-N];have e:dk (CT.items (.mk [.p (.hd 0)] [] [.row ii] [] [] [])) x=[⟨.ls ii,x⟩]:=rfl;unfold kC;rw[e];simp only[CT.pl,CT.nb,CT.out,bG,cS,jr,vV,ub,Cq,du,de,Kp,List.nil_append,List.getElem?_cons_zero]
 simp only[aj,aM] at t;obtain ⟨rfl,rfl⟩:=t;simp only[qo,aj,Wg] at k;obtain ⟨rfl,hz⟩:=k;have u:some ([TV.c (.own ii 1 0 (List.length (α:=TT ii) y))],[TB.row ii x 0 0,TB.row ii y 0 0])=some (rv,au):=by rw[<-hq];have e:dk (CT.items (.mk [.p (.hd 1)] [] [.row ii] [] [] [])) y=[⟨.ls ii,y⟩]:=rfl;unfold kC;rw[e];simp only[CT.pl,CT.nb,CT.out,bG,cS,jr,vV,ub,Cq,du,de,List.cons_append,List.nil_append,List.getElem?_cons_zero,List.getElem?_cons_succ]
 simp only[aj,aM] at u;obtain ⟨rfl,rfl⟩:=u;obtain ⟨O,rfl⟩:=sU (l:=([]:List (TT ii))) (m:=x) A;show Ok P g [OS (ar ii) 0 (List.length (α:=TT ii) y)] [OB (enc ii) y] (OS (ar ii) 1 (List.length (α:=TT ii) y)) [OB (enc ii) y,OB (enc ii) y];have rn:Ox 1 [OB (enc ii) y,OB (enc ii) y] [OB (enc ii) y,OB (enc ii) y] id (λ_=>False):=Zm (λob h=>by grind) (by simp)
 have fin:cO [OB (enc ii) y,OB (enc ii) y] [OB (enc ii) y,OB (enc ii) y] id (λ_=>False) (OS (ar ii) 1 (List.length (α:=TT ii) y)) (OS (ar ii) 1 (List.length (α:=TT ii) y)):=cO.sl rn.toRn (i:=1) (Nat.lt_succ_self 1);have S:∀d,(isNil 3 d=some false)->Src [OB (enc ii) y,OB (enc ii) ([]:List (TT ii))] (enc ii) (ar ii) d y->Ok P g [d] [OB (enc ii) y] (OS (ar ii) 1 (List.length (α:=TT ii) y)) [OB (enc ii) y,OB (enc ii) y]:=λd hd E=>by
  refine oA K L (zE rfl) ?_;refine Sem.i_ (Sem.oB cW dt (bK.op (xD rfl) fG rfl (bK.nil (.inl ?_))));refine Sem.i_ ?_;refine Sem.i_ (Sem.oB cW dt (bK.op (xD rfl) fG rfl (bK.op (eo (b:=false) rfl hd) fG rfl (bK.nil (.inl ?_)))));refine Sem.cond (b:=false) rfl (λh=>by simp at h) λ_=>Sem.skip cW (.inl ?_);refine Sem.i_ (Sem.oB cW dt (bK.op (iw (f:=enc ii) (l:=([]:List (TT ii))) rfl rfl rfl (pz ii) rfl rfl rfl) fG rfl (bK.op (xD rfl) fG rfl
   (bK.op (tp (f:=enc ii) (l:=([]:List (TT ii))) (m:=y) (r:=y) (pz ii) rfl rfl rfl rfl E A hs rfl rfl) fG rfl (bK.op (xD rfl) fG rfl (bK.nil (.inl ?_)))))))
  exact Sem.ret cW ⟨.inr rfl,_,id,λ_=>False,rfl,rn,λ_ h=>h.elim,fin⟩
 cases y with
 |cons a l=>exact S _ rfl (NI (pz ii) rfl rfl)
 |nil=>
  intro M Fz w p R hs hv;have U:p[0]? = some (p[0]'(by simp_all)):=oF _;have q:=hv 0 _ _ rfl U;generalize hx:p[0]'(by simp_all)=x at q U;have only:∀d,V [OB (enc ii) ([]:List (TT ii))] M Fz w d x->∀(i:Nat) Z v,[d][i]? = some Z->p[i]? = some v->V [OB (enc ii) ([]:List (TT ii))] M Fz w Z v:=by grind
  have e0:OS (ar ii) 0 (List.length (α:=TT ii) [])=.sl 0 0 0 (ar ii) 0:=by simp[OS]
  rw[e0] at q;cases q with
  |sl a n cap aa ob h ab G=>
   simp only[List.getElem?_cons_zero,aj] at h;subst h;rcases G rfl with ⟨rfl,rfl,rfl,_⟩ | ⟨c,o,ad,T,h1,rfl,rfl,h2,h3,h4,h5,h6⟩
   ·refine (show Ok P g [XE] [OB (enc ii) ([]:List (TT ii))] (OS (ar ii) 1 0) [OB (enc ii) ([]:List (TT ii)),OB (enc ii) ([]:List (TT ii))] from ?_) M Fz w p R hs (only _ (.c (.lit _)));refine oA K L (zE rfl) ?_;refine Sem.i_ (Sem.oB cW dt (bK.op (xD rfl) fG rfl (bK.nil (.inl ?_))));refine Sem.i_ ?_;refine Sem.i_ (Sem.oB cW dt (bK.op (xD rfl) fG rfl (bK.op (eo (b:=true) rfl rfl) fG rfl (bK.nil (.inl ?_)))));refine Sem.cond (b:=true) rfl (λ_=>?_) λh=>by simp at h
    refine Sem.i_ (Sem.oB cW dt (bK.op (xD rfl) fG rfl (bK.nil (.inl ?_))));refine Sem.own 2 (ar ii) rfl rfl rfl ?_;refine Sem.ret cW ⟨.inr rfl,_,id,λ_=>False,rfl,rn,λ_ h=>h.elim,?_⟩;have:=fin;rw[show OS (ar ii) 1 (List.length (α:=TT ii) [])=.sl 1 0 0 (ar ii) 0 by simp[OS]] at this;rw[show OS (ar ii) 1 0=.sl 1 0 0 (ar ii) 0 by simp[OS]];exact this
   ·exact S (.c (.ca true [])) rfl (zK (nn:=true) (m:=([]:List (TT ii))) (pz ii)) M Fz w p R hs (only _ (.c (.ca (ar ii) _ cap (λ_=>rfl) (λh=>by simp at h) (λ_ _=>undef) (λe h=>by simp at h) (KZ _) (λi j e d h=>by simp at h) (λi j e d h=>by simp at h))))
theorem clo_ok{P:Program}{g:Nat}{out:List cI}(f:qh []->Option (kg out))(cW:P.follows .mixedOrders=true)(h:(evF P (Oc P []) (λ_ _ _=>none) 1000 1 g [] []).map (λp=>(nrmY p.1,p.2.1))=(f ()).map λv=>(qu out v,[])):bj P g ⟨[],out,f⟩:=by
 intro a r o;have d:f ()=some r:=o;rw[d] at h;cases m:evF P (Oc P []) (λ_ _ _=>none) 1000 1 g [] [] with
 |none=>simp_all
 |some p=>obtain ⟨q,j,wr⟩:=p;rw[m] at h;simp only[Option.map_some,aj,aM] at h;obtain ⟨t,rfl⟩:=h;have O:=evF_ok cW (RX P []) (prim:=λ_ _ _=>none) (λg ds σ r j wr h=>by simp at h) 1000 1 g [] [] q [] wr m;refine ⟨O.1,λM Fz w u R hs x=>?_⟩;refine (O.2.1 M Fz w u R hs x).mono λe N y=>?_;obtain ⟨v,A,k,E,G,K,L⟩:=y;exact ⟨v,A,k,E,G,BC.YK t _ _ _ _ _ K,L⟩
end
end Go.Abs
end
section
namespace Go.Abs
noncomputable section
open Go.RowKit
variable[Gl][Y:Ty]
structure ot (P:Program) (gs gk:FuncId) (kt:TypeId):Prop where
 en:aN P gs=true
 ku:P.underlying kt=some (.int .i64)
 run:∀(Bm b nn:Nat)(D0:DataW Unit)(R:Value->Option (DataW Unit×List MemPlace))(w:World),Bm<w.heap.size->w.cell? ⟨Bm,0,none⟩=some (.map (some b))->w.ownsMap P kt R b nn D0->Maps.size D0<=maxLen->Maps.size D0 * 8<=140737488355328 ->
  Calls P gs #[.func (.func gk) #[] #[.pointer (some ⟨Bm,0,none⟩)]] w λe w'=>∃(v:Value)(ss:List Int)(et:TypeId),e=.returned v/\ss.Perm (intKeys D0)/\w'.ownsRow w.heap.size et 1 v ss.length ((ss.mergeSort (λx y=>decide (x<=y))).map encZ)/\(v=.slice none 0 0↔ss=[])/\Below w.heap.size w w'
def EG{α d:Type}(c:Int->d)(l:List (Int×α)):Option (List d):=
 if l.length<=1000000/\(l.map Prod.fst).Nodup/\(∀p∈l,(Lit.int .i64 p.1).wf=true) then some (((l.map Prod.fst).mergeSort (λx y=>decide (x<=y))).map c) else none
def Vu(ct:CT)(ii:Nat):Bool:=match ct.out,ct.pl,ct.nb with
 |[.v (.c (.sl j))],[],[]=>Nat.beq j ii
 |_,_,_=>false
def FW(d e:FuncId)(ii:Nat)(c:Int->TT ii):cJ:=λj g k σ=>
 match j with
 |[ct] => match Nat.beq g d, k with
  |true, [.c (.d (.fn (.func f) [] [.ptr b 0 1]))] => match Nat.beq f e, σ[b]? with
   |true, some (.cells _ [(_, .d (.mp m))]) => match σ[m]? with
    |some (.mp _ _ l _) => match Vu ct ii, decEq [It.cc (.sl ii)] ct.items with
     |true,.isTrue h=>cast (M_ (λi=>Option (cV i)) h) (EG c l)
     |_,_=>none
    |_=>none
   |_,_=>none
  |_,_=>none
 |_=>none
theorem Mh{α d:Type}(p:Option α=Option d)(e:α=d){o:Option α}{y:d}(h:cast p o=some y):∃g,o=some g/\HEq g y:=by grind
theorem WV{α:Type}{g:α->D}:∀(l:List (Int×α))(i j:Nat),(wz g i l)[j]? = (l[j]?).map λp=>(.int .i64 p.1,g p.2,i+j):=by
 intro l;induction l with
 |nil=>intro i j;rfl
 |cons p l ih=>grind [wz]
theorem WL{α:Type}{g:α->D}:∀(l:List (Int×α))(i:Nat),(wz g i l).length=l.length:=by
 intro l;induction l with
 |nil=>intro i;rfl
 |cons p l ih=>grind [wz]
theorem Gj{P:Program}{gs gk:FuncId}{A:TypeId}(K:ot P gs gk A){ii:Nat}{c:Int->TT ii}(hc:∀k,enc ii (c k)=[.lit (.int .i64 k)]){σ:ae}{b m:Nat}{α:Type}{g:α->D}{l:List (Int×α)}{r:List (TT ii)}
  (hb:σ[b]? = some (.cells [.mp m])) (hm:σ[m]? = some (MB g l)) (hr:EG c l=some r):Ok P gs [.fn (.func gk) [] [.ptr b 0 1]] σ (.c (.ca false (r.map (enc ii)))) σ:=by
 unfold EG at hr;split at hr
 rotate_left
 ·grind
 rename_i ab;obtain ⟨U,b1,b2⟩:=ab;simp only[aj] at hr;intro M Fz w vs R hs a9;have Z:vs=#[vs[0]'(by simp_all)]:=by grind
 have hv:=a9 0 _ _ rfl (oF (by grind));generalize vs[0]'(by grind)=v0 at hv Z;subst Z;cases hv with
 |fn v1 ws h1 h2 _ hw=>
  have e1:v1=#[]:=by simp_all
  subst e1;have e2:ws=#[ws[0]'(by simp_all)]:=by grind
  have hp:=hw 0 _ _ rfl (oF (by grind));generalize ws[0]'(by grind)=p at hp e2;subst e2;have aa:lu σ b 1=some [.mp m]:=KY hb rfl;obtain ⟨cb,hM,rfl⟩:=hp.tc aa;obtain ⟨bb,_⟩:=Kk aa;obtain ⟨u,T,hh,hl,bc⟩:=R.row hM bb;have ea:u[0]? = some (u[0]'(by omega)):=oF _;have bd:=(bc 0 _ _ rfl ea).1;obtain ⟨cm,b3,be⟩:=bd.AE hm;obtain ⟨t,ck,bh,⟨a1,hB⟩,bu⟩:=R.Hv hm be;rw[WL] at a1;have ad:w.cell? ⟨cb,0,none⟩=some (.map (some cm)):=by grind [Go.cell_of_row]
  have bi:∀(i:Nat) e,t[i]? = some e->∃p,l[i]? = some p/\e.key=.int .i64 p.1/\True:=λi e E=>by
   have hi:i<l.length:=by grind
   have h3:(wz g 0 l)[i]? = some (.int .i64 l[i].1,g l[i].2,0+i):=by grind [WV]
   grind
  let RR:Value->Option (DataW Unit×List MemPlace):=λ_=>some (.nil,[])
  have af:t.toList.length=l.length:=by omega
  have ak:t.toList.map (·.key)=(l.map Prod.fst).map (Value.int .i64):=by
   apply Qg
   grind
  have b4:∀e∈t.toList,∃p∈l,e.key=.int .i64 p.1/\Go.WideElems.rd P A RR e=some (.int .i64 p.1,.nil):=λe E=>by
   obtain ⟨i,hi⟩:=yB7 E
   grind [Go.WideElems.rd,Go.Maps.keyOf_int_mk,ot.ku]
  have a2:Go.WideElems.Fit P A RR t ck:=by
   refine ⟨by rw[a1];exact jz U (by decide),⟨λe E=>?_,?_,?_⟩,λe E=>?_⟩
   ·exact hB.2 e E
   ·exact hB.1
   ·grind
   grind
  have G:((t.toList.map (Go.WideElems.rg P A RR)).foldr DataW.insert []).Perm (t.toList.map (Go.WideElems.rg P A RR)):=Go.WideShapes.sorted_perm _;have a5:w.ownsMap P A RR cm l.length (.map ((t.toList.map (Go.WideElems.rg P A RR)).foldr DataW.insert [])):=⟨t,ck,bh,a2,by omega,rfl⟩;have an:(intKeys (.map ((t.toList.map (Go.WideElems.rg P A RR)).foldr DataW.insert []):DataW Unit)).Perm (l.map Prod.fst):=by
   refine (G.map _).trans ?_;have:(t.toList.map (Go.WideElems.rg P A RR)).map (λp=>intOf p.1)=l.map Prod.fst:=by
    rw[Q_];have h5:(l.map Prod.fst).map (Value.int .i64)=t.toList.map (·.key):=ak.symm;apply Qg;intro i;rw[gP,gP,Kr];cases E:t[i]? with
    |none=>simp_all
    |some e=>obtain ⟨p,h3,h4,_⟩:=bi i e E;have hp:=vB h3;rw[h3];simp only[Option.map_some,Function.comp,aj];rw[Go.WideElems.rg_of (show Go.WideElems.rd P A RR e=some (.int .i64 p.1,.nil) by grind [Go.WideElems.rd,Go.Maps.keyOf_int_mk,ot.ku])];rfl
   rw[this]
  have a6:Maps.size (.map ((t.toList.map (Go.WideElems.rg P A RR)).foldr DataW.insert []):DataW Unit)=l.length:=by rw[Maps.size_eq,G.length_eq,ql,af]
  refine (K.run cb cm l.length _ RR w (R.lt hM).2 ad a5 (by rw[a6];exact jz U (by decide)) (by omega)).mono λe O E=>?_;obtain ⟨v,L,et,rfl,hp,ax,bv,S⟩:=E;have a0:L.mergeSort (λx y=>decide (x<=y))=(l.map Prod.fst).mergeSort (λx y=>decide (x<=y)):=mergeSort_of_perm_i (hp.trans an);have bk:r.map (enc ii)=((l.map Prod.fst).mergeSort (λx y=>decide (x<=y))).map λk=>[C.lit (.int .i64 k)]:=by grind [List.map_congr_left]
  rw[bk,<-a0];have MJ:(L.mergeSort (λx y=>decide (x<=y))).length=L.length:=yBF L;obtain ⟨_,ax⟩:=ax;rcases ax with ⟨rfl,h0⟩ | ⟨gb,cap,a7,rfl,b5,a8,bw,_,b0,b6⟩
  ·have:L=[]:=PM h0;subst this;refine ⟨_,M,Fz,rfl,R.below S,.c ?_,ba.below R S⟩;rw[show ([]:List Int).mergeSort (λx y=>decide (x<=y))=[] from PM (by omega)];exact .ca 1 none 0 (λh=>by simp at h) (λ_=>rfl) (λ_ _=>undef) (λe E=>by grind) (cn _) (λi j e d h=>by simp at h) (λi j e d h=>by simp at h)
  ·have bl:∀(i:Nat) k,(L.mergeSort (λx y=>decide (x<=y)))[i]? = some k->O.cell? ⟨gb,0+i * 1+0,none⟩=some (.int .i64 k):=λi k hk=>by
    rw[cell_of_row O gb _ a7 et (0,0) a8];have hi:i<L.length:=by grind
    have h6:(a7.toList.take (L.length * 1))[i]? = some (encZ k):=by simp_all
    grind
   let N:Nat->Prop:=λx=>Fz x∨x=gb
   have RB:=R.below S;have EB:=ba.below R S;have b7:gb<O.heap.size:=(xR.1 a8).1;have mono:∀x:Nat,Fz x->N x/\O.heap[x]? = O.heap[x]?:=λx h=>⟨.inl h,rfl⟩;have mv:∀{d v},V σ M Fz O d v->V σ M N O d v:=λh=>h.sub (λb ob hb=>⟨ob,hb,rfl⟩) (λ_ _ h=>h) mono (λc u T fr h=>⟨u,h,rfl⟩);have R2:Rel σ M N O:=by
    refine ⟨λb' x h=>?_,RB.inj,λx h=>?_,Gl.mono mono RB.gl⟩
    ·obtain ⟨h1,ob,o,h2,h3,h4⟩:=RB.blk b' x h;have hx:x<w.heap.size:=(R.lt h).2;refine ⟨λhf=>?_,ob,o,h2,h3,?_⟩
     ·grind
     ·cases ob with
      |cells cs=>obtain ⟨u,T,ho,hl,hv⟩:=h4;exact ⟨u,T,ho,hl,λi d v x y=>⟨mv (hv i d v x y).1,(hv i d v x y).2⟩⟩
      |map es bt=>obtain ⟨u,ho,hl,hv⟩:=h4;exact ⟨u,ho,hl,λi k d n e x y=>let ⟨p,q,r⟩:=hv i k d n e x y;⟨p,q,mv r⟩⟩
      |gone n=>exact h4.elim
    ·rcases h with h | rfl
     ·exact RB.fz x h
     omega
   have E2:ba σ M Fz w σ M N O:=⟨EB.size,EB.frame,EB.ja,λx h=>⟨.inl h,(EB.fz x h).2⟩,λx h=>by grind,EB.nF,EB.keep,EB.out⟩
   refine ⟨_,M,N,rfl,R2,.c ?_,E2⟩;have e7:L.length=((L.mergeSort (λx y=>decide (x<=y))).map λk=>[C.lit (.int .i64 k)]).length:=by simp_all
   rw[e7];refine .ca 1 (some ⟨gb,0,none⟩) cap (λh=>by simp at h) (λh=>by simp at h) (λi _=>.int .i64 ((L.mergeSort (λx y=>decide (x<=y)))[i]?.getD 0)) (λe E=>?_) (by omega) (λi j e d hi hj=>?_) (λi j e d hi hj=>?_)
   ·grind
   ·rw[gP,bU] at hi;obtain ⟨k,hk,rfl⟩:=hi;cases j with
    |succ j=>grind
    |zero=>
     refine ⟨gb,0,rfl,.inr rfl,?_,rfl⟩
     grind
   ·rw[gP,bU] at hi;obtain ⟨k,hk,rfl⟩:=hi;cases j with
    |succ j=>grind
    |zero=>simp only[List.getElem?_cons_zero,aj] at hj;subst hj;rw[hk];exact .lit _
theorem MG{P:Program}{R S:FuncId}{U:TypeId}(K:ot P R S U){ii:Nat}{c:Int->TT ii}(Z:∀k,enc ii (c k)=[.lit (.int .i64 k)]):cJ.ok P (FW R S ii c):=by
 intro cs gi vs σ y ct x rv au σD ds h e d q t aa;unfold FW at h;split at h
 rotate_left
 ·simp at h
 rename_i o;split at h
 rotate_left
 ·simp at h
 rename_i f b hg;split at h
 rotate_left
 ·simp at h
 rename_i w0 v0 m hf hb;split at h
 rotate_left
 ·simp at h
 rename_i j st l Rs hm;split at h
 rotate_left
 ·simp at h
 rename_i Hb u _;obtain ⟨T,hk,hy⟩:=Mh _ (show cV [It.cc (.sl ii)]=nP [o] from M_ cV Hb) h;have:=cr hg;subst this;have:=cr hf;subst this;simp only[qo,aj,Wg] at e;obtain ⟨rfl,hz⟩:=e;cases hz;obtain ⟨out,pl,nb,H,J,C⟩:=o;simp only[Vu,CT.out,CT.pl,CT.nb] at u;split at u
 rotate_left
 ·grind
 obtain rfl:ii=_:=(cr u).symm;have v:ds=[.fn (.func f) [] [.ptr b 0 1]]:=by
  cases t with
  |cons r a=>cases a;rw[RT.c1 (by simp) r];rfl
 subst v;have p:dk (CT.items (.mk [.v (.c (.sl ii))] [] [] H J C)) y=[⟨.cc (.sl ii),T⟩]:=by grind [dk]
 have g:rv=[.c (.sl ii T)]/\au=σ:=by unfold kC at d;rw[p] at d;simp only[CT.pl,CT.nb,CT.out,bG,cS,jr,vV,Cq,du,de,Kp,aj,aM] at d;exact ⟨d.1.symm,d.2.symm⟩
 obtain ⟨rfl,rfl⟩:=g;refine ⟨K.en,?_⟩;have A:=q.hp b _ hb;have E:=q.hp m _ hm;obtain ⟨G,b1,L⟩:=A;obtain ⟨N,m1,O⟩:=E;have L:G=.cells [.mp m]:=L;have O:N=MB (Jt j st) l:=O;subst L O;have:=Gj K Z b1 m1 hk;rw[<-q.eqD];exact this
end
end Go.Abs
end
section
namespace Go.Abs
noncomputable section
variable[Gl][Y:Ty]
section
variable{P:Program}{orc:ta}{n:Nat}{al:AL}{σ σ1:ae}
end
theorem Ok.cut{P:Program}{g:FuncId}{ds:List D}{O X garb:List D}{k es sz:Nat}(h:Ok P g ds [.cells O] (.sl 0 0 k es sz) [.cells X])(hX:X.length=sz)(hk:k * es<=sz)(hd:∀d∈X.take (k * es),∃c,d=D.c c)(hg:sz<garb.length)(af:O.length<=sz) :
  Ok P g ds [.cells O] (.sl 1 0 k es (k * es)) [.cells garb,.cells (X.take (k * es))]:=by
 intro M Fz w vs R hs hv;refine (h M Fz w vs R hs hv).mono λe w' he=>?_;obtain ⟨v,U,Z,rfl,G,aa,E⟩:=he;have ak:∀c,U 0=some c->∀b,U b=some c->b=0:=λc h b j=>G.inj b 0 c j h;refine ⟨v,λb=>if b=1 then U 0 else none,Z,rfl,⟨λb c j=>?_,λb b' c j an=>?_,G.fz,G.gl⟩,?_,?_⟩
 ·split at j
  ·rename_i e1;subst e1;obtain ⟨h1,ob,o,A,h3,h4⟩:=G.blk 0 c j;simp only[List.getElem?_cons_zero,aj] at A;subst A;obtain ⟨u,T,ho,hl,hx⟩:=h4;refine ⟨h1,.cells (X.take (k * es)),o,rfl,h3,u,T,ho,by grind,λi d v q1 q2=>?_⟩;obtain ⟨x,rfl⟩:=hd d (vB q1);have q3:X[i]? = some (.c x):=by
    grind
   obtain ⟨K,q5⟩:=hx i _ v q3 q2;refine ⟨?_,q5⟩;cases K with
   |c K=>exact .c K
  simp_all
 ·simp_all
 ·cases aa with
  |sl a n cap ab ob A ax ad=>
   simp only[List.getElem?_cons_zero,aj] at A;subst A;refine .sl a n cap ab (.cells (X.take (k * es))) rfl (by grind [Ob.sz]) (λ_=>?_);rcases ad (by grind [Ob.sz]) with ⟨q1,q2,q3,K,q5,q6⟩ | ⟨c,o,u,T,hM,ha,hn,hl,ho,hh,j,hz⟩
   ·simp_all
   ·exact .inr ⟨c,o,u,T,by grind,ha,hn,⟨hl.1,by omega⟩,ho,hh,j,by omega⟩
 ·exact {
   size:=E.size
   frame:=E.frame
   ja:=λb c j=>by
    split at j
    ·exact E.ja 0 c j
    simp_all
   fz:=E.fz
   lD:=E.lD
   nF:=E.nF
   keep:=λb ob j=>by
    match b with
    |0=>simp only[List.getElem?_cons_zero,aj] at j;subst j;exact ⟨.cells garb,rfl,by grind [Ob.sz],λe=>by grind [Ob.sz]⟩
    |b+1=>grind
   out:=E.out }
section
variable{α:Type}{f:α->List C}{es:Nat}
end
end
end Go.Abs
end
section
namespace Go.Abs
noncomputable section
variable[Gl][Y:Ty]
def GK{T:Type}(st:T->Int)(met:T->Option Bool):List T->Option (List T)
 |[]=>some []
 |a::r=>if (st a == 1)=true then (met a).bind λb=>(GK st met r).bind λq=>some (if b=true then a::q else q) else GK st met r
section
variable{P:Program}{c:Code}{a b:aH}
theorem tu(h:bg P c=some (.seq a b)):∃c1 d,c=.seq c1 d/\bg P c1=some a/\bg P d=some b:=by
 cases c with
 |seq c1 d=>
  simp only[bg] at h;split at h
  ·rename_i x y m p;simp only[aj,aH.seq.injEq] at h;obtain ⟨rfl,rfl⟩:=h;exact ⟨c1,d,rfl,m,p⟩
  ·simp at h
 |region id ops j=>
  simp only[bg] at h;split at h
  ·cases j with
   |false=>simp at h
   |true=>simp only[if_true] at h;split at h <;> simp at h
  ·simp at h
 |cond o c1 d=>simp only[bg] at h;split at h <;> simp at h
 |scope b=>simp only[bg,bU] at h;obtain ⟨q,_,k⟩:=h;rcases Hn q with ⟨l,r,_,e⟩ | e <;> rw[e] at k <;> simp at k
 |rangeFunc g t x y=>rcases dC h with ⟨_,_,_,_,_,_,_,e⟩ | e <;> cases e
 |_=>simp[bg] at h
theorem WK{os:List aD}(h:bg P c=some (.zI os)):∃id ops,c=.region id ops false/\ops.toList.mapM (aT P ops)=some os:=by
 cases c with
 |region id ops d=>
  simp only[bg] at h;split at h
  ·rename_i k m;cases d with
   |false=>simp only[bA,bT,aj,aH.zI.injEq] at h;subst h;exact ⟨id,ops,rfl,m⟩
   |true=>simp only[if_true] at h;split at h <;> simp at h
  ·simp at h
 |seq c1 p=>simp only[bg] at h;split at h <;> simp at h
 |cond o c1 p=>simp only[bg] at h;split at h <;> simp at h
 |scope b=>simp only[bg,bU] at h;obtain ⟨q,_,j⟩:=h;rcases Hn q with ⟨l,r,_,e⟩ | e <;> rw[e] at j <;> simp at j
 |rangeFunc g t x y=>rcases dC h with ⟨_,_,_,_,_,_,_,e⟩ | e <;> cases e
 |_=>simp[bg] at h
theorem JI{o:aG}(h:bg P c=some (.cond o a b)):∃x c1 d,c=.cond x c1 d/\bB x=some o/\bg P c1=some a/\bg P d=some b:=by
 cases c with
 |cond x c1 d=>
  simp only[bg] at h;split at h
  ·rename_i u v A m p q;simp only[aj,aH.cond.injEq] at h;obtain ⟨rfl,rfl,rfl⟩:=h;exact ⟨x,c1,d,rfl,m,p,q⟩
  ·simp at h
 |region id ops j=>
  simp only[bg] at h;split at h
  ·cases j with
   |false=>simp at h
   |true=>simp only[if_true] at h;split at h <;> simp at h
  ·simp at h
 |seq c1 d=>simp only[bg] at h;split at h <;> simp at h
 |scope b=>simp only[bg,bU] at h;obtain ⟨t,_,k⟩:=h;rcases Hn t with ⟨l,r,_,e⟩ | e <;> rw[e] at k <;> simp at k
 |rangeFunc g E x y=>rcases dC h with ⟨_,_,_,_,_,_,_,e⟩ | e <;> cases e
 |_=>simp[bg] at h
theorem DU{id:Nat}(h:bg P c=some (.block id a)):∃i c1,c=.block i c1/\2 * i=id/\bg P c1=some a:=by
 cases c with
 |block i c1=>simp only[bg,bU,aH.block.injEq] at h;obtain ⟨j,m,p,rfl⟩:=h;exact ⟨i,c1,rfl,p,m⟩
 |region id ops d=>
  simp only[bg] at h;split at h
  ·cases d with
   |false=>simp at h
   |true=>simp only[if_true] at h;split at h <;> simp at h
  ·simp at h
 |seq c1 q=>simp only[bg] at h;split at h <;> simp at h
 |cond o c1 q=>simp only[bg] at h;split at h <;> simp at h
 |scope b=>simp only[bg,bU] at h;obtain ⟨j,_,k⟩:=h;rcases Hn j with ⟨l,r,_,e⟩ | e <;> rw[e] at k <;> simp at k
 |rangeFunc g t x y=>rcases dC h with ⟨_,_,_,_,_,_,_,e⟩ | e <;> cases e
 |_=>simp[bg] at h
theorem UJ(h:bg P c=some (.loop a)):∃c1,c=.loop c1/\bg P c1=some a:=by
 cases c with
 |loop c1=>simp only[bg,bU,aH.loop.injEq] at h;obtain ⟨j,m,rfl⟩:=h;exact ⟨c1,rfl,m⟩
 |region id ops d=>
  simp only[bg] at h;split at h
  ·cases d with
   |false=>simp at h
   |true=>simp only[if_true] at h;split at h <;> simp at h
  ·simp at h
 |seq c1 p=>simp only[bg] at h;split at h <;> simp at h
 |cond o c1 p=>simp only[bg] at h;split at h <;> simp at h
 |scope b=>simp only[bg,bU] at h;obtain ⟨j,_,k⟩:=h;rcases Hn j with ⟨l,r,_,e⟩ | e <;> rw[e] at k <;> simp at k
 |rangeFunc g q x y=>rcases dC h with ⟨_,_,_,_,_,_,_,e⟩ | e <;> cases e
 |_=>simp[bg] at h
end
section
variable{P:Program}{ops:Array Oper}{Q:Exit->Act->World->Prop}{a:Act}{w:World}{n:Nat}{al:AL}{σ:ae}{M:Nat->Option Nat}{Fz:Nat->Prop}
theorem Wo{o:Oper}{K:Act->World->Prop}(hd:∀c,o.op≠.defer c)(h:o.wp P a w K Q):o.wpIn Fence.wide 0 P a w K Q:=by
 refine ⟨λf _=>trivial,?_⟩;rw[Oper.semAt_eq _ _ _ hd];unfold Oper.wp at h;generalize (execOp a.eval o).run P w=r at *;cases r with
 |ok j g=>
  cases j with
  |value v=>exact h
  |skip=>exact h
  |defer d=>exact h
  |enter f args=>exact ⟨λe=>by simp[Fence.wide] at e,callsIn_wide.2 h⟩
  |row row args=>exact ⟨λe=>by simp[Fence.wide] at e,λc k _=>let ⟨v,g,r,s⟩:=h c k;⟨v,g,r,stepsIn_wide.2 s⟩⟩
  |_=>exact h.elim
 |halt e g=>cases e <;> first | exact h | exact h.elim
theorem Pe{i:Nat}{K:Act->World->Prop}(hd:∀(i:Nat) o c,ops[i]? = some o->o.op≠.defer c)(g:¬LetsOut Q)(h:wpOp P ops Q i K a w):wpOpIn Fence.wide 0 P ops Q i K a w:=by
 unfold wpOp at h;unfold wpOpIn;split at h
 ·rename_i d;simp only[d];exact h
 ·rename_i o d;simp only[d];split at h
  ·rename_i e;simp only[e,if_true];rcases h with h | h
   ·exact Wo (λc=>hd i o c d) h
   ·exact absurd h.2 g
  ·rename_i e;simp only[e,bA,bT];exact ⟨λf _=>trivial,h⟩
theorem Sm{orc:fA}(O:lP P orc)(hd:∀(i:Nat) o c,ops[i]? = some o->o.op≠.defer c)(v:¬LetsOut Q){g:List Nat}:∀(os:List aD)(k:Nat)(σ σ':ae)(M:Nat->Option Nat)(Fz:Nat->Prop)(w:World)(e d:List D)(a:Act)(wr:List Nat),
  (∀j ao,os[j]? = some ao->∃o,ops[k+j]? = some o/\aT P ops o=some ao)->Rel σ M Fz w->cR σ M Fz w e a.tmps->lY P orc os e σ=some (d,σ',wr) ->
  (∀x q y p,x.defers=a.defers->Rel σ' y p q->cR σ' y p q d x.tmps->ba σ M Fz w σ' y p q->σ.length<=σ'.length->wpOpsIn Fence.wide 0 P ops Q g x q) ->
  wpOpsIn Fence.wide 0 P ops Q (List.range' k os.length++g) a w:=by
 intro os;induction os with
 |nil=>intro k σ σ' M Fz w e d a wr _ R E h v;simp only[lY,aj,aM] at h;obtain ⟨rfl,rfl,_⟩:=h;exact v a w M Fz rfl R E (ba.refl R) (cn _)
 |cons ao os ih=>
  intro k σ σ' M Fz w e d a wr m R E h hK;simp only[lY] at h;split at h
  ·rename_i r σ1 w1 h1;split at h
   ·rename_i t au w2 h2;simp only[aj,aM] at h;obtain ⟨rfl,rfl,_⟩:=h;obtain ⟨o,ho,A⟩:=m 0 ao (by simp);simp only[List.length_cons,List.range'_succ,List.cons_append];rw[wpOpsIn_cons];refine Pe hd v (Gu O R E (by simpa using ho) A h1 _ λa1 q M1 G K R1 E1 L u=>?_);refine ih (k+1) σ1 au M1 G q r t a1 w2 (λj N hj=>?_) R1 E1 h2 λa2 S M2 T U R2 E2 Z aa=>?_
    ·obtain ⟨o',ab,ad⟩:=m (j+1) N (by simpa using hj);exact ⟨o',by rw[<-ab];congr 1;omega,ad⟩
    ·exact hK a2 S M2 T (by rw[U,K]) R2 E2 (L.trans Z u) (jz u aa)
   ·simp at h
  ·simp at h
theorem dH{orc:fA}(O:lP P orc)(hd:∀(i:Nat) o c,ops[i]? = some o->o.op≠.defer c)(u:¬LetsOut Q){e:List Nat}{os:List aD}{k:Nat}(m:∀j ao,os[j]? = some ao->∃o,ops[k+j]? = some o/\aT P ops o=some ao)
  (h:bK P orc 0 os n al σ λp σ' _=>∀q g r d,q.defers=a.defers->Rel σ' r d g->dP n σ' r d g p q.tmps->ba σ M Fz w σ' r d g->wpOpsIn Fence.wide 0 P ops Q e q g)
  (R:Rel σ M Fz w) (A:dP n σ M Fz w al a.tmps):wpOpsIn Fence.wide 0 P ops Q (List.range' k os.length++e) a w:=by
 obtain ⟨p,σ',S,v,x⟩:=h;obtain ⟨y,E,G⟩:=v _ A.cK.2;exact Sm O hd u os k σ σ' M Fz w _ y a _ m R A.cK.1 (Iw _ _ _ _ _ _ E) λq g r d t K L N T=>x q g r d t K (dP.Vj L G) N
theorem Zh{os:List aD}(h:ops.toList.mapM (aT P ops)=some os):os.length=ops.size/\∀(j:Nat) ao,os[j]? = some ao->∃o,ops[j]? = some o/\aT P ops o=some ao:=by obtain ⟨d,e⟩:=Jf h;refine ⟨by simpa using d,λj ao g=>?_⟩;obtain ⟨o,k,m⟩:=e j ao g;exact ⟨o,by simpa using k,m⟩
theorem xj{cs:List D}{m:Nat}(h:cs.length=m):rD (some m) cs 0=some (.agg cs):=by simp only[rD];rw[if_pos (by omega)];simp[<-h]
theorem ua.step{B:Nat}{J:(Nat->Prop)->(Nat->Prop)->World->Prop}(h:ua B J){σ σ':ae}{M A:Nat->Option Nat}{F F' U:Nat->Prop}{W W':World}(G:J F U W)(x:∀b c,M b=some c->¬U c/\B<=c)(E:ba σ M F W σ' A F' W')(K:Rel σ' A F' W') :
  J F' (λc=>U c∨F' c) W'/\∀b c,A b=some c->¬(U c∨F' c)/\B<=c:=by
 have o:=h.lt F U W G;have aa:=h.le F U W G;refine ⟨h.grow F U W' F' (h.off F U W W' G E.size (λc j=>E.frame c (j.elim (o c) (by omega)) λb u=>?_) E.out) (λc j=>(E.fz c j).1) λc j=>?_,λb c u=>?_⟩
 ·obtain ⟨q1,q2⟩:=x b c u;exact j.elim q1 (by omega)
 ·rcases E.lD c j with h1 | ⟨b,u⟩ | h1
  ·exact .inl h1
  ·exact .inr ⟨(x b c u).1,(x b c u).2,K.fz c j⟩
  ·exact .inr ⟨λO=>by have:=o c O;omega,by omega,K.fz c j⟩
 ·have hf:=(K.blk b c u).1;rcases E.ja b c u with ⟨b0,R⟩ | R
  ·exact ⟨λZ=>Z.elim (x b0 c R).1 hf,(x b0 c R).2⟩
  ·exact ⟨λZ=>Z.elim (λO=>by have:=o c O;omega) hf,by omega⟩
theorem dP.data{o:AL}{j:Array Value}(h:dP n σ M Fz w al j)(hs:∀t d,lk t o=some d->lk t al=some d/\d.low 0=true):dP n [] (λ_=>none) Fz w o j:=
 ⟨h.1,λt d u=>let ⟨h1,h2⟩:=hs t d u;let ⟨v,h3,h4⟩:=h.2 t d h1;⟨v,h3,h4.data h2 _ _⟩⟩
theorem Dk{k:List Nat}{i d t:Nat}{o:Oper}{g:Option (Nat×Bool)}{r:List D}{c:Nat}{x:C}{arr:Array Value}{T:TypeId}(ho:ops[i]? = some o)(m:aT P ops o=some ⟨some d,.load none (.t t),g⟩)(N:Gl.ok Fz w)(E:cR σ M Fz w r a.tmps)(hw:fN r g=some true)
  (hv:a.tmps[t]? = some (.pointer (some ⟨c,0,none⟩))) (hh:w.heap[c]? = some (.cells arr T (0,0))) (hl:1<=arr.size) (hx:∀u,arr[0]? = some u->VC Fz w x u/\u.oneCell'=true)
  (hK:∀v,VC Fz w x v->wpOpsIn Fence.wide 0 P ops Q k (a.put (some d) v) w):wpOpsIn Fence.wide 0 P ops Q (i::k) a w:=by
 unfold aT at m;split at m
 ·rename_i g' ao hg A;simp only[aj,aD.mk.injEq] at m;obtain ⟨G,rfl,rfl⟩:=m;have O:=xu A;rcases rA A with ⟨f,args,aa,of,os,_,_,_,e⟩ | ⟨h0,R,_⟩
  ·simp at e
  have q:=mc E hg hw;rw[wpOpsIn_cons];unfold wpOpIn;rw[ho];simp only[q,if_true];have ht:t<a.tmps.size:=(xR.1 hv).1;have E1:cR [.cells [.c x]] (λb=>if b=0 then some c else none) Fz w ((List.replicate a.tmps.size D.any).set t (.ptr 0 0 1)) a.tmps:=by
   refine ⟨by simp,λj d v h p=>?_⟩;rw[yB2] at h;split at h
   ·rename_i e;subst e;split at h
    ·simp only[aj] at h;subst h;rw[hv] at p;simp only[aj] at p;subst p;exact .ptr _ (.cells [.c x]) rfl (cn _) λ_=>⟨c,rfl,rfl⟩
    ·simp at h
   ·have:d=.any:=by
     rw[List.getElem?_replicate] at h;split at h <;> simp_all
    subst this;exact .any v
  have S:aR P (λ_ _ _=>none) (.load none (.t t)) ((List.replicate a.tmps.size D.any).set t (.ptr 0 0 1)) [.cells [.c x]]=some (.c x,[.cells [.c x]],[]):=by
   have:aG.ev ((List.replicate a.tmps.size D.any).set t (.ptr 0 0 1)) (.t t)=.ptr 0 0 1:=by simp[aG.ev,ht]
   simp only[aR,this];rfl
  have K:∃v,(execOp a.eval o).run P w=.ok (.value v) w/\VC Fz w x v:=by
   cases BD (M:=λb=>if b=0 then some c else none) (Fz:=Fz) (w:=w) N E1 h0 R S with
   |y m _=>simp[cat] at m
   |l _ _ hy=>
    obtain ⟨v,h,p⟩:=hy λb off sz c' cs U hM L=>by
     have Z:b=0:=by
      have:Pu (.load none (.t t)) ((List.replicate a.tmps.size D.any).set t (.ptr 0 0 1))=.ptr 0 0 1:=by simp[Pu,aG.ev,ht]
      rw[this] at U;simp only[D.ptr.injEq] at U;exact U.1.symm
     subst Z;simp only[if_true,aj] at hM;subst hM;simp only[List.getElem?_cons_zero,aj,Ob.cells.injEq] at L;subst L;refine ⟨arr,T,hh,by simpa using hl,λj d u h p=>?_⟩;have hj:j=0:=by have:=(d_.1 h).1;simp at this;exact this
     subst hj;simp only[List.getElem?_cons_zero,aj] at h;subst h;exact ⟨.c (hx u p).1,(hx u p).2⟩
    exact ⟨v,h,p.oe⟩
   |g m _=>simp[cat] at m
  obtain ⟨v,hr,hV⟩:=K;refine ⟨λf _=>trivial,?_⟩;rw[Oper.semAt_eq _ _ _ O,hr];show wpOpsIn Fence.wide 0 P ops Q k (a.put o.dst v) w;rw[G];exact hK v hV
 ·simp at m
theorem LV{h:List Nat}{i d f t l:Nat}{o:Oper}{g:Option (Nat×Bool)}{u:List D}{v:Value}{R:Ending->World->Prop}(ho:ops[i]? = some o)(A:aT P ops o=some ⟨some d,.call (.t f) [.t t],g⟩)(E:cR σ M Fz w u a.tmps)(hw:fN u g=some true)
  (hf:a.tmps[f]? = some (.func (.yield l) #[] #[])) (ht:a.tmps[t]? = some v) (hy:YieldAt Fence.wide 0 P l #[v] w R)
  (hK:∀e G,R e G->∃b,e=.returned b/\wpOpsIn Fence.wide 0 P ops Q h (a.put (some d) b) G):wpOpsIn Fence.wide 0 P ops Q (i::h) a w:=by
 unfold aT at A;split at A
 ·rename_i g' ao hg T;simp only[aj,aD.mk.injEq] at A;obtain ⟨K,rfl,rfl⟩:=A;have tm:∀(x:Operand)(t:Nat),bB x=some (.t t)->x=.tmp t:=λx t hx=>by
   cases x <;> simp[bB] at hx
   rw[hx]
  rcases rA T with ⟨f',args,ak,of,os,L,h1,h2,e⟩ | ⟨_,p,_⟩
  ·simp only[jB.call.injEq] at e;obtain ⟨rfl,rfl⟩:=e;have U:=tm f' f h1;subst U;have q:args.map a.eval=#[v]:=by
    obtain ⟨l1,l2⟩:=Jf (show args.toList.mapM bB=some [.t t] from h2);have hl:args.size=1:=by simpa using l1.symm
    have Z:args=#[.tmp t]:=by
     apply Array.ext
     ·simpa using hl
     ·intro j aa an;have hj:j=0:=by omega
      subst hj;obtain ⟨y,ab,ad⟩:=l2 0 (.t t) rfl;have:=tm y t ad;subst this;have h3:args[0]? = some (.tmp t):=by simpa using ab
      rw[oF aa] at h3;simpa using h3
    rw[Z];simp[Act.eval,ht]
   have r:=mc E hg hw;rw[wpOpsIn_cons];unfold wpOpIn;rw[ho];simp only[r,if_true];obtain ⟨fn,N,k,O,S,m⟩:=hy;have af:a.eval (.tmp f)=.func (.yield l) #[] #[]:=by simp[Act.eval,hf]
   have hr:(execOp a.eval o).run P w=.ok (.round l fn N k O) w:=by simp only[execOp,L,resolve,af,Deferred.ofValue,Sem.run_bind,Sem.run_pure,Result.andThen_ok,invoke,q];simpa using S
   refine ⟨λf _=>trivial,?_⟩;rw[Oper.semAt_eq _ _ _ (by simp[L]),hr,Oper.uponIn_round];refine ⟨λhh=>by simp[Fence.wide] at hh,m.mono λe G Z=>?_⟩;obtain ⟨b,rfl,hb⟩:=hK e G Z;show wpOpsIn Fence.wide 0 P ops Q h (a.put o.dst b) G;rw[K];exact hb
  ·simp[xY] at p
 ·simp at A
theorem kP{c:Code}{os:List aD}(p:bg P c=some (.zI os))(h:∀ops:Array Oper,ops.size=os.length->(∀(j:Nat) ao,os[j]? = some ao->∃o,ops[j]? = some o/\aT P ops o=some ao)->(∀(i:Nat) o c,ops[i]? = some o->o.op≠.defer c) ->
  wpOpsIn Fence.wide 0 P ops (lw Q) (List.range os.length) a w):c.wpIn Fence.wide 0 P Q a w:=by
 obtain ⟨id,ops,rfl,q⟩:=WK p;obtain ⟨d,k⟩:=Zh q;refine wpIn_mono (Q:=lw Q) (wpIn_region ?_) λ_ _ _ h=>h.1;rw[<-d];refine h ops d.symm k λj o c m=>?_;have e:j<os.length:=by rw[d];exact (xR.1 m).1
 obtain ⟨t,g,r⟩:=k j _ (cT e);rw[m] at g;simp only[aj] at g;subst g;exact nG r c
end
end
end Go.Abs
end
section
namespace Go.Abs
noncomputable section
variable[Gl][Y:Ty]
def ZY(es:Nat)(z:List D):List aD:=[⟨some 9,.idx es none (.t 5) (.t 7),none⟩,⟨some 10,.load (some es) (.t 9),none⟩,⟨some 4,.alloc z,none⟩,⟨none,.store es (.t 4) (.t 10),none⟩]
def Fb(es so ti tb:Nat):List aD:=[⟨some 11,.Dw so (.t 4),none⟩,⟨some 12,.load none (.t 11),none⟩,⟨some 13,.gen (.binOp .eql ti (.tmp 12) (.const (.int .i64 1)) ti) tb,none⟩,⟨some 14,.xQ (.t 13),none⟩,⟨some 15,.load (some es) (.t 4),some (14,true)⟩]
def Um:aD:=⟨some 16,.load none (.t 1),some (14,true)⟩
def FD(gm:Nat):List aD:=[⟨some 17,.call (.k (.c (.fn (.func gm) [] []))) [(.t 15),(.t 16)],some (14,true)⟩,⟨some 18,.pick (.t 14) (.t 17) (.k (.c (.lit (.bool false)))),none⟩,⟨some 19,.xQ (.t 18),none⟩]
def yu(es:Nat):List aD:=[⟨some 20,.xQ (.t 0),some (19,true)⟩,⟨some 21,.load (some es) (.t 4),some (19,true)⟩]
def LJ:aD:=⟨some 22,.call (.t 20) [(.t 21)],some (19,true)⟩
def uW(tb:Nat):List aD:=[⟨some 23,.gen (.unOp .not tb (.tmp 22)) tb,some (19,true)⟩,⟨some 24,.pick (.t 19) (.t 23) (.k (.c (.lit (.bool false)))),none⟩]
def Ut(es so ti tb gm:Nat):List aD:=Fb es so ti tb++(Um::(FD gm++(yu es++(LJ::uW tb))))
def Vp(ti:Nat):List aD:=[⟨some 8,.gen (.binOp .lss ti (.tmp 7) (.tmp 6) ti) 0,none⟩]
def able4(ti:Nat):List aD:=[⟨some 25,.gen (.binOp .add ti (.tmp 7) (.const (.int .i64 1)) ti) ti,none⟩,⟨some 7,.xQ (.t 25),none⟩]
def able0:List aD:=[⟨some 5,.load none (.t 1),none⟩,⟨some 6,.len (.t 5),none⟩,⟨some 7,.xQ (.k (.c (.lit (.int .i64 0)))),none⟩]
def ZM(es so ti tb gm:Nat)(z:List D):aH:=.seq (.zI (Vp ti)) (.seq (.cond (.t 8) .skip (.exit 0)) (.seq (.block 2 (.seq (.zI (ZY es z)) (.seq (.zI (Ut es so ti tb gm)) (.cond (.t 24) .ret .skip)))) (.zI (able4 ti))))
def ZW(es so ti tb gm:Nat)(z:List D):jE:=⟨2,26,[],.seq (.zI able0) (.block 0 (.loop (ZM es so ti tb gm z))),true⟩
section
variable{P:Program}{n:Nat}{al:AL}{σ:ae}{M:Nat->Option Nat}{F F':Nat->Prop}{W W':World}
theorem dP.put{a:Act}{t:Nat}{d:D}{v:Value}(A:dP n σ M F W al a.tmps)(o:t<n)(u:V σ M F W d v):dP n σ M F W ((t,d)::al) (a.put (some t) v).tmps:=by
 refine ⟨by simp[Act.put,A.1],λs e hs=>?_⟩;simp only[lk] at hs;simp only[Act.put];split at hs
 ·rename_i j;have:=cr j;subst this;simp only[aj] at hs;subst hs;refine ⟨v,?_,u⟩;rw[Rk,if_pos rfl,if_pos (by rw[A.1];exact o)]
 ·rename_i j;obtain ⟨x,E,G⟩:=A.2 s e hs;refine ⟨x,?_,G⟩;rw[Rk,if_neg (λe=>by rw[e] at j;simp at j)];exact E
theorem dP.dataF {j:Array Value} (A:dP n σ M F W al j) (u:∀t d,lk t al=some d→∃x,d=.c x) (E:∀c:Nat,F c→F' c∧W'.heap[c]? = W.heap[c]?):dP n [] (fun _=>none) F' W' al j:=
 ⟨A.1,fun t d o=>by
  obtain ⟨v,G,K⟩:=A.2 t d o
  obtain ⟨x,rfl⟩:=u t d o
  exact ⟨v,G,.c (K.oe.mono E)⟩⟩
theorem dP.lks{o:AL}{j:Array Value}(A:dP n σ M F W al j)(hs:∀t d,lk t o=some d->lk t al=some d):dP n σ M F W o j:=⟨A.1,λt d u=>A.2 t d (hs t d u)⟩
theorem yc{ops:Array Oper}{d os:List aD}{k:Nat}(h:∀(j:Nat) ao,d[j]? = some ao->∃o,ops[j]? = some o/\aT P ops o=some ao)(g:∀j,j<os.length->d[k+j]? = os[j]?):∀j ao,os[j]? = some ao->∃o,ops[k+j]? = some o/\aT P ops o=some ao:=
 λj ao e=>h (k+j) ao (by rw[g j (d_.1 e).1];exact e)
def kI(i:Nat)(l:List (TT i))(d pv:Value)(k:Int):AL:=[(7,I k),(6,I l.length),(5,.c (.ca false (l.map (enc i)))),(0,.c (.lit d)),(1,.c (.lit pv))]
theorem ableH_c{i:Nat}{l:List (TT i)}{e pv:Value}{k:Int}:∀t d,lk t (kI i l e pv k)=some d->∃x,d=.c x:=by intro t d h;have:=kH h;simp only[kI,eU,Hj,Hg,aM] at this;rcases this with ⟨_,rfl⟩ | ⟨_,rfl⟩ | ⟨_,rfl⟩ | ⟨_,rfl⟩ | ⟨_,rfl⟩ <;> exact ⟨_,rfl⟩
theorem NX(c:CC)(a:c.dn):Af c (pd c a)=some a:=by
 cases c with
 |int k=>simp only[pd,Af];split <;> first | rfl | (rename_i h _;exact absurd rfl h)
 |bool=>rfl
 |str=>rfl
 |sl j=>simp only[pd,Af,eE];split <;> first | rfl | (rename_i h _;exact absurd rfl h)
 |fk d=>rfl
theorem YP:∀(cs:List CC)(x:aI cs),AD cs (sR cs x)=some x:=by
 intro cs;induction cs with
 |nil=>intro x;rfl
 |cons c cs ih=>intro x;simp only[sR,AD,NX,ih]
theorem Xi(i:Nat)(a:TT i)(l:List (TT i)):([ST (enc i a),.c (.ca false (l.map (enc i)))]:List D).map zm=[ST (enc i a),.c (.ca false (l.map (enc i)))]/\(([ST (enc i a),.c (.ca false (l.map (enc i)))]:List D).all λd=>d.low 0&&d.plain)=true:=by
 have h:vI [.st i,.c (.sl i)] (tvV [.st i,.c (.sl i)] (a,l,()))=some (a,l,()):=by
  have e:oD (.st i) (cI.tv (.st i) a)=some a:=by show zw i (.agg (exp i a))=some a;simp only[zw,exp,YP,Y.mp]
  have g:oD (.c (.sl i)) (cI.tv (.c (.sl i)) l)=some l:=NX (.sl i) l;simp only[tvV,vI,e,g]
 exact ND h (.cons (cI.AQ (.st i) a) (.cons (cI.AQ (.c (.sl i)) l) .nil))
end
section
variable{P:Program}{i so ti tb gm:Nat}{z:List D}{st:TT i->Int}{metf:TT i->List (TT i)->Option Bool}
def NC(gm:Nat)(ds:List D)(b:Bool):uP:=open Classical in [(gm,λd=>if d=ds then some (B b) else none)]
theorem SE{ds:List D}{b:Bool}(h:Pure P gm ds (B b)):lP P (λ_=>zM (NC gm ds b)):=λ_=>kS λp g j r d=>by
 unfold NC at g;simp only[nL] at g;subst g;dsimp only at d;split at d
 ·rename_i e;simp only[aj] at d;subst e d;exact h
 ·simp at d
variable{B:Nat}{lb:Array Value}{J:Nat->(Nat->Prop)->(Nat->Prop)->World->Prop}{Jx:(Nat->Prop)->(Nat->Prop)->World->Prop}{l:List (TT i)}{items:List (List D)}{ly:Nat}{pv:Value}
def Zx(B:Nat)(J:Nat->(Nat->Prop)->(Nat->Prop)->World->Prop)(Jx:(Nat->Prop)->(Nat->Prop)->World->Prop)(H:AL)(it:Nat)(g:Exit->Act->World->Prop):Prop:=
 ∀F' e W' d (b:Bool),d.defers=[]->dP 26 [] (λ_=>none) F' W' ((24,Abs.B b)::H) d.tmps->((b=false/\J it F' e W')∨(b=true/\Jx F' e W'))->g .normal d W'
theorem XF (cW:P.follows .mixedOrders=true) (bl:∀a,(enc i a)[so]? = some (.lit (.int .i64 (st a))))
  (an:∀x:Int,gh P .eql ti (.tmp 12) (.const (.int .i64 1)) (.int .i64 x) (.int .i64 1)=some (.bool (x == 1))) (ax:∀b:Bool,eB P (Op.unary .not (.bool b))=some (.bool (!b)))
  (hm:bj P gm ⟨[.st i,.c (.sl i)],[.c .bool],fun a=>metf a.1 a.2.1⟩)
  (hJ:∀k,ua B (J k)) (bt:ua B Jx) (a0:∀k F U W,J k F U W→YG F W [[.ca false (l.map (enc i))]] lb) (bu:lb[0]? = some pv)
  (G:∀k ds F U W vs,items[k]? = some ds→J k F U W→Yg F W ds vs →
   YieldAt Fence.wide 0 P ly vs W fun e W'=>∃F' K,Kept F U W F' K W'∧((e=.returned (.bool true)∧J (k+1) F' K W')∨(e=.returned (.bool false)∧Jx F' K W')))
  {c3:Code} (a2:bg P c3=some (.zI (Ut (ar i) so ti tb gm))) {a:TT i} {k:Int} {it:Nat} {F U:Nat→Prop} {W:World} {M:Nat→Option Nat} {y:Act} {Qy:Exit→Act→World→Prop}
  (R:Rel [.cells ((enc i a).map .c)] M F W) (A:dP 26 [.cells ((enc i a).map .c)] M F W ((4,.ptr 0 0 (ar i))::kI i l (.func (.yield ly) #[] #[]) pv k) y.tmps) (a5:y.defers=[]) (o:J it F U W) (hO:∀b c,M b=some c→¬U c∧B≤c)
  (a7:st a=1→∃b,metf a l=some b∧(b=true→items[it]? = some [ST (enc i a)]))
  (hK:∀b,(st a=1→metf a l=some b)→(st a≠1→b=false)→Zx B J Jx (kI i l (.func (.yield ly) #[] #[]) pv k) (if b=true then it+1 else it) Qy):c3.wpIn Fence.wide 0 P Qy y W:=by
 have S:((enc i a).map D.c).length=ar i:=by rw [ql,pz]
 have r:lu [Ob.cells ((enc i a).map D.c)] 0 (ar i)=some ((enc i a).map D.c):=KY rfl S
 have Z:rD none ((enc i a).map D.c) (0+so)=some (I (st a)):=by
  show ((enc i a).map D.c)[0+so]? = _
  rw [GA,gP,bl]
  rfl
 have aa:rD (some (ar i)) ((enc i a).map D.c) 0=some (ST (enc i a)):=xj S
 by_cases h1:st a=1
 ·obtain ⟨b,hb,Hb⟩:=a7 h1
  obtain ⟨bv,bw⟩:=Xi i a l
  have O:=SE (P:=P) (gm:=gm) (ds:=[ST (enc i a),.c (.ca false (l.map (enc i)))]) (b:=b) (hm (a,l,()) b hb)
  have af:zM (NC gm [ST (enc i a),.c (.ca false (l.map (enc i)))] b) gm [ST (enc i a),.c (.ca false (l.map (enc i)))] [Ob.cells ((enc i a).map D.c)]=some (Abs.B b,[Ob.cells ((enc i a).map D.c)],[]):=
   wa (F:=fun b0=>open Classical in if b0=[ST (enc i a),.c (.ca false (l.map (enc i)))] then some (Abs.B b) else none) (by simp [NC,Rg]) bw bv (by simp) rfl
  refine kP a2 fun ops hs g m=>?_
  show wpOpsIn Fence.wide 0 P ops (lw Qy) (List.range' 0 (Fb (ar i) so ti tb).length++(5::(List.range' 6 (FD gm).length++(List.range' 9 (yu (ar i)).length++(11::(List.range' 12 (uW tb).length++[])))))) y W
  refine dH O m PW (yc g fun j o=>?_) ?_ R A
  ·have:j=0∨j=1∨j=2∨j=3∨j=4:=by simp [Fb] at o; omega
   rcases this with rfl | rfl | rfl | rfl | rfl <;> rfl
  unfold Fb
  refine bK.op (Gi rfl) fG rfl (bK.op (pf rfl r Z) fG rfl (bK.op (dv (v:=.bool (st a == 1)) rfl rfl rfl rfl (an _) rfl) fG rfl (bK.op (xD rfl) fG rfl (bK.op (pf rfl r aa) (fR rfl (by simp [h1])) rfl (bK.nil ?_)))))
  intro a1 W1 M1 F1 b1 R1 A1 E1
  obtain ⟨j1,o1⟩:=(hJ it).step o hO E1 R1
  obtain ⟨c,rfl,b9,T,hh,hl,hx⟩:=(a0 it _ _ _ j1).2 0 _ pv rfl bu
  obtain ⟨o5,b2,b3⟩:=g 5 Um rfl
  obtain ⟨v1,b4,b5⟩:=A1.2 1 _ rfl
  have:=b5.bI
  subst this
  refine Dk b2 b3 R1.gl A1.cK.1 (fR rfl (by simp [h1]) 26 _ A1.cK.2) b4 hh (by simpa using hl) (fun u hu=>hx 0 _ u rfl hu) fun v hv=>?_
  have A2:=A1.put (t:=16) (d:=.c (.ca false (l.map (enc i)))) (by omega) (.c hv)
  refine dH O m PW (yc g fun j o=>?_) ?_ R1 A2
  ·have:j=0∨j=1∨j=2:=by simp [FD] at o; omega
   rcases this with rfl | rfl | rfl <;> rfl
  unfold FD
  refine bK.op (EP rfl rfl af) (fR rfl (by simp [h1])) rfl (bK.op (rj rfl (by simp [h1]) rfl) fG rfl (bK.op (xD rfl) fG rfl (bK.nil ?_)))
  intro a3 W3 M3 F3 b6 R3 A3 E3
  obtain ⟨j3,o3⟩:=(hJ it).step j1 o1 E3 R3
  have ab:a3.defers=[]:=by rw [b6]; show a1.defers=[]; rw [b1,a5]
  cases b with
  | false =>
   show wpOpsIn Fence.wide 0 P ops (lw Qy) (List.range' 9 (yu (ar i)++(LJ::uW tb)).length++[]) a3 W3
   refine dH O m PW (yc g fun j o=>?_) ?_ R3 A3
   ·have:j=0∨j=1∨j=2∨j=3∨j=4:=by simp [yu,uW] at o; omega
    rcases this with rfl | rfl | rfl | rfl | rfl <;> rfl
   refine bK.no (Lx rfl rfl) rfl (bK.no (Lx rfl rfl) rfl (bK.no (Lx rfl rfl) rfl (bK.no (Lx rfl rfl) rfl (bK.op (od rfl rfl rfl) fG rfl (bK.nil ?_)))))
   intro a4 W4 M4 F4 E R4 L E4
   obtain ⟨j4,_⟩:=(hJ it).step j3 o3 E4 R4
   refine ⟨hK false (fun _=>hb) (fun _=>rfl) F4 _ W4 a4 false (by rw [E,ab]) (L.data fun t d N=>?_) (.inl ⟨rfl,j4⟩),by simp⟩
   have:=kH N
   simp only [kI,eU,Hj,Hg,aM] at this
   rcases this with ⟨rfl,rfl⟩ | ⟨rfl,rfl⟩ | ⟨rfl,rfl⟩ | ⟨rfl,rfl⟩ | ⟨rfl,rfl⟩ | ⟨rfl,rfl⟩ <;> exact ⟨rfl,rfl⟩
  | true =>
   refine dH O m PW (yc g fun j o=>?_) ?_ R3 A3
   ·have:j=0∨j=1:=by simp [yu] at o; omega
    rcases this with rfl | rfl <;> rfl
   unfold yu
   refine bK.op (xD rfl) (fR rfl rfl) rfl (bK.op (pf rfl r aa) (fR rfl rfl) rfl (bK.nil ?_))
   intro a4 W4 M4 F4 E R4 L E4
   obtain ⟨j4,o4⟩:=(hJ it).step j3 o3 E4 R4
   obtain ⟨cg,a8,a9⟩:=g 11 LJ rfl
   obtain ⟨ch,bb,bc⟩:=L.2 20 _ rfl
   have:=bc.bI
   subst this
   obtain ⟨bd,be,bh⟩:=L.2 21 _ rfl
   refine LV a8 a9 L.cK.1 (fR rfl rfl 26 _ L.cK.2) bb be (G it _ F4 _ W4 #[bd] (Hb rfl) j4 ⟨rfl,fun q d v g1 g2=>?_⟩) fun e w' he=>?_
   ·have hq:q=0:=by
     have:=(d_.1 g1).1
     simp at this; exact this
    subst hq
    simp only [List.getElem?_cons_zero,aj] at g1
    subst g1
    have g2:some bd=some v:=g2
    simp only [aj] at g2
    subst g2
    exact bh.data (by grind) _ _
   ·obtain ⟨F5,U5,kp,b7⟩:=he
    have ad:∀(q:Bool) (X:(Nat→Prop)→(Nat→Prop)→World→Prop),ua B X→X F5 U5 w'→(∀F' K W',X F' K W'→((!q)=false∧J (it+1) F' K W')∨((!q)=true∧Jx F' K W'))→wpOpsIn Fence.wide 0 P ops (lw Qy) (List.range' 12 (uW tb).length++[]) (a4.put (some 22) (.bool q)) w':=by
     intro q X hX bi bk
     have A5:dP 26 [] (fun _=>none) F5 w' ((22,Abs.B q)::(19,Abs.B true)::kI i l (.func (.yield ly) #[] #[]) (.pointer (some ⟨c,0,none⟩)) k) (a4.put (some 22) (.bool q)).tmps:=by
      refine dP.put (dP.dataF (L.lks fun t d N=>?_) (fun t d N=>?_) kp.fz) (by omega) (.c (.lit _))
      ·have:=kH N
       simp only [kI,eU,Hj,Hg,aM] at this
       rcases this with ⟨rfl,rfl⟩ | ⟨rfl,rfl⟩ | ⟨rfl,rfl⟩ | ⟨rfl,rfl⟩ | ⟨rfl,rfl⟩ | ⟨rfl,rfl⟩ <;> rfl
      ·have:=kH N
       simp only [kI,eU,Hj,Hg,aM] at this
       rcases this with ⟨rfl,rfl⟩ | ⟨rfl,rfl⟩ | ⟨rfl,rfl⟩ | ⟨rfl,rfl⟩ | ⟨rfl,rfl⟩ | ⟨rfl,rfl⟩ <;> exact ⟨_,rfl⟩
     refine dH O m PW (yc g fun j o=>?_) ?_ (hX.rel _ _ _ bi) A5
     ·have:j=0∨j=1:=by simp [uW] at o; omega
      rcases this with rfl | rfl <;> rfl
     unfold uW
     refine bK.op (RZ (v:=.bool (!q)) rfl rfl (ax q) rfl) (fR rfl rfl) rfl (bK.op (rj rfl rfl rfl) fG rfl (bK.nil ?_))
     intro a6 W6 M6 F6 b8 R6 A6 E6
     obtain ⟨j6,_⟩:=hX.step bi (fun b c h=>by simp at h) E6 R6
     refine ⟨hK true (fun _=>hb) (fun h=>absurd h1 h) F6 _ W6 a6 (!q) (by rw [b8]; show a4.defers=[]; rw [E,ab]) (A6.data fun t d N=>?_) (bk _ _ _ j6),by simp⟩
     have:=kH N
     simp only [kI,eU,Hj,Hg,aM] at this
     rcases this with ⟨rfl,rfl⟩ | ⟨rfl,rfl⟩ | ⟨rfl,rfl⟩ | ⟨rfl,rfl⟩ | ⟨rfl,rfl⟩ | ⟨rfl,rfl⟩ <;> exact ⟨rfl,rfl⟩
    rcases b7 with ⟨rfl,ak⟩ | ⟨rfl,ak⟩
    ·exact ⟨_,rfl,ad true (J (it+1)) (hJ _) ak fun F' K W' h=>.inl ⟨rfl,h⟩⟩
    ·exact ⟨_,rfl,ad false Jx bt ak fun F' K W' h=>.inr ⟨rfl,h⟩⟩
 ·have hf:(st a == 1)=false:=by simpa using h1
  have O:lP P (fun _=>zM []):=fun _=>kS fun p hp=>by simp at hp
  refine kP a2 fun ops hs g m=>?_
  show wpOpsIn Fence.wide 0 P ops (lw Qy) (List.range' 0 (Ut (ar i) so ti tb gm).length++[]) y W
  refine dH O m PW (fun j ao o=>by rw [GA]; exact g j ao o) ?_ R A
  refine bK.op (Gi rfl) fG rfl (bK.op (pf rfl r Z) fG rfl (bK.op (dv (v:=.bool (st a == 1)) rfl rfl rfl rfl (an _) rfl) fG rfl (bK.op (xD rfl) fG rfl (bK.no (Lx rfl (by simp [hf])) rfl (bK.no (Lx rfl (by simp [hf])) rfl (bK.no (Lx rfl (by simp [hf])) rfl
   (bK.op (od rfl hf rfl) fG rfl (bK.op (xD rfl) fG rfl (bK.no (Lx rfl rfl) rfl (bK.no (Lx rfl rfl) rfl (bK.no (Lx rfl rfl) rfl (bK.no (Lx rfl rfl) rfl (bK.op (od rfl rfl rfl) fG rfl (bK.nil ?_))))))))))))))
  intro a4 W4 M4 F4 E R4 L E4
  obtain ⟨j4,_⟩:=(hJ it).step o hO E4 R4
  refine ⟨hK false (fun h=>absurd h h1) (fun _=>rfl) F4 _ W4 a4 false (by rw [E,a5]) (L.data fun t d N=>?_) (.inl ⟨rfl,j4⟩),by simp⟩
  have:=kH N
  simp only [kI,eU,Hj,Hg,aM] at this
  rcases this with ⟨rfl,rfl⟩ | ⟨rfl,rfl⟩ | ⟨rfl,rfl⟩ | ⟨rfl,rfl⟩ | ⟨rfl,rfl⟩ | ⟨rfl,rfl⟩ <;> exact ⟨rfl,rfl⟩
end
end
end Go.Abs
end
section
namespace Go.Abs
noncomputable section
variable[Gl][Y:Ty]
section
variable{P:Program}{c:Code}
theorem Jz(h:bg P c=some .skip):c=.skip:=by
 cases c with
 |skip=>rfl
 |region id ops d=>
  simp only[bg] at h;split at h
  ·cases d with
   |false=>simp at h
   |true=>simp only[if_true] at h;split at h <;> simp at h
  ·simp at h
 |seq c1 k=>simp only[bg] at h;split at h <;> simp at h
 |cond o c1 k=>simp only[bg] at h;split at h <;> simp at h
 |scope b=>simp only[bg,bU] at h;obtain ⟨m,_,j⟩:=h;rcases Hn m with ⟨l,r,_,e⟩ | e <;> rw[e] at j <;> simp at j
 |rangeFunc g p x y=>rcases dC h with ⟨_,_,_,_,_,_,_,e⟩ | e <;> cases e
 |_=>simp[bg] at h
theorem Wx(h:bg P c=some .ret):c=.ret:=by
 cases c with
 |ret=>rfl
 |region id ops d=>
  simp only[bg] at h;split at h
  ·cases d with
   |false=>simp at h
   |true=>simp only[if_true] at h;split at h <;> simp at h
  ·simp at h
 |seq c1 k=>simp only[bg] at h;split at h <;> simp at h
 |cond o c1 k=>simp only[bg] at h;split at h <;> simp at h
 |scope b=>simp only[bg,bU] at h;obtain ⟨m,_,j⟩:=h;rcases Hn m with ⟨l,r,_,e⟩ | e <;> rw[e] at j <;> simp at j
 |rangeFunc g p x y=>rcases dC h with ⟨_,_,_,_,_,_,_,e⟩ | e <;> cases e
 |_=>simp[bg] at h
theorem TQ{i:Nat}(h:bg P c=some (.exit (2 * i))):c=.exit i:=by
 cases c with
 |exit j=>simp only[bg,aj,aH.exit.injEq] at h;rw[show j=i by omega]
 |goto j=>simp only[bg,aj,aH.exit.injEq] at h;omega
 |region id ops d=>
  simp only[bg] at h;split at h
  ·cases d with
   |false=>simp at h
   |true=>simp only[if_true] at h;split at h <;> simp at h
  ·simp at h
 |seq c1 m=>simp only[bg] at h;split at h <;> simp at h
 |cond o c1 m=>simp only[bg] at h;split at h <;> simp at h
 |scope b=>simp only[bg,bU] at h;obtain ⟨p,_,k⟩:=h;rcases Hn p with ⟨l,r,_,e⟩ | e <;> rw[e] at k <;> simp at k
 |rangeFunc g q x y=>rcases dC h with ⟨_,_,_,_,_,_,_,e⟩ | e <;> cases e
 |_=>simp[bg] at h
end
section
variable{P:Program}{i so ti tb gm:Nat}{z:List D}{st:TT i->Int}{metf:TT i->List (TT i)->Option Bool}
variable{B:Nat}{lb:Array Value}{J:Nat->(Nat->Prop)->(Nat->Prop)->World->Prop}{Jx:(Nat->Prop)->(Nat->Prop)->World->Prop}{l:List (TT i)}{ly:Nat}{pv:Value}
theorem Im:∀(cs:List CC)(x:aI cs),(sR cs x).all TC.scalar=true:=by
 intro cs;induction cs with
 |nil=>intro x;rfl
 |cons c cs ih=>intro x;simp only[sR,List.all_cons,ih,JX];cases c <;> rfl
def zN(J:Nat->(Nat->Prop)->(Nat->Prop)->World->Prop)(Jx:(Nat->Prop)->(Nat->Prop)->World->Prop)(m:Nat):Exit->Act->World->Prop:=λe a W=>(e=.normal∨e=.ret)/\a.defers=[]/\∃F U,J m F U W∨Jx F U W
def YC{T:Type}(st:T->Int)(met:T->Option Bool)(l:List T):Option (List T):=match Nat.ble l.length 1000000 with | true=>GK st met l | false=>none
theorem JZ (cW:P.follows .mixedOrders=true) (hz:z.length=ar i) (bh:∀a,(enc i a)[so]? = some (.lit (.int .i64 (st a))))
  (af:∀x y:Int,gh P .lss ti (.tmp 7) (.tmp 6) (.int .i64 x) (.int .i64 y)=some (.bool (decide (x<y))))
  (bi:∀x:Int,gh P .eql ti (.tmp 12) (.const (.int .i64 1)) (.int .i64 x) (.int .i64 1)=some (.bool (x == 1)))
  (ak:∀x:Int,gh P .add ti (.tmp 7) (.const (.int .i64 1)) (.int .i64 x) (.int .i64 1)=some (.int .i64 (IntKind.i64.wrap (x+1)))) (an:∀b:Bool,eB P (Op.unary .not (.bool b))=some (.bool (!b)))
  (hm:bj P gm ⟨[.st i,.c (.sl i)],[.c .bool],fun a=>metf a.1 a.2.1⟩)
  (T:∀k,ua B (J k)) (bk:ua B Jx) (da:l.length≤1000000) {r:List (TT i)} (ax:∀k F U W,J k F U W→YG F W [[.ca false (l.map (enc i))]] lb) (bl:lb[0]? = some pv)
  (R:∀k ds F U W vs,(r.map fun a=>[ST (enc i a)])[k]? = some ds→J k F U W→Yg F W ds vs →
   YieldAt Fence.wide 0 P ly vs W fun e W'=>∃F' U',Kept F U W F' U' W'∧((e=.returned (.bool true)∧J (k+1) F' U' W')∨(e=.returned (.bool false)∧Jx F' U' W')))
  {cb:Code} (bt:bg P cb=some (ZM (ar i) so ti tb gm z)):∀(m k it:Nat) (q:List (TT i)) (F U:Nat→Prop) (W:World) (u:Act),k+m=l.length→GK st (fun x=>metf x l) (l.drop k)=some q→r.drop it=q→it≤r.length→J it F U W →
   dP 26 [] (fun _=>none) F W (kI i l (.func (.yield ly) #[] #[]) pv k) u.tmps→u.defers=[]→Code.roundsIn Fence.wide 0 P cb (Exit.inBlock 0 (zN J Jx r.length)) (m+1) u W:=by
 obtain ⟨c1,r1,rfl,h1,bu⟩:=tu bt
 obtain ⟨c2,r2,rfl,h2,bv⟩:=tu bu
 obtain ⟨c3,c4,rfl,h3,h4⟩:=tu bv
 obtain ⟨x8,db,dc,rfl,bw,b0,b1⟩:=JI h2
 obtain ⟨j2,dd,rfl,df,b2⟩:=DU h3
 obtain ⟨d2,r3,rfl,b3,b4⟩:=tu b2
 obtain ⟨d3,d4,rfl,b5,b6⟩:=tu b4
 obtain ⟨di,dl,dp,rfl,a0,b7,b8⟩:=JI b6
 have:=Jz b0
 subst this
 have:=TQ (i:=0) b1
 subst this
 have:=Wx b7
 subst this
 have:=Jz b8
 subst this
 have tm:∀(x:Operand) (t:Nat),bB x=some (.t t)→x=.tmp t:=fun x t hx=>by
  cases x <;> simp [bB] at hx
  rw [hx]
 have:=tm _ _ bw
 subst this
 have:=tm _ _ a0
 subst this
 have ev:∀{al:AL} {σ:ae} {M:Nat→Option Nat} {F:Nat→Prop} {W:World} {a:Act} {t:Nat} {b:Bool},dP 26 σ M F W al a.tmps→lk t al=some (Abs.B b)→a.eval (.tmp t)=.bool b:=fun {al σ M F W a t b} A h=>by
  obtain ⟨v,g1,g2⟩:=A.2 t _ h
  have:=g2.bI
  subst this
  simp [Act.eval,g1]
 have O:lP P (fun _=>zM []):=fun _=>kS fun p hp=>by simp at hp
 intro m
 induction m with
 | zero =>
  intro k it q F U W u hk o K Hb L A aa
  rw [roundsIn_succ]
  refine wpIn_seq (kP h1 fun ops hs g E=>?_)
  show wpOpsIn Fence.wide 0 P ops _ (List.range' 0 (Vp ti).length++[]) u W
  refine dH O E PW (fun j ao L=>by rw [GA]; exact g j ao L) ?_ ((T _).rel _ _ _ L) A
  refine bK.op (dv (v:=.bool (decide ((k:Int)<l.length))) rfl rfl rfl rfl (af _ _) rfl) fG rfl (bK.nil ?_)
  intro a1 W1 M1 F1 ab R1 A1 E1
  obtain ⟨j1,_⟩:=(T it).step L (fun b c h=>by simp at h) E1 R1
  refine ⟨wpIn_seq (wpIn_cond_false (by rw [ev A1 rfl]; simp; omega) (wpIn_exit ?_)),by simp⟩
  have b9:q=[]:=by
   have:l.drop k=[]:=yB1 (by omega)
   rw [this] at o
   simpa [GK] using o.symm
  subst b9
  have a6:it=r.length:=by
   have:=M_ List.length K
   simp at this
   omega
  show Exit.inBlock 0 (zN J Jx r.length) (.exit 0) a1 W1
  simp only [Exit.inBlock,if_true]
  exact ⟨.inl rfl,by rw [ab,aa],_,_,.inl (by rw [←a6]; exact j1)⟩
 | succ m ih =>
  intro k it q F U W u hk o K Hb L A aa
  have cg:k<l.length:=by omega
  have ch:l.drop k=l[k]::l.drop (k+1):=yB4 cg
  rw [ch] at o
  generalize ha:l[k]=a at o
  rw [roundsIn_succ]
  refine wpIn_seq (kP h1 fun ops hs g E=>?_)
  show wpOpsIn Fence.wide 0 P ops _ (List.range' 0 (Vp ti).length++[]) u W
  refine dH O E PW (fun j ao L=>by rw [GA]; exact g j ao L) ?_ ((T _).rel _ _ _ L) A
  refine bK.op (dv (v:=.bool (decide ((k:Int)<l.length))) rfl rfl rfl rfl (af _ _) rfl) fG rfl (bK.nil ?_)
  intro a1 W1 M1 F1 ab R1 A1 E1
  obtain ⟨j1,o1⟩:=(T it).step L (fun b c h=>by simp at h) E1 R1
  refine ⟨wpIn_seq (wpIn_cond_true (by rw [ev A1 rfl]; simp; omega) (wpIn_skip ?_)),by simp⟩
  refine wpIn_seq (wpIn_block (wpIn_seq (kP b3 fun ops hs g E=>?_)))
  show wpOpsIn Fence.wide 0 P ops _ (List.range' 0 (ZY (ar i) z).length++[]) a1 W1
  refine dH O E PW (fun j ao L=>by rw [GA]; exact g j ao L) ?_ R1 A1
  have ck:aB l (k:Int)=some a:=by
   unfold aB
   rw [if_pos ⟨by omega,by omega⟩]
   simp [←ha]
  have G:((enc i a).map D.c).length=ar i:=by rw [ql,pz]
  have a7:rD (some (ar i)) ((enc i a).map D.c) 0=some (ST (enc i a)):=xj G
  have cm:(ST (enc i a)).cells? = some ((enc i a).map D.c):=by
   obtain ⟨h1,_⟩:=ol (v:=.agg (exp i a)) (xs:=exp i a) (by simp only [dW,exp,Im]) (cI.AQ (.st i) a)
   rw [sC] at h1
   exact h1
  have a8:put z 0 ((enc i a).map D.c)=(enc i a).map D.c:=by
   unfold put
   simp [G,hz]
  refine bK.op (TP (l:=l) (f:=enc i) (k:=(k:Int)) rfl rfl ck (pz i a)) fG rfl (bK.op (Aq rfl a7) fG rfl (bK.op (IZ (d1:=.ptr 0 0 (ar i)) (by rw [hz]; rfl) rfl) fG rfl (bK.eff (AU (cs:=z) (xs:=(enc i a).map D.c) rfl (KY rfl hz) rfl cm ⟨G,by omega⟩ (show _=[Ob.cells ((enc i a).map D.c)] by rw [a8]; rfl)) fG rfl (bK.nil ?_))))
  intro a2 W2 M2 F2 a9 R2 A2 E2
  obtain ⟨co,o2⟩:=(T it).step j1 o1 E2 R2
  refine ⟨wpIn_seq (XF (k:=(k:Int)) (st:=st) (metf:=metf) (items:=r.map fun a=>[ST (enc i a)]) cW bh bi an hm T bk ax bl R b5 R2 (A2.lks fun t d ht=>?_) (by rw [a9,ab,aa]) co o2 (fun N=>?_) fun b cp cv=>?_),by simp⟩
  ·have:=kH ht
   simp only [kI,eU,Hj,Hg,aM] at this
   rcases this with ⟨rfl,rfl⟩ | ⟨rfl,rfl⟩ | ⟨rfl,rfl⟩ | ⟨rfl,rfl⟩ | ⟨rfl,rfl⟩ | ⟨rfl,rfl⟩ <;> rfl
  ·simp only [GK,N,yCa,if_true] at o
   cases bb:metf a l with
   | none=>rw [bb] at o; simp at o
   | some b =>
    refine ⟨b,rfl,fun hb=>?_⟩
    rw [bb] at o
    simp only [Option.bind_some] at o
    obtain ⟨Z,bc,e⟩:=b_.1 o
    simp only [hb,if_true,aj] at e
    have:r[it]? = some a:=by
     have:=M_ (fun l:List (TT i)=>l[0]?) K
     rw [←e] at this
     simpa using this
    simp [this]
  ·
   intro F' U' W' A' b' bd AA c0
   rcases c0 with ⟨rfl,S⟩ | ⟨rfl,S⟩
   ·
    refine wpIn_cond_false (ev AA rfl) (wpIn_skip ?_)
    show Exit.inBlock j2 (Exit.then (c4.wpIn Fence.wide 0 P _) _) .normal A' W'
    show c4.wpIn Fence.wide 0 P _ A' W'
    refine kP h4 fun ops hs g E=>?_
    show wpOpsIn Fence.wide 0 P ops _ (List.range' 0 (able4 ti).length++[]) A' W'
    refine dH O E PW (fun j ao L=>by rw [GA]; exact g j ao L) ?_ ((T _).rel _ _ _ S) AA
    have c5:IntKind.i64.wrap ((k:Int)+1)=(k:Int)+1:=by
     rw [IntKind.wrap_i64]; omega
    refine bK.op (dv (v:=.int .i64 (IntKind.i64.wrap ((k:Int)+1))) rfl rfl rfl rfl (ak _) rfl) fG rfl (bK.op (xD rfl) fG rfl (bK.nil ?_))
    intro a5 W5 M5 F5 c6 R5 A5 E5
    obtain ⟨j5,_⟩:=(T _).step S (fun b c h=>by simp at h) E5 R5
    have A6:dP 26 [] (fun _=>none) F5 W5 (kI i l (.func (.yield ly) #[] #[]) pv ((k+1:Nat):Int)) a5.tmps:=by
     refine A5.data fun t d ht=>?_
     have:=kH ht
     simp only [kI,eU,Hj,Hg,aM] at this
     rcases this with ⟨rfl,rfl⟩ | ⟨rfl,rfl⟩ | ⟨rfl,rfl⟩ | ⟨rfl,rfl⟩ | ⟨rfl,rfl⟩
     ·refine ⟨?_,rfl⟩
      show some (D.c (C.lit (.int .i64 (IntKind.i64.wrap ((k:Int)+1)))))=_
      rw [c5]
      rfl
     all_goals exact ⟨rfl,rfl⟩
    refine ⟨?_,by simp⟩
    show Code.roundsIn Fence.wide 0 P _ _ (m+1) a5 W5
    have ad:∃Z,GK st (fun x=>metf x l) (l.drop (k+1))=some Z∧r.drop (if b=true then it+1 else it)=Z∧(if b=true then it+1 else it)≤r.length:=by
     by_cases N:st a=1
     ·simp only [GK,N,yCa,if_true] at o
      rw [cp N] at o
      simp only [Option.bind_some] at o
      obtain ⟨Z,bc,e⟩:=b_.1 o
      refine ⟨Z,bc,?_⟩
      cases b with
      | true =>
       simp only [if_true,aj] at e ⊢
       have h0:r.drop it=a::Z:=by rw [K,e]
       have be:it<r.length:=by
        have:=M_ List.length h0
        simp at this
        omega
       refine ⟨?_,be⟩
       have:=M_ (List.drop 1) h0
       simpa using this
      | false =>
       simp only [bA,bT,aj] at e ⊢
       exact ⟨by rw [K,e],Hb⟩
     ·have hf:(st a == 1)=false:=by simpa using N
      simp only [GK,hf,bA,bT] at o
      have:=cv N
      subst this
      exact ⟨q,o,by simpa using K,by simpa using Hb⟩
    obtain ⟨Z,c7,c8,c9⟩:=ad
    exact ih (k+1) _ Z F5 _ W5 a5 (by omega) c7 c8 c9 j5 A6 (by rw [c6,bd])
   ·
    refine wpIn_cond_true (ev AA rfl) (wpIn_ret ?_)
    show zN J Jx r.length .ret A' W'
    exact ⟨.inr rfl,bd,_,_,.inr S⟩
theorem Xz{g:Nat}{fn:Func}{met:TT i->List (TT i)->Option Bool}(cW:P.follows .mixedOrders=true)(hg:P.funcs[g]? = some fn)(E:fX P fn true=some (ZW (ar i) so ti tb gm z))(hm:bj P gm ⟨[.st i,.c (.sl i)],[.c .bool],λa=>met a.1 a.2.1⟩)(hz:z.length=ar i)(ad:∀a,(enc i a)[so]? = some (.lit (.int .i64 (st a))))
  (af:∀x y:Int,gh P .lss ti (.tmp 7) (.tmp 6) (.int .i64 x) (.int .i64 y)=some (.bool (decide (x<y))))
  (ak:∀x:Int,gh P .eql ti (.tmp 12) (.const (.int .i64 1)) (.int .i64 x) (.int .i64 1)=some (.bool (x == 1)))
  (K:∀x:Int,gh P .add ti (.tmp 7) (.const (.int .i64 1)) (.int .i64 x) (.int .i64 1)=some (.int .i64 (IntKind.i64.wrap (x+1)))) (L:∀b:Bool,eB P (Op.unary .not (.bool b))=some (.bool (!b))) :
  SM P g ⟨[.c (.sl i)],[.c (.sl i)],λa=>YC st (λx=>met x a.1) a.1⟩:=by
 intro l r N;change YC st (λx=>met x l) l=some r at N;unfold YC at N;split at N
 rotate_left
 ·simp at N
 rename_i k;have k:=zE k;unfold fX at E;split at E
 rotate_left
 ·simp at E
 rename_i c hb;split at E
 rotate_left
 ·simp at E
 rename_i ac rs an ax;simp only[ZW,aj,jE.mk.injEq] at E;obtain ⟨_,a0,rfl,rfl,_⟩:=E;intro ly B lb J Jx W F U hJ R q m h0;obtain ⟨o,a2⟩:=q 0 F U W h0;have o:lb.size=1:=o;obtain ⟨pv,G⟩:∃pv,lb[0]? = some pv:=⟨_,oF (by omega)⟩;obtain ⟨c',a5,bi,T,hh,hl,hx⟩:=a2 0 _ pv rfl G;refine callsIn_wide.1 (callsIn_of_wp_marks (F:=Fence.wide) (n:=0) hg hb trivial ?_ rfl);refine wpIn_mono (Q:=zN J Jx r.length) ?_ λe a W' S=>?_
 rotate_left
 ·obtain ⟨he,hd,F',U',Z⟩:=S;have R':Rel [] (λ_=>none) F' W':=Z.elim (λh=>(hJ _).rel _ _ _ h) λh=>R.rel _ _ _ h;have E':cR [] (λ_=>none) F' W' (List.replicate a.tmps.size D.any) a.tmps:=⟨by simp,λi d v g1 g2=>by
   have:d=.any:=by rw[List.getElem?_replicate] at g1;split at g1 <;> simp_all
   subst this;exact .any v⟩
  obtain ⟨v,hv,_⟩:=ig (P:=P) (a:=a) R' E' ax (ds:=[]) rfl;have fin:LeavesInM Fence.wide 0 P fn a.tmps (λe W'=>(∃v,e=.returned v)/\∃F' U',J (r.map λa=>[ST (enc i a)]).length F' U' W'∨Jx F' U' W') a.defers .returning W':=by rw[hd];exact ⟨v,hv,⟨v,rfl⟩,F',U',by rw[ql];exact Z⟩
  rcases he with rfl | rfl
  ·exact fin
  ·exact fin
 obtain ⟨c0,bk,rfl,a6,aa⟩:=tu an;obtain ⟨j0,cl,rfl,bl,a7⟩:=DU aa;obtain ⟨cb,rfl,a8⟩:=UJ a7;have:j0=0:=by omega
 subst this;have O:lP P (λ_=>zM []):=λ_=>kS λp hp=>by simp at hp
 have R0:=(hJ 0).rel _ _ _ h0;have A0:dP 26 [] (λ_=>none) F W [(0,.c (.lit (.func (.yield ly) #[] #[]))),(1,.c (.lit pv))] ((#[Value.func (.yield ly) #[] #[]]++lb)++Array.replicate (fn.ntmps-(#[Value.func (.yield ly) #[] #[]]++lb).size) undef):=by
  refine ⟨by simp[o,a0],λt d ht=>?_⟩;have:=kH ht;simp only[eU,Hj,Hg,aM] at this;rcases this with ⟨rfl,rfl⟩ | ⟨rfl,rfl⟩
  ·refine ⟨_,?_,.c (.lit _)⟩;rw[ZX (by simp;omega),ZX (by simp)];rfl
  ·refine ⟨pv,?_,.c (.lit _)⟩;rw[ZX (by simp[o]),xAo (by simp)];simpa using G
 refine wpIn_seq (kP a6 λops hs A a9=>?_);obtain ⟨o0,bb,ab⟩:=A 0 _ rfl;obtain ⟨v1,bc,bd⟩:=A0.2 1 _ rfl;have:=bd.bI;subst this;subst a5;show wpOpsIn Fence.wide 0 P ops _ (0::(List.range' 1 2++[])) _ W;refine Dk bb ab R0.gl A0.cK.1 rfl bc hh (by simpa using hl) (λu hu=>hx 0 _ u rfl hu) λv hv=>?_;have A1:=dP.put (a:={ tmps:=(#[Value.func (.yield ly) #[] #[]]++lb)++Array.replicate (fn.ntmps-(#[Value.func (.yield ly) #[] #[]]++lb).size) undef,defers:=[] }) A0 (t:=5) (d:=.c (.ca false (l.map (enc i)))) (by omega) (.c hv);refine dH (os:=[⟨some 6,.len (.t 5),none⟩,⟨some 7,.xQ (.k (.c (.lit (.int .i64 0)))),none⟩]) O a9 PW (yc A λj hj=>?_) ?_ R0 A1
 ·have:j=0∨j=1:=by simp at hj;omega
  rcases this with rfl | rfl <;> rfl
 refine bK.op (Tk (l:=l) (f:=enc i) rfl) fG rfl (bK.op (xD rfl) fG rfl (bK.nil ?_));intro a1 W1 M1 F1 be R1 bh E1;obtain ⟨j1,_⟩:=(hJ 0).step h0 (λb c h=>by simp at h) E1 R1;refine ⟨?_,by simp⟩;show (Code.block 0 (Code.loop cb)).wpIn Fence.wide 0 P _ a1 W1;refine wpIn_block (wpIn_loop_rounds (l.length+1) (JZ (metf:=met) (hm:=hm) cW hz ad af ak K L hJ R k q G m a8 l.length 0 0 r F1 _ W1 a1 (by omega) (by simpa using N) rfl (KZ _) j1 (bh.data λt d ht=>?_) (by rw[be];rfl)));have:=kH ht;simp only[kI,eU,Hj,Hg,aM] at this;rcases this with ⟨rfl,rfl⟩ | ⟨rfl,rfl⟩ | ⟨rfl,rfl⟩ | ⟨rfl,rfl⟩ | ⟨rfl,rfl⟩ <;> exact ⟨rfl,rfl⟩
end
end
end Go.Abs
end
