/- DfwPs, DfwPt, DfwRl, DfwPu, DfwPv, DfwPz, DfwPy, DfwKy, DfwDl, DfwAb, DfwAd, DfwAe, DfwRw -/
import Derived.Test.YtmaocdlpgdadnaaGreatFwF
import Derived.Test.YtmaocdlpgdadnaaGreatFwC
import Derived.Test.YtmaocdlpgdadnaaGreatFwB
import Derived.Lib.SlKeysI
import Derived.KernelRfl
set_option linter.all false
section
namespace Go.Abs
noncomputable section
variable[Gl][Y:Ty]
variable{σ σ1 F:TH}{σD σ1D:aa}{s:MS}{ct:CT}
theorem pN.er{x y:TB}(h:pN x y):y.er=x.er:=by rcases h with ⟨i,l,A,E,o,u,rfl,rfl⟩ | ⟨j,st,l,v,G,rfl,rfl⟩ <;> rfl
theorem BD{j:Nat}{st:Bool}:∀(l:List (Int×TT j))(i:Nat),((ud (Fg j st) i l).all λe=>e.2.1.low 0)=true:=by
 intro l;induction l with
 |nil=>intro i;rfl
 |cons p l ih=>
  intro i;obtain ⟨k,a⟩:=p;simp only[ud,List.all_cons,ih,EP];unfold Fg;split
  ·have:∀d:List C,D.low.bM 0 (d.map .c)=true:=by
    intro d;induction d with
    |nil=>rfl
    |cons c d ih=>simp only[mb,D.low.bM,D.low,ih,EP]
   exact this _
  ·rfl
theorem ar.AY{α u:Type}{R:α->u->Prop}:∀{l:List α}{o:List u},l.length=o.length->(∀(j:Nat) a b,l[j]? = some a->o[j]? = some b->R a b)->ar R l o:=by
 intro l;induction l with
 |nil=>
  intro o h _;cases o with
  |nil=>exact .nil
  |cons _ _=>simp at h
 |cons a l ih=>
  intro o h A;cases o with
  |nil=>simp at h
  |cons b o=>exact .cons (A 0 a b rfl rfl) (ih (by simp_all) λj x y E G=>A (j+1) x y E G)
theorem ar.map{α j o u:Type}{R:o->u->Prop}{f:α->o}{g:j->u}{A:α->j->Prop}(h:∀a b,A a b->R (f a) (g b)){l:List α}{E:List j}(a:ar A l E):ar R (l.map f) (E.map g):=by
 induction a with
 |nil=>exact .nil
 |cons x _ ih=>exact .cons (h _ _ x) ih
theorem GC.low{x:TC}(g:GC σ x):x.er.low σ.length=true:=by
 cases x with
 |own i c v n=>
  obtain ⟨blk,j,_⟩:=g;simp only[TC.er,D.low,aM]
  grind
 |op i c v n k a off=>
  obtain ⟨blk,j,_⟩:=g;simp only[TC.er,D.low,aM]
  grind
 |os i c v n o len=>
  obtain ⟨blk,j,_⟩:=g;simp only[TC.er,D.low,aM]
  grind
 |ap c off len sz k=>simp only[TC.er,D.low,aM];exact g
 |d x=>exact g
 |zq f u=>exact uH g
 |_=>rfl
def fj(m:Nat)(s:MS)(b:Nat):Nat:=if b<m then b else (kT b s.ρ).getD 0
theorem Bd.Dq{m b o:Nat}(h:Bd m s b o):fj m s b=o:=by
 rcases h with ⟨u,j⟩ | ⟨u,j⟩
 ·rw[fj,if_pos u,j]
 ·rw[fj,if_neg (by omega),j];rfl
def BF(σ σ1 σs F:TH)(s:MS)(i:Nat):Prop:=∃x y,σ1[fj σ.length s i]? = some x/\F[i]? = some y /\
 ((∃w e g d,x=.cells w e/\y=.cells g d/\ar (λa b=>CM σ.length σ1 σs s a b∨(a=b/\GC σ a)) (e.map Prod.snd) (d.map Prod.snd))∨pN x y)
structure MX (σ σ1 σs F:TH) (s:MS) (n:Nat):Prop where
 len:F.length=σ.length+n
 HA:σs.length=F.length
 sr:SR σs F
 bf:∀i,i<F.length->BF σ σ1 σs F s i
 mi:MI σ.length σ1 s
 nd:sC (s.ρ.map Prod.snd)=true
 fz:∀b∈s.fz,σ.length<=b/\b∉s.ρ.map Prod.snd
 kn:∀i,σ.length<=i->i<F.length->∃b',kT i s.ρ=some b'
theorem px{i o:Nat}:∀{l:List (Nat×Nat)},kT i l=some o->(i,o)∈l:=by
 intro l;induction l with
 |nil=>grind [kT]
 |cons p l ih=>grind [kT,Nat.eq_of_beq_eq_true]
theorem LM:∀{l:List (Nat×Nat)},sC (l.map Prod.snd)=true->∀i j o,(i,o)∈l->(j,o)∈l->i=j:=by
 intro l;induction l with
 |nil=>simp_all
 |cons p l ih=>
  intro h i j o d e;simp only[mb,sC,aU,fJ,yBY] at h;have no:∀k,(k,p.2)∈l->False:=λk hk=>h.1 p.2 (gZ.2 ⟨_,hk,rfl⟩) (Nat.beq_refl _)
  grind
section
variable{σs:TH}{n:Nat}(X:MX σ σ1 σs F s n)(H1:RH σ1 σ1D)
include X H1
theorem MX.rn:Rn σ.length σ1D (F.map TB.er) (fj σ.length s) (λb=>b∈s.fz):={
 le:=by grind [MX.len]
 id:=λi u=>by rw[fj,if_pos u]
 inj:=λi j u G e=>by
  rw[vN] at u G;unfold fj at e;split at e
  ·rename_i h1;split at e
   ·exact e
   ·rename_i h2;obtain ⟨o,A⟩:=X.kn j (by omega) G;rw[A] at e;have:=(X.mi.ge _ (px A)).2
    grind
  ·rename_i h1;obtain ⟨o,A⟩:=X.kn i (by omega) u;split at e
   ·rw[A] at e;have:=(X.mi.ge _ (px A)).2
    grind
   ·obtain ⟨R,E⟩:=X.kn j (by omega) G;rw[A,E] at e;simp only[Option.getD_some] at e;subst e;exact LM X.nd i j o (px A) (px E)
 fr:=λi u L=>by
  rw[vN] at u;obtain ⟨h1,h2⟩:=X.fz _ L;unfold fj at h1 h2;split at h1
  ·omega
  ·rename_i K;rw[if_neg K] at h2;obtain ⟨o,A⟩:=X.kn i (by omega) u;rw[A] at h2;exact h2 (gZ.2 ⟨_,px A,rfl⟩)
 row:=λb O=>by obtain ⟨i,l,U,Z,h⟩:=X.mi.fz b O;exact ⟨i,l,H1.row h⟩
 sz:=λi u=>by
  rw[vN] at u;obtain ⟨x,y,h1,h2,h3⟩:=X.bf i u;refine ⟨x.er,y.er,by rw[H1.Xt,gT,h1];rfl,by simp_all,?_⟩
  grind [ar.len,List.length_map,TB.er,Ob.sz,pN.er] }
theorem MX.cell{x y:TC}(c:CM σ.length σ1 σs s x y):b_ σ1D (F.map TB.er) (fj σ.length s) (λb=>b∈s.fz) x.er y.er:=by
 have N:=X.rn H1;rcases c with ⟨c1,c2,_⟩ | ⟨i,b,v,l,U,rfl,o,A,u⟩ | ⟨i,b,E,v,l0,ad,j,lv,l,U,rfl,o,A,rfl,h5⟩ | ⟨b,E,off,sz,rfl,o,rfl,u⟩ | ⟨b,E,rfl,o,rfl,u⟩ | ⟨f,b,E,sz,rfl,o,rfl,u⟩
 ·grind [b_.le,b_.data]
 ·rw[u];exact b_.bG N o (H1.row A)
 ·have Z:=X.sr.row b j l lv U h5;have G:=(dT.1 Z).1;obtain ⟨x,y,K,L,O⟩:=X.bf b G;have q:=o.Dq;subst q;rw[A] at K;rw[Z] at L;simp only[ab] at K L;subst K L;rcases O with ⟨w,cs,w',af,e,_⟩ | O
  ·simp at e
  ·rcases O with ⟨i',l',_,_,_,_,R,e5⟩ | ⟨_,_,_,_,_,R,_⟩
   ·simp only[TB.row.injEq] at R e5;obtain ⟨rfl,e6,_,_⟩:=R;obtain ⟨rfl,e7,_,_⟩:=e5;cases e6;cases e7;exact b_.sl N (by simp_all)
   simp_all
 ·have:=b_.ptr (F:=λb=>b∈s.fz) N (i:=b) (off:=off) (sz:=sz) (by grind [MX.HA]);rw[o.Dq] at this;exact this
 ·have:=b_.mp (F:=λb=>b∈s.fz) N (i:=b) (by grind [MX.HA]);rw[o.Dq] at this;exact this
 ·have:=b_.ptr (F:=λb=>b∈s.fz) N (i:=b) (off:=0) (sz:=sz) (by grind [MX.HA]);rw[o.Dq] at this;exact b_.fn1 this
theorem MX.rnH:IS σ.length σ1D (F.map TB.er) (fj σ.length s) (λb=>b∈s.fz):={
 toRn:=X.rn H1
 ob:=λi E=>by
  rw[vN] at E;obtain ⟨x,y,h1,h2,G⟩:=X.bf i E;refine ⟨x.er,y.er,by rw[H1.Xt,gT,h1];rfl,by simp_all,?_⟩;rcases G with ⟨w,U,Z,K,rfl,rfl,o⟩ | o
  ·refine ⟨_,rfl,?_⟩;have:=ar.map (R:=b_ σ1D (F.map TB.er) (fj σ.length s) (λb=>b∈s.fz)) (f:=TC.er) (g:=TC.er) (λa b h=>?_) o
   ·rw[PE,PE] at this;exact this
   ·rcases h with h | ⟨rfl,h⟩
    ·exact X.cell H1 h
    ·exact b_.low (X.rn H1) h.low
  ·rw[o.er];rcases o with ⟨j,l,lv,cv,L,O,rfl,rfl⟩ | ⟨j,st,l,v,v',rfl,rfl⟩
   ·refine ⟨_,rfl,ar.AY rfl λk a b u A=>?_⟩;rw[u] at A;simp only[ab] at A;subst A;rw[gT,bq] at u;obtain ⟨c,_,rfl⟩:=u;exact b_.data (X.rn H1) rfl
   ·exact ⟨rfl,BD l 0⟩ }
theorem MX.val{v y:TV}{d:D}(h:VM σ.length σ1 σs s v y)(o:RT v d):b_ σ1D (F.map TB.er) (fj σ.length s) (λb=>b∈s.fz) d (eD y):=by
 have cell:∀{x y:TC}{d:D},CM σ.length σ1 σs s x y->RC x d->b_ σ1D (F.map TB.er) (fj σ.length s) (λb=>b∈s.fz) d y.er:=λ{x y d} c r=>by
  rcases r with rfl | rfl
  ·exact b_.le (λ_ _ _ _ _ _=>.any _) (X.cell H1 c)
  ·exact X.cell H1 c
 cases v with
 |c x => cases y with
  |c y=>exact cell h o
  |_=>exact h.elim
 |agg A => cases y with
  |agg O=>
   obtain ⟨ds,rfl,o⟩:=o;refine b_.agg (ar.AY ?_ λj a b E u=>?_)
   ·rw[<-o.len,vN];exact ar.len h
   ·rw[gT,bq] at u;obtain ⟨y,G,rfl⟩:=u;obtain ⟨x,R,U⟩:=ar.get' h j y G;obtain ⟨Z,K,L⟩:=o.get' j a E
    grind
  |_=>exact h.elim
 |aB A=>exact h.elim
theorem MX.valL{vs o:List TV}{ds:List D}(h:ar (VM σ.length σ1 σs s) vs o)(j:dP vs ds):ar (b_ σ1D (F.map TB.er) (fj σ.length s) (λb=>b∈s.fz)) ds (o.map eD):=by
 induction h generalizing ds with
 |nil=>cases j;exact .nil
 |cons h _ ih=>
  cases j with
  |cons r j=>exact .cons (X.val H1 h r) (ih j)
theorem MX.vals{vs o:List TV}{ds:List D}(h:ar (VM σ.length σ1 σs s) vs o)(u:dP vs ds):b_ σ1D (F.map TB.er) (fj σ.length s) (λb=>b∈s.fz) (one ds) (one (o.map eD)):=by
 have j:ar (b_ σ1D (F.map TB.er) (fj σ.length s) (λb=>b∈s.fz)) ds (o.map eD):=by
  induction h generalizing ds with
  |nil=>cases u;exact .nil
  |cons h _ ih=>
   cases u with
   |cons r u=>exact .cons (X.val H1 h r) (ih u)
 generalize o.map eD=es at j ⊢;cases j with
 |nil=>exact b_.aB .nil
 |cons h r=>
  cases r with
  |nil=>exact h
  |cons x r=>exact b_.aB (.cons h (.cons x r))
end
end
end Go.Abs
end
section
namespace Go.Abs
noncomputable section
variable[Gl][Y:Ty]
variable{σ σ1 F:TH}{σD σ1D:aa}{ct:CT}
theorem Tk{b:Nat}{ps:List PC}(h:∀p∈ps,p.rw=true->p.blk≠b):Ul (ps.map PC.pl) b/\notM (ps.map PC.pl) b:=by
 refine ⟨λi d=>?_,λj st d=>?_⟩
 ·rw[gZ] at d;obtain ⟨p,g,e⟩:=d;cases p with
  |w k o=>simp only[PC.pl,Pl.w.injEq] at e;exact h _ g rfl e.1
  |h=>grind [PC.pl]
  |m=>grind [PC.pl]
 ·rw[gZ] at d;obtain ⟨p,g,e⟩:=d;cases p with
  |m k o=>simp only[PC.pl,Pl.m.injEq] at e;exact h _ g rfl e.1
  |h=>grind [PC.pl]
  |w=>grind [PC.pl]
theorem T_{b j:Nat}{ps:List PC}(h:∀p,PC.h b j p∉ps):RP (ps.map PC.pl) b j:=by
 intro c d;rw[gZ] at d;obtain ⟨p,g,e⟩:=d;cases p with
 |h k o q=>grind [PC.pl]
 |w=>grind [PC.pl]
 |m=>grind [PC.pl]
theorem UL{rs rv:List TV}{x:dm ct.items}{ds:List g_}{s1 s2 s:MS}(hs:cW (ct.pl.map PC.pl) 0 σ σ1=true)(h1:BR σ.length σ1 ct.out rs ⟨[],[],[],[]⟩=some s1)(h2:zZ σ.length σ σ1 ct.pl s1=some s2)(h3:yo σ.length σ1 σ.length ct.nb s2=some s)
  (T:(sC (s.ρ.map Prod.snd)&&(s.fz.all (λb=>Nat.ble σ.length b&&!((s.ρ.map Prod.snd).any (Nat.beq b)))&&s.ρ.all λp=>Nat.blt p.1 (σ.length+ct.nb.length)))=true) (h:pI ct.items (s.rw++s.cl)=some x)
  (L:Laid ct σ ds rv F) (a0:ff ct.items x=ds) (H:RH σ σD) (H1:RH σ1 σ1D) (E:Ext σ σ1) (g:∀v∈rs,GV σ1 v) :
  ∃σs,MX σ σ1 σs F s ct.nb.length/\ar (VM σ.length σ1 σs s) rs rv:=by
 simp only[aU,eG] at T;obtain ⟨a6,a7,bh⟩:=T;have hS:=PN H hs E;have hg:∀(b:Nat) w d,σ1[b]? = some (.cells w d)->∀p∈d,GC σ1 p.2:=λb w d K p hp=>(H1.hg b w d K p hp).1;obtain ⟨La,a1,a2,a3,a4,a5⟩:=TF h1 g;obtain ⟨L2,Lb,b1,b2,b3,b4,b5,b6,b7⟩:=SJ hg h2;obtain ⟨L3,Lc,c1,c2,c3,c4,c5,c6⟩:=TJ hg h3;have hq:ds=L2++(L3++(La++(Lb++(Lc++[])))):=by grind [OH]
 clear a0;subst hq;have Ro:=eK L.h1 H;have C:=iI L.h4;have S:=L.sr;obtain ⟨n1,_,_⟩:=uB L.h5;obtain ⟨e1,r1⟩:=b6 σ _ _ _ L.h1;have q2:=L.h2;rw[e1] at q2;obtain ⟨e2,r2⟩:=c5 _ _ _ q2;have q3:=L.h3;rw[e2] at q3;obtain ⟨e3,r3⟩:=a5 _ _ _ _ q3;have q4:=L.h4;rw[e3] at q4;have hl:∀(b:Nat) w d w1 t,L.fG[b]? = some (.cells w d)->σ1[b]? = some (.cells w1 t)->d.length=t.length:=λb w d w1 t x y=>by
  obtain ⟨N,z,o⟩:=hS b _ ((Ro.cells b w d).2 x);obtain ⟨w2,a8,rfl,hl,_⟩:=o
  grind
 obtain ⟨e4,r4,r5⟩:=b7 _ _ _ _ _ q4 hl;have q5:=L.h5;rw[e4] at q5;have r6:=c6 _ _ _ _ q5;have a9:L.am.length=σ.length:=by rw[C.len,Ro.len]
 have ad:F.length=σ.length+ct.nb.length:=by grind [Laid.fl]
 have bc:∀k:Nat,F[σ.length+k]? = L.l[k]?:=λk=>by grind [Laid.fa]
 refine ⟨L.fG++L.nb,⟨ad,S.len.symm,S,λi hi=>?_,?_,a6,λb K=>?_,λi hi bi=>?_⟩,ar.mono (λ_ _=>VM.mono (b3.trans c3)) r3⟩
 ·rcases pY i σ.length with m | bd
  ·have af:fj σ.length s i=i:=by rw[fj,if_pos m]
   have K:=cE m;obtain ⟨N,x1,o⟩:=hS i _ K;unfold BF;rw[af];have rm:(∀w d,σ[i]≠.cells w d)->∃x y,σ1[i]? = some x/\F[i]? = some y/\pN x y:=λhn=>by
    rcases r1 i with ⟨O,t2⟩ | ⟨x,y,O,t2,U⟩
    ·have hr:L.fG[i]? = some σ[i]:=by grind
     have hF:F[i]? = some σ[i]:=by rw[L.lt H m];exact C.same i _ hr hn
     obtain ⟨nw,nm⟩:=Tk O;refine ⟨N,_,x1,hF,?_⟩;cases r:σ[i] with
     |cells w d=>grind
     |row i0 l lv cv=>rw[r] at o;obtain ⟨l1,bk,bl,rfl,o⟩:=o;obtain ⟨rfl,rfl,rfl⟩:=o nw;exact .inl ⟨_,_,_,_,_,_,rfl,rfl⟩
     |mp j st l v=>rw[r] at o;obtain ⟨j1,bt,l1,Z,rfl,o⟩:=o;have:=o nm;rw[this];exact .inr ⟨_,_,_,_,_,rfl,rfl⟩
    ·refine ⟨x,y,O,?_,U⟩;rw[L.lt H m];refine C.same i y t2 λw d e=>?_;subst e;rcases U with ⟨_,_,_,_,_,_,_,e⟩ | ⟨_,_,_,_,_,_,e⟩ <;> simp at e
   cases r:σ[i] with
   |row i0 l lv cv=>grind
   |mp j st l v=>grind
   |cells w d=>
    rw[r] at o K;obtain ⟨w1,t,rfl,l1,o⟩:=o;have hr:=(Ro.cells i w d).1 K;obtain ⟨w',be,O,t2⟩:=r5 i w d hr;obtain ⟨w2,a8,U,_,t4,_⟩:=C.Vg i w d hr;rw[O] at U;simp only[ab,TB.cells.injEq] at U;obtain ⟨rfl,rfl⟩:=U;refine ⟨_,_,x1,by rw[L.lt H m];exact O,.inl ⟨w1,t,w',be,rfl,rfl,ar.AY (by grind) λj a b ha u=>?_⟩⟩;rw[gT,bq] at ha u;obtain ⟨p,ha,rfl⟩:=ha;obtain ⟨q,u,rfl⟩:=u;by_cases ak:∃c,PC.h i j c∈ct.pl
    ·obtain ⟨c,T⟩:=ak;obtain ⟨w3,bu,w4,bv,x,y,u1,u2,u3,u4,u5⟩:=r4 i j c T;rw[x1] at u1;rw[O] at u2;simp only[ab,TB.cells.injEq] at u1 u2;obtain ⟨_,rfl⟩:=u1;obtain ⟨_,rfl⟩:=u2;rw[ha] at u3;rw[u] at u4;simp only[ab] at u3 u4;subst u3 u4;exact .inl (u5.mono c3)
    ·have ax:∀c,PC.h i j c∉ct.pl:=λc T=>ak ⟨c,T⟩;have hj:j<d.length:=by grind
     have h0:=cE hj;have Z:=o j _ p h0 ha (T_ ax);have v2:=t2 j ax;rw[u,h0] at v2;simp only[ab] at v2;refine .inr ⟨by grind,?_⟩;rw[Z];exact (H.hg i w d K _ (sT h0)).1
  ·obtain ⟨k,rfl⟩:=ZD bd;have hk:k<ct.nb.length:=by omega
   have R:=cE hk;obtain ⟨u1,u2⟩:=r6 k _ R;unfold BF;rw[bc];by_cases G:∃A,ct.nb[k]=.cells A
   ·obtain ⟨A,e⟩:=G;obtain ⟨b',w,d,ys,Z,v2,v3,v4⟩:=u1 A e;rw[fj,if_neg (by omega),Z];exact ⟨_,_,v2,v3,.inl ⟨w,d,0,ys,rfl,rfl,ar.mono (λ_ _ h=>.inl h) v4⟩⟩
   ·have hn:∀A,ct.nb[k]≠.cells A:=λA e=>G ⟨A,e⟩;obtain ⟨b',x,y,Z,v2,v3,v4⟩:=r2 k _ R hn;rw[fj,if_neg (by omega),Z,u2 hn]
    grind
 ·exact c4 (b4 (a4 ⟨by simp,by simp⟩))
 ·have:=a7 b K;simp only[aU,fJ,yBY] at this;exact ⟨wS this.1,λhm=>this.2 b hm (Nat.beq_refl b)⟩
 ·obtain ⟨k,rfl⟩:=ZD hi;have hk:k<ct.nb.length:=by omega
  have R:=cE hk;by_cases G:∃A,ct.nb[k]=.cells A
  ·obtain ⟨A,e⟩:=G
   grind
  grind
theorem Rl{rs e:List TV}{x:dm ct.items}{ds:List g_}(h:OY ct σ σ1 rs=some x)(L:Laid ct σ ds e F)(d:ff ct.items x=ds)(H:RH σ σD)(H1:RH σ1 σ1D)(E:Ext σ σ1)(g:∀v∈rs,GV σ1 v) :
  ∃s σs,MX σ σ1 σs F s ct.nb.length/\ar (VM σ.length σ1 σs s) rs e:=by
 unfold OY at h;split at h
 ·simp at h
 rename_i hs;split at h
 ·simp at h
 rename_i s1 j;split at h
 ·simp at h
 rename_i p k;split at h
 ·simp at h
 rename_i s m;split at h
 rotate_left
 ·simp at h
 rename_i o;exact ⟨s,UL hs j k m o h L d H H1 E g⟩
theorem Ow{σ σ1:TH}{rs:List TV}{ct:CT}{x:dm ct.items}:∀{cs:List CT}{y:mA cs},LI σ σ1 rs cs=some y->tu cs y=some ⟨ct,x⟩->OY ct σ σ1 rs=some x:=by
 intro cs;induction cs with
 |nil=>grind
 |cons c cs ih=>
  intro y h hs;cases cs with
  |nil=>
   simp only[LI] at h;simp only[tu,ab,Xa] at hs
   grind
  |cons d cs=>
   simp only[LI] at h;split at h
   ·rename_i a g;simp only[ab] at h;subst h;simp only[tu,ab,Xa] at hs
    grind
   ·split at h
    ·rename_i b e;simp only[ab] at h;subst h;exact ih (y:=b) e hs
    simp_all
theorem zip3{σ:TH}{vs:List TV}{ds:List D}(a:dP vs ds):(∀v∈vs,GV σ v)->∀(i t:Nat)(x:RV)(p:Nat),dt t (vA i vs)=some (x,p)->∃d v,x=.v v/\lk t (gP i ds)=some d/\RT v d/\GV σ v:=by
 induction a with
 |nil=>grind [vA,dt]
 |cons e _ ih=>
  intro g i t x p h;simp only[vA,dt] at h;simp only[gP,lk]
  grind
theorem dP.len{vs:List TV}{ds:List D}(a:dP vs ds):vs.length=ds.length:=by
 induction a with
 |nil=>rfl
 |cons _ _ ih=>simp[ih]
def bU.ok(P:Program)(B:bU):Prop:=∀(j:List CT)(o:FuncId)(u:List TV)(σ:TH)(y:mA j)(ct:CT)(x:dm ct.items)(A:List TV)(E:TH)(σD:aa)(ds:List D),B j o u σ=some y->tu j y=some ⟨ct,x⟩->pW ct σ x=some (A,E)->RH σ σD->dP u ds->(∀v∈u,GV σ v) ->
 aH P o=true/\Ok P o ds σD (one (A.map eD)) (E.map TB.er)
theorem bU.ok.inl{P:Program}{B:bU}(G:bU.ok P B)(S:ot)(H:List (Nat×Nat))(J:List (Nat×JH))(C:List (Nat×List CT))(n N:Nat)(X:FT)(K:yM):NL ⟨P,S,H,J,C,n,N,B,X,K⟩:=by
 intro O R U σ y ct x Z am σD ds h o j E u A;obtain ⟨h1,h2⟩:=G O R U σ y ct x Z am σD ds h o j E u A;obtain ⟨L⟩:=iV j;obtain ⟨k1,k2,k3,k4,k5,k6⟩:=L.all E
 grind
def FT.ok(P:Program)(X:FT):Prop:=∀(ct:CT)(u:FuncId)(x:List TV)(σ:TH)(A:List TV)(o:TH)(σD:aa)(ds:List D),X ct u x σ=some (A,o)->RH σ σD->dP x ds->(∀v∈x,GV σ v) ->
 aH P u=true/\∃r j,RH o j/\RT (tW A) r/\GV o (tW A)/\Ext σ o/\Ok P u ds σD r j/\(∀b,b<σD.length->j[b]? = σD[b]?)
theorem FT.ok.two{P:Program}{X:FT}(j:FT.ok P X)(S:ot)(H:List (Nat×Nat))(J:List (Nat×JH))(C:List (Nat×List CT))(n N:Nat)(B:bU)(o:yM):ZP ⟨P,S,H,J,C,n,N,B,X,o⟩:=j
theorem Rs{P:Program}{S:ot}{N:Nat}{B I:bU}{X:FT}{T:yM}(cy:P.follows .mixedOrders=true)(hS:dB P S)(hB:bU.ok P B)(hI:bU.ok P I)(hX:FT.ok P X):bU.ok P (WB P S N B T I X):=by
 intro G gi U σ y ct x Z K σD ds h k m q o r;cases G with
 |nil=>grind
 |cons g G=>
  simp only[WB] at h;split at h
  ·exact hB _ gi U σ y ct x Z K σD ds h k m q o r
  split at h
  ·rename_i fn hg;split at h
   ·rename_i E hc;split at h
    ·rename_i he;simp only[aU] at he;obtain ⟨L⟩:=iV m;have R0:Ref (vA 0 U) σ (gP 0 ds) σD:=⟨q,λt x p h=>by
      obtain ⟨d,v,rfl,h1,h2,h3⟩:=zip3 o r 0 t x p h;exact ⟨d,h1,h2,h3⟩⟩
     refine ⟨he.1,?_⟩;refine lB hg hc (by rw[<-o.len];simp_all) ?_;refine (Pa ⟨P,S,g.H,g.J,g.C,E.ntmps,N,I,X,T⟩ cy hS ⟨hI.inl _ _ _ _ _ _ _ _,hX.two _ _ _ _ _ _ _ _⟩ E.body 1 _ _ _ y _ _ h R0).cT λx' u e hP=>.inl ?_;obtain ⟨O,A,p1,_,p3,p4⟩:=hP;have fin:(match Aa (zy O A) E.results with | some rs=>LI σ A rs (g::G) | none=>none)=some y->∃j ρ F,E.results.mapM (lr u e)=some j/\IS σD.length e (K.map TB.er) ρ F/\(∀b,F b->σD.length<=b)/\b_ e (K.map TB.er) ρ F (one j) (one (Z.map eD)):=by
      intro h4;split at h4
      ·rename_i rs R;obtain ⟨j,h5,h6,h7⟩:=Ce p1 R;have h8:=Ow h4 k;obtain ⟨s,σs,X,hv⟩:=Rl h8 L rfl q p1.hh p3 h7;refine ⟨j,_,_,h5,by rw[q.len];exact X.rnH p1.hh,λb hb=>by rw[q.len];exact (X.fz b hb).1,X.vals p1.hh hv h6⟩
      simp_all
     cases x' with
     |exit i=>grind
     |normal=>grind
     |ret=>grind
    simp_all
   simp_all
  simp_all
theorem Qc{n:Nat}{x:TC}(h:Nu n x=true):x≠.any:=λe=>by grind [Nu]
theorem Hq{σ:TH}{x:TC}(h:Nu σ.length x=true):GC σ x:=by
 cases x with
 |d x=>exact h
 |own=>grind [Nu]
 |op=>grind [Nu]
 |ap=>grind [Nu]
 |os=>grind [Nu]
 |zq=>grind [Nu]
 |_=>trivial
theorem We{n:Nat}{v:TV}{d:D}(h:QL n v=true)(r:RT v d):d=eD v:=by
 cases v with
 |c x=>exact RT.c1 (Qc h) r
 |agg e=>obtain ⟨ds,rfl,hd⟩:=r;simp only[QL,eG] at h;rw[hd.eq λy g=>Qc (h y g)];rfl
 |aB e=>grind [QL]
theorem Xk{n:Nat}{v:TV}(h:QL n v=true):nT v:=by
 cases v with
 |aB d=>grind [QL]
 |_=>trivial
theorem VE{σ:TH}{v:TV}(h:QL σ.length v=true):GV σ v:=by
 cases v with
 |c x=>exact Hq h
 |agg d=>simp only[QL,eG] at h;exact λx e=>Hq (h x e)
 |aB d=>grind [QL]
theorem Tb{n:Nat}:∀{vs:List TV}{ds:List D},vs.all (QL n)=true->dP vs ds->ds=vs.map eD:=by
 intro vs;induction vs with
 |nil=>intro ds _ h;cases h;rfl
 |cons v vs ih=>
  intro ds h a;cases a with
  |cons r a=>
   simp only[List.all_cons,aU] at h
   grind [We]
theorem Bw{pl:List Pl}{σ σ1:TH}(h:cW pl 0 σ σ1=true):σ.length<=σ1.length:=by
 rcases pY σ1.length σ.length with d | e
 ·obtain ⟨blk,g,_⟩:=vW h σ1.length _ (cE d)
  simp_all
 omega
theorem HC{P:Program}{g:FuncId}{fn:Func}{y:iw}{fz:Bool}{ds:List D}{r:D}{σ am:aa}(hg:P.funcs[g]? = some fn)(A:e_ P fn fz=some y)(E:ds.length<=y.ntmps)
  (h:Sem P y.body y.ntmps (gP 0 ds) σ λx al σ1=>(x=.normal∨x=.ret)/\∃e,y.results.mapM (lr al σ1)=some e/\σ1=am/\one e=r):Ok P g ds σ r am:=by
 unfold e_ at A;split at A
 ·rename_i c hb;split at A
  ·rename_i ac rs h1 h2;simp only[ab] at A;subst A;dsimp only at h E;intro M Fz w u R hs O;refine jJ hg hb ?_;have A0:dq fn.ntmps σ M Fz w (gP 0 ds) (u++Array.replicate (fn.ntmps-u.size) undef):=by
    refine ⟨by simp_all,λt d S=>?_⟩;obtain ⟨_,h3⟩:=zb ds 0 t d S;rw[Nat.sub_zero] at h3;have T:t<u.size:=by grind
    exact ⟨u[t],by grind,O t d _ h3 (nE T)⟩
   refine Fw (h c h1 M Fz w { tmps:=u++Array.replicate (fn.ntmps-u.size) undef,defers:=[] } _ R A0 λx j m a' w' M' U hQ hd R' N EV hl=>?_);obtain ⟨hx,e,hm,rfl,rfl⟩:=hQ;have Z:rs.mapM (EE (sf fn.ntmps j) m)=some e:=by
    have a3:∀(l:List (Nat×Option (Option Nat))) e,l.mapM (lr j m)=some e->l.mapM (EE (sf fn.ntmps j) m)=some e:=by
     intro l;induction l with
     |nil=>simp_all
     |cons p l ih=>
      intro e h;rw[Lm] at h ⊢;cases G:lr j m p with
      |none=>simp_all
      |some d=>
       rw[G] at h;have:EE (sf fn.ntmps j) m p=some d:=by
        obtain ⟨t,o⟩:=p;cases o with
        |none=>exact N.bV.2.2 t d G
        |some k=>
         simp only[lr] at G;split at G
         ·rename_i b off sz ad;simp only[EE,N.bV.2.2 t _ ad];exact G
         simp_all
       rw[this];cases hr:l.mapM (lr j m) with
       |none=>simp_all
       |some q=>simp_all
    simp_all
   have ak:sX x=.normal∨sX x=.ret:=by rcases hx with rfl | rfl <;> simp[sX]
   refine ⟨ak,Mk.end hd R' EV λax K L mv=>?_⟩;have a0:dq fn.ntmps m M' U ax j a'.tmps:=⟨N.1,λt d S=>by obtain ⟨v,q1,q2⟩:=N.2 t d S;exact ⟨v,q1,mv d v q2⟩⟩
   obtain ⟨v,a1,a2⟩:=gp (P:=P) K a0.bV.1 h2 Z;exact ⟨v,a1,v,_,_,rfl,K,a2,L⟩
  simp_all
 simp_all
theorem SB.er0{b:Nat}{x y:TB}(h:SB [] b x y):y.er=x.er:=by
 cases x with
 |cells w E=>
  obtain ⟨w1,u,rfl,U,o⟩:=h;simp only[TB.er,Ob.cells.injEq];apply L_;intro j;rw[gT,gT];cases e:E[j]? with
  |none=>simp_all
  |some p=>
   have G:j<u.length:=by grind
   have:=o j p _ e (cE G) (λc A=>by grind)
   grind
 |row i l Z cv=>
  obtain ⟨K,L,O,rfl,o⟩:=h;obtain ⟨rfl,_,_⟩:=o λc A=>by grind
  rfl
 |mp j st l v=>obtain ⟨j1,R,K,v1,e,o⟩:=h;rw[o λc st A=>by grind]
theorem WA{P:Program}{S:ot}{N:Nat}{I:bU}{X:FT}{U:yM}(cy:P.follows .mixedOrders=true)(hS:dB P S)(hI:bU.ok P I)(hX:FT.ok P X):FT.ok P (ex1 P S N U I X):=by
 intro ct gi vs σ rv am σD ds h y m A;unfold ex1 at h;split at h
 ·rename_i fn hg;split at h
  ·rename_i r hc;split at h
   ·rename_i Z;simp only[aU] at Z;have R0:Ref (vA 0 vs) σ (gP 0 ds) σD:=⟨y,λt x p h=>by
     obtain ⟨d,v,rfl,g,h2,h3⟩:=zip3 m A 0 t x p h;exact ⟨d,g,h2,h3⟩⟩
    obtain ⟨⟨rs,σ1⟩,h,u⟩:=uU h;have T:=Pa ⟨P,S,ct.H,ct.J,ct.C,r.ntmps,N,I,X,U⟩ cy hS ⟨hI.inl _ _ _ _ _ _ _ _,hX.two _ _ _ _ _ _ _ _⟩ r.body 1 _ _ _ (rs,σ1) _ _ h R0;dsimp only at u;split at u
    rotate_left
    ·grind
    rename_i hk;simp only[aU] at hk;obtain ⟨hx,hs,hb⟩:=hk;simp only[ab,aC] at u;obtain ⟨rfl,rfl⟩:=u;have ad:=Bw hs;have ax:(σ++σ1.drop σ.length).length=σ1.length:=by simp_all
    have xt:Ext σ (σ++σ1.drop σ.length):=λb blk h=>⟨blk,by grind,BE.refl blk⟩;have E:RH (σ++σ1.drop σ.length) ((σ++σ1.drop σ.length).map TB.er):=by
     refine RH.mk' λb w cs e p hp=>?_;rcases pY b σ.length with g | g
     ·rw[CU g] at e;obtain ⟨g1,g2⟩:=y.hg b w cs e p hp;exact ⟨g1.mono xt,g2⟩
     ·rw[Jo g] at e;rw[eG] at hb;have:=hb _ (sT e);simp only[YZ,eG,aU] at this;obtain ⟨t1,t2⟩:=this p hp;exact ⟨Hq (by simp_all),wS t2⟩
    rw[eG] at hx;have G:∀v∈rs,nT v:=λv hv=>Xk (hx v hv);have K:∀v∈rs,GV (σ++σ1.drop σ.length) v:=λv hv=>VE (by simp_all);refine ⟨Z.1,one (rs.map eD),(σ++σ1.drop σ.length).map TB.er,E,Ik G,JI K,xt,?_,λb e=>?_⟩
    ·refine HC hg hc (by rw[<-m.len];simp_all) (T.cT λx' o k hP=>.inl ?_);obtain ⟨L,q,p1,_,p3,p4⟩:=hP;have fin:(match Aa (zy L q) r.results with | some rs=>some (rs,q) | none=>none)=some (rs,σ1)->∃j,r.results.mapM (lr o k)=some j/\k=(σ++σ1.drop σ.length).map TB.er/\one j=one (rs.map eD):=by
      intro O;split at O
      ·rename_i a0 R;simp only[ab,aC] at O;obtain ⟨rfl,rfl⟩:=O;obtain ⟨j,h5,h6,h7⟩:=Ce p1 R;refine ⟨j,h5,?_,by grind [Tb]⟩;rw[p1.hh.Xt];apply L_;intro b;rw[gT,gT];rcases pY b σ.length with g | g
       ·rw[CU g];obtain ⟨ak,e1,e2⟩:=PN y hs p3 b _ (cE g)
        grind [SB.er0]
       grind [Nat.add_sub_cancel']
      simp_all
     cases x' with
     |exit i=>grind
     |normal=>exact ⟨.inl rfl,fin p4⟩
     |ret=>exact ⟨.inr rfl,fin p4⟩
    grind [RH.Xt]
   simp_all
  simp_all
 simp_all
theorem GL{P:Program}{S:ot}{N:Nat}{B:bU}{e:yM}(cy:P.follows .mixedOrders=true)(g:dB P S)(j:bU.ok P B):∀(d:Nat),bU.ok P (Gi P S N B e d).1/\FT.ok P (Gi P S N B e d).2:=by
 intro d;induction d with
 |zero=>exact ⟨λq k m σ y ct x o p σD ds h=>by grind [Gi],λct k m σ o p σD ds h=>by grind [Gi]⟩
 |succ d ih=>exact ⟨Rs cy g j ih.1 ih.2,WA cy g ih.1 ih.2⟩
end
end Go.Abs
end
section
namespace Go.Abs
variable[Gl]
def D.cR(ρ:Nat->Nat):D->D
 |.c x=>.c x
 |.any=>.any
 |.ptr b o s=>.ptr (ρ b) o s
 |.sl b o l e s=>.sl (ρ b) o l e s
 |.mp b=>.mp (ρ b)
 |.fn f a b=>.fn f (rj ρ a) (rj ρ b)
 |.agg ds=>.agg (rj ρ ds)
 |.aB ds=>.aB (rj ρ ds)
where rj (ρ:Nat->Nat):List D->List D
 |[]=>[]
 |d::ds=>d.cR ρ::rj ρ ds
theorem yh(ρ:Nat->Nat)(l:List D):D.cR.rj ρ l=l.map (D.cR ρ):=by
 induction l with
 |nil=>rfl
 |cons d l ih=>grind [D.cR.rj]
theorem gM(ρ:Nat->Nat)(l:List D)(i:Nat):(D.cR.rj ρ l)[i]? = (l[i]?).map (D.cR ρ):=by rw[yh,gT]
theorem js(ρ:Nat->Nat)(l:List D):(D.cR.rj ρ l).length=l.length:=by rw[yh,vN]
def Ob.cR(ρ:Nat->Nat):Ob->Ob
 |.cells o=>.cells (o.map (D.cR ρ))
 |.map es j=>.map (es.map λe=>(e.1,e.2.1.cR ρ,e.2.2)) j
 |.gone n=>.gone n
theorem Ob.mG(ρ:Nat->Nat)(ob:Ob):(ob.cR ρ).sz=ob.sz:=by cases ob <;> simp[Ob.cR,Ob.sz]
section
variable{σ H:aa}{M:Nat->Option Nat}{Fz:Nat->Prop}{w:World}{ρ:Nat->Nat}
theorem V.back{n:Nat}{R:Nat->Option Nat}(hM:∀i,i<n->R i=M (ρ i))(E:∀i,i<n->σ[ρ i]? = (H[i]?).map (Ob.cR ρ)){d:D}{v:Value}(h:V σ M Fz w (d.cR ρ) v):d.low n=true->V H R Fz w d v:=by
 generalize hd:d.cR ρ=d' at h;induction h generalizing d with
 |c h=>intro _;cases d <;> simp only[D.cR,reduceCtorEq,D.c.injEq] at hd;subst hd;exact .c h
 |any v=>intro _;cases d <;> simp only[D.cR,reduceCtorEq] at hd;exact .any v
 |ptr a U h u A=>
  intro j;cases d <;> simp only[D.cR,reduceCtorEq,D.ptr.injEq] at hd
  obtain ⟨rfl,rfl,rfl⟩:=hd;simp only[D.low,aM] at j;rw[E _ j,bq] at h;obtain ⟨x,o,rfl⟩:=h;rw[Ob.mG] at u A;exact .ptr a x o u λe=>by simp_all
 |sl a n' cap K U h u A=>
  intro j;cases d <;> simp only[D.cR,reduceCtorEq,D.sl.injEq] at hd
  obtain ⟨rfl,rfl,rfl,rfl,rfl⟩:=hd;simp only[D.low,aM] at j;rw[E _ j,bq] at h;obtain ⟨x,o,rfl⟩:=h;rw[Ob.mG] at u A;exact .sl a n' cap K x o u λe=>by simp_all
 |mp c U h A=>
  intro j;cases d <;> simp only[D.cR,reduceCtorEq,D.mp.injEq] at hd
  subst hd;simp only[D.low,aM] at j;rw[E _ j,bq] at h;obtain ⟨x,o,rfl⟩:=h;rw[Ob.mG] at A;exact .mp c x o λe=>by simp_all
 |fn G ws o Z A hw L O=>
  intro j;cases d <;> simp only[D.cR,reduceCtorEq,D.fn.injEq] at hd
  obtain ⟨rfl,rfl,rfl⟩:=hd;simp only[D.low,aU] at j;rw[js] at o Z;exact .fn G ws o Z (λi d v a b=>L i _ v (by grind [gM]) b rfl (D.aE j.1 i d a)) (λi d v a b=>O i _ v (by grind [gM]) b rfl (D.aE j.2 i d a))
 |agg G o A ih=>
  intro j;cases d <;> simp only[D.cR,reduceCtorEq,D.agg.injEq] at hd
  subst hd;simp only[D.low] at j;rw[js] at o;exact .agg G o (λi d v a b=>ih i _ v (by grind [gM]) b rfl (D.aE j i d a))
 |aB G o A ih=>
  intro j;cases d <;> simp only[D.cR,reduceCtorEq,D.aB.injEq] at hd
  subst hd;simp only[D.low] at j;rw[js] at o;exact .aB G o (λi d v a b=>ih i _ v (by grind [gM]) b rfl (D.aE j i d a))
theorem V.Fh{n:Nat}{G:Nat->Option Nat}(L:∀i,i<n->M (ρ i)=G i)(O:∀i,i<n->σ[ρ i]? = (H[i]?).map (Ob.cR ρ)){d:D}{v:Value}(h:V H G Fz w d v):d.low n=true->V σ M Fz w (d.cR ρ) v:=by
 induction h with
 |c h=>intro _;exact .c h
 |any v=>intro _;exact .any v
 |ptr a u h A o=>intro j;simp only[D.low,aM] at j;exact .ptr a (u.cR ρ) (by simp_all) (by grind [Ob.mG]) λe=>by grind [Ob.mG]
 |sl a R cap E u h A o=>intro j;simp only[D.low,aM] at j;exact .sl a R cap E (u.cR ρ) (by simp_all) (by grind [Ob.mG]) λe=>by rw[L _ j];exact o (by grind [Ob.mG])
 |mp c u h o=>intro j;simp only[D.low,aM] at j;exact .mp c (u.cR ρ) (by simp_all) λe=>by grind [Ob.mG]
 |fn x U K h2 o hw Z ad=>
  intro j;simp only[D.low,aU] at j;refine .fn x U (by grind [js]) (by grind [js]) (λi d v a b=>?_) (λi d v a b=>?_)
  ·grind [gM,D.aE]
  grind [gM,D.aE]
 |agg x K o ih=>
  intro j;simp only[D.low] at j;refine .agg x (by grind [js]) (λi d v a b=>?_)
  grind [gM,D.aE]
 |aB x K o ih=>
  intro j;simp only[D.low] at j;refine .aB x (by grind [js]) (λi d v a b=>?_)
  grind [gM,D.aE]
theorem bb.back{n:Nat}{G:Nat->Option Nat}(L:∀i,i<n->G i=M (ρ i))(x:∀i,i<n->σ[ρ i]? = (H[i]?).map (Ob.cR ρ)){ob:Ob}{o:Obj}(O:ob.low n=true)(h:bb σ M Fz w (ob.cR ρ) o):bb H G Fz w ob o:=by
 cases ob with
 |cells Z=>obtain ⟨j,T,rfl,u,K⟩:=h;simp only[vN] at u;refine ⟨j,T,rfl,u,λi d v a b=>?_⟩;obtain ⟨R,U⟩:=K i (d.cR ρ) v (by simp_all) b;exact ⟨V.back L x R (D.aE O i d a),U⟩
 |map es A=>
  obtain ⟨j,E,u,K⟩:=h;simp only[vN] at u;refine ⟨j,E,u,λi k d m e a b=>?_⟩
  grind [Ob.low,V.back]
 |gone m=>exact h
theorem bb.Fh{n:Nat}{E:Nat->Option Nat}(L:∀i,i<n->M (ρ i)=E i)(u:∀i,i<n->σ[ρ i]? = (H[i]?).map (Ob.cR ρ)){ob:Ob}{o:Obj}(O:ob.low n=true)(h:bb H E Fz w ob o):bb σ M Fz w (ob.cR ρ) o:=by
 cases ob with
 |cells cs=>obtain ⟨j,T,rfl,R,G⟩:=h;refine ⟨j,T,rfl,by simp_all,λi d v a b=>?_⟩;rw[gT,bq] at a;obtain ⟨K,a,rfl⟩:=a;obtain ⟨U,Z⟩:=G i K v a b;exact ⟨V.Fh L u U (D.aE O i K a),Z⟩
 |map es x=>
  obtain ⟨j,A,R,G⟩:=h;refine ⟨j,A,by simp_all,λi k d m e a b=>?_⟩
  grind [Ob.low,V.Fh]
 |gone m=>exact h
end
end Go.Abs
end
section
namespace Go.Abs
noncomputable section
variable[Gl][Y:Ty]
def jb(P:Program)(g:FuncId)(s:jp):Prop:=aH P g=true/\∀(x:dm s.yz.items)(y:mA s.QG)(d:List TV)(σ:TH)(ct:CT)(z:dm ct.items)(e:List TV)(h:TH),
 s.f x=some y->pW s.yz [] x=some (d,σ)->tu s.QG y=some ⟨ct,z⟩->pW ct σ z=some (e,h)->Ok P g (d.map eD) (σ.map TB.er) (one (e.map eD)) (h.map TB.er)
theorem D.xc(ρ:Nat->Nat){d:D}(h:d.low 0=true):d.cR ρ=d:=by
 have j:∀(k:Nat)(d:D),SizeOf.sizeOf d<k->d.low 0=true->d.cR ρ=d:=by
  intro k;induction k with
  |zero=>omega
  |succ k ih=>
   have bM:∀(ds:List D),SizeOf.sizeOf ds<k+1->D.low.bM 0 ds=true->D.cR.rj ρ ds=ds:=by
    intro ds;induction ds with
    |nil=>intro _ _;rfl
    |cons x ds u=>
     intro hs h;simp only[D.low.bM,aU,List.cons.sizeOf_spec] at h hs
     grind [D.cR.rj]
   intro d hs h;cases d with
   |c x=>rfl
   |any=>rfl
   |ptr b o s=>grind [D.low]
   |sl b o l e s=>grind [D.low]
   |mp b=>grind [D.low]
   |fn f a b=>
    simp only[D.low,aU,D.fn.sizeOf_spec] at h hs
    grind [D.cR]
   |agg ds=>grind [D.low,D.cR]
   |aB ds=>grind [D.low,D.cR]
 exact j (SizeOf.sizeOf d+1) d (Nat.lt_succ_self _) h
theorem HR(ρ:Nat->Nat)(l:List C):(l.map D.c).map (D.cR ρ)=l.map D.c:=by rw[PE];rfl
theorem Ez(ρ:Nat->Nat)(c:CC)(a:c.dn):(oq c a).er.cR ρ=(oq c a).er:=by rw[iE];rfl
theorem TR(ρ:Nat->Nat)(i:Nat)(a:TT i):((exp i a).map TC.er).map (D.cR ρ)=(exp i a).map TC.er:=by rw[pf,PE];rfl
def xz(ρ:Nat->Nat)(x y:TB):Prop:=(∃w e g d,x=.cells w e/\y=.cells g d/\ar (λ(a b:Nat×TC)=>b.2.er=a.2.er.cR ρ) e d)∨pN x y
structure fK (ρ:Nat->Nat) (n:Nat) (σ0 σ:TH):Prop where
 len:σ0.length=n
 bs:∀i,i<n->∃x y,σ0[i]? = some x/\σ[ρ i]? = some y/\xz ρ x y
variable{ρ:Nat->Nat}{n m0:Nat}{σ0 σ:TH}
theorem fK.set(h:fK ρ n σ0 σ)(inj:∀i j,i<n->j<n->ρ i=ρ j->i=j){b:Nat}(G:b<n){x y:TB}(u:xz ρ x y):fK ρ n (σ0.set b x) (σ.set (ρ b) y):={
 len:=by rw[Vn];exact h.len
 bs:=λi o=>by
  by_cases e:i=b
  ·subst e;obtain ⟨A,E,h1,h2,_⟩:=h.bs i o
   grind
  ·obtain ⟨A,E,h1,h2,K⟩:=h.bs i o
   grind }
theorem fK.row(h:fK ρ n σ0 σ){b i:Nat}(A:b<n){l:List (TT i)}{E G:Nat}(K:σ[ρ b]? = some (.row i l E G)):∃j o,σ0[b]? = some (.row i l j o):=by
 obtain ⟨x,y,h1,u,L⟩:=h.bs b A;rw[K] at u;simp only[ab] at u;subst u;rcases L with ⟨_,_,_,_,_,e,_⟩ | ⟨i',l',O,R,U,Z,e1,e2⟩ | ⟨_,_,_,_,_,_,e⟩
 ·simp at e
 ·grind
 simp_all
theorem fK.mp(h:fK ρ n σ0 σ){b j:Nat}{st:Bool}(u:b<n){l:List (Int×TT j)}{v:Nat}(A:σ[ρ b]? = some (.mp j st l v)):∃E,σ0[b]? = some (.mp j st l E):=by
 obtain ⟨x,y,L,o,G⟩:=h.bs b u;rw[A] at o;simp only[ab] at o;subst o;rcases G with ⟨_,_,_,_,_,e,_⟩ | ⟨_,_,_,_,_,_,_,e⟩ | ⟨O,K,R,U,Z,e1,e2⟩
 ·simp at e
 ·simp at e
 grind
theorem fK.cells(h:fK ρ n σ0 σ){b:Nat}(A:b<n){w:Nat}{cs:List (Nat×TC)}(E:σ[ρ b]? = some (.cells w cs)):∃u j,σ0[b]? = some (.cells u j)/\ar (λ(a b:Nat×TC)=>b.2.er=a.2.er.cR ρ) j cs:=by
 obtain ⟨x,y,L,o,G⟩:=h.bs b A;rw[E] at o;simp only[ab] at o;subst o;rcases G with ⟨u,j,O,K,R,U,Z⟩ | ⟨_,_,_,_,_,_,_,e⟩ | ⟨_,_,_,_,_,_,e⟩
 ·grind
 ·simp at e
 simp_all
theorem CB{p q:CP}{ds r:List g_}{y:TC}(j:YM ρ n p q=true)(h:fK ρ n σ0 σ)(g:uS σ q ds=some (y,r)):∃v,uS σ0 p ds=some (v,r)/\y.er=v.er.cR ρ:=by
 unfold YM at j;split at j
 ·rename_i a b;have:=of_decide_eq_true j;subst this;cases ds with
  |nil=>grind [uS]
  |cons d ds=>
   simp only[uS] at g ⊢
   grind [Ez]
 ·cases ds with
  |nil=>grind [uS]
  |cons d ds=>
   simp only[uS] at g ⊢;split at g
   ·rename_i L N;simp only[ab,aC] at g;obtain ⟨rfl,rfl⟩:=g;exact ⟨_,rfl,rfl⟩
   simp_all
 ·rename_i b u;simp only[aU] at j;have e:=bP j.1;have k:=oS.mp j.2;subst e;simp only[uS] at g ⊢;split at g
  ·rename_i i l O R hs;simp only[ab,aC] at g;obtain ⟨rfl,rfl⟩:=g;obtain ⟨x,A,E⟩:=h.row k hs;rw[E];exact ⟨_,rfl,rfl⟩
  simp_all
 ·rename_i b o s u S G;simp only[aU] at j;obtain ⟨e,k,m,t⟩:=j;have e:=bP e;have k:=oS.mp k;have m:=bP m;have t:=bP t;subst e m t;simp only[uS] at g ⊢;split at g
  ·simp only[ab,aC] at g;obtain ⟨rfl,rfl⟩:=g;rw[h.len,oS.mpr k];exact ⟨_,rfl,rfl⟩
  simp_all
 ·rename_i b u;simp only[aU] at j;have e:=bP j.1;have k:=oS.mp j.2;subst e;simp only[uS] at g ⊢;split at g
  ·simp only[ab,aC] at g;obtain ⟨rfl,rfl⟩:=g;rw[h.len,oS.mpr k];exact ⟨_,rfl,rfl⟩
  simp_all
 ·rename_i f b s T u G;simp only[aU] at j;obtain ⟨e,k,m,t⟩:=j;have e:=bP e;have k:=oS.mp k;have m:=bP m;have t:=bP t;subst e m t;simp only[uS] at g ⊢;split at g
  ·simp only[ab,aC] at g;obtain ⟨rfl,rfl⟩:=g;rw[h.len,oS.mpr k];exact ⟨_,rfl,rfl⟩
  simp_all
 ·rename_i d U;have:=Qs j;subst this;simp only[uS] at g ⊢;split at g
  ·rename_i K;simp only[ab,aC] at g;obtain ⟨rfl,rfl⟩:=g;exact ⟨_,rfl,(D.xc ρ K).symm⟩
  simp_all
 simp_all
theorem Fv:∀{ps g:List CP}{ds r:List g_}{j:List TC},Hx ρ n ps g=true->fK ρ n σ0 σ->uz σ g ds=some (j,r)->∃d,uz σ0 ps ds=some (d,r)/\ar (λ(y m:TC)=>y.er=m.er.cR ρ) j d:=by
 intro ps;induction ps with
 |nil=>
  intro g ds r j k h e;cases g with
  |nil=>simp only[uz,ab,aC] at e;obtain ⟨rfl,rfl⟩:=e;exact ⟨[],rfl,.nil⟩
  |cons _ _=>grind [Hx]
 |cons p ps ih=>
  intro g ds r j k h e;cases g with
  |nil=>grind [Hx]
  |cons q g=>
   simp only[Hx,aU] at k;simp only[uz] at e;split at e
   ·rename_i x A o;split at e
    ·rename_i E G t;simp only[ab,aC] at e;obtain ⟨rfl,rfl⟩:=e;obtain ⟨m,K,u⟩:=CB k.1 h o;obtain ⟨d,L,v⟩:=ih k.2 h t;exact ⟨m::d,by grind [uz],.cons u v⟩
    simp_all
   simp_all
theorem Ra{a b:bT}(h:VS a b=true):a=b:=by
 unfold VS at h;split at h
 ·simp_all
 ·simp_all
 ·simp_all
 ·simp_all
 simp_all
theorem ar.HG{o j:List TC}(h:ar (λ(y u:TC)=>y.er=u.er.cR ρ) o j):o.map TC.er=D.cR.rj ρ (j.map TC.er):=by
 induction h with
 |nil=>rfl
 |cons h _ ih=>grind [D.cR.rj]
theorem Sj{p q:RO}{ds r:List g_}{v:TV}(j:rRO ρ n p q=true)(h:fK ρ n σ0 σ)(e:wo σ q ds=some (v,r)):∃u,wo σ0 p ds=some (u,r)/\eD v=(eD u).cR ρ:=by
 unfold rRO at j;split at j
 ·rename_i a b;have:=Ra j;subst this;cases ds with
  |nil=>grind [wo]
  |cons d ds=>
   cases a with
   |c c=>
    simp only[wo] at e ⊢;split at e
    ·simp only[ab,aC] at e;obtain ⟨rfl,rfl⟩:=e;exact ⟨_,rfl,(Ez ρ _ _).symm⟩
    simp_all
   |st i=>
    simp only[wo] at e ⊢;split at e
    ·simp only[ab,aC] at e;obtain ⟨rfl,rfl⟩:=e;refine ⟨_,rfl,?_⟩
     grind [eD,D.cR,yh,TR]
    simp_all
   |fp i=>
    simp only[wo] at e ⊢;split at e
    ·simp only[ab,aC] at e;obtain ⟨rfl,rfl⟩:=e;exact ⟨_,rfl,rfl⟩
    simp_all
   |k g=>grind [wo]
 ·rename_i a b;simp only[wo] at e;split at e
  ·rename_i x y m;simp only[ab,aC] at e;obtain ⟨rfl,rfl⟩:=e;obtain ⟨o,A,t⟩:=CB j h m;exact ⟨.c o,by grind [wo],t⟩
  simp_all
 ·rename_i a b;simp only[wo] at e;split at e
  ·rename_i E y m;simp only[ab,aC] at e;obtain ⟨rfl,rfl⟩:=e;obtain ⟨o,A,t⟩:=Fv j h m;refine ⟨.agg o,by grind [wo],?_⟩;simp only[eD,D.cR,t.HG]
  simp_all
 simp_all
theorem Qd:∀{ps e:List RO}{ds r:List g_}{vs:List TV},Ko ρ n ps e=true->fK ρ n σ0 σ->mV σ e ds=some (vs,r)->∃g,mV σ0 ps ds=some (g,r)/\ar (λ(v m:TV)=>eD v=(eD m).cR ρ) vs g:=by
 intro ps;induction ps with
 |nil=>
  intro e ds r o j h d;cases e with
  |nil=>simp only[mV,ab,aC] at d;obtain ⟨rfl,rfl⟩:=d;exact ⟨[],rfl,.nil⟩
  |cons _ _=>grind [Ko]
 |cons p ps ih=>
  intro e ds r o j h d;cases e with
  |nil=>grind [Ko]
  |cons q e=>
   simp only[Ko,aU] at j;simp only[mV] at d;split at d
   ·rename_i x G t;split at d
    ·rename_i K L u;simp only[ab,aC] at d;obtain ⟨rfl,rfl⟩:=d;obtain ⟨y,N,A⟩:=Sj j.1 h t;obtain ⟨k,O,E⟩:=ih j.2 h u;exact ⟨y::k,by grind [mV],.cons A E⟩
    simp_all
   simp_all
theorem LA(inj:∀i j,i<m0->j<m0->ρ i=ρ j->i=j):∀{ps t:List PC}{σ0 σ y:TH}{ds r:List g_},vm ρ m0 n ps t=true->fK ρ m0 σ0 σ->br σ t ds=some (y,r)->∃g,br σ0 ps ds=some (g,r)/\fK ρ m0 g y:=by
 intro ps;induction ps with
 |nil=>
  intro t σ0 σ y ds r A h m;cases t with
  |nil=>simp only[br,ab,aC] at m;obtain ⟨rfl,rfl⟩:=m;exact ⟨σ0,rfl,h⟩
  |cons _ _=>grind [vm]
 |cons p ps ih=>
  intro t σ0 σ y ds r A h m;cases t with
  |nil=>grind [vm]
  |cons q t=>
   simp only[vm,aU] at A;obtain ⟨k,x⟩:=A;unfold rPC at k;split at k
   ·grind [br]
   ·rename_i b i L i';simp only[aU] at k;obtain ⟨e,o,u⟩:=k;have e:=bP e;have o:=oS.mp o;have u:=bP u;subst e u;cases ds with
    |nil=>grind [br]
    |cons d ds=>
     simp only[br] at m;split at m
     ·rename_i l j N O R S E;split at m
      ·rename_i T;have:=bP T;subst this;obtain ⟨G,K,U⟩:=h.row o E;obtain ⟨g,Z,a2⟩:=ih x (h.set inj o (.inr (.inl ⟨j,l,G+1,K+1,O+1,R+1,rfl,rfl⟩))) m
       grind [br]
      simp_all
     simp_all
   ·rename_i b j st L j' ad;simp only[aU,oQ] at k;obtain ⟨e,o,u,e3⟩:=k;have e:=bP e;have o:=oS.mp o;have u:=bP u;subst e u e3;cases ds with
    |nil=>grind [br]
    |cons d ds=>
     simp only[br] at m;split at m
     ·rename_i l j0 af N v S E;obtain ⟨v0,U⟩:=h.mp o E;obtain ⟨g,Z,a2⟩:=ih x (h.set inj o (.inr (.inr ⟨j,st,l,v0+1,v+1,rfl,rfl⟩))) m
      grind [br]
     simp_all
   simp_all
theorem Ox:∀{ps g:List NB}{ds r:List g_}{l:TH},tP ρ n ps g=true->cK g ds=some (l,r)->cK ps ds=some (l,r):=by
 intro ps;induction ps with
 |nil=>grind [tP]
 |cons p ps ih=>
  intro g ds r l h k;cases g with
  |nil=>grind [tP]
  |cons q g=>
   simp only[tP,aU] at h;obtain ⟨e,j⟩:=h;unfold rNB at e;split at e
   ·grind [cK]
   ·have:=bP e;subst this;cases ds with
    |nil=>grind [cK]
    |cons d ds=>grind [cK]
   ·simp only[aU,oQ] at e;have:=bP e.1;subst this;have:=e.2;subst this;cases ds with
    |nil=>grind [cK]
    |cons d ds=>grind [cK]
   simp_all
theorem ar.set{α o:Type}{R:α->o->Prop}{l:List α}{m:List o}(h:ar R l m){a:α}{b:o}(u:R a b):∀j:Nat,ar R (l.set j a) (m.set j b):=by
 induction h with
 |nil=>intro j;exact .nil
 |cons h r ih=>
  intro j;cases j with
  |zero=>exact .cons u r
  |succ j=>exact .cons h (ih j)
theorem Nt(inj:∀i j,i<m0->j<m0->ρ i=ρ j->i=j){k σs:TH}(hs:fK ρ n k σs):∀{ps m:List PC}{σ0 σ t:TH}{ds r:List g_},vm ρ m0 n ps m=true->fK ρ m0 σ0 σ->dV σs m σ ds=some (t,r)->∃d,dV k ps σ0 ds=some (d,r)/\fK ρ m0 d t:=by
 intro ps;induction ps with
 |nil=>
  intro m σ0 σ t ds r v h o;cases m with
  |nil=>simp only[dV,ab,aC] at o;obtain ⟨rfl,rfl⟩:=o;exact ⟨σ0,rfl,h⟩
  |cons _ _=>grind [vm]
 |cons p ps ih=>
  intro m σ0 σ t ds r v h o;cases m with
  |nil=>grind [vm]
  |cons q m=>
   simp only[vm,aU] at v;obtain ⟨g,y⟩:=v;unfold rPC at g;split at g
   ·rename_i b j p T U Z;simp only[aU] at g;obtain ⟨e,u,A,G⟩:=g;have e:=bP e;have u:=oS.mp u;have A:=bP A;subst e A;simp only[dV] at o;split at o
    ·rename_i x r' w cs K L;obtain ⟨N,a1,O⟩:=CB G hs K;obtain ⟨E,R,h3,S⟩:=h.cells u L;obtain ⟨d,b1,b2⟩:=ih y (h.set inj u (.inl ⟨E+1,_,w+1,_,rfl,rfl,S.set (a:=(E+1,N)) (b:=(w+1,x)) O j⟩)) o
     grind [dV]
    simp_all
   ·grind [dV]
   ·grind [dV]
   simp_all
theorem OT{e σs:TH}(hs:fK ρ n e σs):∀{ps j:List NB}{g l:TH}{ds:List g_},tP ρ n ps j=true->(∀b∈g,xz ρ b b)->dv σs j g ds=some l->∃t,dv e ps g ds=some t/\ar (xz ρ) t l:=by
 intro ps;induction ps with
 |nil=>
  intro j g l ds A y d;cases j with
  |nil=>simp only[dv,ab] at d;subst d;exact ⟨[],rfl,.nil⟩
  |cons _ _=>grind [tP]
 |cons p ps ih=>
  intro j g l ds A y d;cases j with
  |nil=>grind [tP]
  |cons q j=>
   simp only[tP,aU] at A;obtain ⟨k,m⟩:=A;cases g with
   |nil=>grind [dv]
   |cons b g=>
    have o:∀b∈g,xz ρ b b:=λx N=>y x (kE _ N);unfold rNB at k;split at k
    ·rename_i as O;simp only[dv] at d;split at d
     ·rename_i T r K;split at d
      ·rename_i L u;simp only[ab] at d;subst d;obtain ⟨E,R,S⟩:=Fv k hs K;obtain ⟨t,G,v⟩:=ih m o u;refine ⟨.cells 0 (E.map λx=>(0,x))::t,by grind [dv],.cons (.inl ⟨0,_,0,_,rfl,rfl,?_⟩) v⟩;clear G v R K u ih;induction S with
       |nil=>exact .nil
       |cons h _ ih=>exact .cons h ih
      simp_all
     simp_all
    ·simp only[dv] at d;split at d
     ·rename_i L u;simp only[ab] at d;subst d;obtain ⟨t,G,v⟩:=ih m o u;exact ⟨_,by grind [dv],.cons (y b (li ..)) v⟩
     simp_all
    ·simp only[dv] at d;split at d
     ·rename_i L u;simp only[ab] at d;subst d;obtain ⟨t,G,v⟩:=ih m o u;exact ⟨_,by grind [dv],.cons (y b (li ..)) v⟩
     simp_all
    simp_all
theorem xz.new{o:List NB}{ds r:List g_}{l:TH}(h:cK o ds=some (l,r)):∀b∈l,xz ρ b b:=by
 intro b A;obtain ⟨k,hk⟩:=Yw A;cases b with
 |cells w E=>have:=(sU h k).1 w E hk;subst this;exact .inl ⟨w,[],w,[],rfl,rfl,.nil⟩
 |row i l u x=>exact .inr (.inl ⟨i,l,u,x,u,x,rfl,rfl⟩)
 |mp j st l v=>exact .inr (.inr ⟨j,st,l,v,v,rfl,rfl⟩)
theorem fK.PS(h:fK ρ m0 σ0 σ){j l:TH}(u:ar (xz ρ) j l)(A:∀k,ρ (m0+k)=σ.length+k)(lt:∀i,i<m0->ρ i<σ.length):fK ρ (m0+j.length) (σ0++j) (σ++l):={
 len:=by rw[vU,h.len]
 bs:=λi E=>by
  rcases pY i m0 with o | o
  ·obtain ⟨x,y,a,b,c⟩:=h.bs i o
   grind
  ·obtain ⟨k,rfl⟩:=ZD o;have hk:k<j.length:=by omega
   obtain ⟨y,a,b⟩:=u.get k _ (cE hk)
   grind [fK.len] }
theorem ar.refl'{α:Type}{R:α->α->Prop}{l:List α}(h:∀b∈l,R b b):ar R l l:=by
 induction l with
 |nil=>exact .nil
 |cons a l ih=>exact .cons (h a (li ..)) (ih λb j=>h b (kE _ j))
theorem Nm{d ct:CT}{F:TH}{x:List TV}{ds:List g_}{y:dm d.items}(inj:∀i j,i<m0->j<m0->ρ i=ρ j->i=j)(A:Xv ρ m0 d ct=true)(hs:fK ρ m0 σ0 σ)(N:∀k,ρ (m0+k)=σ.length+k)(lt:∀i,i<m0->ρ i<σ.length)
  {σD:aa} (H:RH σ σD) (L:Laid ct σ ds x F) (hd:ff d.items y=ds) :
  ∃e F0,pW d σ0 y=some (e,F0)/\ar (λ(v O:TV)=>eD v=(eD O).cR ρ) x e/\fK ρ (m0+d.nb.length) F0 F:=by
 simp only[Xv,aU] at A;obtain ⟨q,g,h⟩:=A;have E:=eK L.h1 H;have C:=iI L.h4;obtain ⟨m,a1,G⟩:=LA inj g hs L.h1;have r:=Ox h L.h2;have o:L.nb.length=d.nb.length:=xN r;have t:fK ρ (m0+d.nb.length) (m++L.nb) (L.fG++L.nb):=by rw[<-o];exact G.PS (ar.refl' (xz.new r)) (by grind [sY.len]) (by grind [sY.len])
 obtain ⟨e,c1,R⟩:=Qd q t L.h3;obtain ⟨p,d1,S⟩:=Nt inj t g G L.h4;obtain ⟨K,T,U⟩:=OT t h (xz.new r) L.h5;have u:K.length=d.nb.length:=(uB T).1;refine ⟨e,p++K,?_,R,?_⟩
 ·grind [pW]
 ·have Z:F=L.am++L.l:=L.e;rw[Z,<-u];exact S.PS U (by rw[C.len,E.len];exact N) (by rw[C.len,E.len];exact lt)
end
end Go.Abs
end
section
namespace Go.Abs
noncomputable section
variable[Gl][Y:Ty]
theorem Xr{P:Program}{g:FuncId}{ds O:List D}{H p:aa}{r:D}(ok:Ok P g O H r p)(a0:H.length<=p.length)
  (af:p.all (Ob.low p.length)=true) (hr:r.low p.length=true)
  {σ σ':aa} {ρ ρ0:Nat->Nat} (ag:∀i,i<H.length->ρ0 i=ρ i) (N:IS 0 σ H ρ0 (λ_=>False)) (hd:ar (b_ σ H ρ0 (λ_=>False)) ds O)
  (inj:∀i j,i<p.length->j<p.length->ρ i=ρ j->i=j) (hi:∀i,H.length<=i->i<p.length->σ.length<=ρ i)
  (s2:∀i,i<p.length->σ'[ρ i]? = (p[i]?).map (Ob.cR ρ)) (s3:∀j,(∀i,i<p.length->ρ i≠j)->σ'[j]? = σ[j]?) :
  Ok P g ds σ (r.cR ρ) σ':=by
 intro M Fz w vs R hs hv
 let K:Nat->Option Nat:=mN H.length ρ0 M
 have eF:∀Fz:Nat->Prop,UX (λ_=>False) M Fz=Fz:=λFz=>by
  funext c;refine propext ⟨λh=>?_,.inl⟩;rcases h with h | ⟨b,h,_⟩
  ·exact h
  simp_all
 have a1:∀i,i<H.length->K i=M (ρ i):=λi h=>by simp only[K,mN,h,if_true,ag i h]
 have A:∀i c,K i=some c->i<H.length/\M (ρ i)=some c:=λi c h=>by grind [mN]
 have R0:Rel H K Fz w:=by
  have:=N.rel R
  grind
 refine (ok K Fz w vs R0 (by rw[hs,hd.len]) (λi d v a b=>by
  obtain ⟨d1,S,h2⟩:=hd.get' i d a;have:=h2 M Fz w v R (hv i d1 v S b)
  grind)).mono λe w' he=>?_
 obtain ⟨v,M1,T,rfl,U,a2,x⟩:=he;have a3:∀i c,M1 i=some c->i<p.length:=λi c h=>by
  obtain ⟨_,ob,o,h2,_⟩:=U.blk i c h
  grind
 let m:Nat->Option Nat:=λj=>(List.range p.length).find? λi=>ρ i == j
 have t:∀i,i<p.length->m (ρ i)=some i:=λi h=>by
  cases e:m (ρ i) with
  |none=>grind
  |some k=>grind
 have q:∀j i,m j=some i->i<p.length/\ρ i=j:=λj i e=>⟨Zb.1 (List.mem_of_find?_eq_some e),by grind⟩;have u:∀j,m j=none->∀i,i<p.length->ρ i≠j:=λj e i h=>by grind
 let Z:Nat->Option Nat:=λj=>match m j with | some i=>M1 i | none=>M j
 have m1:∀j i,m j=some i->Z j=M1 i:=λj i h=>by grind
 have m2:∀j,m j=none->Z j=M j:=λj h=>by grind
 have ak:∀i,i<p.length->Z (ρ i)=M1 i:=λi h=>m1 _ _ (t i h);have apart:∀j c b,m j=none->M j=some c->K b≠some c:=λj c b S h2 E=>by obtain ⟨hb,E⟩:=A b c E;exact u j S b (by omega) (R.inj _ _ _ E h2)
 have lt:∀j c,M j=some c->c<w.heap.size:=λj c h=>by
  obtain ⟨_,_,o,_,E,_⟩:=R.blk j c h
  grind
 have ax:aW σ M Fz w σ' Z T w':={
  size:=x.size
  frame:=λc hc hn=>x.frame c hc λb hb=>hn (ρ b) (A b c hb).2
  hY:=λj c h=>by
   cases e:m j with
   |some i=>
    rw[m1 j i e] at h;rcases x.hY i c h with ⟨b0,y⟩ | y
    ·grind
    omega
   |none=>grind
  fz:=x.fz
  jj:=λc h=>by
   rcases x.jj c h with y | ⟨b,y⟩ | y
   ·grind
   ·grind
   omega
  lm:=x.lm
  bX:=λj ob h=>by
   cases e:m j with
   |some i=>
    obtain ⟨S,h2⟩:=q j i e;have hj:j<σ.length:=(dT.1 h).1;have ad:i<H.length:=by grind
    obtain ⟨q1,q2,q3,q4,q5⟩:=N.sz i ad;rw[ag i ad,h2,h] at q3;simp only[ab] at q3;subst q3;obtain ⟨a4,h4,h5,h6⟩:=x.bX i q2 q4
    grind [Ob.mG]
   |none=>grind
  out:=x.out }
 have R2:Rel σ' Z T w':={
  blk:=λj c h=>by
   cases e:m j with
   |some i=>rw[m1 j i e] at h;obtain ⟨S,h2⟩:=q j i e;obtain ⟨E,ob,o,h4,h5,h6⟩:=U.blk i c h;exact ⟨E,ob.cR ρ,o,by grind,h5,bb.Fh ak s2 (eG.1 af _ (sT h4)) h6⟩
   |none=>
    rw[m2 j e] at h;obtain ⟨E,ob,o,h4,h5,h6⟩:=R.blk j c h;refine ⟨λhf=>?_,ob,o,by grind,by rw[x.frame c (lt j c h) λb=>apart j c b e h];exact h5,h6.mono ax⟩;rcases x.jj c hf with y | ⟨b,y⟩ | y
    ·grind
    ·grind
    grind
  inj:=λj L c h G=>by
   cases e:m j with
   |some i=>
    rw[m1 j i e] at h;cases e':m L with
    |some i'=>
     rw[m1 L i' e'] at G;have:=U.inj i i' c h G
     grind
    |none=>
     rw[m2 L e'] at G;rcases x.hY i c h with ⟨b0,y⟩ | y
     ·grind
     grind
   |none=>
    rw[m2 j e] at h;cases e':m L with
    |some i'=>
     rw[m1 L i' e'] at G;rcases x.hY i' c G with ⟨b0,y⟩ | y
     ·grind
     grind
    |none=>rw[m2 L e'] at G;exact R.inj _ _ _ h G
  fz:=U.fz
  gl:=U.gl }
 grind [V.Fh]
theorem castO{α d:Type}(e:α=d){o:Option α}{y:d}(h:cast (Dj Option e) o=some y):∃g,o=some g/\HEq g y:=by grind
theorem Be{i j:List It}(e:i=j){x:dm i}{y:dm j}(h:HEq x y):ff i x=ff j y:=by grind
theorem Rx{A B d g:Type}(e:A=d)(e':B=g){x:A ⊕ B}{y:d ⊕ g}(h:HEq x y):(∃a j,x=.inl a/\y=.inl j/\HEq a j)∨(∃b k,x=.inr b/\y=.inr k/\HEq b k):=by grind
theorem Oj:∀{a b:List CT},a.map CT.items=b.map CT.items->∀{j:mA a}{y:mA b}{ct:CT}{x:dm ct.items},HEq j y->tu b y=some ⟨ct,x⟩ ->
  ∃(i:Nat)(g:CT)(k:dm g.items),tu a j=some ⟨g,k⟩/\a[i]? = some g/\b[i]? = some ct/\ff g.items k=ff ct.items x:=by
 intro a;induction a with
 |nil=>grind
 |cons c a ih=>
  intro b e j y ct x m hs;cases b with
  |nil=>simp at e
  |cons d b=>
   simp only[mb,XZ] at e;cases a with
   |nil=>
    cases b with
    |cons _ _=>simp at e
    |nil=>simp only[tu,ab,Xa] at hs;obtain ⟨rfl,hs⟩:=hs;cases hs;exact ⟨0,c,j,rfl,rfl,rfl,Be e.1 m⟩
   |cons t a=>
    cases b with
    |nil=>simp at e
    |cons A b=>
     rcases Rx (by rw[e.1]) (CQ e.2) m with ⟨u,v,rfl,rfl,h⟩ | ⟨u,v,rfl,rfl,h⟩
     ·simp only[tu,ab,Xa] at hs;obtain ⟨rfl,hs⟩:=hs;cases hs;exact ⟨0,c,u,rfl,rfl,rfl,Be e.1 h⟩
     ·obtain ⟨i,g,k,o,p,q,r⟩:=ih e.2 h hs;exact ⟨i+1,g,k,o,p,q,r⟩
theorem OK{ρ:Nat->Nat}{m0:Nat}:∀{a b:List CT},TW ρ m0 a b=true->∀(i:Nat) c d,a[i]? = some c->b[i]? = some d->Xv ρ m0 c d=true:=by
 intro a;induction a with
 |nil=>simp_all
 |cons x a ih=>
  intro b h i c d e g;cases b with
  |nil=>grind
  |cons y b=>
   simp only[TW,aU] at h
   grind
theorem Nj{ρ:Nat->Nat}{m0 n:Nat}:∀{ps e:List PC},vm ρ m0 n ps e=true->∀q∈e,∃b,b<m0/\q.blk=ρ b:=by
 intro ps;induction ps with
 |nil=>grind [vm]
 |cons p ps ih=>
  intro e h q g;cases e with
  |nil=>grind
  |cons j e=>
   simp only[vm,aU] at h;rcases dO.1 g with rfl | g
   ·have d:=h.1;unfold rPC at d;split at d
    ·simp only[aU] at d;exact ⟨_,oS.mp d.2.1,(bP d.1).symm⟩
    ·simp only[aU] at d;exact ⟨_,oS.mp d.2.1,(bP d.1).symm⟩
    ·simp only[aU] at d;exact ⟨_,oS.mp d.2.1,(bP d.1).symm⟩
    simp_all
   grind
theorem NF{x y:TC}(d:x=.d (.c (.lit (.slice none 0 0))))(h:(!(tf x) || tf y)=true):x=y:=by
 subst d;simp only[tf,Dm,yCf] at h
 grind
theorem Si:∀{xs d:List (Nat×TC)},Qr.Zf xs d=true->∀(j:Nat) x y,xs[j]? = some x->d[j]? = some y->(!(tf x.2) || tf y.2)=true:=by
 intro xs;induction xs with
 |nil=>simp_all
 |cons a xs ih=>
  intro d h j x y e g;cases d with
  |nil=>grind
  |cons b d=>
   obtain ⟨_,a⟩:=a;obtain ⟨_,b⟩:=b;simp only[Qr.Zf,aU] at h
   grind
theorem Td{σ:TH}{ρ:List (Nat×Nat)}:∀{d:TH}{e:Nat},Qr σ ρ e d=true->∀(i:Nat) w g k xs,d[i]? = some (.cells w g)->σ[(kT (e+i) ρ).getD 0]? = some (.cells k xs)->Qr.Zf xs g=true:=by
 intro d;induction d with
 |nil=>simp_all
 |cons b d ih=>
  intro e h i w g k xs j m;cases i with
  |zero=>
   simp only[List.getElem?_cons_zero,ab] at j;subst j;simp only[Qr,aU] at h
   simp_all
  |succ i=>
   simp only[List.getElem?_cons_succ] at j;have o:Qr σ ρ (e+1) d=true:=by
    cases b with
    |cells w p=>simp only[Qr,aU] at h;exact h.2
    |row=>exact h
    |mp=>exact h
   grind
theorem pN.symm{x y:TB}(h:pN x y):pN y x:=by
 rcases h with ⟨i,l,A,E,o,u,rfl,rfl⟩ | ⟨j,st,l,v,G,rfl,rfl⟩
 ·exact .inl ⟨i,l,o,u,A,E,rfl,rfl⟩
 ·exact .inr ⟨j,st,l,G,v,rfl,rfl⟩
theorem MX.can{σ σs F:TH}{σD:aa}{s:MS}{n:Nat}(X:MX [] σ σs F s n)(H1:RH σ σD)(hf:s.fz=[])(he:Qr σ s.ρ 0 F=true){ρ:Nat->Nat}(af:∀i,i<F.length->fj 0 s i=ρ i):fK ρ F.length F σ:={
 len:=rfl
 bs:=λi hi=>by
  obtain ⟨x,y,h1,h2,h3⟩:=X.bf i hi;have O:([]:TH).length=0:=rfl;rw[O] at h1;refine ⟨y,x,h2,by simp_all,?_⟩;rcases h3 with ⟨w,cs,w',G,rfl,rfl,L⟩ | L
  ·refine .inl ⟨w',G,w,cs,rfl,rfl,?_⟩;have ad:fj 0 s i=(kT i s.ρ).getD 0:=by rw[fj,if_neg (by omega)]
   have ex:=Td he i w' G w cs h2 (by simp_all);refine ar.AY ?_ λj a b ha hb=>?_
   ·have:=L.len
    simp_all
   ·have c:=(L.get j b.2 (by simp_all));obtain ⟨a',A,c⟩:=c;rw[gT,ha] at A;simp only[Option.map_some,ab] at A;subst A;have e1:=Si ex j b a hb ha;have blk:∀b u:Nat,Bd 0 s b u->b<F.length->u=ρ b:=λb u hb O=>by grind [Bd.Dq]
    rcases c with c | ⟨c1,c2⟩
    ·rcases c with ⟨_,c2,c3⟩ | ⟨i',u,v,l,cv,_,o,_⟩ | ⟨i',E,u,v,l0,ak,j',lv,l,cv,R,o,h3,U,h5⟩ | ⟨E,u,off,sz,R,o,U,K⟩ | ⟨E,u,R,o,U,K⟩ | ⟨f1,E,u,sz,R,o,U,K⟩
     ·grind [NF,D.xc]
     ·simp_all
     ·have hF:=X.sr.row E j' l lv cv h5;have Z:=(dT.1 hF).1;obtain ⟨x,y,u1,u2,u3⟩:=X.bf E Z;have q:fj 0 s E=u:=o.Dq;rw[O,q,h3] at u1;rw[hF] at u2;simp only[ab] at u1 u2;subst u1 u2;rcases u3 with ⟨_,_,_,_,e,_⟩ | ⟨i2,l2,_,_,_,_,e4,e5⟩ | ⟨_,_,_,_,_,e4,_⟩
      ·simp at e
      ·grind [TC.er,D.cR]
      simp_all
     ·grind [TC.er,D.cR,MX.HA]
     ·grind [TC.er,D.cR,MX.HA]
     grind [TC.er,D.cR,D.cR.rj,MX.HA]
    grind [D.xc,GC.low]
  ·exact .inr L.symm }
theorem Xl(m i:Nat)(l:List (TT i)):(OB (enc i) l).low m=true:=by
 have:∀d:List C,D.low.bM m (d.map .c)=true:=by
  intro d;induction d with
  |nil=>rfl
  |cons c d ih=>simp only[mb,D.low.bM,D.low,ih,EP]
 exact this _
theorem Bx{m:Nat}:∀{ds:List D},(∀d∈ds,d.low m=true)->D.low.bM m ds=true:=by
 intro ds;induction ds with
 |nil=>intro _;rfl
 |cons d ds ih=>
  intro h;simp only[D.low.bM,aU]
  simp_all
theorem RH.low{σ:TH}(H:RH σ (σ.map TB.er)):(σ.map TB.er).all (Ob.low (σ.map TB.er).length)=true:=by
 rw[eG];intro G o;rw[gZ] at o;obtain ⟨blk,u,rfl⟩:=o;obtain ⟨b,u⟩:=Yw u;rw[vN];cases blk with
 |cells w x=>refine Bx λd hd=>?_;rw[gZ] at hd;obtain ⟨p,A,rfl⟩:=hd;exact ((H.hg b w x u p A).1).low
 |row i l K L=>exact Xl _ i l
 |mp j st l v=>have:=BD (st:=st) l 0;simp only[TB.er,Ob.low];rw[eG] at this ⊢;exact λe E=>D.cY (JG _) (this e E)
theorem XL{σ:TH}{v:TV}(g:GV σ v)(e:nT v):(eD v).low σ.length=true:=by
 cases v with
 |c x=>exact GC.low g
 |agg h=>refine Bx λd hd=>?_;rw[gZ] at hd;obtain ⟨x,j,rfl⟩:=hd;exact (g x j).low
 |aB h=>exact e.elim
theorem QY{m:Nat}{ds:List D}(h:∀d∈ds,d.low m=true):(one ds).low m=true:=by
 cases ds with
 |nil=>rfl
 |cons d ds=>
  cases ds with
  |nil=>exact h d (li ..)
  |cons e ds=>exact Bx h
theorem SS{ρ:Nat->Nat}{e d:List TV}(h:ar (λ(v k:TV)=>eD v=(eD k).cR ρ) e d):one (e.map eD)=(one (d.map eD)).cR ρ:=by
 have g:e.map eD=D.cR.rj ρ (d.map eD):=by
  induction h with
  |nil=>rfl
  |cons h _ ih=>grind [D.cR.rj]
 rw[g];cases d with
 |nil=>rfl
 |cons v j=>
  cases j with
  |nil=>rfl
  |cons m j=>rfl
theorem Fb(ρ:Nat->Nat):∀{l:List (Value×D×Nat)},(∀e∈l,e.2.1.low 0=true)->(l.map λe=>(e.1,e.2.1.cR ρ,e.2.2))=l:=by
 intro l;induction l with
 |nil=>simp_all
 |cons e l ih=>grind [D.xc]
theorem HG{ρ:Nat->Nat}{x y:TB}(h:xz ρ x y):y.er=x.er.cR ρ:=by
 rcases h with ⟨w,k,m,d,rfl,rfl,h⟩ | h
 ·simp only[TB.er,Ob.cR,Ob.cells.injEq];rw[PE];induction h with
  |nil=>rfl
  |cons h _ ih=>simp_all
 ·rw[h.er];rcases h with ⟨i,l,o,p,e,g,rfl,rfl⟩ | ⟨j,st,l,v,q,rfl,rfl⟩
  ·grind [TB.er,Ob.cR,HR]
  ·have:=BD (st:=st) l 0;rw[eG] at this;simp only[TB.er,Ob.cR,Ob.map.injEq,Kg];exact (Fb ρ this).symm
theorem Um{P:Program}{O:FW}(hO:∀p∈O,jb P p.1 p.2):bU.ok P (WL O):=by
 intro cs gi vs σ y ct x rv am σD ds h Z ad R a5 a6;cases cs with
 |nil=>grind
 |cons bu cs=>
  simp only[WL] at h;split at h
  rotate_left
  ·simp at h
  rename_i k0 k hH;split at h
  rotate_left
  ·simp at h
  rename_i g s hk;split at h
  rotate_left
  ·simp at h
  rename_i bv x0 hg r;split at h
  rotate_left
  ·simp at h
  rename_i af σ0 ak;split at h
  rotate_left
  ·simp at h
  rename_i E;simp only[aU] at E;obtain ⟨E,ax⟩:=E;split at h
  rotate_left
  ·simp at h
  rename_i a0 _;obtain ⟨y0,a7,hy⟩:=castO (CQ a0) h;have:=bP hg;subst this;obtain ⟨a1,a2⟩:=hO _ (sT hk);refine ⟨a1,?_⟩;dsimp only at a2;obtain ⟨i,o,z0,a8,ha,hb,a3⟩:=Oj a0 hy Z;have hr:=OK ax i o ct ha hb;unfold XO at r;split at r
  ·simp_all
  rename_i s1 G;split at r
  ·simp_all
  rename_i ms T;split at r
  rotate_left
  ·simp_all
  rename_i hc;split at r
  rotate_left
  ·simp_all
  rename_i x1 a9;simp only[ab,aC] at r;obtain ⟨rfl,rfl⟩:=r;simp only[aU,List.isEmpty_iff] at hc;obtain ⟨bw,bc,bd,b0⟩:=hc;obtain ⟨L0⟩:=iV ak;have H0:RH ([]:TH) []:=⟨rfl,λb blk h=>by simp at h,λb w cs h=>by simp at h⟩;obtain ⟨σs,X,be⟩:=UL (ct:=s.yz) (σ:=[]) (σ1:=σ) (s2:=s1) rfl G (by rw[bd];rfl) T (by grind) a9 L0 rfl H0 R (λb blk h=>by simp at h) a6
  have b1:σ0.length=s.yz.nb.length:=by grind [MX.len]
  let ρ:=NX s.yz.nb.length σ.length ms.ρ
  have K:∀i,i<σ0.length->fj 0 ms i=ρ i:=λi A=>by simp only[ρ,NX,fj];rw[if_neg (by omega),oS.mpr (by omega)]
  have t:∀k,ρ (σ0.length+k)=σ.length+k:=λk=>by
   simp only[ρ,NX];have:Nat.blt (σ0.length+k) s.yz.nb.length=false:=by
    rw[Bool.eq_false_iff]
    simp_all
   simp_all
  have C0:fK ρ σ0.length σ0 σ:=X.can R bc E K;have N:IS 0 σD (σ0.map TB.er) (fj 0 ms) (λ_=>False):=by
   have:=X.rnH R
   simp_all
  have hd:ar (b_ σD (σ0.map TB.er) (fj 0 ms) (λ_=>False)) ds (af.map eD):=by
   have:=X.valL R be a5
   simp_all
  have lt:∀i,i<σ0.length->ρ i<σ.length:=λi A=>by
   obtain ⟨x,y,u1,u2,_⟩:=C0.bs i A
   grind
  have a4:∀i j,i<σ0.length->j<σ0.length->ρ i=ρ j->i=j:=λi j A U e=>by rw[<-K i A,<-K j U] at e;exact N.inj i j (by simp_all) (by simp_all) e
  obtain ⟨L⟩:=iV ad;obtain ⟨k1,k2,k3,k4,k5,k6⟩:=L.all R;have hr:Xv ρ σ0.length o ct=true:=by grind
  obtain ⟨bh,F0,u,bi,CF⟩:=Nm a4 hr C0 t lt R L a3;obtain ⟨j1,j2,j3,j4,j5,j6⟩:=L0.all H0;obtain ⟨LF⟩:=iV u;obtain ⟨i1,i2,i3,i4,i5,i6⟩:=LF.all j1;have ok:=a2 x1 y0 af σ0 o z0 bh F0 a7 ak a8 u;have S:F0.length=σ0.length+o.nb.length:=CF.len;have bk:am.length=σ.length+ct.nb.length:=by
   have a:=(iI L.h4).len;have b:=(eK L.h1 R).len
   grind [uB,Laid.h5,Laid.fl]
  have bl:ct.nb.length=o.nb.length:=by
   have:∀{ps qs:List NB},tP ρ (σ0.length+o.nb.length) ps qs=true->qs.length=ps.length:=by
    intro ps;induction ps with
    |nil=>grind [tP]
    |cons p ps ih=>intro qs h;cases qs with | nil=>grind [tP] | cons q qs=>simp only[tP,aU] at h;grind
   simp only[Xv,aU] at hr
   grind
  have g0:=BC LF.h3;have bt:(σ0.map TB.er).length=σ0.length:=vN _;have m:(F0.map TB.er).length=F0.length:=vN _;rw[SS bi];refine Xr ok (by omega) i1.low ?_ (ρ0:=fj 0 ms) (λi A=>K i (by omega)) N hd ?_ ?_ ?_ ?_
  ·rw[m];refine QY λd hd=>?_;rw[gZ] at hd;obtain ⟨v,hv,rfl⟩:=hd;exact XL ((g0 v hv).gv LF.sr) (g0 v hv).nt
  ·intro i j A U e;rw[m] at A U;rcases pY i σ0.length with G | G
   ·rcases pY j σ0.length with T | T
    ·grind
    grind [Nat.exists_eq_add_of_le]
   ·obtain ⟨k,rfl⟩:=ZD G;rw[t] at e;rcases pY j σ0.length with T | T
    ·grind
    grind [Nat.exists_eq_add_of_le]
  ·grind [Nat.exists_eq_add_of_le,RH.len]
  ·intro i A;rw[m,S] at A;obtain ⟨x,y,u1,u2,u3⟩:=CF.bs i A
   grind [HG]
  ·intro j U;rw[m,S] at U;rcases pY j σD.length with G | G
   ·refine k5 j G λhm=>?_;rw[gZ] at hm;obtain ⟨q,hq,e⟩:=hm;simp only[Xv,aU] at hr
    grind [Nj]
   ·rw[R.len] at G;obtain ⟨k,rfl⟩:=ZD G;have:o.nb.length<=k:=by
     rcases pY k o.nb.length with T | T
     ·exact absurd (t k) (U (σ0.length+k) (by omega))
     omega
    rw[xAe (by grind),xAe (by grind [RH.len])]
theorem Wz{P:Program}{B:bU}(o:bU.ok P B){g:FuncId}{s:jp}(p:aH P g=true)
  (h:∀x,(match pW s.yz [] x with | some (vs,σ)=>B s.QG g vs σ | none=>none)=s.f x):jb P g s:=by
 refine ⟨p,λx y vs σ ct z q r d k hs t=>?_⟩;rw[<-h x,k] at d;dsimp only at d;obtain ⟨e⟩:=iV k;have u:RH ([]:TH) []:=⟨rfl,λb blk h=>by simp at h,λb w K h=>by simp at h⟩;obtain ⟨A,L,N,O,R,S⟩:=e.all u;have m:=BC e.h3;have E:dP vs (vs.map eD):=by
  have:∀(vs:List TV),(∀v∈vs,nT v)->dP vs (vs.map eD):=by
   intro vs;induction vs with
   |nil=>intro _;exact .nil
   |cons v vs ih=>intro h;exact .cons (RT.eD (h v (li ..))) (ih λx G=>h x (kE _ G))
  exact this vs λv j=>(m v j).nt
 exact (o s.QG g vs σ y ct z q r _ _ d hs t A E λv j=>(m v j).gv e.sr).2
end
end Go.Abs
end
section
namespace Go.Abs
noncomputable section
variable[Gl][Y:Ty]
def pD(P:Program)(O:FW):Prop:=∀p∈O,jb P p.1 p.2
theorem pD.nil{P:Program}:pD P []:=λp h=>by simp at h
theorem pD.cons{P:Program}{O:FW}{g:FuncId}{s:jp}(h:jb P g s)(r:pD P O):pD P ((g,s)::O):=λp j=>by
 rcases dO.1 j with rfl | j
 ·exact h
 ·exact r p j
def KH(O:FW)(K:bU):bU:=λd g e σ=>match d with
 |[]=>none
 |ct :: d => match ct.H with
  |[(_,k)]=>match Nat.beq k 999999 with | true=>K (ct::d) g e σ | false=>WL O (ct::d) g e σ
  |_=>none
theorem CN{P:Program}{O:FW}{K:bU}(r:pD P O)(t:bU.ok P K):bU.ok P (KH O K):=by
 intro u k m σ y ct x o p σD ds h d e q g j;unfold KH at h;split at h
 ·simp at h
 split at h
 ·split at h
  ·exact t _ k m σ y ct x o p σD ds h d e q g j
  ·exact Um r _ k m σ y ct x o p σD ds h d e q g j
 simp_all
def YU(P:Program)(S:ot)(N:Nat)(O:FW)(K:bU):bU:=(Gi P S N (KH O K) (YO O) 30).1
theorem TI{P:Program}{S:ot}{N:Nat}{O:FW}{K:bU}(cy:P.follows .mixedOrders=true)(d:dB P S)(e:pD P O)(g:bU.ok P K):bU.ok P (YU P S N O K):=(GL cy d (CN e g) 30).1
def tG(P:Program)(g:Nat)(S:ot)(O:FW)(K:bU)(H:List (Nat×Nat))(J:List (Nat×JH))(C:List (Nat×List CT))(d out:List bT)(N:Nat)(a:oC d):Option (iH out):=
 match P.funcs[g]? with
 |some f => match e_ P f true with
  |some e => match aH P g && Nat.ble d.length e.ntmps with
   |true=>tF P S (KH O K) (YO O) H J C 30 e d out N a
   |false=>none
  |none=>none
 |none=>none
theorem Zg{P:Program}{g:Nat}{S:ot}{O:FW}{K:bU}{H:List (Nat×Nat)}{J:List (Nat×JH)}{C:List (Nat×List CT)}{d out:List bT}{N:Nat}{f:oC d->Option (iH out)}(cy:P.follows .mixedOrders=true)(j:dB P S)(m:pD P O)(o:bU.ok P K)(h:∀a,tG P g S O K H J C d out N a=f a):a_ P g ⟨d,out,f⟩:=by
 intro a r e;dsimp only at a r e ⊢;rw[<-h a] at e;unfold tG at e;split at e
 ·rename_i fn p;split at e
  ·rename_i t q;split at e
   ·rename_i k;simp only[aU] at k;exact Zl cy j p k.1 q ⟨(GL (B:=KH O K) cy j (CN m o) 30).1.inl _ _ _ _ _ _ _ _,(GL (B:=KH O K) cy j (CN m o) 30).2.two _ _ _ _ _ _ _ _⟩ k.2 e
   simp_all
  simp_all
 simp_all
def oG(P:Program)(g:Nat)(S:ot)(O:FW)(K:bU)(N:Nat)(s:jp)(x:dm s.yz.items):Option (mA s.QG):=
 match pW s.yz [] x with
 |some (d,σ)=>YU P S N O K s.QG g d σ
 |none=>none
theorem YX{P:Program}{g:Nat}{S:ot}{O:FW}{K:bU}{N:Nat}{s:jp}(cy:P.follows .mixedOrders=true)(d:dB P S)(e:pD P O)(j:bU.ok P K)(k:aH P g=true)(h:∀x,oG P g S O K N s x=s.f x):jb P g s:=Wz (TI cy d e j) k h
end
end Go.Abs
end
section
namespace Go.Abs
noncomputable section
variable[Gl][Y:Ty]
abbrev Tt:D:=.c (.lit (.slice none 0 0))
def Gp (es sz:Nat) (z:List D):iw:=⟨1,8,[(2,none)],.seq (.wm [⟨some 2,.uV (.k Tt),none⟩])
 (.seq (.seq (.wm [⟨some 3,.uV (.t 0),none⟩,⟨some 4,.fS 3 false (.t 3),none⟩])
  (.cond (.t 4) (.seq (.wm [⟨some 2,.uV (.k Tt),none⟩]) .ret) .skip))
 (.seq (.wm [⟨some 5,.fZ es 0 z [],none⟩,⟨some 6,.uV (.t 0),none⟩,⟨some 7,.append es sz (.t 5) (.t 6),none⟩,⟨some 2,.uV (.t 7),none⟩]) .ret)),true⟩
def Xe(i:Nat)(a:oC [bT.c (.sl i)]):Option (iH [bT.c (.sl i)]):=cL ([]:List (TT i)) a.1
theorem cM{P:Program}:jX P (λ_ _ _ _=>none):=λt g ds σ r d wr h=>by simp at h
theorem pH{P:Program}{g i sz:Nat}{z:List D}{fn:Func}(cy:P.follows .mixedOrders=true)(k:P.funcs[g]? = some fn)(o:aH P g=true)(p:e_ P fn true=some (Gp (ai i) sz z))(hs:Nat.ble sz 1000=true):a_ P g ⟨[.c (.sl i)],[.c (.sl i)],Xe i⟩:=by
 intro a r j;obtain ⟨l,u⟩:=a;dsimp only at j;show Pure P g [.c (.bG false (l.map (enc i)))] (.c (.bG false (r.map (enc i))));obtain ⟨q,rfl⟩:=pV (l:=([]:List (TT i))) (m:=l) j;refine Ns (λe d=>?_) ?_ ?_
 ·rw[gZ] at d;obtain ⟨x,_,rfl⟩:=d;intro h;have:=nh i x;rw[h] at this;have t:=Y.ps i
  simp_all
 ·refine pT k o p (wS rfl) ?_;refine Sem.gR (Sem.lP cy cM (bj.op (um rfl) fB rfl (bj.nil (.inl ?_))));refine Sem.gR ?_;refine Sem.gR (Sem.lP cy cM (bj.op (um rfl) fB rfl (bj.op (dz (b:=false) rfl rfl) fB rfl (bj.nil (.inl ?_)))));refine Sem.cond (b:=false) rfl (λh=>by simp at h) λ_=>Sem.skip cy (.inl ?_);refine Sem.gR (Sem.lP cy cM (bj.op (gu (f:=enc i) (l:=([]:List (TT i))) rfl rfl rfl (nh i) rfl rfl rfl) fB rfl (bj.op (um rfl) fB rfl
   (bj.op (qJ (f:=enc i) (l:=([]:List (TT i))) (m:=r) (r:=r) (nh i) rfl rfl rfl rfl (wX (nh i)) j hs rfl rfl) fB rfl (bj.op (um rfl) fB rfl (bj.nil (.inl ?_)))))))
  refine Sem.ret cy ⟨.inr rfl,_,_,rfl,SA (l:=r) (nh i) (Y.ps i) rfl rfl,xW.HM rfl⟩
 ·intro d;rw[d];refine pT k o p (wS rfl) ?_;refine Sem.gR (Sem.lP cy cM (bj.op (um rfl) fB rfl (bj.nil (.inl ?_))));refine Sem.gR ?_;refine Sem.gR (Sem.lP cy cM (bj.op (um rfl) fB rfl (bj.op (dz (b:=true) rfl rfl) fB rfl (bj.nil (.inl ?_)))));refine Sem.cond (b:=true) rfl (λ_=>?_) λh=>by simp at h
  refine Sem.gR (Sem.lP cy cM (bj.op (um rfl) fB rfl (bj.nil (.inl ?_))));refine Sem.ret cy ⟨.inr rfl,_,_,rfl,rfl,xW.HM rfl⟩
theorem Vv{P:Program}{g:FuncId}{es:List (List C)}{r:D}{σ σ':aa}(q:∀e∈es,e≠[])(K:Ok P g [.c (.bG true es)] σ r σ')(L:es=[]->Ok P g [.c (.lit (.slice none 0 0))] σ r σ'):Ok P g [.c (.bG false es)] σ r σ':=by
 intro M Fz w h R hs N;have t:h[0]? = some (h[0]'(by simp_all)):=nE _;have j:=N 0 _ _ rfl t;generalize T:h[0]'(by simp_all)=x at j t;have only:∀d,V σ M Fz w d x->∀(i:Nat) u v,[d][i]? = some u->h[i]? = some v->V σ M Fz w u v:=by grind
 cases j with
 |c A=>
  generalize E:C.bG false es=y at A;cases A with
  |bG ai a cap O G c m k o p=>
   simp only[C.bG.injEq] at E;obtain ⟨rfl,rfl⟩:=E;cases a with
   |some a=>exact K M Fz w h R hs (only _ (.c (.bG ai (some a) cap (λ_=>rfl) G c m k o p)))
   |none=>
    have S:es=[]:=by simp_all
    subst S;have:=G rfl;subst this;exact L rfl M Fz w h R hs (only _ (.c (.lit _)))
  |_=>grind
theorem Ln{P:Program}{g:FuncId}{ds:List D}(h:Ok P g ds [] Tt [])(es:Nat):Ok P g ds [] (.sl 0 0 0 es 0) [.cells []]:=by
 intro M Fz w r R hs t;refine (h M Fz w r R hs t).mono λe G u=>?_;obtain ⟨v,k,m,x,j,p,d⟩:=u;have y:∀b,k b=none:=λb=>by
  cases q:k b with
  |none=>rfl
  |some c=>obtain ⟨_,A,o,K,_⟩:=j.blk b c q;grind
 refine ⟨v,k,m,x,⟨λb c q=>(by simp_all),j.inj,j.fz,j.gl⟩,?_,⟨d.size,d.frame,d.hY,d.fz,d.jj,d.lm,λb A q=>by grind,d.out⟩⟩;cases p with
 |c E=>
  cases E with
  |lit=>exact .sl none 0 0 (λh=>absurd rfl h) (.cells []) rfl (bQ _) λ_=>.inl ⟨rfl,rfl,rfl,rfl,rfl,rfl⟩
theorem UN{i:Nat}{l:List (TT i)}:IS 0 [OB (enc i) l] [OB (enc i) l] id (λ_=>False):={
 le:=JG _
 id:=λi h=>rfl
 inj:=λi j _ _ h=>h
 fr:=λ_ _ h=>h
 row:=λ_ h=>h.elim
 sz:=λj g=>by simp_all
 ob:=λj g=>by
  have:j=0:=by simp_all
  subst this;have N:Rn 0 [OB (enc i) l] [OB (enc i) l] id (λ_=>False):=⟨JG _,λi h=>rfl,λi j _ _ h=>h,λ_ _ h=>h,λ_ h=>h.elim,λj g=>by simp_all⟩
  refine ⟨_,_,rfl,rfl,_,rfl,ar.AY rfl λk a b d e=>?_⟩;rw[d] at e;simp only[ab] at e;subst e;rw[gT,bq] at d;obtain ⟨c,_,rfl⟩:=d;exact b_.data N rfl }
theorem lV{P:Program}{g i sz:Nat}{z:List D}{fn:Func}(cy:P.follows .mixedOrders=true)(t:P.funcs[g]? = some fn)(A:aH P g=true)(u:e_ P fn true=some (Gp (ai i) sz z))(hs:Nat.ble sz 1000=true) :
  jb P g ⟨.mk [.v (.c (.sl i))] [] [] [] [] [],[.mk [.p (.hd 0)] [] [.row i] [] [] []],λx=>cL ([]:List (TT i)) x⟩:=by
 refine ⟨A,λx y E σ ct z G K q r d L=>?_⟩;dsimp only at q r d;change dm [It.cc (.sl i)] at x;change dm [It.ls i] at y;have o:some ([TV.c (.sl i x)],([]:TH))=some (E,σ):=by rw[<-r];have e:ff (CT.items (.mk [.v (.c (.sl i))] [] [] [] [] [])) x=[⟨.cc (.sl i),x⟩]:=rfl;unfold pW;rw[e];simp only[CT.pl,CT.nb,CT.out,br,cK,mV,wo,Gc,dV,dv,DA];rfl
 simp only[ab,aC] at o;obtain ⟨rfl,rfl⟩:=o;simp only[tu,ab,Xa] at d;obtain ⟨rfl,N⟩:=d;have p:some ([TV.c (.own i 0 0 (List.length (α:=TT i) y))],[TB.row i y 0 0])=some (G,K):=by rw[<-L];have e:ff (CT.items (.mk [.p (.hd 0)] [] [.row i] [] [] [])) y=[⟨.ls i,y⟩]:=rfl;unfold pW;rw[e];simp only[CT.pl,CT.nb,CT.out,br,cK,mV,wo,uS,Gc,dV,dv,DA,List.nil_append,List.getElem?_cons_zero]
 simp only[ab,aC] at p;obtain ⟨rfl,rfl⟩:=p;obtain ⟨v,rfl⟩:=pV (l:=([]:List (TT i))) (m:=x) q;show Ok P g [.c (.bG false (List.map (enc i) y))] [] (OS (ai i) 0 (List.length (α:=TT i) y)) [OB (enc i) y];refine Vv (λe k=>?_) ?_ ?_
 ·rw[gZ] at k;obtain ⟨x,_,rfl⟩:=k;intro h;have:=nh i x;rw[h] at this;have r:=Y.ps i
  simp_all
 ·refine lB t u (wS rfl) ?_;refine Sem.gR (Sem.lP cy cM (bj.op (um rfl) fB rfl (bj.nil (.inl ?_))));refine Sem.gR ?_;refine Sem.gR (Sem.lP cy cM (bj.op (um rfl) fB rfl (bj.op (dz (b:=false) rfl rfl) fB rfl (bj.nil (.inl ?_)))));refine Sem.cond (b:=false) rfl (λh=>by simp at h) λ_=>Sem.skip cy (.inl ?_);refine Sem.gR (Sem.lP cy cM (bj.op (gu (f:=enc i) (l:=([]:List (TT i))) rfl rfl rfl (nh i) rfl rfl rfl) fB rfl (bj.op (um rfl) fB rfl
   (bj.op (qJ (f:=enc i) (l:=([]:List (TT i))) (nh i) rfl rfl rfl rfl (wX (nh i)) q hs rfl rfl) fB rfl (bj.op (um rfl) fB rfl (bj.nil (.inl ?_)))))))
  refine Sem.ret cy ⟨.inr rfl,_,id,λ_=>False,rfl,UN,λ_ h=>h.elim,?_⟩;exact b_.sl UN.toRn (i:=0) (Nat.lt_succ_self 0)
 ·intro k;have k:y=([]:List (TT i)):=List.map_eq_nil_iff.1 k;subst k;have e:OS (ai i) 0 (List.length (α:=TT i) [])=.sl 0 0 0 (ai i) 0:=by simp[OS]
  rw[e];refine Ln ?_ (ai i);refine lB t u (wS rfl) ?_;refine Sem.gR (Sem.lP cy cM (bj.op (um rfl) fB rfl (bj.nil (.inl ?_))));refine Sem.gR ?_;refine Sem.gR (Sem.lP cy cM (bj.op (um rfl) fB rfl (bj.op (dz (b:=true) rfl rfl) fB rfl (bj.nil (.inl ?_)))));refine Sem.cond (b:=true) rfl (λ_=>?_) λh=>by simp at h
  refine Sem.gR (Sem.lP cy cM (bj.op (um rfl) fB rfl (bj.nil (.inl ?_))));refine Sem.ret cy ⟨.inr rfl,_,id,λ_=>False,rfl,⟨⟨bQ _,λi h=>rfl,λi j _ _ h=>h,λ_ _ h=>h,λ_ h=>h.elim,λi h=>by simp at h⟩,λi h=>by simp at h⟩,λ_ h=>h.elim,?_⟩;exact b_.data ⟨bQ _,λi h=>rfl,λi j _ _ h=>h,λ_ _ h=>h,λ_ h=>h.elim,λi h=>by simp at h⟩ rfl
theorem TM{σ:aa}(h:∀ob∈σ,∃(i:Nat)(l:List (TT i)),ob=OB (enc i) l){m:Nat}(hm:m<=σ.length):IS m σ σ id (λ_=>False):=by have N:Rn m σ σ id (λ_=>False):=⟨hm,λi _=>rfl,λi j _ _ e=>e,λ_ _ e=>e,λ_ e=>e.elim,λi d=>⟨_,_,cE d,cE d,rfl⟩⟩;refine ⟨N,λi d=>⟨_,_,cE d,cE d,?_⟩⟩;obtain ⟨k,l,e⟩:=h _ (bZ d);rw[e];refine ⟨_,rfl,ar.AY rfl λk a b g o=>?_⟩;rw[g] at o;simp only[ab] at o;subst o;rw[gT,bq] at g;obtain ⟨c,_,rfl⟩:=g;exact b_.data N rfl
theorem zk{P:Program}{g ii sz:Nat}{z:List D}{fn:Func}(cy:P.follows .mixedOrders=true)(K:P.funcs[g]? = some fn)(he:aH P g=true)(L:e_ P fn true=some (Gp (ai ii) sz z))(hs:Nat.ble sz 1000=true) :
  jb P g ⟨.mk [.p (.hd 0)] [] [.row ii] [] [] [],[.mk [.p (.hd 1)] [] [.row ii] [] [] []],λx=>cL ([]:List (TT ii)) x⟩:=by
 refine ⟨he,λx y p σ ct z rv am A N k hq=>?_⟩;dsimp only at A N k;change dm [It.ls ii] at x;change dm [It.ls ii] at y;have t:some ([TV.c (.own ii 0 0 (List.length (α:=TT ii) x))],[TB.row ii x 0 0])=some (p,σ):=by rw[<-N];have e:ff (CT.items (.mk [.p (.hd 0)] [] [.row ii] [] [] [])) x=[⟨.ls ii,x⟩]:=rfl;unfold pW;rw[e];simp only[CT.pl,CT.nb,CT.out,br,cK,mV,wo,uS,Gc,dV,dv,DA,List.nil_append,List.getElem?_cons_zero]
 simp only[ab,aC] at t;obtain ⟨rfl,rfl⟩:=t;simp only[tu,ab,Xa] at k;obtain ⟨rfl,hz⟩:=k;have u:some ([TV.c (.own ii 1 0 (List.length (α:=TT ii) y))],[TB.row ii x 0 0,TB.row ii y 0 0])=some (rv,am):=by rw[<-hq];have e:ff (CT.items (.mk [.p (.hd 1)] [] [.row ii] [] [] [])) y=[⟨.ls ii,y⟩]:=rfl;unfold pW;rw[e];simp only[CT.pl,CT.nb,CT.out,br,cK,mV,wo,uS,Gc,dV,dv,List.cons_append,List.nil_append,List.getElem?_cons_zero,List.getElem?_cons_succ]
 simp only[ab,aC] at u;obtain ⟨rfl,rfl⟩:=u;obtain ⟨O,rfl⟩:=pV (l:=([]:List (TT ii))) (m:=x) A;show Ok P g [OS (ai ii) 0 (List.length (α:=TT ii) y)] [OB (enc ii) y] (OS (ai ii) 1 (List.length (α:=TT ii) y)) [OB (enc ii) y,OB (enc ii) y];have rn:IS 1 [OB (enc ii) y,OB (enc ii) y] [OB (enc ii) y,OB (enc ii) y] id (λ_=>False):=TM (λob h=>by grind) (by simp)
 have fin:b_ [OB (enc ii) y,OB (enc ii) y] [OB (enc ii) y,OB (enc ii) y] id (λ_=>False) (OS (ai ii) 1 (List.length (α:=TT ii) y)) (OS (ai ii) 1 (List.length (α:=TT ii) y)):=b_.sl rn.toRn (i:=1) (Nat.lt_succ_self 1);have S:∀d,(isNil 3 d=some false)->Src [OB (enc ii) y,OB (enc ii) ([]:List (TT ii))] (enc ii) (ai ii) d y->Ok P g [d] [OB (enc ii) y] (OS (ai ii) 1 (List.length (α:=TT ii) y)) [OB (enc ii) y,OB (enc ii) y]:=λd hd E=>by
  refine lB K L (wS rfl) ?_;refine Sem.gR (Sem.lP cy cM (bj.op (um rfl) fB rfl (bj.nil (.inl ?_))));refine Sem.gR ?_;refine Sem.gR (Sem.lP cy cM (bj.op (um rfl) fB rfl (bj.op (dz (b:=false) rfl hd) fB rfl (bj.nil (.inl ?_)))));refine Sem.cond (b:=false) rfl (λh=>by simp at h) λ_=>Sem.skip cy (.inl ?_);refine Sem.gR (Sem.lP cy cM (bj.op (gu (f:=enc ii) (l:=([]:List (TT ii))) rfl rfl rfl (nh ii) rfl rfl rfl) fB rfl (bj.op (um rfl) fB rfl
   (bj.op (qJ (f:=enc ii) (l:=([]:List (TT ii))) (m:=y) (r:=y) (nh ii) rfl rfl rfl rfl E A hs rfl rfl) fB rfl (bj.op (um rfl) fB rfl (bj.nil (.inl ?_)))))))
  exact Sem.ret cy ⟨.inr rfl,_,id,λ_=>False,rfl,rn,λ_ h=>h.elim,fin⟩
 cases y with
 |cons a l=>exact S _ rfl (IC (nh ii) rfl rfl)
 |nil=>
  intro M Fz w p R hs hv;have U:p[0]? = some (p[0]'(by simp_all)):=nE _;have q:=hv 0 _ _ rfl U;generalize hx:p[0]'(by simp_all)=x at q U;have only:∀d,V [OB (enc ii) ([]:List (TT ii))] M Fz w d x->∀(i:Nat) Z v,[d][i]? = some Z->p[i]? = some v->V [OB (enc ii) ([]:List (TT ii))] M Fz w Z v:=by grind
  have e0:OS (ai ii) 0 (List.length (α:=TT ii) [])=.sl 0 0 0 (ai ii) 0:=by simp[OS]
  rw[e0] at q;cases q with
  |sl a n cap ad ob h af G=>
   simp only[List.getElem?_cons_zero,ab] at h;subst h;rcases G rfl with ⟨rfl,rfl,rfl,_⟩ | ⟨c,o,ak,T,h1,rfl,rfl,h2,h3,h4,h5,h6⟩
   ·refine (show Ok P g [Tt] [OB (enc ii) ([]:List (TT ii))] (OS (ai ii) 1 0) [OB (enc ii) ([]:List (TT ii)),OB (enc ii) ([]:List (TT ii))] from ?_) M Fz w p R hs (only _ (.c (.lit _)));refine lB K L (wS rfl) ?_;refine Sem.gR (Sem.lP cy cM (bj.op (um rfl) fB rfl (bj.nil (.inl ?_))));refine Sem.gR ?_;refine Sem.gR (Sem.lP cy cM (bj.op (um rfl) fB rfl (bj.op (dz (b:=true) rfl rfl) fB rfl (bj.nil (.inl ?_)))));refine Sem.cond (b:=true) rfl (λ_=>?_) λh=>by simp at h
    refine Sem.gR (Sem.lP cy cM (bj.op (um rfl) fB rfl (bj.nil (.inl ?_))));refine Sem.own 2 (ai ii) rfl rfl rfl ?_;refine Sem.ret cy ⟨.inr rfl,_,id,λ_=>False,rfl,rn,λ_ h=>h.elim,?_⟩;have:=fin;rw[show OS (ai ii) 1 (List.length (α:=TT ii) [])=.sl 1 0 0 (ai ii) 0 by simp[OS]] at this;rw[show OS (ai ii) 1 0=.sl 1 0 0 (ai ii) 0 by simp[OS]];exact this
   ·exact S (.c (.bG true [])) rfl (wX (nn:=true) (m:=([]:List (TT ii))) (nh ii)) M Fz w p R hs (only _ (.c (.bG (ai ii) _ cap (λ_=>rfl) (λh=>by simp at h) (λ_ _=>undef) (λe h=>by simp at h) (JG _) (λi j e d h=>by simp at h) (λi j e d h=>by simp at h))))
theorem XR{P:Program}{g:Nat}{out:List bT}(f:oC []->Option (iH out))(cy:P.follows .mixedOrders=true)(h:(YA P (Jn P []) (λ_ _ _=>none) 1000 1 g [] []).map (λp=>(WQ p.1,p.2.1))=(f ()).map λv=>(oA out v,[])):a_ P g ⟨[],out,f⟩:=by
 intro a r o;have d:f ()=some r:=o;rw[d] at h;cases m:YA P (Jn P []) (λ_ _ _=>none) 1000 1 g [] [] with
 |none=>simp_all
 |some p=>obtain ⟨q,j,wr⟩:=p;rw[m] at h;simp only[Option.map_some,ab,aC] at h;obtain ⟨t,rfl⟩:=h;have O:=W_ cy (Nx P []) (prim:=λ_ _ _=>none) (λg ds σ r j wr h=>by simp at h) 1000 1 g [] [] q [] wr m;refine ⟨O.1,λM Fz w u R hs x=>?_⟩;refine (O.2.1 M Fz w u R hs x).mono λe N y=>?_;obtain ⟨v,A,k,E,G,K,L⟩:=y;exact ⟨v,A,k,E,G,xW.Ug t _ _ _ _ _ K,L⟩
end
end Go.Abs
end
section
namespace Go.Abs
noncomputable section
open Go.RowKit
variable[Gl][Y:Ty]
structure lE (P:Program) (gs gk:FuncId) (kt:TypeId):Prop where
 en:aH P gs=true
 ku:P.underlying kt=some (.int .i64)
 run:∀(Bm b nn:Nat)(D0:DataW Unit)(R:Value->Option (DataW Unit×List MemPlace))(w:World),Bm<w.heap.size->w.cell? ⟨Bm,0,none⟩=some (.map (some b))->w.ownsMap P kt R b nn D0->Maps.size D0<=maxLen->Maps.size D0 * 8<=140737488355328 ->
  Calls P gs #[.func (.func gk) #[] #[.pointer (some ⟨Bm,0,none⟩)]] w λe w'=>∃(v:Value)(ss:List Int)(et:TypeId),e=.returned v/\ss.Perm (intKeys D0)/\w'.ownsRow w.heap.size et 1 v ss.length ((ss.mergeSort (λx y=>decide (x<=y))).map encZ)/\(v=.slice none 0 0↔ss=[])/\Below w.heap.size w w'
def An{α d:Type}(c:Int->d)(l:List (Int×α)):Option (List d):=
 if l.length<=1000000/\(l.map Prod.fst).Nodup/\(∀p∈l,(Lit.int .i64 p.1).wf=true) then some (((l.map Prod.fst).mergeSort (λx y=>decide (x<=y))).map c) else none
def Oo(ct:CT)(ii:Nat):Bool:=match ct.out,ct.pl,ct.nb with
 |[.v (.c (.sl j))],[],[]=>Nat.beq j ii
 |_,_,_=>false
def BP(d e:FuncId)(ii:Nat)(c:Int->TT ii):bU:=λj g k σ=>
 match j with
 |[ct] => match Nat.beq g d, k with
  |true, [.c (.d (.fn (.func f) [] [.ptr b 0 1]))] => match Nat.beq f e, σ[b]? with
   |true, some (.cells _ [(_, .d (.mp m))]) => match σ[m]? with
    |some (.mp _ _ l _) => match Oo ct ii, decEq [It.cc (.sl ii)] ct.items with
     |true,.isTrue h=>cast (Dj (λi=>Option (dm i)) h) (An c l)
     |_,_=>none
    |_=>none
   |_,_=>none
  |_,_=>none
 |_=>none
theorem Hg{α d:Type}(p:Option α=Option d)(e:α=d){o:Option α}{y:d}(h:cast p o=some y):∃g,o=some g/\HEq g y:=by grind
theorem Uu{α:Type}{g:α->D}:∀(l:List (Int×α))(i j:Nat),(ud g i l)[j]? = (l[j]?).map λp=>(.int .i64 p.1,g p.2,i+j):=by
 intro l;induction l with
 |nil=>intro i j;rfl
 |cons p l ih=>grind [ud]
theorem Sr{α:Type}{g:α->D}:∀(l:List (Int×α))(i:Nat),(ud g i l).length=l.length:=by
 intro l;induction l with
 |nil=>intro i;rfl
 |cons p l ih=>grind [ud]
theorem Cu{P:Program}{gs gk:FuncId}{A:TypeId}(K:lE P gs gk A){ii:Nat}{c:Int->TT ii}(hc:∀k,enc ii (c k)=[.lit (.int .i64 k)]){σ:aa}{b m:Nat}{α:Type}{g:α->D}{l:List (Int×α)}{r:List (TT ii)}
  (hb:σ[b]? = some (.cells [.mp m])) (hm:σ[m]? = some (MB g l)) (hr:An c l=some r):Ok P gs [.fn (.func gk) [] [.ptr b 0 1]] σ (.c (.bG false (r.map (enc ii)))) σ:=by
 unfold An at hr;split at hr
 rotate_left
 ·grind
 rename_i af;obtain ⟨U,b3,b4⟩:=af;simp only[ab] at hr;intro M Fz w vs R hs bc;have Z:vs=#[vs[0]'(by simp_all)]:=by grind
 have hv:=bc 0 _ _ rfl (nE (by grind));generalize vs[0]'(by grind)=v0 at hv Z;subst Z;cases hv with
 |fn v1 ws h1 h2 _ hw=>
  have e1:v1=#[]:=by simp_all
  subst e1;have e2:ws=#[ws[0]'(by simp_all)]:=by grind
  have hp:=hw 0 _ _ rfl (nE (by grind));generalize ws[0]'(by grind)=p at hp e2;subst e2;have ad:jZ σ b 1=some [.mp m]:=Nk hb rfl;obtain ⟨cb,hM,rfl⟩:=hp.qG ad;obtain ⟨bd,_⟩:=FV ad;obtain ⟨u,T,hh,hl,be⟩:=R.row hM bd;have ea:u[0]? = some (u[0]'(by omega)):=nE _;have bh:=(be 0 _ _ rfl ea).1;obtain ⟨cm,b5,bi⟩:=bh.xJ hm;obtain ⟨t,ck,bk,⟨a4,hB⟩,bw⟩:=R.Ff hm bi;rw[Sr] at a4;have ak:w.cell? ⟨cb,0,none⟩=some (.map (some cm)):=by grind [Go.cell_of_row]
  have bl:∀(i:Nat) e,t[i]? = some e->∃p,l[i]? = some p/\e.key=.int .i64 p.1/\True:=λi e E=>by
   have hi:i<l.length:=by grind
   have h3:(ud g 0 l)[i]? = some (.int .i64 l[i].1,g l[i].2,0+i):=by grind [Uu]
   grind
  let RR:Value->Option (DataW Unit×List MemPlace):=λ_=>some (.nil,[])
  have ax:t.toList.length=l.length:=by omega
  have a0:t.toList.map (·.key)=(l.map Prod.fst).map (Value.int .i64):=by
   apply L_
   grind
  have b6:∀e∈t.toList,∃p∈l,e.key=.int .i64 p.1/\Go.WideElems.rd P A RR e=some (.int .i64 p.1,.nil):=λe E=>by
   obtain ⟨i,hi⟩:=Yw E
   grind [Go.WideElems.rd,Go.Maps.keyOf_int_mk,lE.ku]
  have a5:Go.WideElems.Fit P A RR t ck:=by
   refine ⟨by rw[a4];exact jI U (by decide),⟨λe E=>?_,?_,?_⟩,λe E=>?_⟩
   ·exact hB.2 e E
   ·exact hB.1
   ·grind
   grind
  have G:((t.toList.map (Go.WideElems.rg P A RR)).foldr DataW.insert []).Perm (t.toList.map (Go.WideElems.rg P A RR)):=Go.WideShapes.sorted_perm _;have a6:w.ownsMap P A RR cm l.length (.map ((t.toList.map (Go.WideElems.rg P A RR)).foldr DataW.insert [])):=⟨t,ck,bk,a5,by omega,rfl⟩;have a1:(intKeys (.map ((t.toList.map (Go.WideElems.rg P A RR)).foldr DataW.insert []):DataW Unit)).Perm (l.map Prod.fst):=by
   refine (G.map _).trans ?_;have:(t.toList.map (Go.WideElems.rg P A RR)).map (λp=>intOf p.1)=l.map Prod.fst:=by
    rw[PE];have h5:(l.map Prod.fst).map (Value.int .i64)=t.toList.map (·.key):=a0.symm;apply L_;intro i;rw[gT,gT,Gq];cases E:t[i]? with
    |none=>simp_all
    |some e=>obtain ⟨p,h3,h4,_⟩:=bl i e E;have hp:=sT h3;rw[h3];simp only[Option.map_some,Function.comp,ab];rw[Go.WideElems.rg_of (show Go.WideElems.rd P A RR e=some (.int .i64 p.1,.nil) by grind [Go.WideElems.rd,Go.Maps.keyOf_int_mk,lE.ku])];rfl
   rw[this]
  have a7:Maps.size (.map ((t.toList.map (Go.WideElems.rg P A RR)).foldr DataW.insert []):DataW Unit)=l.length:=by rw[Maps.size_eq,G.length_eq,vN,ax]
  refine (K.run cb cm l.length _ RR w (R.lt hM).2 ak a6 (by rw[a7];exact jI U (by decide)) (by omega)).mono λe O E=>?_;obtain ⟨v,L,et,rfl,hp,a2,b0,S⟩:=E;have a3:L.mergeSort (λx y=>decide (x<=y))=(l.map Prod.fst).mergeSort (λx y=>decide (x<=y)):=mergeSort_of_perm_i (hp.trans a1);have bt:r.map (enc ii)=((l.map Prod.fst).mergeSort (λx y=>decide (x<=y))).map λk=>[C.lit (.int .i64 k)]:=by grind [List.map_congr_left]
  rw[bt,<-a3];have HA:(L.mergeSort (λx y=>decide (x<=y))).length=L.length:=List.length_mergeSort L;obtain ⟨_,a2⟩:=a2;rcases a2 with ⟨rfl,h0⟩ | ⟨gb,cap,a8,rfl,b7,a9,b1,_,b2,b8⟩
  ·have:L=[]:=QI h0;subst this;refine ⟨_,M,Fz,rfl,R.below S,.c ?_,aW.below R S⟩;rw[show ([]:List Int).mergeSort (λx y=>decide (x<=y))=[] from QI (by omega)];exact .bG 1 none 0 (λh=>by simp at h) (λ_=>rfl) (λ_ _=>undef) (λe E=>by grind) (bQ _) (λi j e d h=>by simp at h) (λi j e d h=>by simp at h)
  ·have bu:∀(i:Nat) k,(L.mergeSort (λx y=>decide (x<=y)))[i]? = some k->O.cell? ⟨gb,0+i * 1+0,none⟩=some (.int .i64 k):=λi k hk=>by
    rw[cell_of_row O gb _ a8 et (0,0) a9];have hi:i<L.length:=by grind
    have h6:(a8.toList.take (L.length * 1))[i]? = some (encZ k):=by simp_all
    grind
   let N:Nat->Prop:=λx=>Fz x∨x=gb
   have RB:=R.below S;have EB:=aW.below R S;have b9:gb<O.heap.size:=(CS.1 a9).1;have mono:∀x:Nat,Fz x->N x/\O.heap[x]? = O.heap[x]?:=λx h=>⟨.inl h,rfl⟩;have mv:∀{d v},V σ M Fz O d v->V σ M N O d v:=λh=>h.sub (λb ob hb=>⟨ob,hb,rfl⟩) (λ_ _ h=>h) mono (λc u T fr h=>⟨u,h,rfl⟩);have R2:Rel σ M N O:=by
    refine ⟨λb' x h=>?_,RB.inj,λx h=>?_,Gl.mono mono RB.gl⟩
    ·obtain ⟨h1,ob,o,h2,h3,h4⟩:=RB.blk b' x h;have hx:x<w.heap.size:=(R.lt h).2;refine ⟨λhf=>?_,ob,o,h2,h3,?_⟩
     ·grind
     ·cases ob with
      |cells cs=>obtain ⟨u,T,ho,hl,hv⟩:=h4;exact ⟨u,T,ho,hl,λi d v x y=>⟨mv (hv i d v x y).1,(hv i d v x y).2⟩⟩
      |map es bv=>obtain ⟨u,ho,hl,hv⟩:=h4;exact ⟨u,ho,hl,λi k d n e x y=>let ⟨p,q,r⟩:=hv i k d n e x y;⟨p,q,mv r⟩⟩
      |gone n=>exact h4.elim
    ·rcases h with h | rfl
     ·exact RB.fz x h
     omega
   have E2:aW σ M Fz w σ M N O:=⟨EB.size,EB.frame,EB.hY,λx h=>⟨.inl h,(EB.fz x h).2⟩,λx h=>by grind,EB.lm,EB.bX,EB.out⟩
   refine ⟨_,M,N,rfl,R2,.c ?_,E2⟩;have e7:L.length=((L.mergeSort (λx y=>decide (x<=y))).map λk=>[C.lit (.int .i64 k)]).length:=by simp_all
   rw[e7];refine .bG 1 (some ⟨gb,0,none⟩) cap (λh=>by simp at h) (λh=>by simp at h) (λi _=>.int .i64 ((L.mergeSort (λx y=>decide (x<=y)))[i]?.getD 0)) (λe E=>?_) (by omega) (λi j e d hi hj=>?_) (λi j e d hi hj=>?_)
   ·grind
   ·rw[gT,bq] at hi;obtain ⟨k,hk,rfl⟩:=hi;cases j with
    |succ j=>grind
    |zero=>
     refine ⟨gb,0,rfl,.inr rfl,?_,rfl⟩
     grind
   ·rw[gT,bq] at hi;obtain ⟨k,hk,rfl⟩:=hi;cases j with
    |succ j=>grind
    |zero=>simp only[List.getElem?_cons_zero,ab] at hj;subst hj;rw[hk];exact .lit _
theorem H_{P:Program}{R S:FuncId}{U:TypeId}(K:lE P R S U){ii:Nat}{c:Int->TT ii}(Z:∀k,enc ii (c k)=[.lit (.int .i64 k)]):bU.ok P (BP R S ii c):=by
 intro cs gi vs σ y ct x rv am σD ds h e d q t ad;unfold BP at h;split at h
 rotate_left
 ·simp at h
 rename_i o;split at h
 rotate_left
 ·simp at h
 rename_i f b hg;split at h
 rotate_left
 ·simp at h
 rename_i w0 v0 m hf hb;split at h
 rotate_left
 ·simp at h
 rename_i j st l Mn hm;split at h
 rotate_left
 ·simp at h
 rename_i Dr u _;obtain ⟨T,hk,hy⟩:=Hg _ (show dm [It.cc (.sl ii)]=mA [o] from Dj dm Dr) h;have:=bP hg;subst this;have:=bP hf;subst this;simp only[tu,ab,Xa] at e;obtain ⟨rfl,hz⟩:=e;cases hz;obtain ⟨out,pl,nb,H,J,C⟩:=o;simp only[Oo,CT.out,CT.pl,CT.nb] at u;split at u
 rotate_left
 ·grind
 obtain rfl:ii=_:=(bP u).symm;have v:ds=[.fn (.func f) [] [.ptr b 0 1]]:=by
  cases t with
  |cons r a=>cases a;rw[RT.c1 (by simp) r];rfl
 subst v;have p:ff (CT.items (.mk [.v (.c (.sl ii))] [] [] H J C)) y=[⟨.cc (.sl ii),T⟩]:=by grind [ff]
 have g:rv=[.c (.sl ii T)]/\am=σ:=by unfold pW at d;rw[p] at d;simp only[CT.pl,CT.nb,CT.out,br,cK,mV,wo,Gc,dV,dv,DA,ab,aC] at d;exact ⟨d.1.symm,d.2.symm⟩
 obtain ⟨rfl,rfl⟩:=g;refine ⟨K.en,?_⟩;have A:=q.hp b _ hb;have E:=q.hp m _ hm;obtain ⟨G,b1,L⟩:=A;obtain ⟨N,m1,O⟩:=E;have L:G=.cells [.mp m]:=L;have O:N=MB (Fg j st) l:=O;subst L O;have:=Cu K Z b1 m1 hk;rw[<-q.Xt];exact this
end
end Go.Abs
end
section
namespace Go.Abs
noncomputable section
variable[Gl][Y:Ty]
section
variable{P:Program}{orc:qB}{n:Nat}{al:AL}{σ σ1:aa}
end
theorem Ok.cut{P:Program}{g:FuncId}{ds:List D}{O X u:List D}{k es sz:Nat}(h:Ok P g ds [.cells O] (.sl 0 0 k es sz) [.cells X])(hX:X.length=sz)(hk:k * es<=sz)(hd:∀d∈X.take (k * es),∃c,d=D.c c)(hg:sz<u.length)(ax:O.length<=sz) :
  Ok P g ds [.cells O] (.sl 1 0 k es (k * es)) [.cells u,.cells (X.take (k * es))]:=by
 intro M Fz w vs R hs hv;refine (h M Fz w vs R hs hv).mono λe w' he=>?_;obtain ⟨v,U,Z,rfl,K,ad,E⟩:=he;have a0:∀c,U 0=some c->∀b,U b=some c->b=0:=λc h b j=>K.inj b 0 c j h;refine ⟨v,λb=>if b=1 then U 0 else none,Z,rfl,⟨λb c j=>?_,λb b' c j a1=>?_,K.fz,K.gl⟩,?_,?_⟩
 ·split at j
  ·rename_i e1;subst e1;obtain ⟨h1,ob,o,G,h3,h4⟩:=K.blk 0 c j;simp only[List.getElem?_cons_zero,ab] at G;subst G;obtain ⟨A,T,ho,hl,hx⟩:=h4;refine ⟨h1,.cells (X.take (k * es)),o,rfl,h3,A,T,ho,by grind,λi d v q1 q2=>?_⟩;obtain ⟨x,rfl⟩:=hd d (sT q1);have q3:X[i]? = some (.c x):=by
    grind
   obtain ⟨L,q5⟩:=hx i _ v q3 q2;refine ⟨?_,q5⟩;cases L with
   |c L=>exact .c L
  simp_all
 ·simp_all
 ·cases ad with
  |sl a n cap af ob G a2 ak=>
   simp only[List.getElem?_cons_zero,ab] at G;subst G;refine .sl a n cap af (.cells (X.take (k * es))) rfl (by grind [Ob.sz]) (λ_=>?_);rcases ak (by grind [Ob.sz]) with ⟨q1,q2,q3,L,q5,q6⟩ | ⟨c,o,A,T,hM,ha,hn,hl,ho,hh,j,hz⟩
   ·simp_all
   ·exact .inr ⟨c,o,A,T,by grind,ha,hn,⟨hl.1,by omega⟩,ho,hh,j,by omega⟩
 ·exact {
   size:=E.size
   frame:=E.frame
   hY:=λb c j=>by
    split at j
    ·exact E.hY 0 c j
    simp_all
   fz:=E.fz
   jj:=E.jj
   lm:=E.lm
   bX:=λb ob j=>by
    match b with
    |0=>simp only[List.getElem?_cons_zero,ab] at j;subst j;exact ⟨.cells u,rfl,by grind [Ob.sz],λe=>by grind [Ob.sz]⟩
    |b+1=>grind
   out:=E.out }
section
variable{α:Type}{f:α->List C}{es:Nat}
end
end
end Go.Abs
end
section
namespace Go.Abs
noncomputable section
variable[Gl][Y:Ty]
def xQ{T:Type}(st:T->Int)(met:T->Option Bool):List T->Option (List T)
 |[]=>some []
 |a::r=>if (st a == 1)=true then (met a).bind λb=>(xQ st met r).bind λq=>some (if b=true then a::q else q) else xQ st met r
section
variable{P:Program}{c:Code}{a b:az}
theorem qz(h:aS P c=some (.seq a b)):∃c1 d,c=.seq c1 d/\aS P c1=some a/\aS P d=some b:=by
 cases c with
 |seq c1 d=>
  simp only[aS] at h;split at h
  ·rename_i x y m p;simp only[ab,az.seq.injEq] at h;obtain ⟨rfl,rfl⟩:=h;exact ⟨c1,d,rfl,m,p⟩
  ·simp at h
 |region id ops j=>
  simp only[aS] at h;split at h
  ·cases j with
   |false=>simp at h
   |true=>simp only[if_true] at h;split at h <;> simp at h
  ·simp at h
 |cond o c1 d=>simp only[aS] at h;split at h <;> simp at h
 |scope b=>simp only[aS,bq] at h;obtain ⟨q,_,k⟩:=h;rcases Dp q with ⟨l,r,_,e⟩ | e <;> rw[e] at k <;> simp at k
 |rangeFunc g t x y=>rcases cU h with ⟨_,_,_,_,_,_,_,e⟩ | e <;> cases e
 |_=>simp[aS] at h
theorem Rt{os:List av}(h:aS P c=some (.wm os)):∃id ops,c=.region id ops false/\ops.toList.mapM (aO P ops)=some os:=by
 cases c with
 |region id ops d=>
  simp only[aS] at h;split at h
  ·rename_i k m;cases d with
   |false=>simp only[aV,bm,ab,az.wm.injEq] at h;subst h;exact ⟨id,ops,rfl,m⟩
   |true=>simp only[if_true] at h;split at h <;> simp at h
  ·simp at h
 |seq c1 p=>simp only[aS] at h;split at h <;> simp at h
 |cond o c1 p=>simp only[aS] at h;split at h <;> simp at h
 |scope b=>simp only[aS,bq] at h;obtain ⟨q,_,j⟩:=h;rcases Dp q with ⟨l,r,_,e⟩ | e <;> rw[e] at j <;> simp at j
 |rangeFunc g t x y=>rcases cU h with ⟨_,_,_,_,_,_,_,e⟩ | e <;> cases e
 |_=>simp[aS] at h
theorem Fa{o:ay}(h:aS P c=some (.cond o a b)):∃x c1 d,c=.cond x c1 d/\ba x=some o/\aS P c1=some a/\aS P d=some b:=by
 cases c with
 |cond x c1 d=>
  simp only[aS] at h;split at h
  ·rename_i u v A m p q;simp only[ab,az.cond.injEq] at h;obtain ⟨rfl,rfl,rfl⟩:=h;exact ⟨x,c1,d,rfl,m,p,q⟩
  ·simp at h
 |region id ops j=>
  simp only[aS] at h;split at h
  ·cases j with
   |false=>simp at h
   |true=>simp only[if_true] at h;split at h <;> simp at h
  ·simp at h
 |seq c1 d=>simp only[aS] at h;split at h <;> simp at h
 |scope b=>simp only[aS,bq] at h;obtain ⟨t,_,k⟩:=h;rcases Dp t with ⟨l,r,_,e⟩ | e <;> rw[e] at k <;> simp at k
 |rangeFunc g E x y=>rcases cU h with ⟨_,_,_,_,_,_,_,e⟩ | e <;> cases e
 |_=>simp[aS] at h
theorem Bi{id:Nat}(h:aS P c=some (.block id a)):∃i c1,c=.block i c1/\2 * i=id/\aS P c1=some a:=by
 cases c with
 |block i c1=>simp only[aS,bq,az.block.injEq] at h;obtain ⟨j,m,p,rfl⟩:=h;exact ⟨i,c1,rfl,p,m⟩
 |region id ops d=>
  simp only[aS] at h;split at h
  ·cases d with
   |false=>simp at h
   |true=>simp only[if_true] at h;split at h <;> simp at h
  ·simp at h
 |seq c1 q=>simp only[aS] at h;split at h <;> simp at h
 |cond o c1 q=>simp only[aS] at h;split at h <;> simp at h
 |scope b=>simp only[aS,bq] at h;obtain ⟨j,_,k⟩:=h;rcases Dp j with ⟨l,r,_,e⟩ | e <;> rw[e] at k <;> simp at k
 |rangeFunc g t x y=>rcases cU h with ⟨_,_,_,_,_,_,_,e⟩ | e <;> cases e
 |_=>simp[aS] at h
theorem NI(h:aS P c=some (.loop a)):∃c1,c=.loop c1/\aS P c1=some a:=by
 cases c with
 |loop c1=>simp only[aS,bq,az.loop.injEq] at h;obtain ⟨j,m,rfl⟩:=h;exact ⟨c1,rfl,m⟩
 |region id ops d=>
  simp only[aS] at h;split at h
  ·cases d with
   |false=>simp at h
   |true=>simp only[if_true] at h;split at h <;> simp at h
  ·simp at h
 |seq c1 p=>simp only[aS] at h;split at h <;> simp at h
 |cond o c1 p=>simp only[aS] at h;split at h <;> simp at h
 |scope b=>simp only[aS,bq] at h;obtain ⟨j,_,k⟩:=h;rcases Dp j with ⟨l,r,_,e⟩ | e <;> rw[e] at k <;> simp at k
 |rangeFunc g q x y=>rcases cU h with ⟨_,_,_,_,_,_,_,e⟩ | e <;> cases e
 |_=>simp[aS] at h
end
section
variable{P:Program}{ops:Array Oper}{Q:Exit->Act->World->Prop}{a:Act}{w:World}{n:Nat}{al:AL}{σ:aa}{M:Nat->Option Nat}{Fz:Nat->Prop}
theorem TK{o:Oper}{K:Act->World->Prop}(hd:∀c,o.op≠.defer c)(h:o.wp P a w K Q):o.wpIn Fence.wide 0 P a w K Q:=by
 refine ⟨λf _=>trivial,?_⟩;rw[Oper.semAt_eq _ _ _ hd];unfold Oper.wp at h;generalize (execOp a.eval o).run P w=r at *;cases r with
 |ok j g=>
  cases j with
  |value v=>exact h
  |skip=>exact h
  |defer d=>exact h
  |enter f args=>exact ⟨λe=>by simp[Fence.wide] at e,callsIn_wide.2 h⟩
  |row row args=>exact ⟨λe=>by simp[Fence.wide] at e,λc k _=>let ⟨v,g,r,s⟩:=h c k;⟨v,g,r,stepsIn_wide.2 s⟩⟩
  |_=>exact h.elim
 |halt e g=>cases e <;> first | exact h | exact h.elim
theorem LO{i:Nat}{K:Act->World->Prop}(hd:∀(i:Nat) o c,ops[i]? = some o->o.op≠.defer c)(g:¬LetsOut Q)(h:wpOp P ops Q i K a w):wpOpIn Fence.wide 0 P ops Q i K a w:=by
 unfold wpOp at h;unfold wpOpIn;split at h
 ·rename_i d;simp only[d];exact h
 ·rename_i o d;simp only[d];split at h
  ·rename_i e;simp only[e,if_true];rcases h with h | h
   ·exact TK (λc=>hd i o c d) h
   ·exact absurd h.2 g
  ·rename_i e;simp only[e,aV,bm];exact ⟨λf _=>trivial,h⟩
theorem Qn{orc:ey}(O:jX P orc)(hd:∀(i:Nat) o c,ops[i]? = some o->o.op≠.defer c)(v:¬LetsOut Q){g:List Nat}:∀(os:List av)(k:Nat)(σ σ':aa)(M:Nat->Option Nat)(Fz:Nat->Prop)(w:World)(e d:List D)(a:Act)(wr:List Nat),
  (∀j ao,os[j]? = some ao->∃o,ops[k+j]? = some o/\aO P ops o=some ao)->Rel σ M Fz w->cf σ M Fz w e a.tmps->kz P orc os e σ=some (d,σ',wr) ->
  (∀x q y p,x.defers=a.defers->Rel σ' y p q->cf σ' y p q d x.tmps->aW σ M Fz w σ' y p q->σ.length<=σ'.length->wpOpsIn Fence.wide 0 P ops Q g x q) ->
  wpOpsIn Fence.wide 0 P ops Q (List.range' k os.length++g) a w:=by
 intro os;induction os with
 |nil=>intro k σ σ' M Fz w e d a wr _ R E h v;simp only[kz,ab,aC] at h;obtain ⟨rfl,rfl,_⟩:=h;exact v a w M Fz rfl R E (aW.refl R) (bQ _)
 |cons ao os ih=>
  intro k σ σ' M Fz w e d a wr m R E h hK;simp only[kz] at h;split at h
  ·rename_i r σ1 w1 h1;split at h
   ·rename_i t am w2 h2;simp only[ab,aC] at h;obtain ⟨rfl,rfl,_⟩:=h;obtain ⟨o,ho,A⟩:=m 0 ao (by simp);simp only[List.length_cons,List.range'_succ,List.cons_append];rw[wpOpsIn_cons];refine LO hd v (CR O R E (by simpa using ho) A h1 _ λa1 q M1 G K R1 E1 L u=>?_);refine ih (k+1) σ1 am M1 G q r t a1 w2 (λj N hj=>?_) R1 E1 h2 λa2 S M2 T U R2 E2 Z ad=>?_
    ·obtain ⟨o',af,ak⟩:=m (j+1) N (by simpa using hj);exact ⟨o',by rw[<-af];congr 1;omega,ak⟩
    ·exact hK a2 S M2 T (by rw[U,K]) R2 E2 (L.trans Z u) (jI u ad)
   ·simp at h
  ·simp at h
theorem cV{orc:ey}(O:jX P orc)(hd:∀(i:Nat) o c,ops[i]? = some o->o.op≠.defer c)(u:¬LetsOut Q){e:List Nat}{os:List av}{k:Nat}(m:∀j ao,os[j]? = some ao->∃o,ops[k+j]? = some o/\aO P ops o=some ao)
  (h:bj P orc 0 os n al σ λp σ' _=>∀q g r d,q.defers=a.defers->Rel σ' r d g->dq n σ' r d g p q.tmps->aW σ M Fz w σ' r d g->wpOpsIn Fence.wide 0 P ops Q e q g)
  (R:Rel σ M Fz w) (A:dq n σ M Fz w al a.tmps):wpOpsIn Fence.wide 0 P ops Q (List.range' k os.length++e) a w:=by
 obtain ⟨p,σ',S,v,x⟩:=h;obtain ⟨y,E,G⟩:=v _ A.bV.2;exact Qn O hd u os k σ σ' M Fz w _ y a _ m R A.bV.1 (DD _ _ _ _ _ _ E) λq g r d t K L N T=>x q g r d t K (dq.NZ L G) N
theorem Ur{os:List av}(h:ops.toList.mapM (aO P ops)=some os):os.length=ops.size/\∀(j:Nat) ao,os[j]? = some ao->∃o,ops[j]? = some o/\aO P ops o=some ao:=by obtain ⟨d,e⟩:=Eo h;refine ⟨by simpa using d,λj ao g=>?_⟩;obtain ⟨o,k,m⟩:=e j ao g;exact ⟨o,by simpa using k,m⟩
theorem ub{cs:List D}{m:Nat}(h:cs.length=m):oW (some m) cs 0=some (.agg cs):=by simp only[oW];rw[if_pos (by omega)];simp[<-h]
theorem rQ.step{B:Nat}{J:(Nat->Prop)->(Nat->Prop)->World->Prop}(h:rQ B J){σ σ':aa}{M A:Nat->Option Nat}{F F' U:Nat->Prop}{W W':World}(G:J F U W)(x:∀b c,M b=some c->¬U c/\B<=c)(E:aW σ M F W σ' A F' W')(K:Rel σ' A F' W') :
  J F' (λc=>U c∨F' c) W'/\∀b c,A b=some c->¬(U c∨F' c)/\B<=c:=by
 have o:=h.lt F U W G;have ad:=h.le F U W G;refine ⟨h.grow F U W' F' (h.off F U W W' G E.size (λc j=>E.frame c (j.elim (o c) (by omega)) λb u=>?_) E.out) (λc j=>(E.fz c j).1) λc j=>?_,λb c u=>?_⟩
 ·obtain ⟨q1,q2⟩:=x b c u;exact j.elim q1 (by omega)
 ·rcases E.jj c j with Z | ⟨b,u⟩ | Z
  ·exact .inl Z
  ·exact .inr ⟨(x b c u).1,(x b c u).2,K.fz c j⟩
  ·exact .inr ⟨λL=>by have:=o c L;omega,by omega,K.fz c j⟩
 ·have hf:=(K.blk b c u).1;rcases E.hY b c u with ⟨b0,O⟩ | O
  ·exact ⟨λR=>R.elim (x b0 c O).1 hf,(x b0 c O).2⟩
  ·exact ⟨λR=>R.elim (λL=>by have:=o c L;omega) hf,by omega⟩
theorem dq.data{o:AL}{j:Array Value}(h:dq n σ M Fz w al j)(hs:∀t d,lk t o=some d->lk t al=some d/\d.low 0=true):dq n [] (λ_=>none) Fz w o j:=
 ⟨h.1,λt d u=>let ⟨h1,h2⟩:=hs t d u;let ⟨v,h3,h4⟩:=h.2 t d h1;⟨v,h3,h4.data h2 _ _⟩⟩
theorem Bj{k:List Nat}{i d t:Nat}{o:Oper}{g:Option (Nat×Bool)}{r:List D}{c:Nat}{x:C}{arr:Array Value}{T:TypeId}(ho:ops[i]? = some o)(m:aO P ops o=some ⟨some d,.load none (.t t),g⟩)(N:Gl.ok Fz w)(E:cf σ M Fz w r a.tmps)(hw:eU r g=some true)
  (hv:a.tmps[t]? = some (.pointer (some ⟨c,0,none⟩))) (hh:w.heap[c]? = some (.cells arr T (0,0))) (hl:1<=arr.size) (hx:∀u,arr[0]? = some u->VC Fz w x u/\u.oneCell'=true)
  (hK:∀v,VC Fz w x v->wpOpsIn Fence.wide 0 P ops Q k (a.put (some d) v) w):wpOpsIn Fence.wide 0 P ops Q (i::k) a w:=by
 unfold aO at m;split at m
 ·rename_i g' ao hg A;simp only[ab,av.mk.injEq] at m;obtain ⟨G,rfl,rfl⟩:=m;have O:=tR A;rcases qg A with ⟨f,args,ad,of,os,_,_,_,e⟩ | ⟨h0,R,_⟩
  ·simp at e
  have q:=kC E hg hw;rw[wpOpsIn_cons];unfold wpOpIn;rw[ho];simp only[q,if_true];have ht:t<a.tmps.size:=(CS.1 hv).1;have E1:cf [.cells [.c x]] (λb=>if b=0 then some c else none) Fz w ((List.replicate a.tmps.size D.any).set t (.ptr 0 0 1)) a.tmps:=by
   refine ⟨by simp,λj d v h p=>?_⟩;rw[UJ] at h;split at h
   ·rename_i e;subst e;split at h
    ·simp only[ab] at h;subst h;rw[hv] at p;simp only[ab] at p;subst p;exact .ptr _ (.cells [.c x]) rfl (bQ _) λ_=>⟨c,rfl,rfl⟩
    ·simp at h
   ·have:d=.any:=by
     rw[List.getElem?_replicate] at h;split at h <;> simp_all
    subst this;exact .any v
  have S:aI P (λ_ _ _=>none) (.load none (.t t)) ((List.replicate a.tmps.size D.any).set t (.ptr 0 0 1)) [.cells [.c x]]=some (.c x,[.cells [.c x]],[]):=by
   have:ay.ev ((List.replicate a.tmps.size D.any).set t (.ptr 0 0 1)) (.t t)=.ptr 0 0 1:=by simp[ay.ev,ht]
   simp only[aI,this];rfl
  have K:∃v,(execOp a.eval o).run P w=.ok (.value v) w/\VC Fz w x v:=by
   cases yZ (M:=λb=>if b=0 then some c else none) (Fz:=Fz) (w:=w) N E1 h0 R S with
   |y m _=>simp[cat] at m
   |l _ _ hy=>
    obtain ⟨v,h,p⟩:=hy λb off sz c' cs U hM L=>by
     have Z:b=0:=by
      have:KD (.load none (.t t)) ((List.replicate a.tmps.size D.any).set t (.ptr 0 0 1))=.ptr 0 0 1:=by simp[KD,ay.ev,ht]
      rw[this] at U;simp only[D.ptr.injEq] at U;exact U.1.symm
     subst Z;simp only[if_true,ab] at hM;subst hM;simp only[List.getElem?_cons_zero,ab,Ob.cells.injEq] at L;subst L;refine ⟨arr,T,hh,by simpa using hl,λj d u h p=>?_⟩;have hj:j=0:=by have:=(dT.1 h).1;simp at this;exact this
     subst hj;simp only[List.getElem?_cons_zero,ab] at h;subst h;exact ⟨.c (hx u p).1,(hx u p).2⟩
    exact ⟨v,h,p.lU⟩
   |g m _=>simp[cat] at m
  obtain ⟨v,hr,hV⟩:=K;refine ⟨λf _=>trivial,?_⟩;rw[Oper.semAt_eq _ _ _ O,hr];show wpOpsIn Fence.wide 0 P ops Q k (a.put o.dst v) w;rw[G];exact hK v hV
 ·simp at m
theorem Gm{h:List Nat}{i d f t l:Nat}{o:Oper}{g:Option (Nat×Bool)}{u:List D}{v:Value}{R:Ending->World->Prop}(ho:ops[i]? = some o)(A:aO P ops o=some ⟨some d,.call (.t f) [.t t],g⟩)(E:cf σ M Fz w u a.tmps)(hw:eU u g=some true)
  (hf:a.tmps[f]? = some (.func (.yield l) #[] #[])) (ht:a.tmps[t]? = some v) (hy:YieldAt Fence.wide 0 P l #[v] w R)
  (hK:∀e G,R e G->∃b,e=.returned b/\wpOpsIn Fence.wide 0 P ops Q h (a.put (some d) b) G):wpOpsIn Fence.wide 0 P ops Q (i::h) a w:=by
 unfold aO at A;split at A
 ·rename_i g' ao hg T;simp only[ab,av.mk.injEq] at A;obtain ⟨K,rfl,rfl⟩:=A;have tm:∀(x:Operand)(t:Nat),ba x=some (.t t)->x=.tmp t:=λx t hx=>by
   cases x <;> simp[ba] at hx
   rw[hx]
  rcases qg T with ⟨f',args,a0,of,os,L,h1,h2,e⟩ | ⟨_,p,_⟩
  ·simp only[iA.call.injEq] at e;obtain ⟨rfl,rfl⟩:=e;have U:=tm f' f h1;subst U;have q:args.map a.eval=#[v]:=by
    obtain ⟨l1,l2⟩:=Eo (show args.toList.mapM ba=some [.t t] from h2);have hl:args.size=1:=by simpa using l1.symm
    have Z:args=#[.tmp t]:=by
     apply Array.ext
     ·simpa using hl
     ·intro j ad a1;have hj:j=0:=by omega
      subst hj;obtain ⟨y,af,ak⟩:=l2 0 (.t t) rfl;have:=tm y t ak;subst this;have h3:args[0]? = some (.tmp t):=by simpa using af
      rw[nE ad] at h3;simpa using h3
    rw[Z];simp[Act.eval,ht]
   have r:=kC E hg hw;rw[wpOpsIn_cons];unfold wpOpIn;rw[ho];simp only[r,if_true];obtain ⟨fn,N,k,O,S,m⟩:=hy;have ax:a.eval (.tmp f)=.func (.yield l) #[] #[]:=by simp[Act.eval,hf]
   have hr:(execOp a.eval o).run P w=.ok (.round l fn N k O) w:=by simp only[execOp,L,resolve,ax,Deferred.ofValue,Sem.run_bind,Sem.run_pure,Result.andThen_ok,invoke,q];simpa using S
   refine ⟨λf _=>trivial,?_⟩;rw[Oper.semAt_eq _ _ _ (by simp[L]),hr,Oper.uponIn_round];refine ⟨λhh=>by simp[Fence.wide] at hh,m.mono λe G Z=>?_⟩;obtain ⟨b,rfl,hb⟩:=hK e G Z;show wpOpsIn Fence.wide 0 P ops Q h (a.put o.dst b) G;rw[K];exact hb
  ·simp[vw] at p
 ·simp at A
theorem jE{c:Code}{os:List av}(p:aS P c=some (.wm os))(h:∀ops:Array Oper,ops.size=os.length->(∀(j:Nat) ao,os[j]? = some ao->∃o,ops[j]? = some o/\aO P ops o=some ao)->(∀(i:Nat) o c,ops[i]? = some o->o.op≠.defer c) ->
  wpOpsIn Fence.wide 0 P ops (jz Q) (List.range os.length) a w):c.wpIn Fence.wide 0 P Q a w:=by
 obtain ⟨id,ops,rfl,q⟩:=Rt p;obtain ⟨d,k⟩:=Ur q;refine wpIn_mono (Q:=jz Q) (wpIn_region ?_) λ_ _ _ h=>h.1;rw[<-d];refine h ops d.symm k λj o c m=>?_;have e:j<os.length:=by rw[d];exact (CS.1 m).1
 obtain ⟨t,g,r⟩:=k j _ (cE e);rw[m] at g;simp only[ab] at g;subst g;exact lS r c
end
end
end Go.Abs
end
section
namespace Go.Abs
noncomputable section
variable[Gl][Y:Ty]
def Vh(es:Nat)(z:List D):List av:=[⟨some 9,.idx es none (.t 5) (.t 7),none⟩,⟨some 10,.load (some es) (.t 9),none⟩,⟨some 4,.alloc z,none⟩,⟨none,.store es (.t 4) (.t 10),none⟩]
def Bt(es so ti tb:Nat):List av:=[⟨some 11,.Aw so (.t 4),none⟩,⟨some 12,.load none (.t 11),none⟩,⟨some 13,.gen (.binOp .eql ti (.tmp 12) (.const (.int .i64 1)) ti) tb,none⟩,⟨some 14,.uV (.t 13),none⟩,⟨some 15,.load (some es) (.t 4),some (14,true)⟩]
def NE:av:=⟨some 16,.load none (.t 1),some (14,true)⟩
def Ci(gm:Nat):List av:=[⟨some 17,.call (.k (.c (.fn (.func gm) [] []))) [(.t 15),(.t 16)],some (14,true)⟩,⟨some 18,.pick (.t 14) (.t 17) (.k (.c (.lit (.bool false)))),none⟩,⟨some 19,.uV (.t 18),none⟩]
def uY(es:Nat):List av:=[⟨some 20,.uV (.t 0),some (19,true)⟩,⟨some 21,.load (some es) (.t 4),some (19,true)⟩]
def Ic:av:=⟨some 22,.call (.t 20) [(.t 21)],some (19,true)⟩
def sN(tb:Nat):List av:=[⟨some 23,.gen (.unOp .not tb (.tmp 22)) tb,some (19,true)⟩,⟨some 24,.pick (.t 19) (.t 23) (.k (.c (.lit (.bool false)))),none⟩]
def Og(es so ti tb gm:Nat):List av:=Bt es so ti tb++(NE::(Ci gm++(uY es++(Ic::sN tb))))
def PZ(ti:Nat):List av:=[⟨some 8,.gen (.binOp .lss ti (.tmp 7) (.tmp 6) ti) 0,none⟩]
def Vb(ti:Nat):List av:=[⟨some 25,.gen (.binOp .add ti (.tmp 7) (.const (.int .i64 1)) ti) ti,none⟩,⟨some 7,.uV (.t 25),none⟩]
def Zr:List av:=[⟨some 5,.load none (.t 1),none⟩,⟨some 6,.len (.t 5),none⟩,⟨some 7,.uV (.k (.c (.lit (.int .i64 0)))),none⟩]
def US(es so ti tb gm:Nat)(z:List D):az:=.seq (.wm (PZ ti)) (.seq (.cond (.t 8) .skip (.exit 0)) (.seq (.block 2 (.seq (.wm (Vh es z)) (.seq (.wm (Og es so ti tb gm)) (.cond (.t 24) .ret .skip)))) (.wm (Vb ti))))
def UM(es so ti tb gm:Nat)(z:List D):iw:=⟨2,26,[],.seq (.wm Zr) (.block 0 (.loop (US es so ti tb gm z))),true⟩
section
variable{P:Program}{n:Nat}{al:AL}{σ:aa}{M:Nat->Option Nat}{F F':Nat->Prop}{W W':World}
theorem dq.put{a:Act}{t:Nat}{d:D}{v:Value}(A:dq n σ M F W al a.tmps)(o:t<n)(u:V σ M F W d v):dq n σ M F W ((t,d)::al) (a.put (some t) v).tmps:=by
 refine ⟨by simp[Act.put,A.1],λs e hs=>?_⟩;simp only[lk] at hs;simp only[Act.put];split at hs
 ·rename_i j;have:=bP j;subst this;simp only[ab] at hs;subst hs;refine ⟨v,?_,u⟩;rw[QH,if_pos rfl,if_pos (by rw[A.1];exact o)]
 ·rename_i j;obtain ⟨x,E,G⟩:=A.2 s e hs;refine ⟨x,?_,G⟩;rw[QH,if_neg (λe=>by rw[e] at j;simp at j)];exact E
theorem dq.Zz {j:Array Value} (A:dq n σ M F W al j) (u:∀t d,lk t al=some d→∃x,d=.c x) (E:∀c:Nat,F c→F' c∧W'.heap[c]? = W.heap[c]?):dq n [] (fun _=>none) F' W' al j:=
 ⟨A.1,fun t d o=>by
  obtain ⟨v,G,K⟩:=A.2 t d o
  obtain ⟨x,rfl⟩:=u t d o
  exact ⟨v,G,.c (K.lU.mono E)⟩⟩
theorem dq.lks{o:AL}{j:Array Value}(A:dq n σ M F W al j)(hs:∀t d,lk t o=some d->lk t al=some d):dq n σ M F W o j:=⟨A.1,λt d u=>A.2 t d (hs t d u)⟩
theorem vE{ops:Array Oper}{d os:List av}{k:Nat}(h:∀(j:Nat) ao,d[j]? = some ao->∃o,ops[j]? = some o/\aO P ops o=some ao)(g:∀j,j<os.length->d[k+j]? = os[j]?):∀j ao,os[j]? = some ao->∃o,ops[k+j]? = some o/\aO P ops o=some ao:=
 λj ao e=>h (k+j) ao (by rw[g j (dT.1 e).1];exact e)
def jm(i:Nat)(l:List (TT i))(d pv:Value)(k:Int):AL:=[(7,I k),(6,I l.length),(5,.c (.bG false (l.map (enc i)))),(0,.c (.lit d)),(1,.c (.lit pv))]
theorem ableH_c{i:Nat}{l:List (TT i)}{e pv:Value}{k:Int}:∀t d,lk t (jm i l e pv k)=some d->∃x,d=.c x:=by intro t d h;have:=jP h;simp only[jm,dO,FG,EG,aC] at this;rcases this with ⟨_,rfl⟩ | ⟨_,rfl⟩ | ⟨_,rfl⟩ | ⟨_,rfl⟩ | ⟨_,rfl⟩ <;> exact ⟨_,rfl⟩
theorem JJ(c:CC)(a:c.dn):xj c (oq c a)=some a:=by
 cases c with
 |int k=>simp only[oq,xj];split <;> first | rfl | (rename_i h _;exact absurd rfl h)
 |bool=>rfl
 |str=>rfl
 |sl j=>simp only[oq,xj,dC];split <;> first | rfl | (rename_i h _;exact absurd rfl h)
 |fk d=>rfl
theorem Sd:∀(cs:List CC)(x:aB cs),xT cs (qi cs x)=some x:=by
 intro cs;induction cs with
 |nil=>intro x;rfl
 |cons c cs ih=>intro x;simp only[qi,xT,JJ,ih]
theorem Uk(i:Nat)(a:TT i)(l:List (TT i)):([ST (enc i a),.c (.bG false (l.map (enc i)))]:List D).map wy=[ST (enc i a),.c (.bG false (l.map (enc i)))]/\(([ST (enc i a),.c (.bG false (l.map (enc i)))]:List D).all λd=>d.low 0&&d.plain)=true:=by
 have h:sp [.st i,.c (.sl i)] (Vc [.st i,.c (.sl i)] (a,l,()))=some (a,l,()):=by
  have e:mc (.st i) (bT.tv (.st i) a)=some a:=by show wK i (.agg (exp i a))=some a;simp only[wK,exp,Sd,Y.mp]
  have g:mc (.c (.sl i)) (bT.tv (.c (.sl i)) l)=some l:=JJ (.sl i) l;simp only[Vc,sp,e,g]
 exact JK h (.cons (bT.zj (.st i) a) (.cons (bT.zj (.c (.sl i)) l) .nil))
end
section
variable{P:Program}{i so ti tb gm:Nat}{z:List D}{st:TT i->Int}{metf:TT i->List (TT i)->Option Bool}
def Jb(gm:Nat)(ds:List D)(b:Bool):rT:=open Classical in [(gm,λd=>if d=ds then some (B b) else none)]
theorem Ot{ds:List D}{b:Bool}(h:Pure P gm ds (B b)):jX P (λ_=>xw (Jb gm ds b)):=λ_=>jv λp g j r d=>by
 unfold Jb at g;simp only[Mq] at g;subst g;dsimp only at d;split at d
 ·rename_i e;simp only[ab] at d;subst e d;exact h
 ·simp at d
variable{B:Nat}{lb:Array Value}{J:Nat->(Nat->Prop)->(Nat->Prop)->World->Prop}{Jx:(Nat->Prop)->(Nat->Prop)->World->Prop}{l:List (TT i)}{items:List (List D)}{ly:Nat}{pv:Value}
def RK(B:Nat)(J:Nat->(Nat->Prop)->(Nat->Prop)->World->Prop)(Jx:(Nat->Prop)->(Nat->Prop)->World->Prop)(H:AL)(it:Nat)(g:Exit->Act->World->Prop):Prop:=
 ∀F' e W' d (b:Bool),d.defers=[]->dq 26 [] (λ_=>none) F' W' ((24,Abs.B b)::H) d.tmps->((b=false/\J it F' e W')∨(b=true/\Jx F' e W'))->g .normal d W'
theorem RN (cy:P.follows .mixedOrders=true) (bw:∀a,(enc i a)[so]? = some (.lit (.int .i64 (st a))))
  (a2:∀x:Int,fe P .eql ti (.tmp 12) (.const (.int .i64 1)) (.int .i64 x) (.int .i64 1)=some (.bool (x == 1))) (a5:∀b:Bool,ee P (Op.unary .not (.bool b))=some (.bool (!b)))
  (hm:a_ P gm ⟨[.st i,.c (.sl i)],[.c .bool],fun a=>metf a.1 a.2.1⟩)
  (hJ:∀k,rQ B (J k)) (b0:rQ B Jx) (a7:∀k F U W,J k F U W→RX F W [[.bG false (l.map (enc i))]] lb) (b1:lb[0]? = some pv)
  (G:∀k ds F U W vs,items[k]? = some ds→J k F U W→Rq F W ds vs →
   YieldAt Fence.wide 0 P ly vs W fun e W'=>∃F' K,Kept F U W F' K W'∧((e=.returned (.bool true)∧J (k+1) F' K W')∨(e=.returned (.bool false)∧Jx F' K W')))
  {c3:Code} (a8:aS P c3=some (.wm (Og (ai i) so ti tb gm))) {a:TT i} {k:Int} {it:Nat} {F U:Nat→Prop} {W:World} {M:Nat→Option Nat} {y:Act} {Qy:Exit→Act→World→Prop}
  (R:Rel [.cells ((enc i a).map .c)] M F W) (A:dq 26 [.cells ((enc i a).map .c)] M F W ((4,.ptr 0 0 (ai i))::jm i l (.func (.yield ly) #[] #[]) pv k) y.tmps) (a9:y.defers=[]) (o:J it F U W) (hO:∀b c,M b=some c→¬U c∧B≤c)
  (bc:st a=1→∃b,metf a l=some b∧(b=true→items[it]? = some [ST (enc i a)]))
  (hK:∀b,(st a=1→metf a l=some b)→(st a≠1→b=false)→RK B J Jx (jm i l (.func (.yield ly) #[] #[]) pv k) (if b=true then it+1 else it) Qy):c3.wpIn Fence.wide 0 P Qy y W:=by
 have S:((enc i a).map D.c).length=ai i:=by rw [vN,nh]
 have r:jZ [Ob.cells ((enc i a).map D.c)] 0 (ai i)=some ((enc i a).map D.c):=Nk rfl S
 have Z:oW none ((enc i a).map D.c) (0+so)=some (I (st a)):=by
  show ((enc i a).map D.c)[0+so]? = _
  rw [Dn,gT,bw]
  rfl
 have ad:oW (some (ai i)) ((enc i a).map D.c) 0=some (ST (enc i a)):=ub S
 by_cases h1:st a=1
 ·obtain ⟨b,hb,Dr⟩:=bc h1
  obtain ⟨b2,b3⟩:=Uk i a l
  have O:=Ot (P:=P) (gm:=gm) (ds:=[ST (enc i a),.c (.bG false (l.map (enc i)))]) (b:=b) (hm (a,l,()) b hb)
  have ax:xw (Jb gm [ST (enc i a),.c (.bG false (l.map (enc i)))] b) gm [ST (enc i a),.c (.bG false (l.map (enc i)))] [Ob.cells ((enc i a).map D.c)]=some (Abs.B b,[Ob.cells ((enc i a).map D.c)],[]):=
   tI (F:=fun b4=>open Classical in if b4=[ST (enc i a),.c (.bG false (l.map (enc i)))] then some (Abs.B b) else none) (by simp [Jb,Mg]) b3 b2 (by simp) rfl
  refine jE a8 fun ops hs g m=>?_
  show wpOpsIn Fence.wide 0 P ops (jz Qy) (List.range' 0 (Bt (ai i) so ti tb).length++(5::(List.range' 6 (Ci gm).length++(List.range' 9 (uY (ai i)).length++(11::(List.range' 12 (sN tb).length++[])))))) y W
  refine cV O m Kt (vE g fun j o=>?_) ?_ R A
  ·have:j=0∨j=1∨j=2∨j=3∨j=4:=by simp [Bt] at o; omega
   rcases this with rfl | rfl | rfl | rfl | rfl <;> rfl
  unfold Bt
  refine bj.op (CZ rfl) fB rfl (bj.op (mP rfl r Z) fB rfl (bj.op (cI (v:=.bool (st a == 1)) rfl rfl rfl rfl (a2 _) rfl) fB rfl (bj.op (um rfl) fB rfl (bj.op (mP rfl r ad) (eO rfl (by simp [h1])) rfl (bj.nil ?_)))))
  intro a1 W1 M1 F1 b5 R1 A1 E1
  obtain ⟨j1,o1⟩:=(hJ it).step o hO E1 R1
  obtain ⟨c,rfl,co,T,hh,hl,hx⟩:=(a7 it _ _ _ j1).2 0 _ pv rfl b1
  obtain ⟨o5,b6,b7⟩:=g 5 NE rfl
  obtain ⟨v1,b8,b9⟩:=A1.2 1 _ rfl
  have:=b9.bx
  subst this
  refine Bj b6 b7 R1.gl A1.bV.1 (eO rfl (by simp [h1]) 26 _ A1.bV.2) b8 hh (by simpa using hl) (fun u hu=>hx 0 _ u rfl hu) fun v hv=>?_
  have A2:=A1.put (t:=16) (d:=.c (.bG false (l.map (enc i)))) (by omega) (.c hv)
  refine cV O m Kt (vE g fun j o=>?_) ?_ R1 A2
  ·have:j=0∨j=1∨j=2:=by simp [Ci] at o; omega
   rcases this with rfl | rfl | rfl <;> rfl
  unfold Ci
  refine bj.op (Cz rfl rfl ax) (eO rfl (by simp [h1])) rfl (bj.op (ql rfl (by simp [h1]) rfl) fB rfl (bj.op (um rfl) fB rfl (bj.nil ?_)))
  intro a3 W3 M3 F3 ch R3 A3 E3
  obtain ⟨j3,o3⟩:=(hJ it).step j1 o1 E3 R3
  have af:a3.defers=[]:=by rw [ch]; show a1.defers=[]; rw [b5,a9]
  cases b with
  | false =>
   show wpOpsIn Fence.wide 0 P ops (jz Qy) (List.range' 9 (uY (ai i)++(Ic::sN tb)).length++[]) a3 W3
   refine cV O m Kt (vE g fun j o=>?_) ?_ R3 A3
   ·have:j=0∨j=1∨j=2∨j=3∨j=4:=by simp [uY,sN] at o; omega
    rcases this with rfl | rfl | rfl | rfl | rfl <;> rfl
   refine bj.no (Ie rfl rfl) rfl (bj.no (Ie rfl rfl) rfl (bj.no (Ie rfl rfl) rfl (bj.no (Ie rfl rfl) rfl (bj.op (lM rfl rfl rfl) fB rfl (bj.nil ?_)))))
   intro a4 W4 M4 F4 E R4 L E4
   obtain ⟨j4,_⟩:=(hJ it).step j3 o3 E4 R4
   refine ⟨hK false (fun _=>hb) (fun _=>rfl) F4 _ W4 a4 false (by rw [E,af]) (L.data fun t d N=>?_) (.inl ⟨rfl,j4⟩),by simp⟩
   have:=jP N
   simp only [jm,dO,FG,EG,aC] at this
   rcases this with ⟨rfl,rfl⟩ | ⟨rfl,rfl⟩ | ⟨rfl,rfl⟩ | ⟨rfl,rfl⟩ | ⟨rfl,rfl⟩ | ⟨rfl,rfl⟩ <;> exact ⟨rfl,rfl⟩
  | true =>
   refine cV O m Kt (vE g fun j o=>?_) ?_ R3 A3
   ·have:j=0∨j=1:=by simp [uY] at o; omega
    rcases this with rfl | rfl <;> rfl
   unfold uY
   refine bj.op (um rfl) (eO rfl rfl) rfl (bj.op (mP rfl r ad) (eO rfl rfl) rfl (bj.nil ?_))
   intro a4 W4 M4 F4 E R4 L E4
   obtain ⟨j4,o4⟩:=(hJ it).step j3 o3 E4 R4
   obtain ⟨cv,bd,be⟩:=g 11 Ic rfl
   obtain ⟨c0,bh,bi⟩:=L.2 20 _ rfl
   have:=bi.bx
   subst this
   obtain ⟨bk,bl,bt⟩:=L.2 21 _ rfl
   refine Gm bd be L.bV.1 (eO rfl rfl 26 _ L.bV.2) bh bl (G it _ F4 _ W4 #[bk] (Dr rfl) j4 ⟨rfl,fun q d v g1 g2=>?_⟩) fun e w' he=>?_
   ·have hq:q=0:=by
     have:=(dT.1 g1).1
     simp at this; exact this
    subst hq
    simp only [List.getElem?_cons_zero,ab] at g1
    subst g1
    have g2:some bk=some v:=g2
    simp only [ab] at g2
    subst g2
    exact bt.data (by grind) _ _
   ·obtain ⟨F5,U5,kp,ck⟩:=he
    have ak:∀(q:Bool) (X:(Nat→Prop)→(Nat→Prop)→World→Prop),rQ B X→X F5 U5 w'→(∀F' K W',X F' K W'→((!q)=false∧J (it+1) F' K W')∨((!q)=true∧Jx F' K W'))→wpOpsIn Fence.wide 0 P ops (jz Qy) (List.range' 12 (sN tb).length++[]) (a4.put (some 22) (.bool q)) w':=by
     intro q X hX bu bv
     have A5:dq 26 [] (fun _=>none) F5 w' ((22,Abs.B q)::(19,Abs.B true)::jm i l (.func (.yield ly) #[] #[]) (.pointer (some ⟨c,0,none⟩)) k) (a4.put (some 22) (.bool q)).tmps:=by
      refine dq.put (dq.Zz (L.lks fun t d N=>?_) (fun t d N=>?_) kp.fz) (by omega) (.c (.lit _))
      ·have:=jP N
       simp only [jm,dO,FG,EG,aC] at this
       rcases this with ⟨rfl,rfl⟩ | ⟨rfl,rfl⟩ | ⟨rfl,rfl⟩ | ⟨rfl,rfl⟩ | ⟨rfl,rfl⟩ | ⟨rfl,rfl⟩ <;> rfl
      ·have:=jP N
       simp only [jm,dO,FG,EG,aC] at this
       rcases this with ⟨rfl,rfl⟩ | ⟨rfl,rfl⟩ | ⟨rfl,rfl⟩ | ⟨rfl,rfl⟩ | ⟨rfl,rfl⟩ | ⟨rfl,rfl⟩ <;> exact ⟨_,rfl⟩
     refine cV O m Kt (vE g fun j o=>?_) ?_ (hX.rel _ _ _ bu) A5
     ·have:j=0∨j=1:=by simp [sN] at o; omega
      rcases this with rfl | rfl <;> rfl
     unfold sN
     refine bj.op (ML (v:=.bool (!q)) rfl rfl (a5 q) rfl) (eO rfl rfl) rfl (bj.op (ql rfl rfl rfl) fB rfl (bj.nil ?_))
     intro a6 W6 M6 F6 cm R6 A6 E6
     obtain ⟨j6,_⟩:=hX.step bu (fun b c h=>by simp at h) E6 R6
     refine ⟨hK true (fun _=>hb) (fun h=>absurd h1 h) F6 _ W6 a6 (!q) (by rw [cm]; show a4.defers=[]; rw [E,af]) (A6.data fun t d N=>?_) (bv _ _ _ j6),by simp⟩
     have:=jP N
     simp only [jm,dO,FG,EG,aC] at this
     rcases this with ⟨rfl,rfl⟩ | ⟨rfl,rfl⟩ | ⟨rfl,rfl⟩ | ⟨rfl,rfl⟩ | ⟨rfl,rfl⟩ | ⟨rfl,rfl⟩ <;> exact ⟨rfl,rfl⟩
    rcases ck with ⟨rfl,a0⟩ | ⟨rfl,a0⟩
    ·exact ⟨_,rfl,ak true (J (it+1)) (hJ _) a0 fun F' K W' h=>.inl ⟨rfl,h⟩⟩
    ·exact ⟨_,rfl,ak false Jx b0 a0 fun F' K W' h=>.inr ⟨rfl,h⟩⟩
 ·have hf:(st a == 1)=false:=by simpa using h1
  have O:jX P (fun _=>xw []):=fun _=>jv fun p hp=>by simp at hp
  refine jE a8 fun ops hs g m=>?_
  show wpOpsIn Fence.wide 0 P ops (jz Qy) (List.range' 0 (Og (ai i) so ti tb gm).length++[]) y W
  refine cV O m Kt (fun j ao o=>by rw [Dn]; exact g j ao o) ?_ R A
  refine bj.op (CZ rfl) fB rfl (bj.op (mP rfl r Z) fB rfl (bj.op (cI (v:=.bool (st a == 1)) rfl rfl rfl rfl (a2 _) rfl) fB rfl (bj.op (um rfl) fB rfl (bj.no (Ie rfl (by simp [hf])) rfl (bj.no (Ie rfl (by simp [hf])) rfl (bj.no (Ie rfl (by simp [hf])) rfl
   (bj.op (lM rfl hf rfl) fB rfl (bj.op (um rfl) fB rfl (bj.no (Ie rfl rfl) rfl (bj.no (Ie rfl rfl) rfl (bj.no (Ie rfl rfl) rfl (bj.no (Ie rfl rfl) rfl (bj.op (lM rfl rfl rfl) fB rfl (bj.nil ?_))))))))))))))
  intro a4 W4 M4 F4 E R4 L E4
  obtain ⟨j4,_⟩:=(hJ it).step o hO E4 R4
  refine ⟨hK false (fun h=>absurd h h1) (fun _=>rfl) F4 _ W4 a4 false (by rw [E,a9]) (L.data fun t d N=>?_) (.inl ⟨rfl,j4⟩),by simp⟩
  have:=jP N
  simp only [jm,dO,FG,EG,aC] at this
  rcases this with ⟨rfl,rfl⟩ | ⟨rfl,rfl⟩ | ⟨rfl,rfl⟩ | ⟨rfl,rfl⟩ | ⟨rfl,rfl⟩ | ⟨rfl,rfl⟩ <;> exact ⟨rfl,rfl⟩
end
end
end Go.Abs
end
section
namespace Go.Abs
noncomputable section
variable[Gl][Y:Ty]
section
variable{P:Program}{c:Code}
theorem El(h:aS P c=some .skip):c=.skip:=by
 cases c with
 |skip=>rfl
 |region id ops d=>
  simp only[aS] at h;split at h
  ·cases d with
   |false=>simp at h
   |true=>simp only[if_true] at h;split at h <;> simp at h
  ·simp at h
 |seq c1 k=>simp only[aS] at h;split at h <;> simp at h
 |cond o c1 k=>simp only[aS] at h;split at h <;> simp at h
 |scope b=>simp only[aS,bq] at h;obtain ⟨m,_,j⟩:=h;rcases Dp m with ⟨l,r,_,e⟩ | e <;> rw[e] at j <;> simp at j
 |rangeFunc g p x y=>rcases cU h with ⟨_,_,_,_,_,_,_,e⟩ | e <;> cases e
 |_=>simp[aS] at h
theorem SW(h:aS P c=some .ret):c=.ret:=by
 cases c with
 |ret=>rfl
 |region id ops d=>
  simp only[aS] at h;split at h
  ·cases d with
   |false=>simp at h
   |true=>simp only[if_true] at h;split at h <;> simp at h
  ·simp at h
 |seq c1 k=>simp only[aS] at h;split at h <;> simp at h
 |cond o c1 k=>simp only[aS] at h;split at h <;> simp at h
 |scope b=>simp only[aS,bq] at h;obtain ⟨m,_,j⟩:=h;rcases Dp m with ⟨l,r,_,e⟩ | e <;> rw[e] at j <;> simp at j
 |rangeFunc g p x y=>rcases cU h with ⟨_,_,_,_,_,_,_,e⟩ | e <;> cases e
 |_=>simp[aS] at h
theorem PR{i:Nat}(h:aS P c=some (.exit (2 * i))):c=.exit i:=by
 cases c with
 |exit j=>simp only[aS,ab,az.exit.injEq] at h;rw[show j=i by omega]
 |goto j=>simp only[aS,ab,az.exit.injEq] at h;omega
 |region id ops d=>
  simp only[aS] at h;split at h
  ·cases d with
   |false=>simp at h
   |true=>simp only[if_true] at h;split at h <;> simp at h
  ·simp at h
 |seq c1 m=>simp only[aS] at h;split at h <;> simp at h
 |cond o c1 m=>simp only[aS] at h;split at h <;> simp at h
 |scope b=>simp only[aS,bq] at h;obtain ⟨p,_,k⟩:=h;rcases Dp p with ⟨l,r,_,e⟩ | e <;> rw[e] at k <;> simp at k
 |rangeFunc g q x y=>rcases cU h with ⟨_,_,_,_,_,_,_,e⟩ | e <;> cases e
 |_=>simp[aS] at h
end
section
variable{P:Program}{i so ti tb gm:Nat}{z:List D}{st:TT i->Int}{metf:TT i->List (TT i)->Option Bool}
variable{B:Nat}{lb:Array Value}{J:Nat->(Nat->Prop)->(Nat->Prop)->World->Prop}{Jx:(Nat->Prop)->(Nat->Prop)->World->Prop}{l:List (TT i)}{ly:Nat}{pv:Value}
theorem DF:∀(cs:List CC)(x:aB cs),(qi cs x).all TC.scalar=true:=by
 intro cs;induction cs with
 |nil=>intro x;rfl
 |cons c cs ih=>intro x;simp only[qi,List.all_cons,ih,EP];cases c <;> rfl
def wV(J:Nat->(Nat->Prop)->(Nat->Prop)->World->Prop)(Jx:(Nat->Prop)->(Nat->Prop)->World->Prop)(m:Nat):Exit->Act->World->Prop:=λe a W=>(e=.normal∨e=.ret)/\a.defers=[]/\∃F U,J m F U W∨Jx F U W
def Oa{T:Type}(st:T->Int)(met:T->Option Bool)(l:List T):Option (List T):=match Nat.ble l.length 1000000 with | true=>xQ st met l | false=>none
theorem Eu (cy:P.follows .mixedOrders=true) (hz:z.length=ai i) (bk:∀a,(enc i a)[so]? = some (.lit (.int .i64 (st a))))
  (ax:∀x y:Int,fe P .lss ti (.tmp 7) (.tmp 6) (.int .i64 x) (.int .i64 y)=some (.bool (decide (x<y))))
  (bl:∀x:Int,fe P .eql ti (.tmp 12) (.const (.int .i64 1)) (.int .i64 x) (.int .i64 1)=some (.bool (x == 1)))
  (a0:∀x:Int,fe P .add ti (.tmp 7) (.const (.int .i64 1)) (.int .i64 x) (.int .i64 1)=some (.int .i64 (IntKind.i64.wrap (x+1)))) (a3:∀b:Bool,ee P (Op.unary .not (.bool b))=some (.bool (!b)))
  (hm:a_ P gm ⟨[.st i,.c (.sl i)],[.c .bool],fun a=>metf a.1 a.2.1⟩)
  (T:∀k,rQ B (J k)) (bt:rQ B Jx) (df:l.length≤1000000) {r:List (TT i)} (a4:∀k F U W,J k F U W→RX F W [[.bG false (l.map (enc i))]] lb) (bu:lb[0]? = some pv)
  (R:∀k ds F U W vs,(r.map fun a=>[ST (enc i a)])[k]? = some ds→J k F U W→Rq F W ds vs →
   YieldAt Fence.wide 0 P ly vs W fun e W'=>∃F' U',Kept F U W F' U' W'∧((e=.returned (.bool true)∧J (k+1) F' U' W')∨(e=.returned (.bool false)∧Jx F' U' W')))
  {cb:Code} (bv:aS P cb=some (US (ai i) so ti tb gm z)):∀(m k it:Nat) (q:List (TT i)) (F U:Nat→Prop) (W:World) (u:Act),k+m=l.length→xQ st (fun x=>metf x l) (l.drop k)=some q→r.drop it=q→it≤r.length→J it F U W →
   dq 26 [] (fun _=>none) F W (jm i l (.func (.yield ly) #[] #[]) pv k) u.tmps→u.defers=[]→Code.roundsIn Fence.wide 0 P cb (Exit.inBlock 0 (wV J Jx r.length)) (m+1) u W:=by
 obtain ⟨c1,r1,rfl,h1,bw⟩:=qz bv
 obtain ⟨c2,r2,rfl,h2,b0⟩:=qz bw
 obtain ⟨c3,c4,rfl,h3,h4⟩:=qz b0
 obtain ⟨x8,di,dp,rfl,b1,b2,b3⟩:=Fa h2
 obtain ⟨j2,d0,rfl,d5,b4⟩:=Bi h3
 obtain ⟨d2,r3,rfl,b5,b6⟩:=qz b4
 obtain ⟨d3,d4,rfl,b7,b8⟩:=qz b6
 obtain ⟨d6,d7,d8,rfl,a6,b9,ch⟩:=Fa b8
 have:=El b2
 subst this
 have:=PR (i:=0) b3
 subst this
 have:=SW b9
 subst this
 have:=El ch
 subst this
 have tm:∀(x:Operand) (t:Nat),ba x=some (.t t)→x=.tmp t:=fun x t hx=>by
  cases x <;> simp [ba] at hx
  rw [hx]
 have:=tm _ _ b1
 subst this
 have:=tm _ _ a6
 subst this
 have ev:∀{al:AL} {σ:aa} {M:Nat→Option Nat} {F:Nat→Prop} {W:World} {a:Act} {t:Nat} {b:Bool},dq 26 σ M F W al a.tmps→lk t al=some (Abs.B b)→a.eval (.tmp t)=.bool b:=fun {al σ M F W a t b} A h=>by
  obtain ⟨v,g1,g2⟩:=A.2 t _ h
  have:=g2.bx
  subst this
  simp [Act.eval,g1]
 have O:jX P (fun _=>xw []):=fun _=>jv fun p hp=>by simp at hp
 intro m
 induction m with
 | zero =>
  intro k it q F U W u hk o K Dr L A ad
  rw [roundsIn_succ]
  refine wpIn_seq (jE h1 fun ops hs g E=>?_)
  show wpOpsIn Fence.wide 0 P ops _ (List.range' 0 (PZ ti).length++[]) u W
  refine cV O E Kt (fun j ao L=>by rw [Dn]; exact g j ao L) ?_ ((T _).rel _ _ _ L) A
  refine bj.op (cI (v:=.bool (decide ((k:Int)<l.length))) rfl rfl rfl rfl (ax _ _) rfl) fB rfl (bj.nil ?_)
  intro a1 W1 M1 F1 af R1 A1 E1
  obtain ⟨j1,_⟩:=(T it).step L (fun b c h=>by simp at h) E1 R1
  refine ⟨wpIn_seq (wpIn_cond_false (by rw [ev A1 rfl]; simp; omega) (wpIn_exit ?_)),by simp⟩
  have ck:q=[]:=by
   have:l.drop k=[]:=UK (by omega)
   rw [this] at o
   simpa [xQ] using o.symm
  subst ck
  have a7:it=r.length:=by
   have:=Dj List.length K
   simp at this
   omega
  show Exit.inBlock 0 (wV J Jx r.length) (.exit 0) a1 W1
  simp only [Exit.inBlock,if_true]
  exact ⟨.inl rfl,by rw [af,ad],_,_,.inl (by rw [←a7]; exact j1)⟩
 | succ m ih =>
  intro k it q F U W u hk o K Dr L A ad
  have cm:k<l.length:=by omega
  have co:l.drop k=l[k]::l.drop (k+1):=ZY cm
  rw [co] at o
  generalize ha:l[k]=a at o
  rw [roundsIn_succ]
  refine wpIn_seq (jE h1 fun ops hs g E=>?_)
  show wpOpsIn Fence.wide 0 P ops _ (List.range' 0 (PZ ti).length++[]) u W
  refine cV O E Kt (fun j ao L=>by rw [Dn]; exact g j ao L) ?_ ((T _).rel _ _ _ L) A
  refine bj.op (cI (v:=.bool (decide ((k:Int)<l.length))) rfl rfl rfl rfl (ax _ _) rfl) fB rfl (bj.nil ?_)
  intro a1 W1 M1 F1 af R1 A1 E1
  obtain ⟨j1,o1⟩:=(T it).step L (fun b c h=>by simp at h) E1 R1
  refine ⟨wpIn_seq (wpIn_cond_true (by rw [ev A1 rfl]; simp; omega) (wpIn_skip ?_)),by simp⟩
  refine wpIn_seq (wpIn_block (wpIn_seq (jE b5 fun ops hs g E=>?_)))
  show wpOpsIn Fence.wide 0 P ops _ (List.range' 0 (Vh (ai i) z).length++[]) a1 W1
  refine cV O E Kt (fun j ao L=>by rw [Dn]; exact g j ao L) ?_ R1 A1
  have cv:au l (k:Int)=some a:=by
   unfold au
   rw [if_pos ⟨by omega,by omega⟩]
   simp [←ha]
  have G:((enc i a).map D.c).length=ai i:=by rw [vN,nh]
  have a8:oW (some (ai i)) ((enc i a).map D.c) 0=some (ST (enc i a)):=ub G
  have c0:(ST (enc i a)).cells? = some ((enc i a).map D.c):=by
   obtain ⟨h1,_⟩:=lW (v:=.agg (exp i a)) (xs:=exp i a) (by simp only [dw,exp,DF]) (bT.zj (.st i) a)
   rw [pf] at h1
   exact h1
  have a9:put z 0 ((enc i a).map D.c)=(enc i a).map D.c:=by
   unfold put
   simp [G,hz]
  refine bj.op (Nz (l:=l) (f:=enc i) (k:=(k:Int)) rfl rfl cv (nh i a)) fB rfl (bj.op (xF rfl a8) fB rfl (bj.op (ER (d1:=.ptr 0 0 (ai i)) (by rw [hz]; rfl) rfl) fB rfl (bj.Yu (yc (cs:=z) (xs:=(enc i a).map D.c) rfl (Nk rfl hz) rfl c0 ⟨G,by omega⟩ (show _=[Ob.cells ((enc i a).map D.c)] by rw [a9]; rfl)) fB rfl (bj.nil ?_))))
  intro a2 W2 M2 F2 bc R2 A2 E2
  obtain ⟨c5,o2⟩:=(T it).step j1 o1 E2 R2
  refine ⟨wpIn_seq (RN (k:=(k:Int)) (st:=st) (metf:=metf) (items:=r.map fun a=>[ST (enc i a)]) cy bk bl a3 hm T bt a4 bu R b7 R2 (A2.lks fun t d ht=>?_) (by rw [bc,af,ad]) c5 o2 (fun N=>?_) fun b c6 c7=>?_),by simp⟩
  ·have:=jP ht
   simp only [jm,dO,FG,EG,aC] at this
   rcases this with ⟨rfl,rfl⟩ | ⟨rfl,rfl⟩ | ⟨rfl,rfl⟩ | ⟨rfl,rfl⟩ | ⟨rfl,rfl⟩ | ⟨rfl,rfl⟩ <;> rfl
  ·simp only [xQ,N,YN,if_true] at o
   cases bd:metf a l with
   | none=>rw [bd] at o; simp at o
   | some b =>
    refine ⟨b,rfl,fun hb=>?_⟩
    rw [bd] at o
    simp only [Option.bind_some] at o
    obtain ⟨Z,be,e⟩:=bC.1 o
    simp only [hb,if_true,ab] at e
    have:r[it]? = some a:=by
     have:=Dj (fun l:List (TT i)=>l[0]?) K
     rw [←e] at this
     simpa using this
    simp [this]
  ·
   intro F' U' W' A' b' bh AA c8
   rcases c8 with ⟨rfl,S⟩ | ⟨rfl,S⟩
   ·
    refine wpIn_cond_false (ev AA rfl) (wpIn_skip ?_)
    show Exit.inBlock j2 (Exit.then (c4.wpIn Fence.wide 0 P _) _) .normal A' W'
    show c4.wpIn Fence.wide 0 P _ A' W'
    refine jE h4 fun ops hs g E=>?_
    show wpOpsIn Fence.wide 0 P ops _ (List.range' 0 (Vb ti).length++[]) A' W'
    refine cV O E Kt (fun j ao L=>by rw [Dn]; exact g j ao L) ?_ ((T _).rel _ _ _ S) AA
    have c9:IntKind.i64.wrap ((k:Int)+1)=(k:Int)+1:=by
     rw [IntKind.wrap_i64]; omega
    refine bj.op (cI (v:=.int .i64 (IntKind.i64.wrap ((k:Int)+1))) rfl rfl rfl rfl (a0 _) rfl) fB rfl (bj.op (um rfl) fB rfl (bj.nil ?_))
    intro a5 W5 M5 F5 da R5 A5 E5
    obtain ⟨j5,_⟩:=(T _).step S (fun b c h=>by simp at h) E5 R5
    have A6:dq 26 [] (fun _=>none) F5 W5 (jm i l (.func (.yield ly) #[] #[]) pv ((k+1:Nat):Int)) a5.tmps:=by
     refine A5.data fun t d ht=>?_
     have:=jP ht
     simp only [jm,dO,FG,EG,aC] at this
     rcases this with ⟨rfl,rfl⟩ | ⟨rfl,rfl⟩ | ⟨rfl,rfl⟩ | ⟨rfl,rfl⟩ | ⟨rfl,rfl⟩
     ·refine ⟨?_,rfl⟩
      show some (D.c (C.lit (.int .i64 (IntKind.i64.wrap ((k:Int)+1)))))=_
      rw [c9]
      rfl
     all_goals exact ⟨rfl,rfl⟩
    refine ⟨?_,by simp⟩
    show Code.roundsIn Fence.wide 0 P _ _ (m+1) a5 W5
    have ak:∃Z,xQ st (fun x=>metf x l) (l.drop (k+1))=some Z∧r.drop (if b=true then it+1 else it)=Z∧(if b=true then it+1 else it)≤r.length:=by
     by_cases N:st a=1
     ·simp only [xQ,N,YN,if_true] at o
      rw [c6 N] at o
      simp only [Option.bind_some] at o
      obtain ⟨Z,be,e⟩:=bC.1 o
      refine ⟨Z,be,?_⟩
      cases b with
      | true =>
       simp only [if_true,ab] at e ⊢
       have h0:r.drop it=a::Z:=by rw [K,e]
       have bi:it<r.length:=by
        have:=Dj List.length h0
        simp at this
        omega
       refine ⟨?_,bi⟩
       have:=Dj (List.drop 1) h0
       simpa using this
      | false =>
       simp only [aV,bm,ab] at e ⊢
       exact ⟨by rw [K,e],Dr⟩
     ·have hf:(st a == 1)=false:=by simpa using N
      simp only [xQ,hf,aV,bm] at o
      have:=c7 N
      subst this
      exact ⟨q,o,by simpa using K,by simpa using Dr⟩
    obtain ⟨Z,db,dc,dd⟩:=ak
    exact ih (k+1) _ Z F5 _ W5 a5 (by omega) db dc dd j5 A6 (by rw [da,bh])
   ·
    refine wpIn_cond_true (ev AA rfl) (wpIn_ret ?_)
    show wV J Jx r.length .ret A' W'
    exact ⟨.inr rfl,bh,_,_,.inr S⟩
theorem Tq{g:Nat}{fn:Func}{met:TT i->List (TT i)->Option Bool}(cy:P.follows .mixedOrders=true)(hg:P.funcs[g]? = some fn)(E:e_ P fn true=some (UM (ai i) so ti tb gm z))(hm:a_ P gm ⟨[.st i,.c (.sl i)],[.c .bool],λa=>met a.1 a.2.1⟩)(hz:z.length=ai i)(ak:∀a,(enc i a)[so]? = some (.lit (.int .i64 (st a))))
  (ax:∀x y:Int,fe P .lss ti (.tmp 7) (.tmp 6) (.int .i64 x) (.int .i64 y)=some (.bool (decide (x<y))))
  (a0:∀x:Int,fe P .eql ti (.tmp 12) (.const (.int .i64 1)) (.int .i64 x) (.int .i64 1)=some (.bool (x == 1)))
  (K:∀x:Int,fe P .add ti (.tmp 7) (.const (.int .i64 1)) (.int .i64 x) (.int .i64 1)=some (.int .i64 (IntKind.i64.wrap (x+1)))) (L:∀b:Bool,ee P (Op.unary .not (.bool b))=some (.bool (!b))) :
  OX P g ⟨[.c (.sl i)],[.c (.sl i)],λa=>Oa st (λx=>met x a.1) a.1⟩:=by
 intro l r N;change Oa st (λx=>met x l) l=some r at N;unfold Oa at N;split at N
 rotate_left
 ·simp at N
 rename_i k;have k:=wS k;unfold e_ at E;split at E
 rotate_left
 ·simp at E
 rename_i c hb;split at E
 rotate_left
 ·simp at E
 rename_i ac rs a2 a3;simp only[UM,ab,iw.mk.injEq] at E;obtain ⟨_,a4,rfl,rfl,_⟩:=E;intro ly B lb J Jx W F U hJ R q m h0;obtain ⟨o,a5⟩:=q 0 F U W h0;have o:lb.size=1:=o;obtain ⟨pv,G⟩:∃pv,lb[0]? = some pv:=⟨_,nE (by omega)⟩;obtain ⟨c',a6,bl,T,hh,hl,hx⟩:=a5 0 _ pv rfl G;refine callsIn_wide.1 (callsIn_of_wp_marks (F:=Fence.wide) (n:=0) hg hb trivial ?_ rfl);refine wpIn_mono (Q:=wV J Jx r.length) ?_ λe a W' S=>?_
 rotate_left
 ·obtain ⟨he,hd,F',U',Z⟩:=S;have R':Rel [] (λ_=>none) F' W':=Z.elim (λh=>(hJ _).rel _ _ _ h) λh=>R.rel _ _ _ h;have E':cf [] (λ_=>none) F' W' (List.replicate a.tmps.size D.any) a.tmps:=⟨by simp,λi d v g1 g2=>by
   have:d=.any:=by rw[List.getElem?_replicate] at g1;split at g1 <;> simp_all
   subst this;exact .any v⟩
  obtain ⟨v,hv,_⟩:=gp (P:=P) (a:=a) R' E' a3 (ds:=[]) rfl;have fin:LeavesInM Fence.wide 0 P fn a.tmps (λe W'=>(∃v,e=.returned v)/\∃F' U',J (r.map λa=>[ST (enc i a)]).length F' U' W'∨Jx F' U' W') a.defers .returning W':=by rw[hd];exact ⟨v,hv,⟨v,rfl⟩,F',U',by rw[vN];exact Z⟩
  rcases he with rfl | rfl
  ·exact fin
  ·exact fin
 obtain ⟨c0,bt,rfl,a7,ad⟩:=qz a2;obtain ⟨j0,cl,rfl,bu,a8⟩:=Bi ad;obtain ⟨cb,rfl,a9⟩:=NI a8;have:j0=0:=by omega
 subst this;have O:jX P (λ_=>xw []):=λ_=>jv λp hp=>by simp at hp
 have R0:=(hJ 0).rel _ _ _ h0;have A0:dq 26 [] (λ_=>none) F W [(0,.c (.lit (.func (.yield ly) #[] #[]))),(1,.c (.lit pv))] ((#[Value.func (.yield ly) #[] #[]]++lb)++Array.replicate (fn.ntmps-(#[Value.func (.yield ly) #[] #[]]++lb).size) undef):=by
  refine ⟨by simp[o,a4],λt d ht=>?_⟩;have:=jP ht;simp only[dO,FG,EG,aC] at this;rcases this with ⟨rfl,rfl⟩ | ⟨rfl,rfl⟩
  ·refine ⟨_,?_,.c (.lit _)⟩;rw[XC (by simp;omega),XC (by simp)];rfl
  ·refine ⟨pv,?_,.c (.lit _)⟩;rw[XC (by simp[o]),xAh (by simp)];simpa using G
 refine wpIn_seq (jE a7 λops hs A bc=>?_);obtain ⟨o0,bd,af⟩:=A 0 _ rfl;obtain ⟨v1,be,bh⟩:=A0.2 1 _ rfl;have:=bh.bx;subst this;subst a6;show wpOpsIn Fence.wide 0 P ops _ (0::(List.range' 1 2++[])) _ W;refine Bj bd af R0.gl A0.bV.1 rfl be hh (by simpa using hl) (λu hu=>hx 0 _ u rfl hu) λv hv=>?_;have A1:=dq.put (a:={ tmps:=(#[Value.func (.yield ly) #[] #[]]++lb)++Array.replicate (fn.ntmps-(#[Value.func (.yield ly) #[] #[]]++lb).size) undef,defers:=[] }) A0 (t:=5) (d:=.c (.bG false (l.map (enc i)))) (by omega) (.c hv);refine cV (os:=[⟨some 6,.len (.t 5),none⟩,⟨some 7,.uV (.k (.c (.lit (.int .i64 0)))),none⟩]) O bc Kt (vE A λj hj=>?_) ?_ R0 A1
 ·have:j=0∨j=1:=by simp at hj;omega
  rcases this with rfl | rfl <;> rfl
 refine bj.op (MN (l:=l) (f:=enc i) rfl) fB rfl (bj.op (um rfl) fB rfl (bj.nil ?_));intro a1 W1 M1 F1 bi R1 bk E1;obtain ⟨j1,_⟩:=(hJ 0).step h0 (λb c h=>by simp at h) E1 R1;refine ⟨?_,by simp⟩;show (Code.block 0 (Code.loop cb)).wpIn Fence.wide 0 P _ a1 W1;refine wpIn_block (wpIn_loop_rounds (l.length+1) (Eu (metf:=met) (hm:=hm) cy hz ak ax a0 K L hJ R k q G m a9 l.length 0 0 r F1 _ W1 a1 (by omega) (by simpa using N) rfl (JG _) j1 (bk.data λt d ht=>?_) (by rw[bi];rfl)));have:=jP ht;simp only[jm,dO,FG,EG,aC] at this;rcases this with ⟨rfl,rfl⟩ | ⟨rfl,rfl⟩ | ⟨rfl,rfl⟩ | ⟨rfl,rfl⟩ | ⟨rfl,rfl⟩ <;> exact ⟨rfl,rfl⟩
end
end
end Go.Abs
end
section
namespace Go.Abs
section
variable[Gl]
def MV(d:List Sh)(xs:List C):Prop:=xs.length=d.length/\∀(i:Nat) t x,d[i]? = some t->xs[i]? = some x->Shaped t x
theorem MV.cons{s:Sh}{j:List Sh}{xs:List C}(h:MV (s::j) xs):∃x o,xs=x::o/\Shaped s x/\MV j o:=by
 obtain ⟨u,h⟩:=h
 match xs,u,h with
 |x::o,u,h=>exact ⟨x,o,rfl,h 0 s x rfl rfl,by simp_all,λi t y A E=>h (i+1) t y (by simp_all) (by simp_all)⟩
theorem MV.nil{xs:List C}(h:MV [] xs):xs=[]:=by simpa using h.1
variable[Y:Ty]
def ZI(rec:Nat->List Sh):CC->Sh
 |.int k=>.int k
 |.bool=>.bool
 |.str=>.str
 |.sl j=>.sl (rec j)
 |.fk _=>.no
def shN:Nat->Nat->List Sh
 |0,_=>[]
 |k+1,i=>(Y.fl i).map (ZI (shN k))
def XV(i:Nat):List Sh:=shN (i+1) i
theorem Ju{rec:Nat->List Sh}{r:(j:Nat)->TT j->List C}{c:CC}(o:∀j,c=.sl j->∀xs,MV (rec j) xs->∃a:TT j,xs=r j a){x:C}(h:Shaped (ZI rec c) x):∃a:c.dn,x=nB r c a:=by
 cases c with
 |int k=>cases h with | int h=>exact ⟨_,rfl⟩
 |bool=>cases h with | bool b=>exact ⟨_,rfl⟩
 |str=>cases h with | str b=>exact ⟨_,rfl⟩
 |fk p=>cases h
 |sl j=>
  cases h with
  |sl e g m=>
   rename_i es;have:∃l:List (TT j),es=l.map (r j):=by
    clear e;induction es with
    |nil=>simp_all
    |cons y es ih=>obtain ⟨a,q⟩:=o j rfl y ⟨g y (by simp),m y (by simp)⟩;obtain ⟨l,e⟩:=ih (λz d=>g z (by simp[d])) (λz d=>m z (by simp[d]));exact ⟨a::l,by simp_all⟩
   obtain ⟨l,rfl⟩:=this;exact ⟨l,rfl⟩
theorem Rh{rec:Nat->List Sh}{r:(j:Nat)->TT j->List C}:∀(cs:List CC),(∀j,CC.sl j∈cs->∀xs,MV (rec j) xs->∃a:TT j,xs=r j a)->∀xs,MV (cs.map (ZI rec)) xs->∃a:aB cs,xs=jS r cs a:=by
 intro cs;induction cs with
 |nil=>intro _ xs h;exact ⟨(),h.nil⟩
 |cons c cs ih=>intro d xs h;obtain ⟨x,g,rfl,k,m⟩:=MV.cons h;obtain ⟨a,rfl⟩:=Ju (λj e=>d j (by simp_all)) k;obtain ⟨b,rfl⟩:=ih (λj e=>d j (kE _ e)) g m;exact ⟨(a,b),rfl⟩
theorem SX:∀(k i:Nat),i<k->∀xs,MV (shN k i) xs->∃a:TT i,xs=FJ k i a:=by
 intro k;induction k with
 |zero=>omega
 |succ k ih=>intro i e xs h;obtain ⟨a,rfl⟩:=Rh (rec:=shN k) (r:=FJ k) (Y.fl i) (λj d=>ih j (by have:=Y.dn i j d;omega)) xs h;exact ⟨Y.Vj i a,by grind [FJ,Ty.pm]⟩
theorem Oz(i:Nat){xs:List C}(h:MV (XV i) xs):∃a:TT i,xs=enc i a:=SX (i+1) i (by omega) xs h
theorem XH(i:Nat){w:World}{xs:List C}{vs:Array Value}(h:xo w (XV i) xs vs.toList):∃a:TT i,V [] (λ_=>none) (λc=>c<w.heap.size) w (bT.enc (.st i) a) (.agg vs):=by have d:=V.Ke h (σ:=[]) (M:=λ_=>none);obtain ⟨a,rfl⟩:=Oz i ⟨h.1,h.2.2.1⟩;exact ⟨a,d⟩
theorem arg_c(c:CC){w:World}{xs:List C}{v:Value}(h:xo w [ZI XV c] xs [v]):∃a:c.dn,V [] (λ_=>none) (λc=>c<w.heap.size) w (bT.enc (.c c) a) v:=by obtain ⟨x,rfl,hs,d⟩:=V.KU h (σ:=[]) (M:=λ_=>none);obtain ⟨a,rfl⟩:=Ju (rec:=XV) (r:=enc) (λj _ xs h=>Oz j h) hs;exact ⟨a,d⟩
open Go.RowKit in
theorem OA{P:Program}{g:FuncId}{ds:List D}(h:Pure P g ds (B true)){w:World}{vs:Array Value}(hs:vs.size=ds.length)
  (m:∀(i:Nat) d v,ds[i]? = some d->vs[i]? = some v->V [] (λ_=>none) (λc=>c<w.heap.size) w d v) (p:Gl.ok (λc=>c<w.heap.size) w) :
  Calls P g vs w λe o=>e=.returned (.bool true)/\Below w.heap.size w o:=by
 refine (h.2 _ _ w vs (Rel.start w p) hs m).mono λe o q=>?_;obtain ⟨v,t,r,rfl,u,m,j⟩:=q;exact ⟨by rw[m.bx],j.out.1,j.out.2.1,j.out.2.2,j.size,λk hk=>(j.fz k hk).2⟩
end
end Go.Abs
end
