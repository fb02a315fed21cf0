/- DfwPj, DfwPk, DfwPw, DfwMv, DfwSc, DfwPl, DfwPm -/
import Derived.Test.YtidolomakdofhaaGreatDoorFwE
import Derived.ScopeJumps
set_option linter.all false
section
namespace Go.Abs
noncomputable section
variable[Gl][Y:Ty]
def notH(pl:List Pl)(b j:Nat):Prop:=∀c,Pl.h b j c∉pl
def notW(pl:List Pl)(b:Nat):Prop:=∀i,Pl.w b i∉pl
def notM(pl:List Pl)(b:Nat):Prop:=∀j st,Pl.m b j st∉pl
def SB(pl:List Pl)(b:Nat):TB->TB->Prop
 |.cells w cs,blk1=>∃w1 cs1,blk1=.cells w1 cs1/\cs1.length=cs.length/\∀(j:Nat) p p1,cs[j]? = some p->cs1[j]? = some p1->notH pl b j->p1=p
 |.row i l lv cv,blk1=>∃l1 lv1 cv1,blk1=.row i l1 lv1 cv1/\(notW pl b->l1=l/\lv1=lv/\cv1=cv)
 |.mp j st l v,blk1=>∃j1 st1 l1 v1,blk1=.mp j1 st1 l1 v1/\(notM pl b->blk1=.mp j st l v)
def HS(pl:List Pl)(U U1:TH):Prop:=∀(b:Nat) blk,U[b]? = some blk->∃blk1,U1[b]? = some blk1/\SB pl b blk blk1
theorem SB.trans{pl:List Pl}{b:Nat}{x y z:TB}(h1:SB pl b x y)(h2:SB pl b y z):SB pl b x z:=by
 cases x with
 |cells w cs=>
  obtain ⟨w1,cs1,rfl,l1,c1⟩:=h1;obtain ⟨w2,cs2,rfl,l2,c2⟩:=h2;refine ⟨w2,cs2,rfl,by rw[l2,l1],λj p p2 e e2 hn=>?_⟩;have hj:j<cs1.length:=by rw[l1];exact (yAb.1 e).1
  have e1:=yAg hj;have:=c1 j p _ e e1 hn;rw[c2 j _ p2 e1 e2 hn,this]
 |row i l lv cv=>obtain ⟨l1,lv1,cv1,rfl,c1⟩:=h1;obtain ⟨l2,lv2,cv2,rfl,c2⟩:=h2;refine ⟨l2,lv2,cv2,rfl,λhn=>?_⟩;obtain ⟨rfl,rfl,rfl⟩:=c1 hn;exact c2 hn
 |mp j st l v=>obtain ⟨j1,st1,l1,v1,rfl,c1⟩:=h1;obtain ⟨j2,st2,l2,v2,rfl,c2⟩:=h2;refine ⟨j2,st2,l2,v2,rfl,λhn=>?_⟩;rw[c2 hn,c1 hn]
theorem HS.trans{pl:List Pl}{U U1 U2:TH}(h1:HS pl U U1)(h2:HS pl U1 U2):HS pl U U2:=λb blk h=>by obtain ⟨blk1,e1,s1⟩:=h1 b blk h;obtain ⟨blk2,e2,s2⟩:=h2 b blk1 e1;exact ⟨blk2,e2,s1.trans s2⟩
theorem any_mem{f:Pl->Bool}{pl:List Pl}(h:pl.any f=true):∃p∈pl,f p=true:=by simpa using h
theorem cellsSame_ok{pl:List Pl}{b:Nat}:∀{xs ys:List (Nat×TC)}{j0:Nat},cellsSame pl b j0 xs ys=true->xs.length=ys.length/\∀(j:Nat) p q,xs[j]? = some p->ys[j]? = some q->notH pl b (j0+j)->p.1=q.1:=by
 intro xs;induction xs with
 |nil=>
  intro ys j0 h;cases ys with
  |nil=>exact ⟨rfl,λj p q e=>by simp at e⟩
  |cons y ys=>simp[cellsSame] at h
 |cons x xs ih=>
  intro ys j0 h;cases ys with
  |nil=>obtain ⟨a,b⟩:=x;simp[cellsSame] at h
  |cons y ys=>
   obtain ⟨v,x⟩:=x;obtain ⟨w,y⟩:=y;simp only[cellsSame,yAj,yAt] at h;obtain ⟨h1,h2⟩:=h;obtain ⟨h3,h4⟩:=ih h2;refine ⟨by simp[h3],λj p q e e' hn=>?_⟩;cases j with
   |zero=>
    simp only[List.getElem?_cons_zero,yAa] at e e';subst e e';rcases h1 with h1 | h1
    ·exact yAi h1
    ·obtain ⟨p,hp,hf⟩:=any_mem h1;exfalso;split at hf
     ·rename_i b' j' c;simp only[yAj] at hf;have e1:=yAi hf.1;have e2:=yAi hf.2;subst e1 e2;exact hn c hp
     ·simp at hf
   |succ j=>simp only[List.getElem?_cons_succ] at e e';refine h4 j p q e e' ?_;rw[show j0+1+j=j0+(j+1) by omega];exact hn
theorem heapSame_at{pl:List Pl}:∀{U U1:TH}{b0:Nat},heapSame pl b0 U U1=true->∀(b:Nat) blk,U[b]? = some blk->∃blk1,U1[b]? = some blk1/\blkSame pl (b0+b) blk blk1=true:=by
 intro U;induction U with
 |nil=>intro U1 b0 _ b blk h;simp at h
 |cons x U ih=>
  intro U1 b0 h b blk hb;cases U1 with
  |nil=>simp[heapSame] at h
  |cons y U1=>
   simp only[heapSame,yAj] at h;cases b with
   |zero=>simp only[List.getElem?_cons_zero,yAa] at hb;subst hb;exact ⟨y,rfl,h.1⟩
   |succ b=>simp only[List.getElem?_cons_succ] at hb;obtain ⟨blk1,h1,h2⟩:=ih h.2 b blk hb;exact ⟨blk1,h1,by rw[show b0+(b+1)=b0+1+b by omega];exact h2⟩
theorem zc4{pl:List Pl}{U U1:TH}{σD:Heap}(H:RH U σD)(h:heapSame pl 0 U U1=true)(he:Ext U U1):HS pl U U1:=λb blk hb=>by
 obtain ⟨blk1,h1,h2⟩:=heapSame_at h b blk hb;rw[yBj] at h2;obtain ⟨blk1',h3,h4⟩:=he b blk hb;rw[h1] at h3;simp only[yAa] at h3;subst h3;refine ⟨blk1,h1,?_⟩;cases blk with
 |cells w cs=>
  obtain ⟨w1,cs1,rfl,hw,hl,hc⟩:=h4;simp only[blkSame] at h2;obtain ⟨_,h5⟩:=cellsSame_ok h2;refine ⟨w1,cs1,rfl,hl,λj p p1 e e1 hn=>?_⟩;have hv:=h5 j p p1 e e1 (by rw[yBj];exact hn);obtain ⟨v,x⟩:=p;obtain ⟨v1,x1⟩:=p1;have hle:=(H.hg b w cs hb _ (yAy e)).2;dsimp only at hv hle;rcases hc j v x v1 x1 e e1 with ⟨h6,h7⟩ | h6
  ·rw[h6,h7]
  ·omega
 |row i l lv cv=>
  obtain ⟨l1,lv1,cv1,rfl,_,_,_,h8⟩:=h4;refine ⟨l1,lv1,cv1,rfl,λhn=>?_⟩;simp only[blkSame,yAt] at h2;rcases h2 with h2 | h2
  ·have:=yAi h2;obtain ⟨h9,h10⟩:=h8 this;exact ⟨h9,h10,this.symm⟩
  ·obtain ⟨p,hp,hf⟩:=any_mem h2;exfalso;split at hf
   ·have e1:=yAi hf;subst e1;exact hn _ hp
   ·simp at hf
 |mp j st l v=>
  obtain ⟨j1,st1,l1,v1,rfl,_,h8⟩:=h4;refine ⟨j1,st1,l1,v1,rfl,λhn=>?_⟩;simp only[blkSame,yAt] at h2;rcases h2 with h2 | h2
  ·exact h8 (yAi h2)
  ·obtain ⟨p,hp,hf⟩:=any_mem h2;exfalso;split at hf
   ·have e1:=yAi hf;subst e1;exact hn _ _ hp
   ·simp at hf
def PB(al1:TA)(U1:TH)(ps:List Pl)(b:Nat):TB->TB->Prop
 |.cells w cs,blk2=>∃w2 cs2,blk2=.cells w2 cs2/\cs2.length=cs.length/\∀(j:Nat) p2,cs2[j]? = some p2->p2.1<=w2/\((∃c a,p2.2=expC c a/\rdP al1 U1 (.h b j c)=some a/\Pl.h b j c∈ps)∨(cs[j]? = some p2/\notH ps b j))
 |.row i l lv cv,blk2=>∃l2 lv2 cv2,blk2=.row i l2 lv2 cv2/\(((∃lv1 cv1,U1[b]? = some (.row i l2 lv1 cv1))/\∃i',Pl.w b i'∈ps)∨(l2=l/\lv2=lv/\cv2=cv/\notW ps b))
 |.mp j st l v,blk2=>∃j2 st2 l2 v2,blk2=.mp j2 st2 l2 v2/\(((∃v1,U1[b]? = some (.mp j2 st2 l2 v1))/\∃j' st',Pl.m b j' st'∈ps)∨(blk2=.mp j st l v/\notM ps b))
def PQ(al1:TA)(U1:TH)(ps:List Pl)(U U2:TH):Prop:=U2.length=U.length/\∀(b:Nat) blk,U[b]? = some blk->∃blk2,U2[b]? = some blk2/\BE blk blk2/\PB al1 U1 ps b blk blk2
theorem castM_some{i j:Nat}{l:List (Int×TT j)}{m:List (Int×TT i)}(h:castM l=some m):∃e:j=i,m=e▸l:=by
 unfold castM at h;split at h
 ·rename_i e _;simp only[yAa] at h;exact ⟨e,h.symm⟩
 ·simp at h
theorem PQ.nil{al1:TA}{U1 U:TH}{σD:Heap}(H:RH U σD):PQ al1 U1 [] U U:=⟨rfl,λb blk h=>⟨blk,h,BE.refl blk,by
 cases blk with
 |cells w cs=>exact ⟨w,cs,rfl,rfl,λj p2 e=>⟨(H.hg b w cs h p2 (yAy e)).2,.inr ⟨e,λc hc=>by simp at hc⟩⟩⟩
 |row i l lv cv=>exact ⟨l,lv,cv,rfl,.inr ⟨rfl,rfl,rfl,λi hi=>by simp at hi⟩⟩
 |mp j st l v=>exact ⟨j,st,l,v,rfl,.inr ⟨rfl,λj st hi=>by simp at hi⟩⟩⟩⟩
theorem PB.weak{al1:TA}{U1:TH}{ps:List Pl}{b:Nat}{x y:TB}{p:Pl}(h:PB al1 U1 ps b x y)(h1:∀j c,p≠.h b j c)(h2:∀i,p≠.w b i)(h3:∀j st,p≠.m b j st):PB al1 U1 (p::ps) b x y:=by
 cases x with
 |cells w cs=>
  obtain ⟨w2,cs2,e,l2,c2⟩:=h;refine ⟨w2,cs2,e,l2,λj p2 e2=>?_⟩;obtain ⟨h4,h5⟩:=c2 j p2 e2;refine ⟨h4,?_⟩;rcases h5 with ⟨c,a,h5,h6,h7⟩ | ⟨h5,h6⟩
  ·exact .inl ⟨c,a,h5,h6,yAm _ h7⟩
  ·refine .inr ⟨h5,λc hc=>?_⟩;rcases yAu.1 hc with hc | hc
   ·exact h1 j c hc.symm
   ·exact h6 c hc
 |row i l lv cv=>
  obtain ⟨l2,lv2,cv2,e,h5⟩:=h;refine ⟨l2,lv2,cv2,e,?_⟩;rcases h5 with ⟨h5,i',h6⟩ | ⟨h5,h6,h7,h8⟩
  ·exact .inl ⟨h5,i',yAm _ h6⟩
  ·refine .inr ⟨h5,h6,h7,λi hi=>?_⟩;rcases yAu.1 hi with hc | hc
   ·exact h2 i hc.symm
   ·exact h8 i hc
 |mp j st l v=>
  obtain ⟨j2,st2,l2,v2,e,h5⟩:=h;refine ⟨j2,st2,l2,v2,e,?_⟩;rcases h5 with ⟨h5,j',st',h6⟩ | ⟨h5,h8⟩
  ·exact .inl ⟨h5,j',st',yAm _ h6⟩
  ·refine .inr ⟨h5,λj st hi=>?_⟩;rcases yAu.1 hi with hc | hc
   ·exact h3 j st hc.symm
   ·exact h8 j st hc
theorem PQ.step{al1:TA}{U1 U U2:TH}{σD:Heap}{ps pl:List Pl}(H:RH U σD)(hs:HS pl U U1)(p:Pl)(x:p.dn)(hx:rdP al1 U1 p=some x)(h:PQ al1 U1 ps U U2):PQ al1 U1 (p::ps) U (putQ p x U2):=by
 obtain ⟨hl,hb⟩:=h;cases p with
 |r t c=>exact ⟨hl,λb blk e=>let ⟨blk2,e2,h1,h2⟩:=hb b blk e;⟨blk2,e2,h1,h2.weak (by simp) (by simp) (by simp)⟩⟩
 |w b0 i0=>
  simp only[putQ];split
  ·rename_i j l lv cv e0;refine ⟨by simp[hl],λb blk e=>?_⟩;obtain ⟨blk2,e2,h1,h2⟩:=hb b blk e;by_cases hbb:b=b0
   ·subst hbb;rw[e0] at e2;simp only[yAa] at e2;subst e2;refine ⟨_,zaU e0,?_⟩;simp only[rdP] at hx;split at hx
    ·rename_i j1 l1 lv1 cv1 e1;obtain ⟨rfl,rfl⟩:=zcn hx;obtain ⟨blk1,e3,sb⟩:=hs b blk e;rw[e1] at e3;simp only[yAa] at e3;subst e3;cases blk with
     |cells w cs=>obtain ⟨_,_,e4,_⟩:=sb;simp at e4
     |mp q st l v=>obtain ⟨_,_,_,_,e4,_⟩:=sb;simp at e4
     |row i l0 lv0 cv0=>obtain ⟨l5,lv5,cv5,e4,_⟩:=sb;simp only[TB.row.injEq] at e4;obtain ⟨rfl,e5,rfl,rfl⟩:=e4;cases e5;obtain ⟨l6,lv6,cv6,e6,b1,b2,b3,b4⟩:=h1;simp only[TB.row.injEq] at e6;obtain ⟨rfl,e7,rfl,rfl⟩:=e6;cases e7;exact ⟨⟨_,_,_,rfl,by omega,by omega,λe=>by omega,λe=>by omega⟩,⟨_,_,_,rfl,.inl ⟨⟨lv1,cv1,e1⟩,_,yAq ..⟩⟩⟩
    ·simp at hx
   ·exact ⟨blk2,by rw[zay hbb];exact e2,h1,h2.weak (by simp) (by simp;exact λe=>absurd e.symm hbb) (by simp)⟩
  ·rename_i hne;refine ⟨hl,λb blk e=>?_⟩;obtain ⟨blk2,e2,h1,h2⟩:=hb b blk e;refine ⟨blk2,e2,h1,?_⟩;by_cases hbb:b=b0
   ·subst hbb;cases blk2 with
    |row i l lv cv=>exact absurd e2 (hne _ _ _ _)
    |cells w cs=>
     cases blk with
     |cells w' cs'=>
      obtain ⟨w2,cs2,e3,l2,c2⟩:=h2;refine ⟨w2,cs2,e3,l2,λj p2 e4=>?_⟩;obtain ⟨h4,h5⟩:=c2 j p2 e4;refine ⟨h4,?_⟩;rcases h5 with ⟨c,a,h5,h6,h7⟩ | ⟨h5,h6⟩
      ·exact .inl ⟨c,a,h5,h6,yAm _ h7⟩
      ·refine .inr ⟨h5,λc hc=>?_⟩;rcases yAu.1 hc with hc | hc
       ·simp at hc
       ·exact h6 c hc
     |row i l lv cv=>obtain ⟨_,_,_,e3,_⟩:=h2;simp at e3
     |mp q st l v=>obtain ⟨_,_,_,_,e3,_⟩:=h2;simp at e3
    |mp q st l v=>
     cases blk with
     |mp q' st' l' v'=>
      obtain ⟨j2,st2,l2,v2,e3,h5⟩:=h2;refine ⟨j2,st2,l2,v2,e3,?_⟩;rcases h5 with ⟨h5,j',st',h6⟩ | ⟨h5,h8⟩
      ·exact .inl ⟨h5,j',st',yAm _ h6⟩
      ·refine .inr ⟨h5,λj st hi=>?_⟩;rcases yAu.1 hi with hc | hc
       ·simp at hc
       ·exact h8 j st hc
     |row i l lv cv=>obtain ⟨_,_,_,e3,_⟩:=h2;simp at e3
     |cells w cs=>obtain ⟨_,_,e3,_⟩:=h2;simp at e3
   ·exact h2.weak (by simp) (by simp;exact λe=>absurd e.symm hbb) (by simp)
 |h b0 j0 c0=>
  have hread:∀blk,U[b0]? = some blk->∃w cs w1 cs1 y,blk=.cells w cs/\U1[b0]? = some (.cells w1 cs1)/\cs1[j0]? = some y/\rdC c0 y.2=some x/\j0<cs.length:=by
   intro blk e;have hx':=hx;simp only[rdP] at hx;split at hx
   ·rename_i w1 cs1 e1;split at hx
    ·rename_i y e2;obtain ⟨blk1,e3,sb⟩:=hs b0 blk e;rw[e1] at e3;simp only[yAa] at e3;subst e3;cases blk with
     |cells w cs=>obtain ⟨_,_,e4,l4,_⟩:=sb;simp only[TB.cells.injEq] at e4;obtain ⟨rfl,rfl⟩:=e4;exact ⟨w,cs,w1,cs1,y,rfl,e1,e2,hx,by rw[<-l4];exact (yAb.1 e2).1⟩
     |row i l lv cv=>obtain ⟨_,_,_,e4,_⟩:=sb;simp at e4
     |mp q st l v=>obtain ⟨_,_,_,_,e4,_⟩:=sb;simp at e4
    ·simp at hx
   ·simp at hx
  simp only[putQ];split
  ·rename_i w' cs' e0;refine ⟨by simp[hl],λb blk e=>?_⟩;obtain ⟨blk2,e2,h1,h2⟩:=hb b blk e;by_cases hbb:b=b0
   ·subst hbb;rw[e0] at e2;simp only[yAa] at e2;subst e2;obtain ⟨w,cs,w1,cs1,y,rfl,e3,e4,e5,e6⟩:=hread blk e;refine ⟨_,zaU e0,?_⟩;obtain ⟨w2,cs2,e7,l2,c2⟩:=h2;simp only[TB.cells.injEq] at e7;obtain ⟨rfl,rfl⟩:=e7;obtain ⟨w3,cs3,e8,bw,bl,bc⟩:=h1;simp only[TB.cells.injEq] at e8;obtain ⟨rfl,rfl⟩:=e8;refine ⟨⟨w'+1,_,rfl,by omega,by simp[l2],λj v z v1 z1 q1 q2=>?_⟩,⟨w'+1,_,rfl,by simp[l2],λj p2 q=>?_⟩⟩
    ·by_cases hj:j=j0
     ·subst hj;rw[yBo (by rw[l2];exact e6)] at q2;simp only[yAa,yAc] at q2;right;omega
     ·rw[yAD (λe=>hj e.symm)] at q2;exact bc j v z v1 z1 q1 q2
    ·by_cases hj:j=j0
     ·subst hj;rw[yBo (by rw[l2];exact e6)] at q;simp only[yAa] at q;subst q;exact ⟨yAo _,.inl ⟨c0,x,rfl,hx,yAq ..⟩⟩
     ·rw[yAD (λe=>hj e.symm)] at q;obtain ⟨q1,q2⟩:=c2 j p2 q;refine ⟨by omega,?_⟩;rcases q2 with ⟨c,a,h5,h6,h7⟩ | ⟨h5,h6⟩
      ·exact .inl ⟨c,a,h5,h6,yAm _ h7⟩
      ·refine .inr ⟨h5,λc hc=>?_⟩;rcases yAu.1 hc with hc | hc
       ·simp only[Pl.h.injEq] at hc;exact hj hc.2.1
       ·exact h6 c hc
   ·exact ⟨blk2,by rw[zay hbb];exact e2,h1,h2.weak (by simp;exact λe=>absurd e.symm hbb) (by simp) (by simp)⟩
  ·rename_i hne;refine ⟨hl,λb blk e=>?_⟩;obtain ⟨blk2,e2,h1,h2⟩:=hb b blk e;by_cases hbb:b=b0
   ·subst hbb;obtain ⟨w,cs,_,_,_,rfl,_⟩:=hread blk e;obtain ⟨w3,cs3,rfl,_⟩:=h1;exact absurd e2 (hne _ _)
   ·exact ⟨blk2,e2,h1,h2.weak (by simp;exact λe=>absurd e.symm hbb) (by simp) (by simp)⟩
 |m b0 j0 st0=>
  have hread:∀blk,U[b0]? = some blk->∃j st l v v1,blk=.mp j st l v/\U1[b0]? = some (.mp j0 st0 x v1):=by
   intro blk e;simp only[rdP] at hx;split at hx
   ·rename_i j1 st1 l1 v1 e1;split at hx
    ·rename_i hst;have hst:st0=st1:=eq_of_beq hst;obtain ⟨rfl,rfl⟩:=castM_some hx;obtain ⟨blk1,e3,sb⟩:=hs b0 blk e;rw[e1] at e3;simp only[yAa] at e3;subst e3;cases blk with
     |mp q st l v=>exact ⟨q,st,l,v,v1,rfl,by rw[hst];exact e1⟩
     |row i l lv cv=>obtain ⟨_,_,_,e4,_⟩:=sb;simp at e4
     |cells w cs=>obtain ⟨_,_,e4,_⟩:=sb;simp at e4
    ·simp at hx
   ·simp at hx
  simp only[putQ];split
  ·rename_i j' st' l' v' e0;refine ⟨by simp[hl],λb blk e=>?_⟩;obtain ⟨blk2,e2,h1,h2⟩:=hb b blk e;by_cases hbb:b=b0
   ·subst hbb;rw[e0] at e2;simp only[yAa] at e2;subst e2;obtain ⟨j,st,l,v,v1,rfl,e3⟩:=hread blk e;obtain ⟨_,_,_,_,e4,b1,b2⟩:=h1;simp only[TB.mp.injEq] at e4;obtain ⟨rfl,rfl,e5,rfl⟩:=e4;cases e5;exact ⟨_,zaU e0,⟨_,_,_,_,rfl,by omega,λe=>by omega⟩,⟨_,_,_,_,rfl,.inl ⟨⟨v1,e3⟩,_,_,yAq ..⟩⟩⟩
   ·exact ⟨blk2,by rw[zay hbb];exact e2,h1,h2.weak (by simp) (by simp) (by simp;exact λe=>absurd e.symm hbb)⟩
  ·rename_i hne;refine ⟨hl,λb blk e=>?_⟩;obtain ⟨blk2,e2,h1,h2⟩:=hb b blk e;by_cases hbb:b=b0
   ·subst hbb;obtain ⟨j,st,l,v,v1,rfl,_⟩:=hread blk e;obtain ⟨_,_,_,_,rfl,_⟩:=h1;exact absurd e2 (hne _ _ _ _)
   ·exact ⟨blk2,e2,h1,h2.weak (by simp) (by simp) (by simp;exact λe=>absurd e.symm hbb)⟩
theorem PQ.all{al1:TA}{U1 U:TH}{σD:Heap}{pl:List Pl}(H:RH U σD)(hs:HS pl U U1):∀(ps:List Pl)(x:tupP ps),rdPs al1 U1 ps=some x->PQ al1 U1 ps U (putQs ps x U):=by
 intro ps;induction ps with
 |nil=>intro x _;exact PQ.nil H
 |cons p ps ih=>
  intro x hx;cases ps with
  |nil=>exact PQ.step H hs p x hx (PQ.nil H)
  |cons q ps=>
   simp only[rdPs] at hx;split at hx
   ·rename_i a b h1 h2;simp only[yAa] at hx;subst hx;exact PQ.step H hs p a h1 (ih b h2)
   ·simp at hx
theorem PQ.ext{al1:TA}{U1 U U2:TH}{ps:List Pl}(h:PQ al1 U1 ps U U2):Ext U U2:=λb blk e=>let ⟨blk2,e2,h1,_⟩:=h.2 b blk e;⟨blk2,e2,h1⟩
theorem PQ.hs{al1:TA}{U1 U U2:TH}{ps:List Pl}(h:PQ al1 U1 ps U U2)(hs:HS ps U U1):HS ps U U2:=λb blk e=>by
 obtain ⟨blk2,e2,h1,h2⟩:=h.2 b blk e;refine ⟨blk2,e2,?_⟩;cases blk with
 |cells w cs=>
  obtain ⟨w2,cs2,rfl,l2,c2⟩:=h2;refine ⟨w2,cs2,rfl,l2,λj p p1 q q1 hn=>?_⟩;rcases (c2 j p1 q1).2 with ⟨c,a,_,_,hm⟩ | ⟨h3,_⟩
  ·exact absurd hm (hn c)
  ·rw[q] at h3;simp only[yAa] at h3;exact h3.symm
 |row i l lv cv=>
  obtain ⟨l2,lv2,cv2,rfl,h3⟩:=h2;refine ⟨l2,lv2,cv2,rfl,λhn=>?_⟩;rcases h3 with ⟨_,i',hm⟩ | ⟨h3,h4,h5,_⟩
  ·exact absurd hm (hn i')
  ·exact ⟨h3,h4,h5⟩
 |mp j st l v=>
  obtain ⟨j2,st2,l2,v2,rfl,h3⟩:=h2;refine ⟨j2,st2,l2,v2,rfl,λhn=>?_⟩;rcases h3 with ⟨_,j',st',hm⟩ | ⟨h3,_⟩
  ·exact absurd hm (hn j' st')
  ·exact h3
end
end Go.Abs
end
section
namespace Go.Abs
noncomputable section
variable[Gl][Y:Ty]
theorem lkT_lkP(t:Nat):∀(al:TA),lkT t al=(lkP t al).map Prod.fst:=by
 intro al;induction al with
 |nil=>rfl
 |cons y al ih=>
  obtain ⟨s,x⟩:=y;simp only[lkT,lkP];split
  ·rfl
  ·exact ih
theorem lkT_some{t:Nat}{al:TA}{x:RV}(h:lkT t al=some x):∃p,lkP t al=some (x,p):=by rw[lkT_lkP,yAd] at h;obtain ⟨⟨y,p⟩,h1,rfl⟩:=h;exact ⟨p,h1⟩
theorem lkP_skip{t:Nat}{q:RV×Nat}:∀{pre al:TA},(∀y∈pre,y.1≠t)->lkP t al=some q->lkP t (pre++al)=some q:=by
 intro pre al;induction pre with
 |nil=>intro _ h;exact h
 |cons z pre ih=>
  intro hn h;obtain ⟨s,y⟩:=z;simp only[List.cons_append,lkP];have:Nat.beq s t=false:=by
   cases hb:Nat.beq s t with
   |false=>rfl
   |true=>exact absurd (yAi hb) (hn (s,y) (yAq ..))
  rw[this];exact ih (λy hy=>hn y (yAm _ hy)) h
theorem lkP_dom{t:Nat}{q:RV×Nat}:∀{pre al:TA},lkP t al=some q->∃q',lkP t (pre++al)=some q':=by
 intro pre al;induction pre with
 |nil=>intro h;exact ⟨q,h⟩
 |cons z pre ih=>
  intro h;obtain ⟨s,y⟩:=z;simp only[List.cons_append,lkP];split
  ·exact ⟨_,rfl⟩
  ·exact ih h
theorem putPs_lk{al1:TA}{U1:TH}{al:TA}{t:Nat}{v:RV}{p:Nat}:∀(ps:List Pl)(x:tupP ps),rdPs al1 U1 ps=some x->lkP t (putPs ps x al)=some (v,p) ->
  (∃c a,v=.v (c.tv a)/\rdP al1 U1 (.r t c)=some a)∨((∀c,Pl.r t c∉ps)/\lkP t al=some (v,p)):=by
 have one:∀(p0:Pl)(x:p0.dn)(al0:TA),rdP al1 U1 p0=some x->lkP t (putP p0 x al0)=some (v,p)->(∃c a,v=.v (c.tv a)/\rdP al1 U1 (.r t c)=some a)∨((∀c,Pl.r t c≠p0)/\lkP t al0=some (v,p)):=by
  intro p0 x al0 hx h;cases p0 with
  |r t0 c=>
   simp only[putP,lkP] at h;split at h
   ·rename_i hb;have:=yAi hb;subst this;simp only[yAa,yAc] at h;exact .inl ⟨c,x,h.1.symm,hx⟩
   ·rename_i hb;refine .inr ⟨λc' e=>?_,h⟩;simp only[Pl.r.injEq] at e;rw[e.1] at hb;simp at hb
  |w b i=>exact .inr ⟨λc e=>by simp at e,h⟩
  |h b j c=>exact .inr ⟨λc e=>by simp at e,h⟩
  |m b j st=>exact .inr ⟨λc e=>by simp at e,h⟩
 intro ps;induction ps with
 |nil=>intro x _ h;exact .inr ⟨λc hc=>by simp at hc,h⟩
 |cons p0 ps ih=>
  intro x hx h;cases ps with
  |nil=>
   rcases one p0 x al hx h with h | ⟨h1,h2⟩
   ·exact .inl h
   ·exact .inr ⟨λc hc=>by simp only[yAZ] at hc;exact h1 c hc,h2⟩
  |cons q ps=>
   simp only[rdPs] at hx;split at hx
   ·rename_i a b ha hb;simp only[yAa] at hx;subst hx;rcases one p0 a _ ha h with h | ⟨h1,h2⟩
    ·exact .inl h
    ·rcases ih b hb h2 with h | ⟨h3,h4⟩
     ·exact .inl h
     ·refine .inr ⟨λc hc=>?_,h4⟩;rcases yAu.1 hc with hc | hc
      ·exact h1 c hc
      ·exact h3 c hc
   ·simp at hx
theorem putPs_pre:∀(ps:List Pl)(x:tupP ps)(al:TA),∃pre,putPs ps x al=pre++al/\∀y∈pre,∃c,Pl.r y.1 c∈ps:=by
 have one:∀(p0:Pl)(x:p0.dn)(al:TA),∃pre,putP p0 x al=pre++al/\∀y∈pre,∃c,Pl.r y.1 c=p0:=by
  intro p0 x al;cases p0 with
  |r t c=>exact ⟨[(t,.v (c.tv x))],rfl,λy hy=>by simp only[yAZ] at hy;subst hy;exact ⟨c,rfl⟩⟩
  |w b i=>exact ⟨[],rfl,λy hy=>by simp at hy⟩
  |h b j c=>exact ⟨[],rfl,λy hy=>by simp at hy⟩
  |m b j st=>exact ⟨[],rfl,λy hy=>by simp at hy⟩
 intro ps;induction ps with
 |nil=>intro x al;exact ⟨[],rfl,λy hy=>by simp at hy⟩
 |cons p0 ps ih=>
  intro x al;cases ps with
  |nil=>obtain ⟨pre,h1,h2⟩:=one p0 x al;exact ⟨pre,h1,λy hy=>let ⟨c,e⟩:=h2 y hy;⟨c,by rw[e];exact yAq ..⟩⟩
  |cons q ps=>
   obtain ⟨pre,h1,h2⟩:=ih x.2 al;obtain ⟨pre',h3,h4⟩:=one p0 x.1 (putPs (q::ps) x.2 al);refine ⟨pre'++pre,by simp only[putPs];rw[h3,h1,yA3],λy hy=>?_⟩;rcases yAE.1 hy with hy | hy
   ·obtain ⟨c,e⟩:=h4 y hy;exact ⟨c,by rw[e];exact yAq ..⟩
   ·obtain ⟨c,e⟩:=h2 y hy;exact ⟨c,yAm _ e⟩
theorem putH_pre(U:TH):∀(hs:List (Nat×Nat))(al:TA),∃pre,putH U hs al=pre++al/\(∀y∈pre,∃b i l lv cv,(y.1,b)∈hs/\U[b]? = some (.row i l lv cv)/\y.2=.v (.c (.own i b lv l.length))) /\
  ∀t b i l lv cv,(t,b)∈hs->U[b]? = some (.row i l lv cv)->∃y∈pre,y.1=t:=by
 intro hs;induction hs with
 |nil=>intro al;exact ⟨[],rfl,λy hy=>by simp at hy,λt b i l lv cv h=>by simp at h⟩
 |cons h hs ih=>
  intro al;obtain ⟨t,b⟩:=h;obtain ⟨pre,h1,h2,h3⟩:=ih al;have h2':∀y∈pre,∃b' i l lv cv,(y.1,b')∈(t,b)::hs/\U[b']? = some (.row i l lv cv)/\y.2=.v (.c (.own i b' lv l.length)):=λy hy=>by obtain ⟨b',i,l,lv,cv,e1,e2⟩:=h2 y hy;exact ⟨b',i,l,lv,cv,yAm _ e1,e2⟩
  simp only[putH];split
  ·rename_i i l lv cv hb;refine ⟨(t,.v (.c (.own i b lv l.length)))::pre,by rw[h1];rfl,λy hy=>?_,λt' b' i' l' lv' cv' hm he=>?_⟩
   ·rcases yAu.1 hy with rfl | hy
    ·exact ⟨b,i,l,lv,cv,yAq ..,hb,rfl⟩
    ·exact h2' y hy
   ·rcases yAu.1 hm with hm | hm
    ·simp only[yAc] at hm;exact ⟨_,yAq ..,hm.1.symm⟩
    ·obtain ⟨y,hy,e⟩:=h3 t' b' i' l' lv' cv' hm he;exact ⟨y,yAm _ hy,e⟩
  ·rename_i hne;refine ⟨pre,h1,h2',λt' b' i' l' lv' cv' hm he=>?_⟩;rcases yAu.1 hm with hm | hm
   ·simp only[yAc] at hm;obtain ⟨rfl,rfl⟩:=hm;exact absurd he (hne _ _ _ _)
   ·exact h3 t' b' i' l' lv' cv' hm he
theorem lkP_mem{t:Nat}{x:RV}{p:Nat}:∀{pre al:TA},lkP t (pre++al)=some (x,p)->(t,x)∈pre∨((∀y∈pre,y.1≠t)/\lkP t al=some (x,p)):=by
 intro pre al;induction pre with
 |nil=>intro h;exact .inr ⟨λy hy=>by simp at hy,h⟩
 |cons z pre ih=>
  intro h;obtain ⟨s,y⟩:=z;simp only[List.cons_append,lkP] at h;split at h
  ·rename_i hb;have:=yAi hb;subst this;simp only[yAa,yAc] at h;obtain ⟨rfl,rfl⟩:=h;exact .inl (yAq ..)
  ·rename_i hb;rcases ih h with h | ⟨h1,h2⟩
   ·exact .inl (yAm _ h)
   ·refine .inr ⟨λy hy=>?_,h2⟩;rcases yAu.1 hy with rfl | hy
    ·intro e;subst e;simp at hb
    ·exact h1 y hy
theorem shade_pre(md:List Nat)(al:TA):∃pre,shade md al=pre++al/\(∀y∈pre,y.1∈md/\(lkT y.1 al).isSome/\y.2=.v (.c .any))/\∀t,t∈md->(lkT t al).isSome->∃y∈pre,y.1=t:=by
 refine ⟨_,rfl,λy hy=>?_,λt ht hs=>?_⟩
 ·rw[yA4] at hy;obtain ⟨t,ht,rfl⟩:=hy;rw[yBu] at ht;exact ⟨ht.1,ht.2,rfl⟩
 ·exact ⟨(t,.v (.c .any)),yA4.2 ⟨t,yBu.2 ⟨ht,hs⟩,rfl⟩,rfl⟩
theorem All2.of_get{α β:Type}{R:α->β->Prop}:∀{l:List α}{m:List β},l.length=m.length->(∀(j:Nat) a b,l[j]? = some a->m[j]? = some b->R a b)->All2 R l m:=by
 intro l;induction l with
 |nil=>intro m h _;cases m with | nil=>exact .nil | cons b m=>simp at h
 |cons a l ih=>
  intro m h hr;cases m with
  |nil=>simp at h
  |cons b m=>exact .cons (hr 0 a b rfl rfl) (ih (by simpa using h) λj x y h1 h2=>hr (j+1) x y h1 h2)
theorem ObW.refl_row{α:Type}{f:α->List C}{l:List α}{m:Nat}:ObW m (OB f l) (OB f l):=by refine ⟨_,rfl,All2.of_get rfl λj a b h1 h2=>?_⟩;rw[h1] at h2;simp only[yAa] at h2;subst h2;rw[yAl,yAd] at h1;obtain ⟨c,_,rfl⟩:=h1;exact DWk.low rfl
theorem mpE_low(j:Nat)(st:Bool)(a:TT j)(m:Nat):(mpE j st a).low m=true:=by
 unfold mpE;split
 ·exact lows_c _
 ·rfl
theorem mbE_low{α:Type}{g:α->D}{m:Nat}(h:∀a,(g a).low m=true):∀(l:List (Int×α))(i:Nat),((mbE g i l).all λe=>e.2.1.low m)=true:=by
 intro l;induction l with
 |nil=>intro i;rfl
 |cons x l ih=>intro i;obtain ⟨k,a⟩:=x;simp only[mbE,List.all_cons,h,ih,yBO]
theorem hsOk_at{al:TA}{U:TH}{hs:List (Nat×Nat)}(h:hsOk al U hs=true){t b:Nat}(hm:(t,b)∈hs):∃i v q j l lv cv,lkT t al=some (.v (.c (.own i b v q)))/\U[b]? = some (.row j l lv cv)/\v=lv/\i=j:=by
 simp only[hsOk,yAp] at h;have:=h (t,b) hm;dsimp only at this;split at this
 ·rename_i i b' v q j l lv cv h1 h2;simp only[yAj] at this;have e1:=yAi this.1;have e2:=yAi this.2.1;have e3:=yAi this.2.2;subst e1;exact ⟨i,v,q,j,l,lv,cv,h1,h2,e2,e3⟩
 ·simp at this
theorem HS.mono{pl pl':List Pl}{U U1:TH}(hp:∀p∈pl,p∈pl')(h:HS pl U U1):HS pl' U U1:=λb blk e=>by
 obtain ⟨blk1,e1,s⟩:=h b blk e;refine ⟨blk1,e1,?_⟩;cases blk with
 |cells w cs=>obtain ⟨w1,cs1,e,l,c⟩:=s;exact ⟨w1,cs1,e,l,λj p p1 x y hn=>c j p p1 x y λq hq=>hn q (hp _ hq)⟩
 |row i l lv cv=>obtain ⟨l1,lv1,cv1,e,c⟩:=s;exact ⟨l1,lv1,cv1,e,λhn=>c λq hq=>hn q (hp _ hq)⟩
 |mp j st l v=>obtain ⟨j1,st1,l1,v1,e,c⟩:=s;exact ⟨j1,st1,l1,v1,e,λhn=>c λq st hq=>hn q st (hp _ hq)⟩
theorem PQ.hs'{al1:TA}{U1 U U2:TH}{ps pl:List Pl}(h:PQ al1 U1 ps U U2)(hp:∀p∈ps,p∈pl):HS pl U U2:=λb blk e=>by
 obtain ⟨blk2,e2,h1,h2⟩:=h.2 b blk e;refine ⟨blk2,e2,?_⟩;cases blk with
 |cells w cs=>
  obtain ⟨w2,cs2,rfl,l2,c2⟩:=h2;refine ⟨w2,cs2,rfl,l2,λj p p1 q q1 hn=>?_⟩;rcases (c2 j p1 q1).2 with ⟨c,a,_,_,hm⟩ | ⟨h3,_⟩
  ·exact absurd (hp _ hm) (hn c)
  ·rw[q] at h3;simp only[yAa] at h3;exact h3.symm
 |row i l lv cv=>
  obtain ⟨l2,lv2,cv2,rfl,h3⟩:=h2;refine ⟨l2,lv2,cv2,rfl,λhn=>?_⟩;rcases h3 with ⟨_,i',hm⟩ | ⟨h4,h5,h6,_⟩
  ·exact absurd (hp _ hm) (hn i')
  ·exact ⟨h4,h5,h6⟩
 |mp j st l v=>
  obtain ⟨j2,st2,l2,v2,rfl,h3⟩:=h2;refine ⟨j2,st2,l2,v2,rfl,λhn=>?_⟩;rcases h3 with ⟨_,j',st',hm⟩ | ⟨h4,_⟩
  ·exact absurd (hp _ hm) (hn j' st')
  ·exact h4
structure ZOk (zs:List (Nat×Nat×Nat)) (U U':TH):Prop where
 len:U'.length=U.length
 row:∀(b:Nat) i (l:List (TT i)) lv cv,U[b]? = some (.row i l lv cv)↔U'[b]? = some (.row i l lv cv)
 mp:∀(b:Nat) j st (l:List (Int×TT j)) v,U[b]? = some (.mp j st l v)->U'[b]? = some (.mp j st l v)
 cells:∀(b:Nat) w cs,U[b]? = some (.cells w cs)->∃w' cs',U'[b]? = some (.cells w' cs')/\w<=w'/\cs'.length=cs.length/\∀(j:Nat) p',cs'[j]? = some p' ->
  (cs[j]? = some p'/\∀r,(b,j,r)∈zs->∀i l lv cv,U[r]?≠some (.row i l lv cv))∨(∃r i l lv cv,(b,j,r)∈zs/\U[r]? = some (.row i l lv cv)/\p'.2=.own i r lv l.length/\w<p'.1/\p'.1<=w')
theorem putZs_ok:∀(zs:List (Nat×Nat×Nat))(U:TH),ZOk zs U (putZs zs U):=by
 intro zs;induction zs with
 |nil=>intro U;exact ⟨rfl,λb i l lv cv=>Iff.rfl,λb j st l v h=>h,λb w cs h=>⟨w,cs,h,yAo _,rfl,λj p' hp=>.inl ⟨hp,λr hr=>by simp at hr⟩⟩⟩
 |cons z zs ih=>
  intro U;obtain ⟨b0,j0,r0⟩:=z;simp only[putZs];split
  ·rename_i w0 cs0 i0 l0 lv0 cv0 hb hr;have Z:=ih (U.set b0 (.cells (w0+1) (cs0.set j0 (w0+1,.own i0 r0 lv0 l0.length))));have rows:∀(b:Nat) i (l:List (TT i)) lv cv,U[b]? = some (.row i l lv cv)↔(U.set b0 (.cells (w0+1) (cs0.set j0 (w0+1,.own i0 r0 lv0 l0.length))))[b]? = some (.row i l lv cv):=λb i l lv cv=>by
    by_cases e:b=b0
    ·subst e;rw[hb,zaU hb];simp
    ·rw[zay e]
   refine ⟨by rw[Z.len,yAI],λb i l lv cv=>(rows b i l lv cv).trans (Z.row b i l lv cv),λb j st l v h=>Z.mp b j st l v ?_,λb w cs h=>?_⟩
   ·by_cases e:b=b0
    ·subst e;rw[hb] at h;simp at h
    ·rw[zay e];exact h
   ·by_cases e:b=b0
    ·subst e;rw[hb] at h;simp only[yAa,TB.cells.injEq] at h;obtain ⟨rfl,rfl⟩:=h;obtain ⟨w',cs',h1,h2,h3,h4⟩:=Z.cells b _ _ (zaU hb);refine ⟨w',cs',h1,by omega,by rw[h3];simp,λj p' hp=>?_⟩;rcases h4 j p' hp with ⟨h5,h6⟩ | ⟨r,i,l,lv,cv,h5,h6,h7,h8,h9⟩
     ·by_cases ej:j=j0
      ·subst ej;rw[yAK] at h5;rw[if_pos rfl] at h5;split at h5
       ·simp only[yAa] at h5;subst h5;exact .inr ⟨r0,i0,l0,lv0,cv0,yAq ..,hr,rfl,by omega,by omega⟩
       ·simp at h5
      ·rw[yAD (λe=>ej e.symm)] at h5;refine .inl ⟨h5,λr hr' i l lv cv e=>?_⟩;rcases yAu.1 hr' with e2 | hr'
       ·simp only[yAc] at e2;exact ej e2.2.1
       ·exact h6 r hr' i l lv cv ((rows r i l lv cv).1 e)
     ·exact .inr ⟨r,i,l,lv,cv,yAm _ h5,(rows r i l lv cv).2 h6,h7,by omega,h9⟩
    ·obtain ⟨w',cs',h1,h2,h3,h4⟩:=Z.cells b w cs (by rw[zay e];exact h);refine ⟨w',cs',h1,h2,h3,λj p' hp=>?_⟩;rcases h4 j p' hp with ⟨h5,h6⟩ | ⟨r,i,l,lv,cv,h5,h6,h7,h8⟩
     ·refine .inl ⟨h5,λr hr' i l lv cv e'=>?_⟩;rcases yAu.1 hr' with e2 | hr'
      ·simp only[yAc] at e2;exact e e2.1
      ·exact h6 r hr' i l lv cv ((rows r i l lv cv).1 e')
     ·exact .inr ⟨r,i,l,lv,cv,yAm _ h5,(rows r i l lv cv).2 h6,h7,h8⟩
  ·rename_i hne;have Z:=ih U;refine ⟨Z.len,Z.row,Z.mp,λb w cs h=>?_⟩;obtain ⟨w',cs',h1,h2,h3,h4⟩:=Z.cells b w cs h;refine ⟨w',cs',h1,h2,h3,λj p' hp=>?_⟩;rcases h4 j p' hp with ⟨h5,h6⟩ | ⟨r,i,l,lv,cv,h5,h6,h7,h8⟩
   ·refine .inl ⟨h5,λr hr' i l lv cv e'=>?_⟩;rcases yAu.1 hr' with e2 | hr'
    ·simp only[yAc] at e2;obtain ⟨rfl,rfl,rfl⟩:=e2;exact hne _ _ _ _ _ _ h e'
    ·exact h6 r hr' i l lv cv e'
   ·exact .inr ⟨r,i,l,lv,cv,yAm _ h5,h6,h7,h8⟩
theorem ZOk.ext{zs:List (Nat×Nat×Nat)}{U U':TH}(Z:ZOk zs U U'):Ext U U':=λb blk h=>by
 cases blk with
 |cells w cs=>
  obtain ⟨w',cs',h1,h2,h3,h4⟩:=Z.cells b w cs h;refine ⟨_,h1,w',cs',rfl,h2,h3,λj v x v1 x1 e e1=>?_⟩;rcases h4 j _ e1 with ⟨h5,_⟩ | ⟨_,_,_,_,_,_,_,_,h6,_⟩
  ·rw[e] at h5;simp only[yAa,yAc] at h5;exact .inl ⟨h5.1.symm,h5.2.symm⟩
  ·exact .inr h6
 |row i l lv cv=>exact ⟨_,(Z.row b i l lv cv).1 h,BE.refl _⟩
 |mp j st l v=>exact ⟨_,Z.mp b j st l v h,BE.refl _⟩
theorem zpl_mem{zs:List (Nat×Nat×Nat)}{b j r:Nat}(h:(b,j,r)∈zs):Pl.h b j .bool∈zpl zs:=yA4.2 ⟨_,h,rfl⟩
theorem ZOk.hs{zs:List (Nat×Nat×Nat)}{U U':TH}(Z:ZOk zs U U'):HS (zpl zs) U U':=λb blk h=>by
 cases blk with
 |cells w cs=>
  obtain ⟨w',cs',h1,h2,h3,h4⟩:=Z.cells b w cs h;refine ⟨_,h1,w',cs',rfl,h3,λj p p1 e e1 hn=>?_⟩;rcases h4 j _ e1 with ⟨h5,_⟩ | ⟨r,_,_,_,_,hm,_⟩
  ·rw[e] at h5;simp only[yAa] at h5;exact h5.symm
  ·exact absurd (zpl_mem hm) (hn _)
 |row i l lv cv=>exact ⟨_,(Z.row b i l lv cv).1 h,_,_,_,rfl,λ_=>⟨rfl,rfl,rfl⟩⟩
 |mp j st l v=>exact ⟨_,Z.mp b j st l v h,_,_,_,_,rfl,λ_=>rfl⟩
theorem zsOk_at{n:Nat}{U:TH}{zs:List (Nat×Nat×Nat)}(h:zsOk n U zs=true){b j r:Nat}(hm:(b,j,r)∈zs):b<n/\r<n/\∃w cs i l lv cv q v0,U[b]? = some (.cells w cs)/\U[r]? = some (.row i l lv cv)/\cs[j]? = some (v0,.own i r lv q):=by
 simp only[zsOk,yAp] at h;have:=h (b,j,r) hm;simp only[yAj] at this;obtain ⟨h1,h2,h3⟩:=this;refine ⟨yAQ.mp h1,yAQ.mp h2,?_⟩;split at h3
 ·rename_i w cs i l lv cv e1 e2;split at h3
  ·rename_i v0 i' r' v q e3;simp only[yAj] at h3;have a1:=yAi h3.1;have a2:=yAi h3.2.1;have a3:=yAi h3.2.2;subst a1 a2 a3;exact ⟨w,cs,i',l,v,cv,q,v0,e1,e2,e3⟩
  ·simp at h3
 ·simp at h3
theorem join_ok{h:JH}{md:List Nat}{al al1:TA}{U U1:TH}{alD alD1:AL}{σD σD1:Heap}{x:tupP h.pl}(R0:Ref al U alD σD)(R1:Ref al1 U1 alD1 σD1)
  (hdom:∀t q,lkP t al=some q->∃q',lkP t al1=some q')
  (hk:∀t q,t∉md->(∀c,Pl.r t c∉h.pl)->(∀b,(t,b)∈h.hs->∀i l lv cv,U[b]?≠some (.row i l lv cv))->lkP t al=some q->lkP t al1=some q)
  (hs:HS (h.pl++zpl h.zs) U U1) (hh:hsOk al1 U1 h.hs=true) (hz:zsOk U.length U1 h.zs=true) (hx:rdPs al1 U1 h.pl=some x) :
  Ext U (putZ h md al U x)/\HS (h.pl++zpl h.zs) U (putZ h md al U x)/\(putZ h md al U x).length=U.length/\∃alD2 σD2,StW U.length alD1 σD1 alD2 σD2/\Ref (putX h md al U x) (putZ h md al U x) alD2 σD2:=by
 have PQ0:=PQ.all R0.hh hs h.pl x hx;have Z:=putZs_ok h.zs (putQs h.pl x U);have ext:Ext U (putZ h md al U x):=Ext.trans R0.hh PQ0.ext Z.ext;have len:(putZ h md al U x).length=U.length:=Z.len.trans PQ0.1;refine ⟨ext,(PQ0.hs' λp hp=>yBH _ hp).trans (Z.hs.mono λp hp=>List.mem_append_right _ hp),len,?_⟩;have both:∀(b i i1 lv cv lv1 cv1:Nat)(l:List (TT i))(l1:List (TT i1)),(putQs h.pl x U)[b]? = some (.row i l lv cv)->U1[b]? = some (.row i1 l1 lv1 cv1)->i1=i/\l.length=l1.length:=by
  intro b i i1 lv cv lv1 cv1 l l1 m2 n2;have hlt:b<U.length:=by rw[<-PQ0.1];exact (yAb.1 m2).1
  obtain ⟨blk0,e0⟩:∃blk0,U[b]? = some blk0:=⟨_,yAg hlt⟩;obtain ⟨blk2,e2,be,pb⟩:=PQ0.2 b blk0 e0;rw[m2] at e2;simp only[yAa] at e2;subst e2;obtain ⟨blk1,e1,sb⟩:=hs b blk0 e0;rw[n2] at e1;simp only[yAa] at e1;subst e1;cases blk0 with
  |cells w cs=>obtain ⟨_,_,e,_⟩:=sb;simp at e
  |mp q st l v=>obtain ⟨_,_,_,_,e,_⟩:=sb;simp at e
  |row i0 l0 lv0 cv0=>
   obtain ⟨l5,lv5,cv5,e5,sb⟩:=sb;simp only[TB.row.injEq] at e5;obtain ⟨rfl,e6,rfl,rfl⟩:=e5;cases e6;obtain ⟨l6,lv6,cv6,e7,pb⟩:=pb;simp only[TB.row.injEq] at e7;obtain ⟨rfl,e8,rfl,rfl⟩:=e7;cases e8;refine ⟨rfl,?_⟩;rcases pb with ⟨⟨lv7,cv7,e9⟩,_⟩ | ⟨rfl,_,_,hn⟩
   ·rw[n2] at e9;simp only[yAa,TB.row.injEq,heq_eq_eq,yCx] at e9;rw[e9.1]
   ·by_cases hn':notW (h.pl++zpl h.zs) b
    ·rw[(sb hn').1]
    ·exact absurd (λi hi=>by
      rcases yAE.1 hi with hi | hi
      ·exact hn i hi
      ·simp[zpl] at hi) hn'
 obtain ⟨preS,es,hS1,hS2⟩:=shade_pre md al;obtain ⟨preH,eh,hH1,hH2⟩:=putH_pre (putQs h.pl x U) h.hs (shade md al);obtain ⟨preP,ep,hP1⟩:=putPs_pre h.pl x (putH (putQs h.pl x U) h.hs (shade md al));have eall:putX h md al U x=(preP++(preH++preS))++al:=by unfold putX;rw[ep,eh,es,yA3,yA3]
 have extW:Ext U (putQs h.pl x U):=PQ0.ext;have hle:(putZ h md al U x).length<=σD1.length:=by
  rw[len,R1.hh.len];rcases yAB U1.length U.length with hlt | hge
  ·obtain ⟨blk1,e,_⟩:=hs U1.length _ (yAg hlt);rw[yAG (yAo _)] at e;simp at e
  ·exact hge
 have gw:∀{v:TV},GV (putZ h md al U x) v->GW (putX h md al U x) (putZ h md al U x) (.v v):=λg=>g;rw[<-len];refine stw_of hle (λt v p ht=>?_) (λb blk2 hb2=>?_) (λb w2 cs2 hb2 q hq=>?_)
 ·
  rcases putPs_lk h.pl x hx ht with ⟨c,a,rfl,hr⟩ | ⟨hnp,ht⟩
  ·simp only[rdP] at hr;split at hr
   ·rename_i v1 h1;obtain ⟨p1,h2⟩:=lkT_some h1;obtain ⟨d1,h3,h4,_⟩:=R1.rg t _ p1 h2;exact ⟨tv_good c a,d1,c.enc a,h3,rdV_wk hr h4,c.tv_ok a⟩
   ·simp at hr
  ·rw[eh] at ht;rcases lkP_mem ht with hm | ⟨hnh,ht⟩
   ·obtain ⟨b,i,l,lv,cv,m1,m2,m3⟩:=hH1 _ hm;dsimp only at m1 m3;subst m3;obtain ⟨i1,v1,q1,j1,l1,lv1,cv1,n1,n2,n3,n4⟩:=hsOk_at hh m1;subst n3;obtain ⟨p1,n5⟩:=lkT_some n1;obtain ⟨d1,n6,n7,n8⟩:=R1.rg t _ p1 n5;obtain ⟨rfl,rfl⟩:=own_row R1.hh n8 n2 (by simp);clear n4;have m2q:=(Z.row b _ _ _ _).1 m2;have hlt:b<U.length:=by rw[<-PQ0.1];exact (yAb.1 m2).1
    obtain ⟨blk0,e0⟩:∃blk0,U[b]? = some blk0:=⟨_,yAg hlt⟩;obtain ⟨blk2,e2,be,pb⟩:=PQ0.2 b blk0 e0;rw[m2] at e2;simp only[yAa] at e2;subst e2;obtain ⟨blk1,e1,sb⟩:=hs b blk0 e0;rw[n2] at e1;simp only[yAa] at e1;subst e1;cases blk0 with
    |cells w cs=>obtain ⟨_,_,e,_⟩:=sb;simp at e
    |mp q st l v=>obtain ⟨_,_,_,_,e,_⟩:=sb;simp at e
    |row i0 l0 lv0 cv0=>
     obtain ⟨l5,lv5,cv5,e5,sb⟩:=sb;simp only[TB.row.injEq] at e5;obtain ⟨rfl,e6,rfl,rfl⟩:=e5;cases e6;obtain ⟨l6,lv6,cv6,e7,pb⟩:=pb;simp only[TB.row.injEq] at e7;obtain ⟨rfl,e8,rfl,rfl⟩:=e7;cases e8;have hll:l=l1:=by
      rcases pb with ⟨⟨lv7,cv7,e9⟩,_⟩ | ⟨rfl,_,_,hn⟩
      ·rw[n2] at e9;simp only[yAa,TB.row.injEq,heq_eq_eq,yCx] at e9;exact e9.1.symm
      ·exact (sb λi hi=>by
        rcases yAE.1 hi with hi | hi
        ·exact hn i hi
        ·simp[zpl] at hi).1.symm
     subst hll;refine ⟨⟨_,m2q,λj l' lv' cv' e=>?_⟩,d1,d1,n6,?_,?_⟩
     ·simp only[TB.row.injEq] at e;obtain ⟨rfl,e9,rfl,rfl⟩:=e;cases e9;exact ⟨yAo _,λ_=>⟨rfl,rfl⟩⟩
     ·rw[RT.c1 (by simp) n7];refine DWk.low ?_;simp only[TC.er,D.low,yAf];rw[len];exact hlt
     ·have:=RT.c1 (by simp) n7;rw[this];exact Or.inr rfl
   ·rw[es] at ht;rcases lkP_mem ht with hm | ⟨hns,ht⟩
    ·obtain ⟨m1,m2,m3⟩:=hS1 _ hm;dsimp only at m1 m2 m3;subst m3;rw[yAX] at m2;obtain ⟨y,hy⟩:=m2;obtain ⟨p1,n1⟩:=lkT_some hy;obtain ⟨⟨y',p'⟩,n2⟩:=hdom t _ n1;obtain ⟨d1,n3,_⟩:=R1.rg t y' p' n2;exact ⟨True.intro,d1,.any,n3,DWk.any _ _,Or.inl rfl⟩
    ·have hmd:t∉md:=λhm=>by
      obtain ⟨y,hy,e⟩:=hS2 t hm (by rw[lkT_lkP,ht];rfl);exact hns y hy e
     have hnh':∀b,(t,b)∈h.hs->∀i l lv cv,U[b]?≠some (.row i l lv cv):=by intro b hb i l lv cv e;obtain ⟨blk2,e2,be,_⟩:=PQ0.2 b _ e;obtain ⟨l2,lv2,cv2,rfl,_⟩:=be;obtain ⟨y,hy,e4⟩:=hH2 t b _ _ _ _ hb e2;exact hnh y hy e4
     have h1:=hk t _ hmd hnp hnh' ht;obtain ⟨d1,n3,n4,_⟩:=R1.rg t v p h1;obtain ⟨_,_,_,n5⟩:=R0.rg t v p ht;obtain ⟨d2,n6,n7⟩:=RR_wk n4 n5;refine ⟨?_,d1,d2,n3,by rw[len];exact n6,n7⟩;rw[eall];exact n5.mono ext _
 ·
  have hlt:b<U.length:=by rw[<-len];exact (yAb.1 hb2).1
  obtain ⟨blk0,e0⟩:∃blk0,U[b]? = some blk0:=⟨_,yAg hlt⟩;obtain ⟨blk2',e2,be,pb⟩:=PQ0.2 b blk0 e0;obtain ⟨blk1,e1,sb⟩:=hs b blk0 e0;obtain ⟨ob1,o1,o2⟩:=R1.hh.hp b blk1 e1;refine ⟨ob1,?_⟩;cases blk0 with
  |cells w cs=>
   obtain ⟨w1,cs1,rfl,l1,c1⟩:=sb;obtain ⟨w2q,cs2q,rfl,l2q,c2q⟩:=pb;obtain ⟨w2,cs2,ez,_,l2z,c2z⟩:=Z.cells b _ _ e2;have:blk2=.cells w2 cs2:=by have e3:(putZ h md al U x)[b]? = some (.cells w2 cs2):=ez;rw[hb2] at e3;simp only[yAa] at e3;exact e3
   subst this;have l2:cs2.length=cs.length:=l2z.trans l2q;obtain ⟨ds1,o3,a1,_,_⟩:=R1.hh.cells e1;rw[o1] at o3;simp only[yAa] at o3;subst o3;have a1':All2 (λ(p:Nat×TC) d=>RC p.2 d) cs1 ds1:=by cases o2;refine All2.of_get (by simp) λj p d h1 h2=>?_;rw[yAl,h1] at h2;simp only[Option.map_some,yAa] at h2;exact .inr h2.symm
   clear o2 a1;have a1:=a1';have hl:ds1.length=cs2.length:=by rw[<-a1.len,l1,l2]
   obtain ⟨es,he1,he2⟩:=exists_list (p:=λj e=>∃p2 d1,cs2[j]? = some p2/\ds1[j]? = some d1/\DWk (putZ h md al U x).length d1 e/\e=p2.2.er) cs2.length λj hj=>by
    have q2:=yAg hj;have q1:cs1[j]? = some _:=yAg (by rw[l1,<-l2];exact hj);obtain ⟨d1,q3,q4⟩:=a1.get j _ q1;rcases c2z j _ q2 with ⟨z1,z2⟩ | ⟨r,i,l,lv,cv,z1,z2,z3,_⟩
    rotate_left
    ·obtain ⟨_,_,w9,cs9,i9,l9,lv9,cv9,q9,v9,y1,y2,y3⟩:=zsOk_at hz z1;rw[e1] at y1;simp only[yAa,TB.cells.injEq] at y1;obtain ⟨_,rfl⟩:=y1;rw[q1] at y3;simp only[yAa] at y3;have g9:=(R1.hh.hg b w1 cs1 e1 _ (yAy q1)).1;rw[y3] at q4 g9;obtain ⟨t1,t2⟩:=both r i i9 _ _ _ _ _ _ z2 y2;subst t1;obtain ⟨_,t3⟩:=own_row R1.hh g9 y2 (by simp);have q4':d1=OS (esz i9) r q9:=RT.c1 (x:=.own i9 r lv9 q9) (by simp) q4;have hr:r<U.length:=by rw[<-PQ0.1];exact (yAb.1 z2).1
     refine ⟨d1,_,d1,q2,q3,?_,?_⟩
     ·rw[q4'];refine DWk.low ?_;simp only[OS,D.low,yAf];rw[len];exact hr
     ·rw[q4',z3,t3,<-t2];rfl
    obtain ⟨_,q5⟩:=c2q j _ z1;rcases q5 with ⟨c,a,q5,q6,_⟩ | ⟨q5,q6⟩
    ·simp only[rdP,e1,q1] at q6;exact ⟨.c (encC enc c a),_,d1,q2,q3,rdC_wk q6 q4,by rw[q5];exact (expC_er c a).symm⟩
    ·have:=c1 j _ _ q5 q1 λc hc=>by
      rcases yAE.1 hc with hc | hc
      ·exact q6 c hc
      ·simp only[zpl,yA4] at hc;obtain ⟨⟨b9,j9,r9⟩,hm,e9⟩:=hc;simp only[Pl.h.injEq] at e9;obtain ⟨rfl,rfl,_⟩:=e9;obtain ⟨_,hr,w9,cs9,i9,l9,lv9,cv9,q9,v9,y1,y2,y3⟩:=zsOk_at hz hm;obtain ⟨blk9,y4⟩:∃blk,U[r9]? = some blk:=⟨_,yAg hr⟩;obtain ⟨blk1',y5,sb'⟩:=hs r9 _ y4;rw[y2] at y5;simp only[yAa] at y5;subst y5;cases blk9 with
       |cells w cs=>obtain ⟨_,_,e,_⟩:=sb';simp at e
       |mp q st l v=>obtain ⟨_,_,_,_,e,_⟩:=sb';simp at e
       |row i8 l8 lv8 cv8=>obtain ⟨blk2'',y6,be',_⟩:=PQ0.2 r9 _ y4;obtain ⟨l7,lv7,cv7,rfl,_⟩:=be';exact z2 r9 hm _ _ _ _ y6
     rw[this] at q4;exact ⟨_,_,d1,q2,q3,by rw[len];exact RC_wk0 q4 (R0.hh.hg b w cs e0 _ (yAy q5)).1,rfl⟩
   refine ⟨.cells es,o1,⟨es,rfl,All2.of_get (by rw[hl,he1]) λj d e h1 h2=>?_⟩,?_⟩
   ·obtain ⟨p2,d1,_,r2,r3,_⟩:=he2 j e h2;rw[h1] at r2;simp only[yAa] at r2;subst r2;exact r3
   ·unfold RB TB.er;congr 1;apply yAM;intro j;rw[yAl];cases h2:es[j]? with
    |none=>rw[yAG (by have:=yCg.1 h2;omega)];rfl
    |some e=>obtain ⟨p2',d1,r1,_,_,r4⟩:=he2 j e h2;rw[r1,r4];rfl
  |row i l lv cv=>
   obtain ⟨l1,lv1,cv1,rfl,sb⟩:=sb;obtain ⟨l2,lv2,cv2,rfl,pb⟩:=pb;have:blk2=.row i l2 lv2 cv2:=by have e3:(putZ h md al U x)[b]? = some (.row i l2 lv2 cv2):=(Z.row b _ _ _ _).1 e2;rw[hb2] at e3;simp only[yAa] at e3;exact e3
   subst this;have hll:l2=l1:=by
    rcases pb with ⟨⟨lv7,cv7,e9⟩,_⟩ | ⟨rfl,_,_,hn⟩
    ·rw[e1] at e9;simp only[yAa,TB.row.injEq,heq_eq_eq,yCx] at e9;exact e9.1.symm
    ·exact (sb λi hi=>by
      rcases yAE.1 hi with hi | hi
      ·exact hn i hi
      ·simp[zpl] at hi).1.symm
   subst hll;cases o2;exact ⟨_,o1,ObW.refl_row,rfl⟩
  |mp j st l v=>
   obtain ⟨j1,st1,l1,v1,rfl,sb⟩:=sb;obtain ⟨j2,st2,l2,v2,rfl,pb⟩:=pb;have:blk2=.mp j2 st2 l2 v2:=by have e3:(putZ h md al U x)[b]? = some (.mp j2 st2 l2 v2):=Z.mp b _ _ _ _ e2;rw[hb2] at e3;simp only[yAa] at e3;exact e3
   subst this;have heq:j2=j1/\st2=st1/\HEq l2 l1:=by
    rcases pb with ⟨⟨v7,e9⟩,_⟩ | ⟨e9,hn⟩
    ·rw[e1] at e9;simp only[yAa,TB.mp.injEq] at e9;exact ⟨e9.1.symm,e9.2.1.symm,e9.2.2.1.symm⟩
    ·have e10:=sb λj st hi=>by
      rcases yAE.1 hi with hi | hi
      ·exact hn j st hi
      ·simp[zpl] at hi
     rw[<-e9] at e10;simp only[TB.mp.injEq] at e10;exact ⟨e10.1.symm,e10.2.1.symm,e10.2.2.1.symm⟩
   obtain ⟨rfl,rfl,hl⟩:=heq;cases hl;cases o2;exact ⟨_,o1,⟨rfl,mbE_low (λa=>mpE_low _ _ _ _) _ _⟩,rfl⟩
 ·
  have hlt:b<U.length:=by rw[<-len];exact (yAb.1 hb2).1
  obtain ⟨blk0,e0⟩:∃blk0,U[b]? = some blk0:=⟨_,yAg hlt⟩;obtain ⟨blk2',e2,be,pb⟩:=PQ0.2 b blk0 e0;cases blk0 with
  |cells w cs=>
   obtain ⟨w3,cs3,rfl,l2,c2⟩:=pb;obtain ⟨w4,cs4,ez,hw,l2z,c2z⟩:=Z.cells b _ _ e2;have e3:(putZ h md al U x)[b]? = some (.cells w4 cs4):=ez;rw[hb2] at e3;simp only[yAa,TB.cells.injEq] at e3;obtain ⟨rfl,rfl⟩:=e3;obtain ⟨j,hj⟩:=yBt hq;rcases c2z j q hj with ⟨z1,_⟩ | ⟨r,i,l,lv,cv,_,z2,z3,_,z4⟩
   ·obtain ⟨r1,r2⟩:=c2 j q z1;refine ⟨?_,yAA r1 hw⟩;rcases r2 with ⟨c,a,r2,_⟩ | ⟨r2,_⟩
    ·rw[r2];exact expC_good c a
    ·exact (R0.hh.hg b w cs e0 q (yAy r2)).1.mono ext
   ·refine ⟨?_,z4⟩;rw[z3];refine ⟨_,(Z.row r _ _ _ _).1 z2,λj l' lv' cv' e=>?_⟩;simp only[TB.row.injEq] at e;obtain ⟨rfl,e9,rfl,rfl⟩:=e;cases e9;exact ⟨yAo _,λ_=>⟨rfl,rfl⟩⟩
  |row i l lv cv=>obtain ⟨_,_,_,rfl,_⟩:=pb;have e3:=(Z.row b _ _ _ _).1 e2;have e4:(putZ h md al U x)[b]? = _:=e3;rw[hb2] at e4;simp at e4
  |mp j st l v=>obtain ⟨_,_,_,_,rfl,_⟩:=pb;have e4:(putZ h md al U x)[b]? = _:=Z.mp b _ _ _ _ e2;rw[hb2] at e4;simp at e4
end
end Go.Abs
end
section
namespace Go.Abs
noncomputable section
variable[Gl][Y:Ty]
theorem frzA_app(m:Nat)(U:TH)(al:TA):∀(pre:TA),frzA m U pre.length (pre++al)=pre.map (λp=>(p.1,frzV m U p.2))++al:=by
 intro pre;induction pre with
 |nil=>cases al <;> rfl
 |cons x pre ih=>obtain ⟨t,v⟩:=x;simp only[List.length_cons,List.cons_append,frzA,ih,yAw]
theorem lkP_frz{m:Nat}{U:TH}{al:TA}{t:Nat}{x:RV}{p:Nat}:∀{pre:TA},lkP t (pre.map (λp=>(p.1,frzV m U p.2))++al)=some (x,p) ->
  (∃x0,lkP t (pre++al)=some (x0,p)/\x=frzV m U x0)∨(lkP t (pre++al)=some (x,p)/\lkP t al=some (x,p)):=by
 intro pre;induction pre with
 |nil=>intro h;exact .inr ⟨h,h⟩
 |cons y pre ih=>
  intro h;obtain ⟨s,y⟩:=y;simp only[yAw,List.cons_append,lkP] at h ⊢;split at h
  ·rename_i hb;simp only[yAa,yAc] at h;obtain ⟨rfl,rfl⟩:=h
   try rw[hb]
   exact .inl ⟨y,by simp,rfl⟩
  ·rename_i hb
   try rw[hb]
   exact ih h
theorem mp_low0{j:Nat}{st:Bool}(l:List (Int×TT j)):((mbE (mpE j st) 0 l).all λe=>e.2.1.low 0)=true:=mbE_low (λa=>mpE_low _ _ _ _) _ _
variable{m:Nat}{U1:TH}{σD1:Heap}
theorem er_low{x:TC}(h:okC m x=true)(hx:x≠.any):x.er.low m=true:=by
 cases x with
 |any=>exact absurd rfl hx
 |d x=>exact h
 |own i b v n=>simpa[okC,TC.er,OS,D.low] using h
 |op i b v n k a o=>simpa[okC,TC.er,D.low] using h
 |ap b off len sz k=>simpa[okC,TC.er,D.low] using h
 |os i b v n lo len=>simpa[okC,TC.er,D.low] using h
 |fna g xs=>exact fna_low h
 |_=>rfl
def frF(m:Nat)(σD1:Heap)(b:Nat):Prop:=m<=b/\∃(i:Nat)(l:List (TT i)),σD1[b]? = some (OB (enc i) l)
theorem take_rn(H:RH U1 σD1)(hm:m<=U1.length)(hok:(U1.take m).all (okB m)=true):RnH m σD1 (σD1.take m) id (frF m σD1):=by
 have hl:(σD1.take m).length=m:=by rw[yA6,H.len];omega
 have get:∀i,i<m->∀ob,σD1[i]? = some ob->(σD1.take m)[i]? = some ob:=λi hi ob h=>by rw[yA7 hi];exact h
 have N:Rn m σD1 (σD1.take m) id (frF m σD1):=⟨by rw[hl];exact yAo _,λi _=>rfl,λi j _ _ e=>e,λi hi h=>by rw[hl] at hi;have:=h.1;simp only[id] at this;omega,λb h=>h.2,λi hi=>by rw[hl] at hi;have h1:σD1[i]? = some _:=yAg (by rw[H.len];omega);exact ⟨_,_,h1,get i hi _ h1,rfl⟩⟩
 refine ⟨N,λi hi=>?_⟩;rw[hl] at hi;have hi1:i<U1.length:=by omega
 obtain ⟨ob,h1,h2⟩:=H.hp i _ (yAg hi1);refine ⟨ob,ob,h1,get i hi _ h1,?_⟩;unfold RB at h2;subst h2;have hk:okB m U1[i]=true:=yAp.1 hok _ (yAy (i:=i) (by rw[yA7 hi,yAg hi1]));cases hb:U1[i] with
 |cells w cs=>
  rw[hb] at hk;refine ⟨_,rfl,All2.of_get rfl λj a b e1 e2=>?_⟩;rw[e1] at e2;simp only[yAa] at e2;subst e2;rw[yAl,yAd] at e1;obtain ⟨p,hp,rfl⟩:=e1;have:=yAp.1 hk p (yAy hp);by_cases ha:p.2=.any
  ·rw[ha];exact DWr.any _
  ·exact DWr.low N (er_low this ha)
 |row i l lv cv=>refine ⟨_,rfl,All2.of_get rfl λj a b e1 e2=>?_⟩;rw[e1] at e2;simp only[yAa] at e2;subst e2;rw[yAl,yAd] at e1;obtain ⟨c,_,rfl⟩:=e1;exact DWr.data N rfl
 |mp j st l v=>exact ⟨rfl,mp_low0 l⟩
theorem take_get{i:Nat}(hi:i<m){blk:TB}(h:U1[i]? = some blk):(U1.take m)[i]? = some blk:=by rw[yA7 hi];exact h
theorem frzT_ok(H:RH U1 σD1)(hm:m<=U1.length)(N:Rn m σD1 (σD1.take m) id (frF m σD1)){x:TC}{d:D}(hr:RC x d)(hg:GC U1 x) :
  ∃d',DWr σD1 (σD1.take m) id (frF m σD1) d d'/\RC (frzT m U1 x) d'/\GC (U1.take m) (frzT m U1 x):=by
 have hl:(U1.take m).length=m:=by rw[yA6];omega
 rcases hr with rfl | rfl
 ·exact ⟨.any,DWr.any _,.inl rfl,True.intro⟩
 have any:∃d',DWr σD1 (σD1.take m) id (frF m σD1) x.er d'/\RC .any d'/\GC (U1.take m) .any:=⟨.any,DWr.any _,.inl rfl,True.intro⟩;have bt:∀{b:Nat},Nat.blt b m=true->b<m:=λh=>yAQ.mp h;cases x with
 |any=>exact any
 |d x=>
  simp only[frzT];split
  ·rename_i h;exact ⟨x,DWr.low N h,.inr rfl,by show x.low _=true;rw[hl];exact h⟩
  ·exact any
 |b e=>exact ⟨_,DWr.data N rfl,.inr rfl,True.intro⟩
 |sl i l=>exact ⟨_,DWr.data N rfl,.inr rfl,True.intro⟩
 |fp i a o=>exact ⟨_,DWr.data N rfl,.inr rfl,True.intro⟩
 |fl n=>exact ⟨_,DWr.data N rfl,.inr rfl,True.intro⟩
 |cx a b=>exact ⟨_,DWr.data N rfl,.inr rfl,True.intro⟩
 |own i b v n=>
  simp only[frzT];obtain ⟨blk,g1,g2⟩:=hg;split
  ·rename_i h;exact ⟨_,DWr.low N (by simpa[TC.er,OS,D.low] using bt h),.inr rfl,blk,take_get (bt h) g1,g2⟩
  ·rename_i h;split
   ·rename_i j l lv cv hb;rw[g1] at hb;simp only[yAa] at hb;subst hb;split
    ·rename_i hv;have hv:=yAi hv;obtain ⟨rfl,rfl⟩:=(g2 _ _ _ _ rfl).2 hv.symm;obtain ⟨ob,h1,h2⟩:=H.hp b _ g1;unfold RB at h2;subst h2;have hF:frF m σD1 b:=⟨by
      rcases yAB b m with hlt | hge
      ·rw[yAQ.mpr hlt] at h;simp at h
      ·exact hge,_,_,h1⟩
     exact ⟨_,DWr.frz N hF h1,.inr rfl,True.intro⟩
    ·exact any
   ·exact any
 |op i b v n k a o=>
  simp only[frzT];obtain ⟨blk,g1,g2⟩:=hg;split
  ·rename_i h;exact ⟨_,DWr.low N (by simpa[TC.er,D.low] using bt h),.inr rfl,blk,take_get (bt h) g1,g2⟩
  ·exact any
 |fna g xs=>
  simp only[frzT];split
  ·rename_i h;exact ⟨_,DWr.low N (fna_low h),.inr rfl,by show xs.all (CV.low _)=true;rw[hl];exact h⟩
  ·exact any
 |ap b off len sz k=>
  simp only[frzT];split
  ·rename_i h;exact ⟨_,DWr.low N (by simpa[TC.er,D.low] using bt h),.inr rfl,by show b<_;rw[hl];exact bt h⟩
  ·exact any
 |os i b v n lo len=>
  simp only[frzT];obtain ⟨blk,g1,g2⟩:=hg;split
  ·rename_i h;exact ⟨_,DWr.low N (by simpa[TC.er,D.low] using bt h),.inr rfl,blk,take_get (bt h) g1,g2⟩
  ·exact any
theorem frzTs_ok(H:RH U1 σD1)(hm:m<=U1.length)(N:Rn m σD1 (σD1.take m) id (frF m σD1)){xs:List TC}{ds:List D}(hr:All2 RC xs ds)(hg:∀x∈xs,GC U1 x) :
  ∃es,All2 (DWr σD1 (σD1.take m) id (frF m σD1)) ds es/\All2 RC (xs.map (frzT m U1)) es/\∀x∈xs.map (frzT m U1),GC (U1.take m) x:=by
 induction hr with
 |nil=>exact ⟨[],.nil,.nil,by simp⟩
 |cons h r ih=>
  obtain ⟨e,h1,h2,h3⟩:=frzT_ok H hm N h (hg _ (yAq ..));obtain ⟨es,h4,h5,h6⟩:=ih λx hx=>hg x (yAm _ hx);exact ⟨e::es,.cons h1 h4,.cons h2 h5,λx hx=>by
   rw[yAw] at hx;rcases yAu.1 hx with rfl | hx
   ·exact h3
   ·exact h6 x hx⟩
theorem frzV_ok(H:RH U1 σD1)(hm:m<=U1.length)(N:Rn m σD1 (σD1.take m) id (frF m σD1)){al al':TA}{x:RV}{d:D}(hr:RR x d)(hg:GW al U1 x) :
  ∃d',DWr σD1 (σD1.take m) id (frF m σD1) d d'/\RR (frzV m U1 x) d'/\GW al' (U1.take m) (frzV m U1 x):=by
 have any:∃d',DWr σD1 (σD1.take m) id (frF m σD1) d d'/\RR (.v (.c .any)) d'/\GW al' (U1.take m) (.v (.c .any)):=⟨.any,DWr.any _,Or.inl rfl,True.intro⟩;cases x with
 |g c w p x=>exact any
 |v x=>
  cases x with
  |c x=>exact frzT_ok H hm N hr hg
  |tup xs=>exact any
  |agg xs=>obtain ⟨ds,rfl,ha⟩:=hr;obtain ⟨es,h1,h2,h3⟩:=frzTs_ok H hm N ha hg;exact ⟨_,DWr.agg h1,⟨es,rfl,h2⟩,h3⟩
theorem dwr_wk(N:Rn m σD1 (σD1.take m) id (frF m σD1))(hm:m<=σD1.length){d1 d2:D}(h:DWk m d1 d2):DWr σD1 (σD1.take m) id (frF m σD1) d1 d2:=λM Fz w v R hv=>by
 have hl:(σD1.take m).length=m:=by rw[yA6];omega
 have h1:=h σD1 (σD1.take m) M Fz w v (λb hb ob ho=>⟨ob,by rw[yA7 hb];exact ho,rfl⟩) hv;have e:mN (σD1.take m).length id M=cutM M m:=by rw[hl];rfl
 rw[e];exact h1.sub (λb ob hb=>⟨ob,hb,rfl⟩) (λ_ _ h=>h) (λc h=>⟨.inl h,rfl⟩) (λc arr T fr h=>⟨arr,h,rfl⟩)
theorem frz_ok{pre al:TA}{U:TH}{alD alD1:AL}{σD:Heap}(R0:Ref al U alD σD)(R1:Ref (pre++al) U1 alD1 σD1)(he:Ext U U1)(hok:(U1.take U.length).all (okB U.length)=true) :
  ∃alD2 σD2,StW U.length alD1 σD1 alD2 σD2/\Ref (pre.map (λp=>(p.1,frzV U.length U1 p.2))++al) (U1.take U.length) alD2 σD2/\Ext U (U1.take U.length):=by
 have hm:U.length<=U1.length:=by
  rcases yAB U1.length U.length with hlt | hge
  ·obtain ⟨blk1,e,_⟩:=he U1.length _ (yAg hlt);rw[yAG (yAo _)] at e;simp at e
  ·exact hge
 have hmD:U.length<=σD1.length:=by rw[R1.hh.len];exact hm
 have he':Ext U (U1.take U.length):=λb blk hb=>by obtain ⟨blk1,h1,h2⟩:=he b blk hb;exact ⟨blk1,take_get (yAb.1 hb).1 h1,h2⟩
 have N:=take_rn R1.hh hm hok;have key:∀t,∃d2,∀x p,lkP t (pre.map (λp=>(p.1,frzV U.length U1 p.2))++al)=some (x,p)->GW (pre.map (λp=>(p.1,frzV U.length U1 p.2))++al) (U1.take U.length) x/\∃d1,lk t alD1=some d1/\DWr σD1 (σD1.take U.length) id (frF U.length σD1) d1 d2/\RR x d2:=by
  intro t;cases ht:lkP t (pre.map (λp=>(p.1,frzV U.length U1 p.2))++al) with
  |none=>exact ⟨.any,λx p h=>by simp at h⟩
  |some q=>
   obtain ⟨x,p⟩:=q;have:∃d2,GW (pre.map (λp=>(p.1,frzV U.length U1 p.2))++al) (U1.take U.length) x/\∃d1,lk t alD1=some d1/\DWr σD1 (σD1.take U.length) id (frF U.length σD1) d1 d2/\RR x d2:=by
    rcases lkP_frz ht with ⟨x0,h1,rfl⟩ | ⟨h1,h2⟩
    ·obtain ⟨d1,h3,h4,h5⟩:=R1.rg t x0 p h1;obtain ⟨d2,h6,h7,h8⟩:=frzV_ok R1.hh hm N.toRn h4 h5;exact ⟨d2,h8,d1,h3,h6,h7⟩
    ·obtain ⟨d1,h3,h4,_⟩:=R1.rg t x p h1;obtain ⟨_,_,_,h5⟩:=R0.rg t x p h2;obtain ⟨d2,h6,h7⟩:=RR_wk h4 h5;exact ⟨d2,h5.mono he' _,d1,h3,dwr_wk N.toRn hmD h6,h7⟩
   obtain ⟨d2,h⟩:=this;exact ⟨d2,λx' p' e=>by simp only[yAa,yAc] at e;obtain ⟨rfl,rfl⟩:=e;exact h⟩
 refine ⟨(pre.map (λp=>(p.1,frzV U.length U1 p.2))++al).map λp=>(p.1,Classical.choose (key p.1)),σD1.take U.length,StW.rn N (λb hb=>hb.1) (λt d h=>?_),⟨⟨?_,λb blk hb=>?_,λb w cs hb p hp=>?_⟩,λt x p h=>?_⟩,he'⟩
 ·obtain ⟨⟨x,p,h3⟩,rfl⟩:=lkP_key' (f:=λt=>Classical.choose (key t)) h;obtain ⟨_,d1,h4,h5,_⟩:=yBx (key t) x p h3;exact ⟨d1,h4,h5⟩
 ·rw[yA6,yA6,R1.hh.len]
 ·have hlt:b<U.length:=by have:=(yAb.1 hb).1;rw[yA6] at this;omega
  rw[yA7 hlt] at hb;obtain ⟨ob,h1,h2⟩:=R1.hh.hp b blk hb;exact ⟨ob,by rw[yA7 hlt];exact h1,h2⟩
 ·have hlt:b<U.length:=by have:=(yAb.1 hb).1;rw[yA6] at this;omega
  have hb0:=hb;rw[yA7 hlt] at hb;obtain ⟨h1,h2⟩:=R1.hh.hg b w cs hb p hp;refine ⟨?_,h2⟩;have hk:okB U.length (.cells w cs)=true:=yAp.1 hok _ (yAy hb0);have hk:=yAp.1 hk p hp;have bt:∀{b:Nat},Nat.blt b U.length=true->b<U.length:=λh=>yAQ.mp h;cases hx:p.2 with
  |own i b v n=>rw[hx] at h1 hk;obtain ⟨blk,g1,g2⟩:=h1;exact ⟨blk,take_get (bt hk) g1,g2⟩
  |op i b v n k a o=>rw[hx] at h1 hk;obtain ⟨blk,g1,g2⟩:=h1;exact ⟨blk,take_get (bt hk) g1,g2⟩
  |os i b v n lo len=>rw[hx] at h1 hk;obtain ⟨blk,g1,g2⟩:=h1;exact ⟨blk,take_get (bt hk) g1,g2⟩
  |ap b off len sz k=>rw[hx] at hk;show b<_;rw[yA6];have:=bt hk;omega
  |fna g xs=>rw[hx] at hk;show xs.all (CV.low _)=true;rw[yA6,show min U.length U1.length=U.length by omega];exact hk
  |d x=>rw[hx] at hk;show x.low _=true;rw[yA6,show min U.length U1.length=U.length by omega];exact hk
  |_=>exact True.intro
 ·obtain ⟨h1,d1,h2,h3,h4⟩:=yBx (key t) x p h;exact ⟨_,lkP_key (f:=λt=>Classical.choose (key t)) ⟨x,p,h⟩,h4,h1⟩
theorem absF_ok{h:JH}{md:List Nat}{pre al:TA}{U:TH}{alD alD1:AL}{σD:Heap}{x:tupP h.pl}(R0:Ref al U alD σD)(R1:Ref (pre++al) U1 alD1 σD1)(he:Ext U U1)(hx:absF h md al U (pre++al) U1=some x) :
  ∃pre' U2 alD2 σD2,StW U.length alD1 σD1 alD2 σD2/\Ref (pre'++al) U2 alD2 σD2/\Ext U U2/\absJ h md al U (pre'++al) U2=some x:=by
 unfold absF at hx;split at hx
 ·rename_i hok;obtain ⟨alD2,σD2,h1,h2,h3⟩:=frz_ok R0 R1 he hok;rw[show (pre++al).length-al.length=pre.length by rw[yAC];omega,frzA_app] at hx;exact ⟨_,_,alD2,σD2,h1,h2,h3,hx⟩
 ·refine ⟨pre,U1,alD1,σD1,StW.refl ?_,R1,he,hx⟩;rw[R1.hh.len];rcases yAB U1.length U.length with hlt | hge
  ·obtain ⟨blk1,e,_⟩:=he U1.length _ (yAg hlt);rw[yAG (yAo _)] at e;simp at e
  ·exact hge
end
end Go.Abs
end
section
namespace Go.Abs
noncomputable section
variable[Gl][Y:Ty]
section
def mvM(M:Nat->Option Nat)(r t:Nat):Nat->Option Nat:=λb=>if b=t then M r else if b=r then none else M b
def SzM(r t:Nat)(U1 U2:Heap):Prop:=∀b ob,b≠t->U1[b]? = some ob->∃ob2,U2[b]? = some ob2/\ob.sz<=ob2.sz/\(b=r->ob.sz<ob2.sz)/\(b≠r->ob2.sz=ob.sz)
def DMv(r t:Nat)(U1 U2:Heap)(d1 d2:D):Prop:=∀(M:Nat->Option Nat)(Fz:Nat->Prop)(w:World)(v:Value),V U1 M Fz w d1 v->V U2 (mvM M r t) Fz w d2 v
variable{r t:Nat}{U1 U2:Heap}
theorem DMv.any(d:D):DMv r t U1 U2 d .any:=λ_ _ _ v _=>.any v
theorem DMv.c(x:C):DMv r t U1 U2 (.c x) (.c x):=λ_ _ _ v h=>by
 cases h with
 |c h=>exact .c h
theorem DMv.ptr(S:SzM r t U1 U2){b off sz:Nat}(hb:b≠t):DMv r t U1 U2 (.ptr b off sz) (.ptr b off sz):=λM Fz w v h=>by
 cases h with
 |ptr a ob h hle hv=>
  obtain ⟨ob2,h1,h2,h3,h4⟩:=S b ob hb h;refine .ptr a ob2 h1 (yAA hle h2) λhe=>?_;by_cases e:b=r
  ·have:=h3 e;omega
  ·obtain ⟨c,q1,q2⟩:=hv (by rw[<-h4 e];exact he);exact ⟨c,by simp[mvM,hb,e,q1],q2⟩
theorem DMv.sl(S:SzM r t U1 U2){b off len es sz:Nat}(hb:b≠t):DMv r t U1 U2 (.sl b off len es sz) (.sl b off len es sz):=λM Fz w v h=>by
 cases h with
 |sl a n cap hnn ob h hle hv=>
  obtain ⟨ob2,h1,h2,h3,h4⟩:=S b ob hb h;refine .sl a n cap hnn ob2 h1 (yAA hle h2) λhe=>?_;by_cases e:b=r
  ·have:=h3 e;omega
  ·rcases hv (by rw[<-h4 e];exact he) with q | ⟨c,o,arr,T,q1,q2⟩
   ·exact .inl q
   ·exact .inr ⟨c,o,arr,T,by simp[mvM,hb,e,q1],q2⟩
theorem DMv.low(S:SzM r t U1 U2){d:D}(hl:d.low t=true):DMv r t U1 U2 d d:=by
 intro M Fz w v h;induction h with
 |c h=>exact .c h
 |any v=>exact .any v
 |ptr a ob h hle hv=>simp only[D.low,yAf] at hl;exact DMv.ptr S (by omega) M Fz w _ (.ptr a ob h hle hv)
 |sl a n cap hnn ob h hle hv=>simp only[D.low,yAf] at hl;exact DMv.sl S (by omega) M Fz w _ (.sl a n cap hnn ob h hle hv)
 | @mp b c ob h hv=>
  simp only[D.low,yAf] at hl;obtain ⟨ob2,h1,h2,h3,h4⟩:=S b ob (by omega) h;refine .mp c ob2 h1 λhe=>?_;by_cases e:b=r
  ·have:=h3 e;omega
  ·have:=hv (by rw[<-h4 e];exact he);have hb:b≠t:=by omega
   simp[mvM,hb,e,this]
 |fn vs ws h1 h2 hv hw ih1 ih2=>simp only[D.low,yAj] at hl;exact .fn vs ws h1 h2 (λi d v a b=>ih1 i d v a b (D.lows_get hl.1 i d a)) (λi d v a b=>ih2 i d v a b (D.lows_get hl.2 i d a))
 |agg vs h1 hv ih=>simp only[D.low] at hl;exact .agg vs h1 (λi d v a b=>ih i d v a b (D.lows_get hl i d a))
 |tup vs h1 hv ih=>simp only[D.low] at hl;exact .tup vs h1 (λi d v a b=>ih i d v a b (D.lows_get hl i d a))
theorem DMv.agg{ds es:List D}(h:All2 (DMv r t U1 U2) ds es):DMv r t U1 U2 (.agg ds) (.agg es):=λM Fz w v hv=>by
 cases hv with
 |agg vs h1 hv=>refine .agg vs (by rw[h1,h.len]) λi d v a b=>?_;obtain ⟨d1,h2,h3⟩:=h.get' i d a;exact h3 M Fz w v (hv i d1 v h2 b)
theorem DMv.tup{ds es:List D}(h:All2 (DMv r t U1 U2) ds es):DMv r t U1 U2 (.tup ds) (.tup es):=λM Fz w v hv=>by
 cases hv with
 |tup vs h1 hv=>refine .tup vs (by rw[h1,h.len]) λi d v a b=>?_;obtain ⟨d1,h2,h3⟩:=h.get' i d a;exact h3 M Fz w v (hv i d1 v h2 b)
theorem DMv.own{es n:Nat}{cs:List D}(h1:U1[r]? = some (.cells cs))(h2:U2[t]? = some (.cells cs))(hn:n * es=cs.length):DMv r t U1 U2 (OS es r n) (OS es t n):=λM Fz w v h=>by
 cases h with
 |sl a n cap hnn ob h hle hv=>
  rw[h1] at h;simp only[yAa] at h;subst h;refine .sl a n cap hnn _ h2 hle λhe=>?_;rcases hv he with q | ⟨c,o,arr,T,q1,q2⟩
  ·exact .inl q
  ·exact .inr ⟨c,o,arr,T,by simp[mvM,q1],q2⟩
def ObMv(r t:Nat)(U1 U2:Heap):Ob->Ob->Prop
 |.cells ds,ob=>∃es,ob=.cells es/\All2 (DMv r t U1 U2) ds es
 |.map es k,ob=>ob=.map es k/\(es.all λe=>e.2.1.low t)=true
 |.gone k,ob=>ob=.gone k
theorem ObMv.sz{a b:Ob}(h:ObMv r t U1 U2 a b):b.sz=a.sz:=by
 cases a with
 |cells ds=>obtain ⟨es,rfl,h⟩:=h;simp only[Ob.sz,h.len]
 |map es k=>obtain ⟨rfl,_⟩:=h;rfl
 |gone k=>cases h;rfl
theorem stw_mv{m:Nat}{al1 al2:AL}{cs:List D}(hrt:r≠t)(hm:m<=t)(h1:U1[r]? = some (.cells cs))(h2:U2[t]? = some (.cells cs))(hc:∀d∈cs,∃c,d=D.c c)(S:SzM r t U1 U2)
  (hob:∀b ob,b≠t->b≠r->U1[b]? = some ob->∃ob2,U2[b]? = some ob2/\ObMv r t U1 U2 ob ob2) (hr:∀s d2,lk s al2=some d2->∃d1,lk s al1=some d1/\DMv r t U1 U2 d1 d2):StW m al1 U1 al2 U2:=by
 refine ⟨by have:=(yAb.1 h2).1;omega,λn M Fz w tmps R A=>⟨mvM M r t,Fz,⟨λb c hb=>?_,λb b' c hb hb'=>?_,R.fz,R.gl⟩,⟨A.1,λs d hs=>?_⟩,λU0 M0 Fz0 w0 R0 E hl=>?_⟩⟩
 ·unfold mvM at hb;split at hb
  ·rename_i e;subst e;obtain ⟨q1,ob,o,q2,q3,q4⟩:=R.blk r c hb;rw[h1] at q2;simp only[yAa] at q2;subst q2;obtain ⟨arr,T,ho,hle,hv⟩:=q4;refine ⟨q1,_,o,h2,q3,arr,T,ho,hle,λi d v x y=>?_⟩;obtain ⟨z1,z2⟩:=hv i d v x y;obtain ⟨k,rfl⟩:=hc d (yAy x);exact ⟨DMv.c k M Fz w v z1,z2⟩
  ·split at hb
   ·simp at hb
   ·rename_i e1 e2;obtain ⟨q1,ob,o,q2,q3,q4⟩:=R.blk b c hb;obtain ⟨ob2,q5,q6⟩:=hob b ob e1 e2 q2;refine ⟨q1,ob2,o,q5,q3,?_⟩;cases ob with
    |cells ds=>obtain ⟨es,rfl,q6⟩:=q6;obtain ⟨arr,T,ho,hle,hv⟩:=q4;refine ⟨arr,T,ho,by rw[<-q6.len];exact hle,λi d v x y=>?_⟩;obtain ⟨d1,z1,z2⟩:=q6.get' i d x;obtain ⟨z3,z4⟩:=hv i d1 v z1 y;exact ⟨z2 M Fz w v z3,z4⟩
    |map es k=>obtain ⟨rfl,q6⟩:=q6;obtain ⟨arr,ho,hle,hv⟩:=q4;refine ⟨arr,ho,hle,λi k d n e x y=>?_⟩;obtain ⟨z1,z2,z3⟩:=hv i k d n e x y;rw[yAp] at q6;exact ⟨z1,z2,DMv.low S (q6 (k,d,n) (yAy x)) M Fz w _ z3⟩
    |gone n=>exact q4.elim
 ·unfold mvM at hb hb';split at hb
  ·split at hb'
   ·omega
   ·split at hb'
    ·simp at hb'
    ·have:=R.inj r b' c hb hb';omega
  ·split at hb
   ·simp at hb
   ·split at hb'
    ·have:=R.inj b r c hb hb';omega
    ·split at hb'
     ·simp at hb'
     ·exact R.inj b b' c hb hb'
 ·obtain ⟨d1,q1,q2⟩:=hr s d hs;obtain ⟨v,q3,q4⟩:=A.2 s d1 q1;exact ⟨v,q3,q2 M Fz w v q4⟩
 ·refine ⟨E.size,E.frame,λb c h=>?_,E.fz,E.fz',E.shp,λb ob hb=>?_,E.out⟩
  ·unfold mvM at h;split at h
   ·exact E.ran r c h
   ·split at h
    ·simp at h
    ·exact E.ran b c h
  ·obtain ⟨ob',q1,q2,q3⟩:=E.keep b ob hb;have hlt:=(yAb.1 hb).1;have e1:b≠t:=by omega
   obtain ⟨ob2,q4,q5,q6,q7⟩:=S b ob' e1 q1;refine ⟨ob2,q4,by omega,λhe=>?_⟩;by_cases e:b=r
   ·have:=q6 e;omega
   ·rw[<-q3 (by rw[<-q7 e];exact he)];simp[mvM,e1,e]
end
theorem stw_push{m:Nat}{al:AL}{U:Heap}{ob:Ob}(hm:m<=U.length):StW m al U al (U++[ob]):=by
 have at':SzLe U (U++[ob]):=λb ob' h=>⟨ob',by rw[yAr (yAb.1 h).1];exact h,rfl⟩;refine ⟨by simp;omega,λn M Fz w tmps R A=>⟨M,Fz,⟨λb c hb=>?_,R.inj,R.fz,R.gl⟩,⟨A.1,λs d hs=>?_⟩,λU0 M0 Fz0 w0 R0 E hl=>?_⟩⟩
 ·obtain ⟨q1,ob',o,q2,q3,q4⟩:=R.blk b c hb;obtain ⟨ob2,q5,q6⟩:=at' b ob' q2;refine ⟨q1,ob',o,by rw[yAr (yAb.1 q2).1];exact q2,q3,?_⟩;have hmono:∀{d v},V U M Fz w d v->V (U++[ob]) M Fz w d v:=λh=>h.sub at' (λ_ _ h=>h) (λc h=>⟨h,rfl⟩) (λc arr T fr h=>⟨arr,h,rfl⟩);cases ob' with
  |cells cs=>obtain ⟨arr,T,ho,hl,hv⟩:=q4;exact ⟨arr,T,ho,hl,λi d v x y=>⟨hmono (hv i d v x y).1,(hv i d v x y).2⟩⟩
  |map es clock=>obtain ⟨arr,ho,hl,hv⟩:=q4;exact ⟨arr,ho,hl,λi k d n e x y=>let ⟨p,q,r⟩:=hv i k d n e x y;⟨p,q,hmono r⟩⟩
  |gone n=>exact q4.elim
 ·obtain ⟨v,q3,q4⟩:=A.2 s d hs;exact ⟨v,q3,q4.sub at' (λ_ _ h=>h) (λc h=>⟨h,rfl⟩) (λc arr T fr h=>⟨arr,h,rfl⟩)⟩
 ·refine ⟨E.size,E.frame,E.ran,E.fz,E.fz',E.shp,λb ob' hb=>?_,E.out⟩;obtain ⟨ob2,q1,q2,q3⟩:=E.keep b ob' hb;exact ⟨ob2,by rw[yAr (yAb.1 q1).1];exact q1,q2,q3⟩
theorem StW.le{m m':Nat}{al1 al2:AL}{U1 U2:Heap}(h:StW m al1 U1 al2 U2)(hm:m'<=m):StW m' al1 U1 al2 U2:=⟨yAA hm h.1,λn M' Fz' w' tmps R A=>by obtain ⟨M2,F2,R2,A2,E2⟩:=h.2 n M' Fz' w' tmps R A;exact ⟨M2,F2,R2,A2,λU M Fz w R0 E hl=>E2 U M Fz w R0 E (yAA hl hm)⟩⟩
section
variable{P:Program}{n:Nat}{al0 al al2:AL}{U0 U U2:Heap}{Q:zcX->AL->Heap->Prop}
def SemLO(P:Program)(ac:ACode)(k:Nat)(n:Nat)(U0:Heap)(al:AL)(U:Heap)(Q:zcX->AL->Heap->Prop):Prop:=
 ∀ (c : Code), zaL P c = some ac -> ∀ (M0 : Nat -> Option Nat) (Fz0 : Nat -> Prop) (w0 : World) (M : Nat -> Option Nat) (Fz : Nat -> Prop) (w : World) (a : Act) (K : Exit -> Act -> World -> Prop), Rel U0 M0 Fz0 w0 -> Rel U M Fz w -> AEnv n U M Fz w al a.tmps ->
  Evo U0 M0 Fz0 w0 U M Fz w->U0.length<=U.length ->
  (∀x al' U' a' w' M' Fz',Q x al' U'->a'.defers=a.defers->Rel U' M' Fz' w'->AEnv n U' M' Fz' w' al' a'.tmps->Evo U0 M0 Fz0 w0 U' M' Fz' w'->U0.length<=U'.length->K (toE x) a' w')->Code.rounds P c K k a w
theorem SemLO.start{ac:ACode}{k:Nat}(hs:StW U0.length al0 U0 al U)(h:SemLO P ac k n U0 al U Q):SemL P ac k n al0 U0 Q:=by intro c hc M Fz w a K R A hK;obtain ⟨M2,F2,R2,A2,E2,l2⟩:=hs.use R R A (Evo.refl R) (yAo _);exact h c hc M Fz w M2 F2 w a K R R2 A2 E2 l2 hK
theorem SemLO.succ{b:ACode}{k:Nat}(h:Sem P b n al U λx al1 U1=>match x with | .normal=>∃al2 U2,StW U0.length al1 U1 al2 U2/\SemLO P b k n U0 al2 U2 Q | x=>Q x al1 U1):SemLO P b (k+1) n U0 al U Q:=by
 intro c hc M0 Fz0 w0 M Fz w act K R0 R A E0 l0 hK;rw[rounds_succ];refine h c hc M Fz w act _ R A λx al1 U1 a' w' M' Fz' hQ hd R' A' E' hl=>?_;have E1:=E0.trans E' l0;cases x with
 |normal=>obtain ⟨al2,U2,hw,hs⟩:=hQ;obtain ⟨M2,F2,R2,A2,E2,l2⟩:=hw.use R0 R' A' E1 (yAo _);exact hs c hc M0 Fz0 w0 M2 F2 w' a' K R0 R2 A2 E2 l2 λx al3 U3 a3 w3 M3 Fz3 hQ3 hd3 R3 A3 E3 hl3=>hK x al3 U3 a3 w3 M3 Fz3 hQ3 (by rw[hd3,hd]) R3 A3 E3 hl3
 |exit i=>exact then_exit (hK (.exit i) al1 U1 a' w' M' Fz' hQ hd R' A' E1 (yAA l0 hl))
 |ret=>exact hK .ret al1 U1 a' w' M' Fz' hQ hd R' A' E1 (yAA l0 hl)
end
section
variable{U U1:TH}{σD:Heap}{alD:AL}{t r:Nat}
theorem nrC_ok{x:TC}{d:D}{U1 U2:Heap}(S:SzM r t U1 U2)(hr:RC x d)(hn:nrC t x=true):DMv r t U1 U2 d x.er:=by
 rcases hr with rfl | rfl
 ·exact DMv.any _
 have ne:∀{b:Nat},(!Nat.beq b t)=true->b≠t:=λh e=>by subst e;simp at h
 cases x with
 |any=>exact DMv.any _
 |d x=>exact DMv.low S hn
 |own i b v n=>exact DMv.sl S (ne hn)
 |op i b v n k a off=>exact DMv.ptr S (ne hn)
 |ap b off len sz k=>exact DMv.ptr S (ne hn)
 |os i b v n lo len=>exact DMv.sl S (ne hn)
 |fna g xs=>exact DMv.low S (fna_low hn)
 |_=>exact DMv.c _
theorem cutC_ok{x:TC}{d:D}{U1 U2:Heap}(S:SzM r t U1 U2)(hr:RC x d):DMv r t U1 U2 d (cutC t x).er:=by
 unfold cutC;split
 ·rename_i h;exact nrC_ok S hr h
 ·exact DMv.any _
theorem cutC_good{U':TH}(he:Ext U U'){x:TC}(h:GC U x):GC U' (cutC t x):=by
 unfold cutC;split
 ·exact h.mono he
 ·exact True.intro
theorem cutCs_ok{xs:List TC}{ds:List D}{U1 U2:Heap}(S:SzM r t U1 U2)(hr:All2 RC xs ds):∃es,All2 (DMv r t U1 U2) ds es/\All2 RC (xs.map (cutC t)) es:=by
 induction hr with
 |nil=>exact ⟨[],.nil,.nil⟩
 |cons h _ ih=>obtain ⟨es,h1,h2⟩:=ih;exact ⟨_::es,.cons (cutC_ok S h) h1,.cons (.inr rfl) h2⟩
theorem cutR_ok{al al':TA}{x:RV}{d:D}{U1 U2:Heap}{U':TH}(he:Ext U U')(S:SzM r t U1 U2)(hr:RR x d)(hg:GW al U x):∃d',DMv r t U1 U2 d d'/\RR (cutR t x) d'/\GW al' U' (cutR t x):=by
 have any:∃d',DMv r t U1 U2 d d'/\RR (.v (.c .any)) d'/\GW al' U' (.v (.c .any)):=⟨.any,DMv.any _,Or.inl rfl,True.intro⟩;cases x with
 |g c w p x=>exact any
 |v x=>
  cases x with
  |c x=>exact ⟨_,cutC_ok S hr,Or.inr rfl,cutC_good (x:=x) he hg⟩
  |tup xs=>exact any
  |agg xs=>obtain ⟨ds,rfl,ha⟩:=hr;obtain ⟨es,h1,h2⟩:=cutCs_ok S ha;refine ⟨_,DMv.agg h1,⟨es,rfl,h2⟩,λx hx=>?_⟩;rw[yA4] at hx;obtain ⟨y,hy,rfl⟩:=hx;exact cutC_good he (hg y hy)
theorem nrV_ok{x:TV}{d:D}{U1 U2:Heap}(S:SzM r t U1 U2)(hr:RT x d)(hn:nrV t x=true):∃d',DMv r t U1 U2 d d'/\RT x d':=by
 have cs:∀{xs:List TC}{ds:List D},All2 RC xs ds->xs.all (nrC t)=true->∃es,All2 (DMv r t U1 U2) ds es/\All2 RC xs es:=by
  intro xs ds h;induction h with
  |nil=>intro _;exact ⟨[],.nil,.nil⟩
  |cons h _ ih=>intro hn;simp only[List.all_cons,yAj] at hn;obtain ⟨es,h1,h2⟩:=ih hn.2;exact ⟨_::es,.cons (nrC_ok S h hn.1) h1,.cons (.inr rfl) h2⟩
 cases x with
 |c x=>exact ⟨_,nrC_ok S hr hn,Or.inr rfl⟩
 |agg xs=>obtain ⟨ds,rfl,ha⟩:=hr;obtain ⟨es,h1,h2⟩:=cs ha hn;exact ⟨_,DMv.agg h1,es,rfl,h2⟩
 |tup xs=>
  obtain ⟨ds,rfl,ha⟩:=hr;have:∃es,All2 (DMv r t U1 U2) ds es/\All2 RE xs es:=by
   simp only[nrV] at hn;induction ha with
   |nil=>exact ⟨[],.nil,.nil⟩
   | @cons p d xs ds h _ ih=>
    simp only[List.all_cons,yAj] at hn;obtain ⟨es,h1,h2⟩:=ih hn.2;obtain ⟨f,ys⟩:=p;cases f with
    |true=>obtain ⟨ds',rfl,h3⟩:=h;obtain ⟨es',h4,h5⟩:=cs h3 (by simpa using hn.1);exact ⟨_::es,.cons (DMv.agg h4) h1,.cons ⟨es',rfl,h5⟩ h2⟩
    |false=>
     obtain ⟨y,rfl,h3⟩:=h;have hn1:nrC t y=true:=by simpa using hn.1
     exact ⟨_::es,.cons (nrC_ok S h3 hn1) h1,.cons ⟨y,rfl,.inr rfl⟩ h2⟩
  obtain ⟨es,h1,h2⟩:=this;exact ⟨_,DMv.tup h1,es,rfl,h2⟩
theorem nrR_ok{x:RV}{d:D}{U1 U2:Heap}(S:SzM r t U1 U2)(hr:RR x d)(hn:nrR t x=true):∃d',DMv r t U1 U2 d d'/\RR x d':=by
 cases x with
 |g c w p x=>
  by_cases h:c=w
  ·simp only[RR,if_pos h] at hr ⊢;exact nrV_ok S hr hn
  ·simp only[RR,if_neg h] at hr ⊢;subst hr;exact ⟨.tup [],DMv.low S rfl,rfl⟩
 |v x=>exact nrV_ok S hr hn
theorem cutB_ext(U:TH)(t:Nat):Ext U (U.map (cutB t)):=λb blk h=>by
 refine ⟨cutB t blk,by rw[yAl,h];rfl,?_⟩;cases blk with
 |row i l lv cv=>exact BE.refl _
 |mp j st l v=>exact BE.refl _
 |cells w cs=>
  refine ⟨w+1,_,rfl,Nat.le_succ _,by simp,λj v x v1 x1 e e1=>?_⟩;rw[yAl,e] at e1;simp only[Option.map_some,yAa,cutP] at e1;split at e1
  ·simp only[yAc] at e1;exact .inl ⟨e1.1.symm,e1.2.symm⟩
  ·simp only[yAc] at e1;exact .inr (by omega)
theorem dfl_len(i:Nat)(l:List (TT i)):(OB (enc i) l).sz<(OB (enc i) (l++[dfl i])).sz:=by have h:0<esz i:=Y.ps i;simp only[Ob.sz,OB,yAz,List.flatMap_append,yAC,yBi,List.flatMap_nil,yBv,za8];exact Nat.lt_add_of_pos_right h
theorem lkP_cut{al:TA}{s:Nat}{x:RV}{p:Nat}:∀{pre:TA},lkP s (pre.map (λp=>(p.1,cutR t p.2))++al)=some (x,p) ->
  (∃x0,lkP s (pre++al)=some (x0,p)/\x=cutR t x0)∨(lkP s (pre++al)=some (x,p)/\lkP s al=some (x,p)):=by
 intro pre;induction pre with
 |nil=>intro h;exact .inr ⟨h,h⟩
 |cons y pre ih=>
  intro h;obtain ⟨s',y⟩:=y;simp only[yAw,List.cons_append,lkP] at h ⊢;split at h
  ·rename_i hb;simp only[yAa,yAc] at h;obtain ⟨rfl,rfl⟩:=h
   try rw[hb]
   exact .inl ⟨y,by simp,rfl⟩
  ·rename_i hb
   try rw[hb]
   exact ih h
theorem lkP_in{s:Nat}{x:RV}{p:Nat}:∀{al:TA},lkP s al=some (x,p)->(s,x)∈al:=by
 intro al;induction al with
 |nil=>intro h;simp[lkP] at h
 |cons y al ih=>
  intro h;obtain ⟨s',y⟩:=y;simp only[lkP] at h;split at h
  ·rename_i hb;have:=yAi hb;simp only[yAa,yAc] at h;rw[this,h.1];exact yAq ..
  ·exact yAm _ (ih h)
theorem cutB_mv{blk:TB}{U1 U2:Heap}(S:SzM r t U1 U2):ObMv r t U1 U2 blk.er (cutB t blk).er:=by
 cases blk with
 |cells w cs=>
  refine ⟨_,rfl,All2.of_get (by simp) λj a b h1 h2=>?_⟩;rw[yAl,yAd] at h1;obtain ⟨p,h3,rfl⟩:=h1;rw[yAl,yAl,h3] at h2;simp only[Option.map_some,yAa] at h2;subst h2;unfold cutP;split
  ·rename_i h;exact nrC_ok S (.inr rfl) h
  ·exact DMv.any _
 |row i l lv cv=>refine ⟨_,rfl,All2.of_get rfl λj a b h1 h2=>?_⟩;rw[h1] at h2;simp only[yAa] at h2;subst h2;rw[yAl,yAd] at h1;obtain ⟨c,_,rfl⟩:=h1;exact DMv.c _
 |mp j st l v=>exact ⟨rfl,mbE_low (λa=>mpE_low _ _ _ _) _ _⟩
theorem er_at(H:RH U σD){b:Nat}{ob:Ob}(h:σD[b]? = some ob):∃blk,U[b]? = some blk/\ob=blk.er:=by
 have hlt:b<U.length:=by rw[<-H.len];exact (yAb.1 h).1
 obtain ⟨ob',h1,h2⟩:=H.hp b _ (yAg hlt);rw[h] at h1;simp only[yAa] at h1;exact ⟨_,yAg hlt,h1.trans h2⟩
theorem mvA_ok{n b j m:Nat}{pre al0 al':TA}{U0 U':TH}{alD0:AL}{σD0:Heap}(R0:Ref al0 U0 alD0 σD0)(he0:Ext U0 U)(R1:Ref (pre++al0) U alD σD)(hn:n=pre.length)(hm:m<=t)(ht:t<U.length)(h:mvA n t b j (pre++al0) U=some (al',U')) :
  ∃pre' alD' σD',al'=pre'++al0/\pre'.length=pre.length/\StW m alD σD alD' σD'/\Ref (pre'++al0) U' alD' σD'/\Ext U U'/\U'.length=U.length:=by
 unfold mvA at h;split at h
 rotate_left
 ·simp at h
 rename_i w cs hb;split at h
 rotate_left
 ·simp at h
 rename_i v0 i r v q hj;split at h
 ·simp only[yAa,yAc] at h;obtain ⟨rfl,rfl⟩:=h;exact ⟨pre,alD,σD,rfl,rfl,StW.refl (by rw[R1.hh.len];omega),R1,Ext.refl _,rfl⟩
 rename_i hrt;have hrt:r≠t:=λe=>by subst e;simp at hrt
 split at h
 rotate_left
 ·simp at h
 rename_i i1 l lv cv i2 l2 lt ct hr htt;split at h
 rotate_left
 ·simp at h
 rename_i hc;simp only[yAj] at hc;obtain ⟨c1,c2,c3⟩:=hc;have c1:=yAi c1;have c2:=yAi c2;subst c1 c2;have edrop:(pre++al0).drop n=al0:=by rw[hn];exact List.drop_left
 have etake:(pre++al0).take n=pre:=by rw[hn];exact List.take_left
 rw[edrop] at c3;rw[edrop,etake] at h;simp only[yAa,yAc] at h;obtain ⟨rfl,h⟩:=h;have ga:∀(b:Nat) blk,U[b]? = some blk->(U.map (cutB t))[b]? = some (cutB t blk):=λb blk e=>by rw[yAl,e];rfl
 have x0:=cutB_ext U t;have hta:=ga t _ htt;have x1:Ext U ((U.map (cutB t)).set t (.row i2 l (lt+1) (ct+1))):=Ext.trans R1.hh x0 (Ext.set hta ⟨l,lt+1,ct+1,rfl,by omega,by omega,λe=>by omega,λe=>by omega⟩);have hra:((U.map (cutB t)).set t (.row i2 l (lt+1) (ct+1)))[r]? = some (.row i2 l v cv):=by rw[zay hrt];exact ga r _ hr
 have x2:Ext U (((U.map (cutB t)).set t (.row i2 l (lt+1) (ct+1))).set r (.row i2 (l++[dfl i2]) (v+1) (cv+1))):=Ext.trans R1.hh x1 (Ext.set hra ⟨_,v+1,cv+1,rfl,by omega,by omega,λe=>by omega,λe=>by omega⟩);have hbt:b≠t:=λe=>by subst e;rw[hb] at htt;simp at htt
 have hbr:b≠r:=λe=>by subst e;rw[hb] at hr;simp at hr
 have hba:(((U.map (cutB t)).set t (.row i2 l (lt+1) (ct+1))).set r (.row i2 (l++[dfl i2]) (v+1) (cv+1)))[b]? = some (.cells (w+1) (cs.map (cutP t w))):=by rw[zay hbr,zay hbt];exact ga b _ hb
 have hver:∀p∈cs,p.1<=w:=λp hp=>(R1.hh.hg b w cs hb p hp).2;have x3:Ext U U':=by
  rw[<-h];refine Ext.trans R1.hh x2 (Ext.set hba ⟨w+2,_,rfl,by omega,by simp,λk va xa vb xb e e1=>?_⟩);by_cases ek:j=k
  ·subst ek;rw[yAK,if_pos rfl] at e1;split at e1
   ·simp only[yAa,yAc] at e1;exact .inr (by omega)
   ·simp at e1
  ·rw[yAD ek,e] at e1;simp only[yAa,yAc] at e1;exact .inl ⟨e1.1.symm,e1.2.symm⟩
 have len:U'.length=U.length:=by rw[<-h];simp
 have gt:U'[t]? = some (.row i2 l (lt+1) (ct+1)):=by rw[<-h,zay (Ne.symm hbt),zay (Ne.symm hrt)];exact zaU hta
 have gr:U'[r]? = some (.row i2 (l++[dfl i2]) (v+1) (cv+1)):=by rw[<-h,zay (Ne.symm hbr)];exact zaU hra
 have gb:U'[b]? = some (.cells (w+2) ((cs.map (cutP t w)).set j (w+2,.own i2 t (lt+1) l.length))):=by rw[<-h];exact zaU hba
 have go:∀(b':Nat),b'≠t->b'≠r->b'≠b->U'[b']? = (U[b']?).map (cutB t):=λb' e1 e2 e3=>by rw[<-h,zay e3,zay e2,zay e1,yAl]
 clear h;have gj:=(R1.hh.hg b w cs hb _ (yAy hj)).1;obtain ⟨ei,el⟩:=own_row R1.hh gj hr (by simp);subst ei;have S:SzM r t σD (U'.map TB.er):=λb' ob e1 e2=>by
  obtain ⟨blk,e3,rfl⟩:=er_at R1.hh e2;rw[yAl];by_cases e4:b'=r
  ·subst e4;rw[hr] at e3;simp only[yAa] at e3;subst e3;rw[gr];have:=dfl_len i2 l;exact ⟨_,rfl,Nat.le_of_lt this,λ_=>this,λe=>absurd rfl e⟩
  ·by_cases e5:b'=b
   ·subst e5;rw[hb] at e3;simp only[yAa] at e3;subst e3;rw[gb];have e6:(TB.er (.cells (w+2) ((cs.map (cutP t w)).set j (w+2,.own i2 t (lt+1) l.length)))).sz=(TB.er (.cells w cs)).sz:=by simp[TB.er,Ob.sz]
    exact ⟨_,rfl,Nat.le_of_eq e6.symm,λe=>absurd e e4,λ_=>e6⟩
   ·rw[go b' e1 e4 e5,e3];have e6:(cutB t blk).er.sz=blk.er.sz:=by
     cases blk with
     |cells w cs=>simp[cutB,TB.er,Ob.sz]
     |_=>rfl
    exact ⟨_,rfl,Nat.le_of_eq e6.symm,λe=>absurd e e4,λ_=>e6⟩
 have hrD:σD[r]? = some (.cells ((l.flatMap (enc i2)).map .c)):=R1.hh.row hr;have htD:(U'.map TB.er)[t]? = some (.cells ((l.flatMap (enc i2)).map .c)):=by rw[yAl,gt];rfl
 have own:DMv r t σD (U'.map TB.er) (OS (esz i2) r q) (OS (esz i2) t l.length):=by rw[el];refine DMv.own hrD htD ?_;rw[yAz,flat_len (za8 i2)]
 have key:∀s,∃d2,∀x p,lkP s (pre.map (λp=>(p.1,cutR t p.2))++al0)=some (x,p)->GW (pre.map (λp=>(p.1,cutR t p.2))++al0) U' x/\∃d1,lk s alD=some d1/\DMv r t σD (U'.map TB.er) d1 d2/\RR x d2:=by
  intro s;cases hs:lkP s (pre.map (λp=>(p.1,cutR t p.2))++al0) with
  |none=>exact ⟨.any,λx p h=>by simp at h⟩
  |some y=>
   obtain ⟨x,p⟩:=y;have:∃d2,GW (pre.map (λp=>(p.1,cutR t p.2))++al0) U' x/\∃d1,lk s alD=some d1/\DMv r t σD (U'.map TB.er) d1 d2/\RR x d2:=by
    rcases lkP_cut hs with ⟨x0,h1,rfl⟩ | ⟨h1,h2⟩
    ·obtain ⟨d1,h3,h4,h5⟩:=R1.rg s x0 p h1;obtain ⟨d2,h6,h7,h8⟩:=cutR_ok x3 S h4 h5;exact ⟨d2,h8,d1,h3,h6,h7⟩
    ·obtain ⟨d1,h3,h4,_⟩:=R1.rg s x p h1;obtain ⟨_,_,_,h5⟩:=R0.rg s x p h2;have hx:nrR t x=true:=yAp.1 c3 _ (lkP_in h2);obtain ⟨d2,h6,h7⟩:=nrR_ok S h4 hx;exact ⟨d2,h5.mono (Ext.trans R0.hh he0 x3) _,d1,h3,h6,h7⟩
   obtain ⟨d2,h⟩:=this;exact ⟨d2,λx' p' e=>by simp only[yAa,yAc] at e;obtain ⟨rfl,rfl⟩:=e;exact h⟩
 refine ⟨_,(pre.map (λp=>(p.1,cutR t p.2))++al0).map λp=>(p.1,Classical.choose (key p.1)),U'.map TB.er,rfl,by simp,stw_mv hrt hm hrD htD (λd hd=>?_) S (λb' ob e1 e2 e3=>?_) (λs d2 h=>?_),⟨⟨by simp,λb' blk e=>⟨_,by rw[yAl,e];rfl,rfl⟩,λb' w' cs' e p hp=>?_⟩,λs x p h=>?_⟩,x3,len⟩
 ·rw[yA4] at hd;obtain ⟨c,_,rfl⟩:=hd;exact ⟨c,rfl⟩
 ·obtain ⟨blk,e4,rfl⟩:=er_at R1.hh e3;rw[yAl];by_cases e5:b'=b
  ·subst e5;rw[hb] at e4;simp only[yAa] at e4;subst e4;rw[gb];refine ⟨_,rfl,_,rfl,All2.of_get (by simp) λk a c h1 h2=>?_⟩;rw[yAl,yAd] at h1;obtain ⟨p,h3,rfl⟩:=h1;rw[yAl] at h2;by_cases ek:j=k
   ·subst ek;rw[hj] at h3;simp only[yAa] at h3;subst h3;rw[yAK,if_pos rfl,if_pos (by rw[yAz];exact (yAb.1 hj).1)] at h2;simp only[Option.map_some,yAa] at h2;subst h2;exact own
   ·rw[yAD ek,yAl,h3] at h2;simp only[Option.map_some,yAa] at h2;subst h2;unfold cutP;split
    ·rename_i h;exact nrC_ok S (.inr rfl) h
    ·exact DMv.any _
  ·rw[go b' e1 e2 e5,e4];exact ⟨_,rfl,cutB_mv S⟩
 ·obtain ⟨⟨x,p,h3⟩,rfl⟩:=lkP_key' (f:=λs=>Classical.choose (key s)) h;obtain ⟨_,d1,h4,h5,_⟩:=yBx (key s) x p h3;exact ⟨d1,h4,h5⟩
 ·have cut:∀{w:Nat}{cs:List (Nat×TC)}{b:Nat},U[b]? = some (.cells w cs)->∀p∈cs.map (cutP t w),GC U' p.2/\p.1<=w+1:=λ{w cs b} hb p hp=>by
   rw[yA4] at hp;obtain ⟨y,hy,rfl⟩:=hp;obtain ⟨g1,g2⟩:=R1.hh.hg b w cs hb y hy;unfold cutP;split
   ·exact ⟨g1.mono x3,by omega⟩
   ·exact ⟨True.intro,yAo _⟩
  by_cases e1:b'=t
  ·subst e1;rw[gt] at e;simp at e
  by_cases e2:b'=r
  ·subst e2;rw[gr] at e;simp at e
  by_cases e5:b'=b
  ·subst e5;rw[gb] at e;simp only[yAa,TB.cells.injEq] at e;obtain ⟨rfl,rfl⟩:=e;rcases yBn hp with hp | rfl
   ·obtain ⟨g1,g2⟩:=cut hb p hp;exact ⟨g1,by omega⟩
   ·refine ⟨⟨_,gt,λj l' lv' cv' e=>?_⟩,yAo _⟩;simp only[TB.row.injEq] at e;obtain ⟨rfl,e9,rfl,rfl⟩:=e;cases e9;exact ⟨yAo _,λ_=>⟨rfl,rfl⟩⟩
  ·rw[go b' e1 e2 e5,yAd] at e;obtain ⟨blk,e6,e7⟩:=e;cases blk with
   |cells w0 cs0=>simp only[cutB,TB.cells.injEq] at e7;obtain ⟨rfl,rfl⟩:=e7;exact cut e6 p hp
   |row i l lv cv=>simp[cutB] at e7
   |mp j st l v=>simp[cutB] at e7
 ·obtain ⟨h1,d1,h2,h3,h4⟩:=yBx (key s) x p h;exact ⟨_,lkP_key (f:=λs=>Classical.choose (key s)) ⟨x,p,h⟩,h4,h1⟩
theorem mvL_ok{n m:Nat}{al0:TA}{U0:TH}{alD0:AL}{σD0:Heap}(R0:Ref al0 U0 alD0 σD0):∀(zs:List (Nat×Nat×Nat)){pre al':TA}{U U':TH}{alD:AL}{σD:Heap},Ext U0 U->Ref (pre++al0) U alD σD->n=pre.length->(∀z∈zs,m<=z.2.2/\z.2.2<U.length)->m<=U.length->mvL n zs (pre++al0) U=some (al',U') ->
  ∃pre' alD' σD',al'=pre'++al0/\StW m alD σD alD' σD'/\Ref (pre'++al0) U' alD' σD'/\Ext U0 U':=by
 intro zs;induction zs with
 |nil=>intro pre al' U U' alD σD he R1 _ _ hm h;simp only[mvL,yAa,yAc] at h;obtain ⟨rfl,rfl⟩:=h;exact ⟨pre,alD,σD,rfl,StW.refl (by rw[R1.hh.len];exact hm),R1,he⟩
 |cons z zs ih=>
  intro pre al' U U' alD σD he R1 hn hz hm h;obtain ⟨b,j,t⟩:=z;simp only[mvL] at h;split at h
  ·rename_i al1 U1 h1;obtain ⟨hz1,hz2⟩:=hz _ (yAq ..);obtain ⟨pre1,alD1,σD1,rfl,e1,s1,R2,x1,len⟩:=mvA_ok R0 he R1 hn hz1 hz2 h1;obtain ⟨pre2,alD2,σD2,e2,s2,R3,x2⟩:=ih (Ext.trans R0.hh he x1) R2 (hn.trans e1.symm) (λz hz'=>by rw[len];exact hz z (yAm _ hz')) (by rw[len];exact hm) h;exact ⟨pre2,alD2,σD2,e2,s1.trans s2,R3,x2⟩
  ·simp at h
theorem mvE_ok{m:Nat}:∀(zs:List (Nat×Nat×Nat)){al al':TA}{U U':TH}{alD:AL}{σD:Heap},Ref al U alD σD->m<=U.length->mvE zs al U=some (al',U') ->
  al'=al/\U'.length=U.length+zs.length/\(∀z∈zs,U.length<=z.2.2/\z.2.2<U'.length)/\∃alD' σD',StW m alD σD alD' σD'/\Ref al U' alD' σD'/\Ext U U':=by
 intro zs;induction zs with
 |nil=>intro al al' U U' alD σD R hm h;simp only[mvE,yAa,yAc] at h;obtain ⟨rfl,rfl⟩:=h;exact ⟨rfl,rfl,by simp,alD,σD,StW.refl (by rw[R.hh.len];exact hm),R,Ext.refl _⟩
 |cons z zs ih=>
  intro al al' U U' alD σD R hm h;obtain ⟨b,j,t⟩:=z;simp only[mvE] at h;split at h
  rotate_left
  ·simp at h
  rename_i hbt hb;have et:=yAi hbt;subst et;split at h
  rotate_left
  ·simp at h
  rename_i i _ _ _ _;split at h
  rotate_left
  ·simp at h
  rename_i al1 U1 h1;have R1:Ref al (U++[.row i [] 0 0]) alD (σD++[.cells []]):=R.heap (R.hh.push (blk:=.row i [] 0 0) (ob:=.cells []) rfl (λw cs e=>by simp at e)) (Ext.push U _);obtain ⟨pre1,alD1,σD1,e0,e1,s1,R2,x1,len⟩:=mvA_ok (pre:=[]) (m:=m) R (Ext.push U _) R1 rfl hm (by simp) h1;have:pre1=[]:=yAJ e1;subst this;rw[xAe] at e0 R2;subst e0;have len:U1.length=U.length+1:=by rw[len];simp
  have x1:Ext U U1:=Ext.trans R.hh (Ext.push U _) x1;obtain ⟨e3,l3,z3,alD2,σD2,s2,R3,x2⟩:=ih R2 (by omega) h;refine ⟨e3,by rw[l3,len,xAd];omega,λz hz=>?_,alD2,σD2,(stw_push (by rw[R.hh.len];exact hm)).trans (s1.trans s2),R3,Ext.trans R.hh x1 x2⟩;rcases yAu.1 hz with rfl | hz
  ·exact ⟨yAo _,by rw[l3,len];show U.length<_;omega⟩
  ·obtain ⟨z4,z5⟩:=z3 z hz;exact ⟨by omega,z5⟩
end
end
end Go.Abs
end
section
namespace Go.Abs
noncomputable section
variable[Gl][Y:Ty]
def jumps(P:Program)(rest:Code)(l:Nat)(Q:Exit->Act->World->Prop):Nat->Act->World->Prop
 |0,_,_=>False
 |k+1,a,w=>rest.wp P (Exit.jump l (jumps P rest l Q k) Q) a w
theorem wp_scope_fuel{P:Program}{Q:Exit->Act->World->Prop}{c rest:Code}{l:Nat}(hf:findLabel c l=some rest){k:Nat}{a:Act}{w:World}(first:c.wp P (Exit.jump l (jumps P rest l Q k) Q) a w):(Code.scope c).wp P Q a w:=by
 intro b ks cs;have hg:gotoIn l (.inScope c::ks)=some (.code rest::.inScope c::ks):=by simp[gotoIn,hf]
 have key:∀k a w,jumps P rest l Q k a w->∃e a' w',Q e a' w'/\Arrives P (lone (b.at a (.code rest::.inScope c::ks)) cs w) b ks cs e a' w':=by
  intro k;induction k with
  |zero=>intro a w h;exact h.elim
  |succ k ih=>
   intro a w h;obtain ⟨e,a₁,w₁,hq,harr⟩:=h b (.inScope c::ks) cs;cases e with
   |normal=>exact ⟨.normal,a₁,w₁,hq,Steps.trans harr (.one step_inScope)⟩
   |exit id=>exact ⟨.exit id,a₁,w₁,hq,λk' hk=>harr k' (by simp[exitTo,hk])⟩
   |goto l'=>obtain ⟨rfl,hJ'⟩:=hq;obtain ⟨e₂,a₂,w₂,hq₂,harr₂⟩:=ih a₁ w₁ hJ';exact ⟨e₂,a₂,w₂,hq₂,.of_steps (harr _ hg) harr₂⟩
   |ret=>exact ⟨_,a₁,w₁,hq,harr⟩
   |panic ch=>exact ⟨_,a₁,w₁,hq,harr⟩
   |outgrown=>exact ⟨_,a₁,w₁,hq,harr⟩
 obtain ⟨e,a₁,w₁,hq,harr⟩:=first b (.inScope c::ks) cs
 cases e with
 |normal=>exact ⟨.normal,a₁,w₁,hq,.head step_scope (Steps.trans harr (.one step_inScope))⟩
 |exit id=>exact ⟨.exit id,a₁,w₁,hq,λk' hk=>.head step_scope (harr k' (by simp[exitTo,hk]))⟩
 |goto l'=>obtain ⟨rfl,hJ'⟩:=hq;obtain ⟨e₂,a₂,w₂,hq₂,harr₂⟩:=key _ a₁ w₁ hJ';exact ⟨e₂,a₂,w₂,hq₂,.of_steps (.head step_scope (harr _ hg)) harr₂⟩
 |ret=>exact ⟨_,a₁,w₁,hq,.of_steps (.one step_scope) harr⟩
 |panic ch=>exact ⟨_,a₁,w₁,hq,.of_steps (.one step_scope) harr⟩
 |outgrown=>exact ⟨_,a₁,w₁,hq,.of_steps (.one step_scope) harr⟩
theorem fl_ok{P:Program}{l:Nat}:∀{b:Code}{a:ACode},zaL P b=some a->(∀r,flA l a=some r->∃rest,findLabel b l=some rest/\zaL P rest=some r)/\(flA l a=none->findLabel b l=none):=by
 intro b;induction b with
 |seq b1 b2 ih1 ih2=>
  intro a h;simp only[zaL] at h;split at h
  ·rename_i a1 a2 h1 h2;simp only[yAa] at h;subst h;obtain ⟨p1,p2⟩:=ih1 h1;obtain ⟨q1,q2⟩:=ih2 h2;simp only[flA,findLabel];cases hf:flA l a1 with
   |some r1=>obtain ⟨rest,e1,e2⟩:=p1 r1 hf;rw[e1];refine ⟨λr hr=>?_,λhn=>by simp at hn⟩;simp only[yAa] at hr;subst hr;exact ⟨_,rfl,by simp only[zaL,e2,h2]⟩
   |none=>rw[p2 hf];exact ⟨q1,q2⟩
  ·simp at h
 |label l'=>
  intro a h;simp only[zaL,yAa] at h;subst h;simp only[flA,findLabel];split
  ·refine ⟨λr hr=>?_,λhn=>by simp at hn⟩;simp only[yAa] at hr;subst hr;exact ⟨_,rfl,rfl⟩
  ·exact ⟨λr hr=>by simp at hr,λ_=>rfl⟩
 |scope b ih=>intro a h;simp only[zaL,yAd] at h;obtain ⟨a1,_,rfl⟩:=h;rcases zc0 a1 with ⟨l',r',_,e⟩ | e <;> rw[e] <;> exact ⟨λr hr=>by simp[flA] at hr,λ_=>rfl⟩
 |region id ops draw=>
  intro a h;have:flA l a=none:=by
   simp only[zaL] at h;split at h
   ·cases draw with
    |false=>simp only[yAh,yAx,yAa] at h;subst h;rfl
    |true=>simp only[if_true] at h;split at h <;> (simp only[yAa] at h;subst h;rfl)
   ·simp only[yAa] at h;subst h;rfl
  exact ⟨λr hr=>by rw[this] at hr;simp at hr,λ_=>rfl⟩
 |cond o b1 b2 ih1 ih2=>
  intro a h;have:flA l a=none:=by simp only[zaL] at h;split at h <;> (simp only[yAa] at h;subst h;rfl)
  exact ⟨λr hr=>by rw[this] at hr;simp at hr,λ_=>rfl⟩
 |block id b ih=>intro a h;simp only[zaL,yAd] at h;obtain ⟨a1,_,rfl⟩:=h;exact ⟨λr hr=>by simp[flA] at hr,λ_=>rfl⟩
 |loop b ih=>intro a h;simp only[zaL,yAd] at h;obtain ⟨a1,_,rfl⟩:=h;exact ⟨λr hr=>by simp[flA] at hr,λ_=>rfl⟩
 |_=>intro a h;simp only[zaL,yAa] at h;subst h;exact ⟨λr hr=>by simp[flA] at hr,λ_=>rfl⟩
section
variable{P:Program}{n:Nat}{al:AL}{U:Heap}{Q:zcX->AL->Heap->Prop}
theorem Sem.lbl{l:Nat}(hQ:Q .normal al U):Sem P (.lbl l) n al U Q:=by
 intro c hc M Fz w act K R A hK;cases c with
 |label l'=>exact wp_label (hK .normal al U act w M Fz hQ rfl R A (Evo.refl R) (yAo _))
 |region id ops draw=>
  simp only[zaL] at hc;split at hc
  ·cases draw with
   |false=>simp at hc
   |true=>simp only[if_true] at hc;split at hc <;> simp at hc
  ·simp at hc
 |seq c1 c2=>simp only[zaL] at hc;split at hc <;> simp at hc
 |cond o c1 c2=>simp only[zaL] at hc;split at hc <;> simp at hc
 |scope b=>simp only[zaL,yAd] at hc;obtain ⟨a1,_,e1⟩:=hc;rcases zc0 a1 with ⟨l,r,_,e⟩ | e <;> rw[e] at e1 <;> simp at e1
 |_=>simp[zaL] at hc
def SemG(P:Program)(r:ACode)(l:Nat)(k:Nat)(n:Nat)(al:AL)(U:Heap)(Q:zcX->AL->Heap->Prop):Prop:=
 ∀ (c : Code), zaL P c = some r -> ∀ (M : Nat -> Option Nat) (Fz : Nat -> Prop) (w : World) (a : Act) (K : Exit -> Act -> World -> Prop), Rel U M Fz w -> AEnv n U M Fz w al a.tmps ->
  (∀x al' U' a' w' M' Fz',Q x al' U'->a'.defers=a.defers->Rel U' M' Fz' w'->AEnv n U' M' Fz' w' al' a'.tmps->Evo U M Fz w U' M' Fz' w'->U.length<=U'.length->K (toE x) a' w')->jumps P c l K k a w
def Jmp(P:Program)(r:ACode)(l:Nat)(k:Nat)(n:Nat)(m:Nat)(Q:zcX->AL->Heap->Prop):zcX->AL->Heap->Prop
 |.exit i,al,U=>(i=2 * l+1/\∃al2 U2,StW m al U al2 U2/\SemG P r l k n al2 U2 Q)∨(i % 2=0/\Q (.exit i) al U)
 |x,al,U=>Q x al U
theorem Jmp.use{r:ACode}{l k:Nat}{c:Code}(hc:zaL P c=some r){M:Nat->Option Nat}{Fz:Nat->Prop}{w:World}{a:Act}{K:Exit->Act->World->Prop}(R:Rel U M Fz w)
  (hK:∀x al' U' a' w' M' Fz',Q x al' U'->a'.defers=a.defers->Rel U' M' Fz' w'->AEnv n U' M' Fz' w' al' a'.tmps->Evo U M Fz w U' M' Fz' w'->U.length<=U'.length->K (toE x) a' w')
  {x:zcX} {al1:AL} {U1:Heap} {a':Act} {w':World} {M':Nat->Option Nat} {Fz':Nat->Prop} (hQ:Jmp P r l k n U.length Q x al1 U1) (hd:a'.defers=a.defers) (R':Rel U1 M' Fz' w') (A':AEnv n U1 M' Fz' w' al1 a'.tmps) (E':Evo U M Fz w U1 M' Fz' w') (hl:U.length<=U1.length) :
  Exit.jump l (jumps P c l K k) K (toE x) a' w':=by
 cases x with
 |normal=>exact hK .normal al1 U1 a' w' M' Fz' hQ hd R' A' E' hl
 |ret=>exact hK .ret al1 U1 a' w' M' Fz' hQ hd R' A' E' hl
 |exit i=>
  rcases hQ with ⟨rfl,al2,U2,hw,hs⟩ | ⟨he,hq⟩
  ·rw[toE_goto];obtain ⟨M2,F2,R2,A2,E2,l2⟩:=hw.use R R' A' E' (yAo _);exact ⟨rfl,hs c hc M2 F2 w' a' K R2 A2 λx al3 U3 a3 w3 M3 Fz3 hQ3 hd3 R3 A3 E3 hl3=>hK x al3 U3 a3 w3 M3 Fz3 hQ3 (by rw[hd3,hd]) R3 A3 (E2.trans E3 l2) (yAA l2 hl3)⟩
  ·have:=hK (.exit i) al1 U1 a' w' M' Fz' hq hd R' A' E' hl;rw[toE_other he] at this ⊢;exact this
theorem SemG.succ{r:ACode}{l k:Nat}(h:Sem P r n al U (Jmp P r l k n U.length Q)):SemG P r l (k+1) n al U Q:=by intro c hc M Fz w a K R A hK;exact h c hc M Fz w a _ R A λx al1 U1 a' w' M' Fz' hQ hd R' A' E' hl=>Jmp.use hc R hK hQ hd R' A' E' hl
theorem Sem.scp{l:Nat}{a r:ACode}(k:Nat)(h:Sem P a n al U (Jmp P r l k n U.length Q)):Sem P (.scp l a r) n al U Q:=by
 intro c hc M Fz w act K R A hK;cases c with
 |scope b=>
  simp only[zaL,yAd] at hc;obtain ⟨a1,h1,e1⟩:=hc;rcases zc0 a1 with ⟨l',r',hr,e⟩ | e
  ·rw[e] at e1;simp only[ACode.scp.injEq] at e1;obtain ⟨rfl,rfl,rfl⟩:=e1;obtain ⟨rest,f1,f2⟩:=(fl_ok h1).1 _ hr;exact wp_scope_fuel f1 (k:=k) (h b h1 M Fz w act _ R A λx al1 U1 a' w' M' Fz' hQ hd R' A' E' hl=>Jmp.use f2 R hK hQ hd R' A' E' hl)
  ·rw[e] at e1;simp at e1
 |region id ops draw=>
  simp only[zaL] at hc;split at hc
  ·cases draw with
   |false=>simp at hc
   |true=>simp only[if_true] at hc;split at hc <;> simp at hc
  ·simp at hc
 |seq c1 c2=>simp only[zaL] at hc;split at hc <;> simp at hc
 |cond o c1 c2=>simp only[zaL] at hc;split at hc <;> simp at hc
 |_=>simp[zaL] at hc
end
end
end Go.Abs
end
section
namespace Go.Abs
noncomputable section
variable[Gl][Y:Ty]
def Post{R:Type}(al:TA)(U:TH)(K:KC R)(r:R):zcX->AL->Heap->Prop:=λx alD' σD'=>∃al' U',Ref al' U' alD' σD'/\(∃pre,al'=pre++al)/\Ext U U'/\K x al' U'=some r
theorem regsOk_ok{hs:List (Nat×Nat)}{md:List Nat}{al pre:TA}{U:TH}(h:regsOk hs md al U (pre++al)=true):∀y∈pre,y.1∈md∨∃b i l lv cv,(y.1,b)∈hs/\U[b]? = some (.row i l lv cv):=by
 intro y hy;unfold regsOk at h;rw[yAC,Nat.add_sub_cancel,List.take_left,yAp] at h;have:=h y hy;rw[yAt,List.any_eq_true,List.any_eq_true] at this;rcases this with ⟨z,hz,e⟩ | ⟨z,hz,e⟩
 ·have:=yAi e;rw[this];exact .inl hz
 ·simp only[yAj] at e;have e1:=yAi e.1;have e2:=e.2;unfold rowAt at e2;split at e2
  ·rename_i i l lv cv hb;exact .inr ⟨z.2,i,l,lv,cv,by rw[<-e1];exact hz,hb⟩
  ·simp at e2
theorem absJ_ok{h:JH}{md:List Nat}{al al1:TA}{U U1:TH}{x:tupP h.pl}(e:absJ h md al U al1 U1=some x):regsOk h.hs md al U al1=true/\heapSame (h.pl++zpl h.zs) 0 U U1=true/\hsOk al1 U1 h.hs=true/\zsOk U.length U1 h.zs=true/\rdPs al1 U1 h.pl=some x:=by
 unfold absJ at e;split at e
 ·rename_i hc;simp only[yAj] at hc;exact ⟨hc.1,hc.2.1,hc.2.2.1,hc.2.2.2,e⟩
 ·simp at e
theorem row_back{U U2:TH}(he:Ext U U2)(hl:U2.length=U.length){b i lv cv:Nat}{l:List (TT i)}(h:U2[b]? = some (.row i l lv cv)):∃i l lv cv,U[b]? = some (.row i l lv cv):=by
 have hlt:b<U.length:=by rw[<-hl];exact (yAb.1 h).1
 obtain ⟨blk2,e2,be⟩:=he b _ (yAg hlt);rw[h] at e2;simp only[yAa] at e2;subst e2;have e0:U[b]? = some U[b]:=yAg hlt;rw[e0];cases hx:U[b] with
 |row i l lv cv=>exact ⟨i,l,lv,cv,rfl⟩
 |cells w cs=>rw[hx] at be;obtain ⟨_,_,e,_⟩:=be;simp at e
 |mp j st l v=>rw[hx] at be;obtain ⟨_,_,_,_,e,_⟩:=be;simp at e
theorem putX_pre(h:JH)(md:List Nat)(al:TA)(U:TH)(x:tupP h.pl):∃pre,putX h md al U x=pre++al/\∀y∈pre,(∃c,Pl.r y.1 c∈h.pl)∨(∃b i l lv cv,(y.1,b)∈h.hs/\(putZ h md al U x)[b]? = some (.row i l lv cv))∨y.1∈md:=by
 obtain ⟨preS,es,hS1,_⟩:=shade_pre md al;obtain ⟨preH,eh,hH1,_⟩:=putH_pre (putQs h.pl x U) h.hs (shade md al);obtain ⟨preP,ep,hP1⟩:=putPs_pre h.pl x (putH (putQs h.pl x U) h.hs (shade md al));refine ⟨preP++(preH++preS),by unfold putX;rw[ep,eh,es,yA3,yA3],λy hy=>?_⟩;rcases yAE.1 hy with hy | hy
 ·exact .inl (hP1 y hy)
 ·rcases yAE.1 hy with hy | hy
  ·obtain ⟨b,i,l,lv,cv,e1,e2,_⟩:=hH1 y hy;exact .inr (.inl ⟨b,i,l,lv,cv,e1,((putZs_ok h.zs (putQs h.pl x U)).row b _ _ _ _).1 e2⟩)
  ·exact .inr (.inr (hS1 y hy).1)
theorem putX_key{h:JH}{md:List Nat}{al:TA}{U:TH}{x:tupP h.pl}(he:Ext U (putZ h md al U x))(hl:(putZ h md al U x).length=U.length){t:Nat}{q:RV×Nat}(h1:t∉md)(h2:∀c,Pl.r t c∉h.pl)
  (h3:∀b,(t,b)∈h.hs->∀i l lv cv,U[b]?≠some (.row i l lv cv)) (h4:lkP t al=some q):lkP t (putX h md al U x)=some q:=by
 obtain ⟨pre,e,hp⟩:=putX_pre h md al U x;rw[e];refine lkP_skip (λy hy e'=>?_) h4;rcases hp y hy with ⟨c,hc⟩ | ⟨b,i,l,lv,cv,hb,hr⟩ | hm
 ·rw[e'] at hc;exact h2 c hc
 ·rw[e'] at hb;obtain ⟨i,l,lv,cv,e2⟩:=row_back he hl hr;exact h3 b hb i l lv cv e2
 ·rw[e'] at hm;exact h1 hm
theorem Sem.ownC{P:Program}{n:Nat}{ac:ACode}{Q:zcX->AL->Heap->Prop}{al:AL}{U:Heap}(b j esz:Nat)(cs:List D)(hb:U[b]? = some (.cells cs))(hj:cs[j]? = some (.c (.lit (.slice none 0 0))))(h:Sem P ac n al (U.set b (.cells (cs.set j (.sl U.length 0 0 esz 0)))++[.cells []]) Q):Sem P ac n al U Q:=by
 intro c hc M Fz w a K R A hK;have hlt:=(yAb.1 hb).1;have at':∀(i:Nat) ob,U[i]? = some ob->∃ob',(U.set b (.cells (cs.set j (.sl U.length 0 0 esz 0)))++[.cells []])[i]? = some ob'/\ob'.sz=ob.sz:=λi ob hi=>by
  have hi':=(yAb.1 hi).1;rw[yAr (by rw[yAI];exact hi')];by_cases e:i=b
  ·subst e;rw[hb] at hi;simp only[yAa] at hi;subst hi;exact ⟨_,zaU hb,by simp[Ob.sz]⟩
  ·exact ⟨ob,by rw[zay e];exact hi,rfl⟩
 have hmono:∀{d v},V U M Fz w d v->V (U.set b (.cells (cs.set j (.sl U.length 0 0 esz 0)))++[.cells []]) M Fz w d v:=λh=>h.sub at' (λ_ _ h=>h) (λc h=>⟨h,rfl⟩) (λc arr T fr h=>⟨arr,h,rfl⟩);have obm:∀{ob o},ObRel U M Fz w ob o->ObRel (U.set b (.cells (cs.set j (.sl U.length 0 0 esz 0)))++[.cells []]) M Fz w ob o:=λ{ob o} h4=>by
  cases ob with
  |cells cs=>obtain ⟨arr,T,ho,hl,hv⟩:=h4;exact ⟨arr,T,ho,hl,λi d v x y=>⟨hmono (hv i d v x y).1,(hv i d v x y).2⟩⟩
  |map es clock=>obtain ⟨arr,ho,hl,hv⟩:=h4;exact ⟨arr,ho,hl,λi k d n e x y=>let ⟨p,q,r⟩:=hv i k d n e x y;⟨p,q,hmono r⟩⟩
  |gone n=>exact h4.elim
 have R1:Rel (U.set b (.cells (cs.set j (.sl U.length 0 0 esz 0)))++[.cells []]) M Fz w:=by
  refine ⟨λb' c h=>?_,R.inj,R.fz,R.gl⟩;obtain ⟨h1,ob,o,h2,h3,h4⟩:=R.blk b' c h;have hi':=(yAb.1 h2).1;by_cases e:b'=b
  ·subst e;rw[hb] at h2;simp only[yAa] at h2;subst h2;refine ⟨h1,_,o,by rw[yAr (by rw[yAI];exact hi')];exact zaU hb,h3,?_⟩;obtain ⟨arr,T,ho,hl,hv⟩:=h4;refine ⟨arr,T,ho,by rw[yAI];exact hl,λi d v x y=>?_⟩;by_cases ej:j=i
   ·subst ej;rw[yAK,if_pos rfl] at x;split at x
    ·simp only[yAa] at x;subst x;obtain ⟨v1,v2⟩:=hv j _ v hj y;refine ⟨?_,v2⟩;rw[v1.lit_inv];exact .sl none 0 0 (by simp) (.cells []) (by rw[yA0 (by rw[yAI];exact yAo _),yAI,yBV];rfl) (by simp[Ob.sz]) (λ_=>.inl ⟨rfl,rfl,rfl,rfl,rfl,rfl⟩)
    ·simp at x
   ·rw[yAD ej] at x;exact ⟨hmono (hv i d v x y).1,(hv i d v x y).2⟩
  ·exact ⟨h1,ob,o,by rw[yAr (by rw[yAI];exact hi'),zay e];exact h2,h3,obm h4⟩
 have E1:Evo U M Fz w (U.set b (.cells (cs.set j (.sl U.length 0 0 esz 0)))++[.cells []]) M Fz w:={
  size:=yAo _
  frame:=λ_ _ _=>rfl
  ran:=λb c h=>.inl ⟨b,h⟩
  fz:=λc h=>⟨h,rfl⟩
  fz':=λc h=>.inl h
  shp:=λc arr T fr h=>⟨arr,h,rfl⟩
  keep:=λb ob h=>let ⟨ob',h1,h2⟩:=at' b ob h;⟨ob',h1,Nat.le_of_eq h2.symm,λ_=>rfl⟩
  out:=⟨rfl,rfl,rfl⟩ }
 have A1:AEnv n (U.set b (.cells (cs.set j (.sl U.length 0 0 esz 0)))++[.cells []]) M Fz w al a.tmps:=⟨A.1,λs d hs=>let ⟨v,h1,h2⟩:=A.2 s d hs;⟨v,h1,hmono h2⟩⟩;exact h c hc M Fz w a K R1 A1 λx al' U' a' w' M' Fz' hQ hd R' A' E' hl=>hK x al' U' a' w' M' Fz' hQ hd R' A' (E1.trans E' (by simp)) (by simp at hl;omega)
theorem ownz_ok{P:Program}{n:Nat}{ac:ACode}{Q:zcX->AL->Heap->Prop}:∀(os:List (Nat×Nat))(al al':TA)(U U':TH)(alD:AL)(σD:Heap),ownz os al U=some (al',U')->Ref al U alD σD ->
  (∃pre,al'=pre++al)/\Ext U U'/\((∀alD' σD',Ref al' U' alD' σD'->Sem P ac n alD' σD' Q)->Sem P ac n alD σD Q):=by
 intro os;induction os with
 |nil=>intro al al' U U' alD σD h Rf;simp only[ownz,yAa,yAc] at h;obtain ⟨rfl,rfl⟩:=h;exact ⟨⟨[],rfl⟩,Ext.refl U,λhs=>hs alD σD Rf⟩
 |cons o os ih=>
  intro al al' U U' alD σD h Rf;obtain ⟨t,i⟩:=o;simp only[ownz] at h;split at h
  ·
   generalize (t-1048576) / 1024=b at h;generalize (t-1048576) % 1024=j at h;split at h
   ·rename_i w cs hb;split at h
    ·rename_i v0 hj;obtain ⟨ds,hd,_,_,he⟩:=Rf.hh.cells hb;have hj':ds[j]? = some (.c (.lit (.slice none 0 0))):=by rw[he,yAl,hj];rfl
     have hbe:BE (.cells w cs) (.cells (w+1) (cs.set j (w+1,.own i U.length 0 0))):=⟨w+1,_,rfl,by omega,by simp,λk v x v1 x1 e e1=>by
      by_cases ek:j=k
      ·subst ek;rw[yAK,if_pos rfl] at e1;split at e1
       ·simp only[yAa,yAc] at e1;exact .inr (by omega)
       ·simp at e1
      ·rw[yAD ek,e] at e1;simp only[yAa,yAc] at e1;exact .inl ⟨e1.1.symm,e1.2.symm⟩⟩
     have x1:Ext U (U.set b (.cells (w+1) (cs.set j (w+1,.own i U.length 0 0)))++[.row i [] 0 0]):=λb' blk' e=>by obtain ⟨blk1,e1,e2⟩:=Ext.set hb hbe b' blk' e;exact ⟨blk1,by rw[yAr (yAb.1 e1).1];exact e1,e2⟩
     have R1:Ref al (U.set b (.cells (w+1) (cs.set j (w+1,.own i U.length 0 0)))++[.row i [] 0 0]) alD (σD.set b (.cells (ds.set j (.sl σD.length 0 0 (esz i) 0)))++[.cells []]):=by
      refine ⟨⟨by simp[Rf.hh.len],λb' blk' e=>?_,λb' w' cs' e p hp=>?_⟩,λt x p h=>?_⟩
      ·rcases yAB b' U.length with h1 | h1
       ·rw[yAr (by rw[yAI];exact h1)] at e;rw[yAr (by rw[yAI,Rf.hh.len];exact h1)];by_cases eb:b'=b
        ·subst eb;rw[zaU hb] at e;simp only[yAa] at e;subst e;refine ⟨_,zaU hd,?_⟩;show _=TB.er _;simp only[TB.er,Ob.cells.injEq];rw[List.map_set,he,Rf.hh.len];simp[TC.er,OS]
        ·rw[zay eb] at e ⊢;exact Rf.hh.hp b' blk' e
       ·rw[yA0 (by rw[yAI];exact h1),yAI] at e;rw[yA0 (by rw[yAI,Rf.hh.len];exact h1),yAI,Rf.hh.len];have:b'-U.length=0:=by have:=(yAb.1 e).1;simp at this;omega
        rw[this] at e ⊢;simp only[List.getElem?_cons_zero,yAa] at e;subst e;exact ⟨_,rfl,rfl⟩
      ·rcases yAB b' U.length with h1 | h1
       ·rw[yAr (by rw[yAI];exact h1)] at e;by_cases eb:b'=b
        ·subst eb;rw[zaU hb] at e;simp only[yAa,TB.cells.injEq] at e;obtain ⟨rfl,rfl⟩:=e;rcases yBn hp with hp | rfl
         ·obtain ⟨g1,g2⟩:=Rf.hh.hg b' w cs hb p hp;exact ⟨g1.mono x1,by omega⟩
         ·refine ⟨⟨.row i [] 0 0,?_,λj l lv cv e=>?_⟩,yAo _⟩
          ·rw[yA0 (by rw[yAI];exact yAo _),yAI,yBV];rfl
          ·simp only[TB.row.injEq] at e;obtain ⟨rfl,e9,rfl,rfl⟩:=e;cases e9;exact ⟨yAo _,λ_=>⟨rfl,rfl⟩⟩
        ·rw[zay eb] at e;obtain ⟨g1,g2⟩:=Rf.hh.hg b' w' cs' e p hp;exact ⟨g1.mono x1,g2⟩
       ·rw[yA0 (by rw[yAI];exact h1),yAI] at e;have:b'-U.length=0:=by have:=(yAb.1 e).1;simp at this;omega
        rw[this] at e;simp at e
      ·obtain ⟨d,h1,h2,h3⟩:=Rf.rg t x p h;exact ⟨d,h1,h2,h3.mono x1 []⟩
     obtain ⟨⟨pre,e1⟩,e2,e3⟩:=ih _ _ _ _ _ _ h R1;refine ⟨⟨pre,e1⟩,Ext.trans Rf.hh x1 e2,λhs=>?_⟩;exact Sem.ownC b j (esz i) ds hd hj' (e3 hs)
    ·exact ih _ _ _ _ _ _ h Rf
    ·simp at h
   ·simp at h
  split at h
  ·rename_i ht;obtain ⟨p,hp⟩:=lkT_some ht;obtain ⟨d,h1,h2,_⟩:=Rf.rg t _ p hp;have:=RT.c1 (by simp) h2;subst this;have R1:Ref ((t,.v (.c (.own i U.length 0 0)))::al) (U++[.row i [] 0 0]) ((t,OS (esz i) σD.length 0)::alD) (σD++[.cells []]):=
    Rf.set (Rf.hh.push (blk:=.row i [] 0 0) (ob:=.cells []) rfl (λw cs e=>by simp at e)) (Ext.push U _) (Or.inr (by rw[Rf.hh.len];rfl)) (own_good (b:=0) rfl)
   obtain ⟨⟨pre,e1⟩,e2,e3⟩:=ih _ _ _ _ _ _ h R1;refine ⟨⟨pre++[(t,.v (.c (.own i U.length 0 0)))],by rw[e1,yA3];rfl⟩,Ext.trans Rf.hh (Ext.push U _) e2,λhs=>?_⟩;exact Sem.own t (esz i) h1 (d:=OS (esz i) σD.length 0) (by simp[OS]) rfl (e3 hs)
  ·exact ih _ _ _ _ _ _ h Rf
  ·simp at h
theorem Sem.drwCQ{P:Program}{n:Nat}{al:AL}{U:Heap}{Q:zcX->AL->Heap->Prop}{orc:Orc2}{os:List AOper}{k:Nat}{bef:List Nat}{p:Nat}(hmix:P.follows .mixedOrders=true)(O:zbp P orc)
  (h:TrQ P orc (lastCall os) os n al U λal' U' is=>(pairsOk bef is&&tailOk bef p (lastCall os) os.length&&Nat.ble p (lastCall os))=true/\Q .normal al' U'):Sem P (.drw os bef k p) n al U Q:=by
 obtain ⟨al1,U1,is,h,hp,hQ⟩:=h;intro c hc M Fz w a K R A hK;obtain ⟨e',h1,h2⟩:=h _ A.toEnv.2;have det:∀m r,evDrw P orc os bef p m (zeu n al) U=some r->r=(e',U1,is.flatMap (·.wr)):=by
  intro m r hr;unfold evDrw at hr;split at hr
  ·rename_i e2 U2 is2 h3;have:=evTr_det _ _ _ _ _ _ _ h3 h1;simp only[yAc] at this;obtain ⟨rfl,rfl,rfl⟩:=this;split at hr
   ·simp only[yAa] at hr;exact hr.symm
   ·simp at hr
  ·simp at hr
 have h3:evDrw P orc os bef p (lastCall os) (zeu n al) U=some (e',U1,is.flatMap (·.wr)):=by unfold evDrw;rw[h1];dsimp only;rw[if_pos hp]
 have h4:evC P orc 1 (.drw os bef k p) (zeu n al) U []=some (.normal,e',U1,is.flatMap (·.wr)++[]):=by
  simp only[evC];split
  ·rename_i r e2 U2 w2 hr;have:=det _ _ hr;simp only[yAc] at this;obtain ⟨rfl,rfl,rfl⟩:=this;rfl
  ·rw[h3]
 have:Sem P (.drw os bef k p) n al U Q:=Sem.of_ev hmix O (k:=1) (wr:=[]) (e:=zeu n al) (e':=e') (x:=.normal) (U':=U1) h4 rfl h2 hQ;exact this c hc M Fz w a K R A hK
theorem tC_ok(g:Cfg)(mix:g.P.follows .mixedOrders=true)(O:OrcOk g.P (zc2 (zdG g.S)))(hI:InlOk g){R:Type}:∀(ac:ACode)(q:Nat)(al:TA)(U:TH)(K:KC R)(r:R)(alD:AL)(σD:Heap),tC g ac q al U K=some r->Ref al U alD σD ->
  Sem g.P ac g.n alD σD (Post al U K r):=by
 intro ac;induction ac with
 |skip=>intro q al U K r alD σD h Rf;exact Sem.skip mix ⟨al,U,Rf,⟨[],rfl⟩,Ext.refl U,h⟩
 |exit id=>intro q al U K r alD σD h Rf;exact Sem.exit mix ⟨al,U,Rf,⟨[],rfl⟩,Ext.refl U,h⟩
 |ret=>intro q al U K r alD σD h Rf;exact Sem.ret mix ⟨al,U,Rf,⟨[],rfl⟩,Ext.refl U,h⟩
 |stuck=>intro q al U K r alD σD h Rf;simp[tC] at h
 |lbl l=>intro q al U K r alD σD h Rf;exact Sem.lbl ⟨al,U,Rf,⟨[],rfl⟩,Ext.refl U,h⟩
 |scp l a rr iha ihr=>
  intro q al U K r alD σD h Rf;have ev:∀{i:Nat},Nat.beq (i % 2) 0=true->i % 2=0:=λh=>yAi h;simp only[tC] at h;split at h
  ·
   refine Sem.scp 1 ((iha _ _ _ _ _ alD σD h Rf).monoW λex alD1 σD1 hP=>.inl ?_);obtain ⟨al1,U1,h1,⟨pre,e1⟩,h3,h4⟩:=hP;cases ex with
   |normal=>exact ⟨al1,U1,h1,⟨pre,e1⟩,h3,h4⟩
   |ret=>exact ⟨al1,U1,h1,⟨pre,e1⟩,h3,h4⟩
   |exit i=>
    dsimp only at h4;split at h4
    ·rename_i hi;refine .inl ⟨yAi hi,alD1,σD1,StW.refl (by rw[Rf.hh.len,h1.hh.len];exact h3.len),SemG.succ ((ihr _ _ _ _ _ alD1 σD1 h4 h1).monoW λex alD2 σD2 hP=>.inl ?_)⟩;obtain ⟨al2,U2,g1,⟨pre2,e2⟩,g3,g4⟩:=hP;have fin:∀{ex:zcX},K ex al2 U2=some r->Post al U K r ex alD2 σD2:=λg4=>⟨al2,U2,g1,⟨pre2++pre,by rw[e2,e1,yA3]⟩,Ext.trans Rf.hh h3 g3,g4⟩;cases ex with
     |normal=>exact fin g4
     |ret=>exact fin g4
     |exit i=>
      dsimp only at g4;split at g4
      ·rename_i he;exact .inr ⟨ev he,fin g4⟩
      ·simp at g4
    ·split at h4
     ·rename_i he;exact .inr ⟨ev he,al1,U1,h1,⟨pre,e1⟩,h3,h4⟩
     ·simp at h4
  ·
   rename_i hj hJ;have key:∀(k:Nat)(x:tupP hj.pl)(alD2:AL)(σD2:Heap),Ext U (putZ hj (zbX a++zbX rr) al U x)->HS (hj.pl++zpl hj.zs) U (putZ hj (zbX a++zbX rr) al U x)->(putZ hj (zbX a++zbX rr) al U x).length=U.length->Ref (putX hj (zbX a++zbX rr) al U x) (putZ hj (zbX a++zbX rr) al U x) alD2 σD2 ->
     lpX (λrec x=>tC g rr (2 * q+1) (putX hj (zbX a++zbX rr) al U x) (putZ hj (zbX a++zbX rr) al U x) λex al1 U1=>match ex with
      |.exit i => match Nat.beq i (2 * l + 1) with
       |true=>match absF hj (zbX a++zbX rr) (putX hj (zbX a++zbX rr) al U x) (putZ hj (zbX a++zbX rr) al U x) al1 U1 with | some x'=>rec x' | none=>none
       |false=>match Nat.beq (i % 2) 0 with | true=>K (.exit i) al1 U1 | false=>none
      |ex=>K ex al1 U1) k x=some r->SemG g.P rr l k g.n alD2 σD2 (Post al U K r):=by
    intro k;induction k with
    |zero=>intro x alD2 σD2 _ _ _ _ h;simp[lpX] at h
    |succ k ihk=>
     intro x alD2 σD2 x1 x2 x3 x4 h;have B:=ihr _ _ _ _ _ alD2 σD2 (show tC g rr (2 * q+1) (putX hj (zbX a++zbX rr) al U x) (putZ hj (zbX a++zbX rr) al U x) _=some r from h) x4;refine SemG.succ (B.monoW λex alD3 σD3 hP=>.inl ?_);obtain ⟨al1,U1,h1,⟨pre,rfl⟩,h3,h4⟩:=hP;obtain ⟨preA,eA,_⟩:=putX_pre hj (zbX a++zbX rr) al U x;have fin:∀{ex:zcX},K ex (pre++putX hj (zbX a++zbX rr) al U x) U1=some r->Post al U K r ex alD3 σD3:=λh4=>⟨_,U1,h1,⟨pre++preA,by rw[eA,yA3]⟩,Ext.trans Rf.hh x1 h3,h4⟩;cases ex with
     |normal=>exact fin h4
     |ret=>exact fin h4
     |exit i=>
      dsimp only at h4;split at h4
      ·rename_i hi;split at h4
       ·rename_i xv hx;obtain ⟨pre2,U2,alD5,σD5,w1,h1',h3',hx⟩:=absF_ok x4 h1 h3 hx;obtain ⟨d1,d2,d3,d5,d4⟩:=absJ_ok hx;have hkey:=regsOk_ok d1;obtain ⟨f1,f2,f3,alD4,σD4,f4,f5⟩:=join_ok (md:=zbX a++zbX rr) Rf h1' (λt q h=>by rw[eA,<-yA3];exact lkP_dom h)
         (λt q m1 m2 m3 h=>lkP_skip (λy hy e=>(hkey y hy).elim (λz=>m1 (e▸z)) λ⟨b,i,l,lv,cv,z1,z2⟩=>let ⟨i,l,lv,cv,z3⟩:=row_back x1 x3 z2;m3 b (e▸z1) i l lv cv z3) (putX_key x1 x3 m1 m2 m3 h)) (x2.trans (zc4 x4.hh d2 h3')) d3 (by rw[x3] at d5;exact d5) d4
        refine .inl ⟨yAi hi,alD4,σD4,?_,ihk xv alD4 σD4 f1 f2 f3 f5 h4⟩;rw[x4.hh.len,x3];rw[x3] at w1;exact w1.trans f4
       ·simp at h4
      ·split at h4
       ·rename_i he;exact .inr ⟨ev he,fin h4⟩
       ·simp at h4
   refine Sem.scp g.N ((iha _ _ _ _ _ alD σD h Rf).monoW λex alD1 σD1 hP=>.inl ?_);obtain ⟨al1,U1,h1,⟨pre,rfl⟩,h3,h4⟩:=hP;have fin:∀{ex:zcX},K ex (pre++al) U1=some r->Post al U K r ex alD1 σD1:=λh4=>⟨_,U1,h1,⟨pre,rfl⟩,h3,h4⟩;cases ex with
   |normal=>exact fin h4
   |ret=>exact fin h4
   |exit i=>
    dsimp only at h4;split at h4
    ·rename_i hi;split at h4
     ·simp at h4
     ·rename_i x0 hx;obtain ⟨pre2,U2,alD5,σD5,w1,h1',h3',hx⟩:=absF_ok Rf h1 h3 hx;obtain ⟨d1,d2,d3,d5,d4⟩:=absJ_ok hx;have hkey:=regsOk_ok d1;obtain ⟨f1,f2,f3,alD4,σD4,f4,f5⟩:=join_ok (md:=zbX a++zbX rr) Rf h1' (λt q h=>lkP_dom h)
       (λt q m1 _ m3 h=>lkP_skip (λy hy e=>(hkey y hy).elim (λz=>m1 (e▸z)) λ⟨b,i,l,lv,cv,z1,z2⟩=>m3 b (e▸z1) i l lv cv z2) h) (zc4 Rf.hh d2 h3') d3 d5 d4
      refine .inl ⟨yAi hi,alD4,σD4,?_,key g.N x0 alD4 σD4 f1 f2 f3 f5 h4⟩;rw[Rf.hh.len];exact w1.trans f4
    ·split at h4
     ·rename_i he;exact .inr ⟨ev he,fin h4⟩
     ·simp at h4
 |reg os=>
  intro q al U K r alD σD h Rf;simp only[tC] at h;split at h
  ·rename_i hU;obtain ⟨oz,o1,_,o3⟩:=tOps_ok g q O hI 1000 0 os [] al U _ r alD σD h (inlU_of hU) Rf (λp b hk=>by simp[knk] at hk) (λp b hk=>by simp[knk] at hk);refine Sem.regQ mix o1 (o3.mono λa s i hA=>?_);obtain ⟨al',U',is,h1,h2,h3,_,h4⟩:=hA;exact ⟨al',U',h1,h2,h3,h4⟩
  ·simp at h
 |drw os bef k p=>
  intro q al U K r alD σD h Rf;simp only[tC] at h;split at h
  ·simp at h
  rename_i hU;split at h
  ·obtain ⟨oz,o1,_,o3⟩:=tOps_ok g q O hI 1000 os.length os [] al U _ r alD σD h (inlU_of hU) Rf (λp b hk=>by simp[knk] at hk) (λp b hk=>by simp[knk] at hk);refine Sem.drwNQ mix o1 (o3.mono λa s i hA=>?_);obtain ⟨al',U',is,h1,h2,h3,h5,h4⟩:=hA;dsimp only at h4;split at h4
   ·rename_i hc;simp only[yAj] at hc ⊢;exact ⟨⟨⟨pairsOk_mono h5 hc.1.1,hc.1.2⟩,hc.2⟩,al',U',h1,h2,h3,h4⟩
   ·simp at h4
  split at h
  ·rename_i pi _ n0 hl;split at h
   ·rename_i hc;obtain ⟨oz,o1,_,o3⟩:=tOps_ok g q O hI 1000 n0 (permL pi os) [] al U _ r alD σD h (inlU_of hc) Rf (λp b hk=>by simp[knk] at hk) (λp b hk=>by simp[knk] at hk);refine Sem.drwG mix o1 hl (o3.mono λa s i hA=>?_);obtain ⟨al',U',is,h1,h2,h3,h5,h4⟩:=hA;dsimp only at h4;split at h4
    ·rename_i hc;exact ⟨ghOk_mono h5 hc,al',U',h1,h2,h3,h4⟩
    ·simp at h4
   ·simp at h
  split at h
  ·obtain ⟨oz,o1,_,o3⟩:=tOps_ok g q O hI 1000 (lastCall os) os [] al U _ r alD σD h (inlU_of hU) Rf (λp b hk=>by simp[knk] at hk) (λp b hk=>by simp[knk] at hk);refine Sem.drwCQ mix o1 (o3.mono λa s i hA=>?_);obtain ⟨al',U',is,h1,h2,h3,h5,h4⟩:=hA;dsimp only at h4;split at h4
   ·rename_i hc;simp only[yAj] at hc ⊢;exact ⟨⟨⟨pairsOk_mono h5 hc.1.1,hc.1.2⟩,hc.2⟩,al',U',h1,h2,h3,h4⟩
   ·simp at h4
  ·obtain ⟨oz,o1,_,o3⟩:=tOps_ok g q O hI 1000 k os [] al U _ r alD σD h (inlU_of hU) Rf (λp b hk=>by simp[knk] at hk) (λp b hk=>by simp[knk] at hk);refine Sem.drwQ mix o1 (o3.mono λa s i hA=>?_);obtain ⟨al',U',is,h1,h2,h3,h5,h4⟩:=hA;dsimp only at h4;split at h4
   ·rename_i hc;simp only[yAj] at hc ⊢;exact ⟨⟨⟨pairsOk_mono h5 hc.1.1,hc.1.2⟩,hc.2⟩,al',U',h1,h2,h3,h4⟩
   ·simp at h4
 |seq a b iha ihb=>
  intro q al U K r alD σD h Rf;simp only[tC] at h;split at h
  ·
   have A:=iha _ _ _ _ _ alD σD h Rf;refine Sem.seqW (A.monoW λx alD' σD' hP=>.inl ?_);obtain ⟨al1,U1,h1,⟨pre,rfl⟩,h3,h4⟩:=hP;cases x with
   |normal=>refine .inl ((ihb _ _ _ _ _ alD' σD' h4 h1).monoW λx alD2 σD2 hP=>.inl ?_);obtain ⟨al2,U2,g1,⟨pre2,rfl⟩,g3,g4⟩:=hP;exact ⟨_,U2,g1,⟨pre2++pre,by rw[yA3]⟩,Ext.trans Rf.hh h3 g3,g4⟩
   |exit i=>exact ⟨_,U1,h1,⟨pre,rfl⟩,h3,h4⟩
   |ret=>exact ⟨_,U1,h1,⟨pre,rfl⟩,h3,h4⟩
  ·
   rename_i hj hJ;split at h
   ·simp at h
   rename_i alz σz hz;obtain ⟨⟨preZ,eZ⟩,xZ,sZ⟩:=ownz_ok (P:=g.P) (n:=g.n) (ac:=.seq a b) (Q:=Post al U K r) hj.os al alz U σz alD σD hz Rf;refine sZ λalDz σDz Rfz=>?_;have back:∀{x:zcX}{alD':AL}{σD':Heap},Post alz σz K r x alD' σD'->Post al U K r x alD' σD':=λ⟨al1,U1,h1,⟨pre,e⟩,h3,h4⟩=>⟨al1,U1,h1,⟨pre++preZ,by rw[e,eZ,yA3]⟩,Ext.trans Rf.hh xZ h3,h4⟩;refine Sem.monoW ?_ (λx al' U' hP=>.inl (back hP));clear back sZ xZ eZ;replace Rf:=Rfz;have A:=iha _ _ _ _ _ alDz σDz (show tC g a (2 * q) alz σz _=some r from h) Rf;refine Sem.seqW (A.monoW λx alD' σD' hP=>.inl ?_);obtain ⟨al1,U1,h1,⟨pre,rfl⟩,h3,h4⟩:=hP;cases x with
   |normal=>
    dsimp only at h4;split at h4
    ·rename_i xv hx;obtain ⟨pre,U1,alD',σD',w1,h1,h3,hx⟩:=absF_ok Rf h1 h3 hx;obtain ⟨c1,c2,c3,c5,c4⟩:=absJ_ok hx;have hkey:=regsOk_ok c1;obtain ⟨e1,_,e3,alD2,σD2,e4,e5⟩:=join_ok (md:=zbX a) Rf h1 (λt q h=>lkP_dom h) (λt q hm _ m3 h=>lkP_skip (λy hy e=>(hkey y hy).elim (λz=>hm (e▸z)) λ⟨b,i,l,lv,cv,z1,z2⟩=>m3 b (e▸z1) i l lv cv z2) h) (zc4 Rf.hh c2 h3) c3 c5 c4;refine .inr ⟨alD2,σD2,by rw[Rf.hh.len];exact w1.trans e4,(ihb _ _ _ _ _ alD2 σD2 h4 e5).monoW λx alD3 σD3 hP=>.inl ?_⟩;obtain ⟨al2,U2,g1,⟨pre2,rfl⟩,g3,g4⟩:=hP;obtain ⟨preA,eA,_⟩:=putX_pre hj (zbX a) alz σz xv;exact ⟨_,U2,g1,⟨pre2++preA,by rw[eA,yA3]⟩,Ext.trans Rf.hh e1 g3,g4⟩
    ·simp at h4
   |exit i=>exact ⟨_,U1,h1,⟨pre,rfl⟩,h3,h4⟩
   |ret=>exact ⟨_,U1,h1,⟨pre,rfl⟩,h3,h4⟩
 |cond c a b iha ihb=>
  intro q al U K r alD σD h Rf;simp only[tC] at h;have hr:RdOk U alD (rdO al [] none):=rdO_ok Rf (λp b hk=>by simp[knk] at hk) (by simp);split at h
  ·rename_i hc;obtain ⟨h1,_⟩:=hr.c hc (by simp);exact Sem.cond (b:=true) (by cases c <;> exact h1) (λ_=>iha _ _ _ _ _ alD σD h Rf) (λe=>by simp at e)
  ·rename_i hc;obtain ⟨h1,_⟩:=hr.c hc (by simp);exact Sem.cond (b:=false) (by cases c <;> exact h1) (λe=>by simp at e) (λ_=>ihb _ _ _ _ _ alD σD h Rf)
  ·rename_i e hc;obtain ⟨h1,_⟩:=hr.c hc (by simp);refine Sem.cond (b:=e) (by cases c <;> exact h1) (λhe=>?_) (λhe=>?_)
   ·rw[if_pos he] at h;exact iha _ _ _ _ _ alD σD h Rf
   ·rw[if_neg (ne_t he)] at h;exact ihb _ _ _ _ _ alD σD h Rf
  ·simp at h
 |block id b ihb=>
  intro q al U K r alD σD h Rf;simp only[tC] at h;refine Sem.block ((ihb _ _ _ _ _ alD σD h Rf).monoW λx alD' σD' hP=>.inl ⟨_,_,.refl,?_⟩);obtain ⟨al1,U1,h1,h2,h3,h4⟩:=hP;cases x with
  |normal=>exact ⟨al1,U1,h1,h2,h3,h4⟩
  |ret=>exact ⟨al1,U1,h1,h2,h3,h4⟩
  |exit i=>
   dsimp only at h4;refine ⟨λe=>?_,λe=>?_⟩
   ·subst e;have:Nat.beq i i=true:=by simp
    rw[this] at h4;exact ⟨al1,U1,h1,h2,h3,h4⟩
   ·have:Nat.beq i id=false:=by
     cases hb:Nat.beq i id with
     |false=>rfl
     |true=>exact absurd (yAi hb) e
    rw[this] at h4;exact ⟨al1,U1,h1,h2,h3,h4⟩
 |loop b ihb=>
  intro q al U K r alD σD h Rf;simp only[tC] at h;split at h
  ·simp at h
  ·rename_i hj hJ;split at h
   ·rename_i nu hu;refine Sem.loop nu ?_;have key:∀(k:Nat)(al2:TA)(U2:TH)(alD2:AL)(σD2:Heap),(∃pre,al2=pre++al)->Ext U U2->Ref al2 U2 alD2 σD2 ->
      lpU (λrec al U=>tC g b (2 * q) al U λex al1 U1=>match ex with | .normal=>rec al1 U1 | ex=>K ex al1 U1) k al2 U2=some r->SemL g.P b k g.n alD2 σD2 (Post al U K r):=by
     intro k;induction k with
     |zero=>intro al2 U2 alD2 σD2 _ _ _ h;simp[lpU] at h
     |succ k ihk=>
      intro al2 U2 alD2 σD2 x1 x2 x4 h;have B:=ihb _ _ _ _ _ alD2 σD2 (show tC g b (2 * q) al2 U2 _=some r from h) x4;refine SemL.succ (B.monoW (Q':=λx al1 U1=>match x with | .normal=>∃al2 U2,Wk σD2.length al1 U1 al2 U2/\SemL g.P b k g.n al2 U2 (Post al U K r) | x=>∃al2 U2,Wk σD2.length al1 U1 al2 U2/\Post al U K r x al2 U2) λex alD3 σD3 hP=>.inl ?_);obtain ⟨al1,U1,h1,⟨pre,rfl⟩,h3,h4⟩:=hP;obtain ⟨pre2,rfl⟩:=x1;cases ex with
      |normal=>exact ⟨_,_,.refl,ihk _ _ _ _ ⟨pre++pre2,by rw[yA3]⟩ (Ext.trans Rf.hh x2 h3) h1 h4⟩
      |exit i=>exact ⟨_,_,.refl,_,U1,h1,⟨pre++pre2,by rw[yA3]⟩,Ext.trans Rf.hh x2 h3,h4⟩
      |ret=>exact ⟨_,_,.refl,_,U1,h1,⟨pre++pre2,by rw[yA3]⟩,Ext.trans Rf.hh x2 h3,h4⟩
    exact key nu al U alD σD ⟨[],rfl⟩ (Ext.refl U) Rf h
   split at h
   ·simp at h
   rename_i alz σz hz;obtain ⟨⟨preZ,eZ⟩,xZ,sZ⟩:=ownz_ok (P:=g.P) (n:=g.n) (ac:=.loop b) (Q:=Post al U K r) hj.os al alz U σz alD σD hz Rf;refine sZ λalDz σDz Rfz=>?_;have back:∀{x:zcX}{alD':AL}{σD':Heap},Post alz σz K r x alD' σD'->Post al U K r x alD' σD':=λ⟨al1,U1,h1,⟨pre,e⟩,h3,h4⟩=>⟨al1,U1,h1,⟨pre++preZ,by rw[e,eZ,yA3]⟩,Ext.trans Rf.hh xZ h3,h4⟩;refine Sem.monoW ?_ (λx al' U' hP=>.inl (back hP));clear back sZ xZ eZ;replace Rf:=Rfz;clear Rfz hz;split at h
   ·
    rename_i zz zs hms;split at h
    ·simp at h
    rename_i ale σe he;obtain ⟨rfl,le,ze,alDe,σDe,se,Re,xe⟩:=mvE_ok (m:=σz.length) (zz::zs) Rf (yAo _) he;split at h
    ·simp at h
    rename_i x0 hx0;have hle:σz.length<=σe.length:=by rw[le];omega
    obtain ⟨_,c2,c3,c5,c4⟩:=absJ_ok hx0;obtain ⟨e1,e2,e3,alD2,σD2,e4,e5⟩:=join_ok (md:=zbX b) Re Re (λt q h=>⟨q,h⟩) (λt q _ _ _ h=>h) (zc4 Re.hh c2 (Ext.refl σe)) c3 c5 c4;refine Sem.loop g.N (SemLO.start (al:=alD2) (U:=σD2) (by rw[Rf.hh.len];exact se.trans (e4.le hle)) ?_);have key:∀(k:Nat)(x:tupP hj.pl)(alD2:AL)(σD2:Heap),Ext σe (putZ hj (zbX b) ale σe x)->HS (hj.pl++zpl hj.zs) σe (putZ hj (zbX b) ale σe x)->(putZ hj (zbX b) ale σe x).length=σe.length->Ref (putX hj (zbX b) ale σe x) (putZ hj (zbX b) ale σe x) alD2 σD2 ->
      lpX (λrec x=>tC g b (2 * q) (putX hj (zbX b) ale σe x) (putZ hj (zbX b) ale σe x) λex al1 U1=>match ex with
       |.normal => match mvL (al1.length - (putX hj (zbX b) ale σe x).length) (zz :: zs) al1 U1 with
        |none=>none
        |some (al1,U1)=>match absF hj (zbX b) (putX hj (zbX b) ale σe x) (putZ hj (zbX b) ale σe x) al1 U1 with | some x'=>rec x' | none=>none
       |ex=>K ex al1 U1) k x=some r->SemLO g.P b k g.n σDz alD2 σD2 (Post ale σz K r):=by
     intro k;induction k with
     |zero=>intro x alD2 σD2 _ _ _ _ h;simp[lpX] at h
     |succ k ihk=>
      intro x alD2 σD2 x1 x2 x3 x4 h;have B:=ihb _ _ _ _ _ alD2 σD2 (show tC g b (2 * q) (putX hj (zbX b) ale σe x) (putZ hj (zbX b) ale σe x) _=some r from h) x4;refine SemLO.succ (B.monoW λex alD3 σD3 hP=>.inl ?_);obtain ⟨al1,U1,h1,⟨pre,rfl⟩,h3,h4⟩:=hP;obtain ⟨preA,eA,_⟩:=putX_pre hj (zbX b) ale σe x;cases ex with
      |normal=>
       dsimp only at h4;split at h4
       ·simp at h4
       rename_i al1' U1' hmv;rw[show (pre++putX hj (zbX b) ale σe x).length-(putX hj (zbX b) ale σe x).length=pre.length by rw[yAC];omega] at hmv;have hl1:σe.length<=U1.length:=by rw[<-x3];exact h3.len
       obtain ⟨pre1,alDm,σDm,rfl,sm,Rm,xm⟩:=mvL_ok (m:=σz.length) x4 (zz::zs) h3 h1 rfl (λz hz=>⟨(ze z hz).1,yAH (ze z hz).2 hl1⟩) (yAA hle hl1) hmv;split at h4
       ·rename_i xv hx;obtain ⟨pre2,U2,alD5,σD5,w1,h1',h3',hx⟩:=absF_ok x4 Rm xm hx;obtain ⟨d1,d2,d3,d5,d4⟩:=absJ_ok hx;have hkey:=regsOk_ok d1;obtain ⟨f1,f2,f3,alD4,σD4,f4,f5⟩:=join_ok (md:=zbX b) Re h1' (λt q h=>by rw[eA,<-yA3];exact lkP_dom h)
         (λt q m1 m2 m3 h=>lkP_skip (λy hy e=>(hkey y hy).elim (λz=>m1 (e▸z)) λ⟨b,i,l,lv,cv,z1,z2⟩=>let ⟨i,l,lv,cv,z3⟩:=row_back x1 x3 z2;m3 b (e▸z1) i l lv cv z3) (putX_key x1 x3 m1 m2 m3 h)) (x2.trans (zc4 x4.hh d2 h3')) d3 (by rw[x3] at d5;exact d5) d4
        refine ⟨alD4,σD4,?_,ihk xv alD4 σD4 f1 f2 f3 f5 h4⟩;rw[Rf.hh.len];rw[x3] at w1;exact sm.trans ((w1.trans f4).le hle)
       ·simp at h4
      |exit i=>exact ⟨_,U1,h1,⟨pre++preA,by rw[eA,yA3]⟩,Ext.trans Rf.hh xe (Ext.trans Re.hh x1 h3),h4⟩
      |ret=>exact ⟨_,U1,h1,⟨pre++preA,by rw[eA,yA3]⟩,Ext.trans Rf.hh xe (Ext.trans Re.hh x1 h3),h4⟩
    exact key g.N x0 alD2 σD2 e1 e2 e3 e5 h
   split at h
   ·simp at h
   ·rename_i x0 hx0;obtain ⟨_,c2,c3,c5,c4⟩:=absJ_ok hx0;obtain ⟨e1,e2,e3,alD2,σD2,e4,e5⟩:=join_ok (md:=zbX b) Rf Rf (λt q h=>⟨q,h⟩) (λt q _ _ _ h=>h) (zc4 Rf.hh c2 (Ext.refl σz)) c3 c5 c4;refine Sem.loop g.N (SemL.preW (by rw[Rf.hh.len];exact e4) ?_);have key:∀(k:Nat)(x:tupP hj.pl)(alD2:AL)(σD2:Heap),Ext σz (putZ hj (zbX b) alz σz x)->HS (hj.pl++zpl hj.zs) σz (putZ hj (zbX b) alz σz x)->(putZ hj (zbX b) alz σz x).length=σz.length->Ref (putX hj (zbX b) alz σz x) (putZ hj (zbX b) alz σz x) alD2 σD2 ->
      lpX (λrec x=>tC g b (2 * q) (putX hj (zbX b) alz σz x) (putZ hj (zbX b) alz σz x) λex al1 U1=>match ex with
       |.normal=>match absF hj (zbX b) (putX hj (zbX b) alz σz x) (putZ hj (zbX b) alz σz x) al1 U1 with | some x'=>rec x' | none=>none
       |ex=>K ex al1 U1) k x=some r->SemL g.P b k g.n alD2 σD2 (Post alz σz K r):=by
     intro k;induction k with
     |zero=>intro x alD2 σD2 _ _ _ _ h;simp[lpX] at h
     |succ k ihk=>
      intro x alD2 σD2 x1 x2 x3 x4 h;have B:=ihb _ _ _ _ _ alD2 σD2 (show tC g b (2 * q) (putX hj (zbX b) alz σz x) (putZ hj (zbX b) alz σz x) _=some r from h) x4;refine SemL.succW (B.monoW λex alD3 σD3 hP=>.inl ?_);obtain ⟨al1,U1,h1,⟨pre,rfl⟩,h3,h4⟩:=hP;obtain ⟨preA,eA,_⟩:=putX_pre hj (zbX b) alz σz x;cases ex with
      |normal=>
       dsimp only at h4;split at h4
       ·rename_i xv hx;obtain ⟨pre,U1,alD3,σD3,w1,h1,h3,hx⟩:=absF_ok x4 h1 h3 hx;obtain ⟨d1,d2,d3,d5,d4⟩:=absJ_ok hx;have hkey:=regsOk_ok d1;obtain ⟨f1,f2,f3,alD4,σD4,f4,f5⟩:=join_ok (md:=zbX b) Rf h1 (λt q h=>by rw[eA,<-yA3];exact lkP_dom h)
         (λt q m1 m2 m3 h=>lkP_skip (λy hy e=>(hkey y hy).elim (λz=>m1 (e▸z)) λ⟨b,i,l,lv,cv,z1,z2⟩=>let ⟨i,l,lv,cv,z3⟩:=row_back x1 x3 z2;m3 b (e▸z1) i l lv cv z3) (putX_key x1 x3 m1 m2 m3 h)) (x2.trans (zc4 x4.hh d2 h3)) d3 (by rw[x3] at d5;exact d5) d4
        exact ⟨alD4,σD4,by rw[x4.hh.len,x3];rw[x3] at w1;exact w1.trans f4,ihk xv alD4 σD4 f1 f2 f3 f5 h4⟩
       ·simp at h4
      |exit i=>exact ⟨_,U1,h1,⟨pre++preA,by rw[eA,yA3]⟩,Ext.trans Rf.hh x1 h3,h4⟩
      |ret=>exact ⟨_,U1,h1,⟨pre++preA,by rw[eA,yA3]⟩,Ext.trans Rf.hh x1 h3,h4⟩
    exact key g.N x0 alD2 σD2 e1 e2 e3 e5 h
theorem zip_ok:∀(cs:List VCd)(a:tupV cs)(i t:Nat)(x:RV)(p:Nat),lkP t (zipT i (tvV cs a))=some (x,p)->∃d v,x=.v v/\lk t (zipAL i (encV cs a))=some d/\RT v d/\GV [] v:=by
 intro cs;induction cs with
 |nil=>intro a i t x p h;simp[tvV,zipT,lkP] at h
 |cons c cs ih=>
  intro a i t x p h;simp only[tvV,zipT,lkP] at h;simp only[encV,zipAL,lk];split at h
  ·rename_i hb;simp only[yAa,yAc] at h
   try rw[hb]
   exact ⟨_,_,h.1.symm,rfl,c.tv_ok a.1,tv_good c a.1⟩
  ·rename_i hb
   try rw[hb]
   exact ih a.2 (i+1) t x p h
theorem encV_len:∀(cs:List VCd)(a:tupV cs),(encV cs a).length=cs.length:=by
 intro cs;induction cs with
 |nil=>intro a;rfl
 |cons c cs ih=>intro a;simp only[encV,List.length_cons,ih]
theorem resT_ok{al:TA}{U:TH}{alD:AL}{σD:Heap}(Rf:Ref al U alD σD){q:Nat×Option (Option Nat)}{v:TV}(h:resT al U q=some v):∃d,resA alD σD q=some d/\RT v d/\GV U v:=by
 obtain ⟨t,o⟩:=q;cases o with
 |none=>
  simp only[resT] at h;split at h
  ·rename_i x hx;simp only[yAa] at h;subst h;obtain ⟨p,hp⟩:=lkT_some hx;obtain ⟨d,h1,h2,h3⟩:=Rf.rg t _ p hp;exact ⟨d,h1,h2,h3⟩
  ·simp at h
 |some m=>
  simp only[resT] at h;split at h
  ·rename_i b off sz hx;obtain ⟨p,hp⟩:=lkT_some hx;obtain ⟨d,h1,h2,_⟩:=Rf.rg t _ p hp;have:=RT.c1 (by simp) h2;subst this;split at h
   ·rename_i w cs hb;obtain ⟨ds,h3,h4,h5,_⟩:=Rf.hh.cells hb;split at h
    ·rename_i hs;obtain ⟨d,h6,h7⟩:=getT_ok h h4;refine ⟨d,?_,h7,getT_good h λy hy=>?_⟩
     ·simp only[resA,h1,TC.er];rw[zdA h3 (sz:=sz) (by rw[h5];exact yAi hs),xAa];exact h6
     ·rw[yA4] at hy;obtain ⟨p,hp,rfl⟩:=hy;exact (Rf.hh.hg b w cs hb p hp).1
    ·simp at h
   ·simp at h
  ·simp at h
theorem ress_ok{al:TA}{U:TH}{alD:AL}{σD:Heap}(Rf:Ref al U alD σD):∀{qs:List (Nat×Option (Option Nat))}{vs:List TV},mapO (resT al U) qs=some vs->∃ds,qs.mapM (resA alD σD)=some ds/\All3 vs ds/\∀v∈vs,GV U v:=by
 intro qs;induction qs with
 |nil=>intro vs h;simp only[mapO,yAa] at h;subst h;exact ⟨[],rfl,.nil,by simp⟩
 |cons q qs ih=>
  intro vs h;simp only[mapO] at h;split at h
  ·rename_i a b h1 h2;simp only[yAa] at h;subst h;obtain ⟨d,h3,h4,h5⟩:=resT_ok Rf h1;obtain ⟨ds,h6,h7,h8⟩:=ih h2;refine ⟨d::ds,?_,.cons h4 h7,λv hv=>?_⟩
   ·rw[yAS,h3,h6];rfl
   ·rcases yAu.1 hv with rfl | hv
    ·exact h5
    ·exact h8 v hv
  ·simp at h
theorem outs_ok{U:TH}{σD:Heap}(H:RH U σD):∀{cs:List VCd}{vs:List TV}{ds:List D}{r:outV cs},rdOut U cs vs=some r->All3 vs ds->(∀v∈vs,GV U v)->∃es,ds.mapM (frzD1 σD 0 100)=some es/\es.map nrm=outE cs r/\(∀d,ds=[d]->frzD σD 0 100 d=frzD1 σD 0 100 d):=by
 intro cs;induction cs with
 |nil=>
  intro vs ds r h a g;cases a with
  |nil=>exact ⟨[],rfl,rfl,λd e=>by simp at e⟩
  |cons _ _=>simp[rdOut] at h
 |cons c cs ih=>
  intro vs ds r h a g;cases a with
  |nil=>cases cs <;> simp[rdOut] at h
  |cons h1 a=>
   rename_i v d vs ds;cases cs with
   |nil=>
    cases a with
    |nil=>simp only[rdOut] at h;obtain ⟨d',h2,h3,h4⟩:=frV_ok H (g v (by simp)) h1 h;refine ⟨[d'],by rw[yAS,h2];rfl,by simp only[yAw,yCp,outE,h4],λd0 e=>?_⟩;simp only[yBs,yBN] at e;subst e;rw[h2,h3]
    |cons _ _=>simp[rdOut] at h
   |cons c2 cs=>
    cases a with
    |nil=>simp[rdOut] at h
    |cons h5 a=>
     simp only[rdOut] at h;split at h
     ·rename_i x y h6 h7;simp only[yAa] at h;subst h;obtain ⟨d',h2,h3,h4⟩:=frV_ok H (g v (by simp)) h1 h6;obtain ⟨es,h8,h9,_⟩:=ih h7 (.cons h5 a) λv hv=>g v (yAm _ hv);refine ⟨d'::es,by rw[yAS,h2,h8];rfl,by simp only[yAw,outE,h4,h9],λd0 e=>by simp at e⟩
     ·simp at h
theorem tF_ok{P:Program}{S:TSs}{B:InlB}{RS:ResF}{H:List (Nat×Nat)}{J:List (Nat×JH)}{C:List (Nat×List CT)}{dp:Nat}{g:FuncId}{fn:Func}{af:AFunc}{ins out:List VCd}{N:Nat}{a:tupV ins}{r:outV out}(mix:P.follows .mixedOrders=true)(hS:TSsOk P S)
  (hg:P.funcs[g]? = some fn) (hent:enterable P g=true) (hc:compF P fn true=some af) (hI:InlOk ⟨P,S,H,J,C,af.ntmps,N,(evD P S N B RS dp).1,(evD P S N B RS dp).2,RS⟩) (hn:Nat.ble ins.length af.ntmps=true) (h:tF P S B RS H J C dp af ins out N a=some r):Pure P g (encV ins a) (outD out r):=by
 refine pure_of_sem hg hent hc (by rw[encV_len];exact yA8 hn) ?_;have R0:Ref (zipT 0 (tvV ins a)) [] (zipAL 0 (encV ins a)) []:=⟨⟨rfl,λb blk h=>by simp at h,λb w cs h=>by simp at h⟩,λt x p h=>by obtain ⟨d,v,rfl,h1,h2,h3⟩:=zip_ok ins a 0 t x p h;exact ⟨d,h1,h2,h3⟩⟩
 refine (tC_ok ⟨P,S,H,J,C,af.ntmps,N,(evD P S N B RS dp).1,(evD P S N B RS dp).2,RS⟩ mix (callOrc_ok (specsOf_ok hS)) hI af.body 1 _ _ _ r _ _ h R0).monoW λx alD' σD' hP=>.inl ?_;obtain ⟨al',U',h1,_,_,h2⟩:=hP;have fin:(match mapO (resT al' U') af.results with | some rs=>rdOut U' out rs | none=>none)=some r->∃ds' r',af.results.mapM (resA alD' σD')=some ds'/\frzD σD' 0 100 (one ds')=some r'/\DLe r' (outD out r):=by
  intro h2;split at h2
  ·rename_i rs hrs;obtain ⟨ds,h3,h4,h5⟩:=ress_ok h1 hrs;obtain ⟨es,h6,h7,h8⟩:=outs_ok h1.hh h2 h4 h5;have hlen:es.length=ds.length:=(zdr h6).1;have tupc:one ds=.tup ds->one (outE out r)=.tup (outE out r)->∃r',frzD σD' 0 100 (one ds)=some r'/\DLe r' (outD out r):=λe1 e2=>by
    rw[e1];refine ⟨.tup es,frz_tup h6,DLe.of_nrm ?_⟩;simp only[nrmR,h7,outD,e2]
   have hl2:(outE out r).length=ds.length:=by rw[<-h7,yAz,hlen]
   cases ds with
   |nil=>
    obtain ⟨r',e1,e2⟩:=tupc rfl (by have:outE out r=[]:=yAJ hl2;rw[this];rfl)
    exact ⟨[],r',h3,e1,e2⟩
   |cons d ds=>
    cases ds with
    |nil=>
     have e3:=h8 d rfl;rw[yAS] at h6;cases h9:frzD1 σD' 0 100 d with
     |none=>rw[h9] at h6;simp at h6
     |some d'=>
      rw[h9] at h6;simp only[List.mapM_nil] at h6;cases h6;refine ⟨[d],d',h3,by rw[<-h9];exact e3,?_⟩;have e4:outD out r=nrm d':=by unfold outD;rw[<-h7];rfl
      rw[e4];intro U M Fz w v hv;exact nrm_ok hv
    |cons d2 ds=>
     obtain ⟨r',e1,e2⟩:=tupc rfl (by
      cases ho:outE out r with
      |nil=>rw[ho] at hl2;simp at hl2
      |cons o1 os=>
       cases os with
       |nil=>rw[ho] at hl2;simp at hl2
       |cons o2 os=>rfl)
     exact ⟨_,r',h3,e1,e2⟩
  ·simp at h2
 cases x with
 |exit i=>simp at h2
 |normal=>exact ⟨.inl rfl,fin h2⟩
 |ret=>exact ⟨.inr rfl,fin h2⟩
theorem TSsOk.nil{P:Program}:TSsOk P []:=λp hp=>by simp at hp
theorem TSsOk.cons{P:Program}{g:Nat}{s:TSp}{S:TSs}(h:zaM P g s)(hS:TSsOk P S):TSsOk P ((g,s)::S):=by
 intro p hp;rcases yAu.1 hp with rfl | hp
 ·exact h
 ·exact hS p hp
end
end Go.Abs
end
section
namespace Go.Abs
noncomputable section
variable[Gl][Y:Ty]
section
variable{m:Nat}{U1 U2:Heap}{ρ:Nat->Nat}{F:Nat->Prop}
theorem ok_of_sem{P:Program}{g:FuncId}{fn:Func}{af:AFunc}{fz:Bool}{ds:List D}{r:D}{U:Heap}(hg:P.funcs[g]? = some fn)(hc:compF P fn fz=some af)(hlen:ds.length<=af.ntmps)
  (h:Sem P af.body af.ntmps (zipAL 0 ds) U λx al U1=>(x=.normal∨x=.ret)/\∃ds' ρ F,af.results.mapM (resA al U1)=some ds'/\RnH U.length U1 U2 ρ F/\(∀b,F b->U.length<=b)/\DWr U1 U2 ρ F (one ds') r):Ok P g ds U r U2:=by
 unfold compF at hc;split at hc
 ·rename_i c hb;split at hc
  ·rename_i ac rs h1 h2;simp only[yAa] at hc;subst hc;dsimp only at h hlen;intro M Fz w vs R hs hvs;refine calls_of_wp hg hb ?_;have A0:AEnv fn.ntmps U M Fz w (zipAL 0 ds) (vs++Array.replicate (fn.ntmps-vs.size) undef):=by
    refine ⟨by simp;omega,λt d ht=>?_⟩;obtain ⟨_,h3⟩:=zipAL_lk ds 0 t d ht;rw[Nat.sub_zero] at h3;have hlt:t<vs.size:=by rw[hs];exact (yAb.1 h3).1
    exact ⟨vs[t],by rw[yBl hlt,yAn hlt],hvs t d _ h3 (yAn hlt)⟩
   refine h c h1 M Fz w { tmps:=vs++Array.replicate (fn.ntmps-vs.size) undef,defers:=[] } _ R A0 λx al' U' a' w' M' Fz' hQ hd R' A' EV hl=>?_;obtain ⟨hx,ds',ρ,F,hm,hN,hF,hle⟩:=hQ;have hm':rs.mapM (zcq (zeu fn.ntmps al') U')=some ds':=by
    have key:∀(l:List (Nat×Option (Option Nat))) ds',l.mapM (resA al' U')=some ds'->l.mapM (zcq (zeu fn.ntmps al') U')=some ds':=by
     intro l;induction l with
     |nil=>intro ds' h;simpa using h
     |cons p l ih=>
      intro ds' h;rw[yAS] at h ⊢;cases hp:resA al' U' p with
      |none=>rw[hp] at h;simp at h
      |some d=>
       rw[hp] at h;have:zcq (zeu fn.ntmps al') U' p=some d:=by
        obtain ⟨t,o⟩:=p;cases o with
        |none=>exact A'.toEnv.2.2 t d hp
        |some k=>
         simp only[resA] at hp;split at hp
         ·rename_i b off sz hlk;simp only[zcq,A'.toEnv.2.2 t _ hlk];exact hp
         ·simp at hp
       rw[this];cases hr:l.mapM (resA al' U') with
       |none=>rw[hr] at h;simp at h
       |some q=>rw[hr] at h;rw[ih q hr];exact h
    exact key rs ds' hm
   obtain ⟨v,hv1,hv2⟩:=results_ok (P:=P) R' A'.toEnv.1 h2 hm';have post:a'.defers=[]/\∃v,(results fn a'.tmps).run P w'=.ok v w'/\∃v' M'' Fz'',Ending.returned v=.returned v'/\Rel U2 M'' Fz'' w'/\V U2 M'' Fz'' w' r v'/\Evo U M Fz w U2 M'' Fz'' w':=
    ⟨hd,v,hv1,v,_,_,rfl,hN.rel R',hle M' Fz' w' v R' hv2,hN.evo (yAo _) hF R R' EV⟩
   rcases hx with rfl | rfl
   ·exact post
   ·exact post
  ·simp at hc
 ·simp at hc
end
end
end Go.Abs
end
