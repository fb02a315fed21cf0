/- TyPA, TyPB, TyPC, TyPD, TyS1, TySA, TyS2, TySE, TySJ, TyS5, TyS6, TyH1 -/
import Derived.Test.YtidolomakdofhaaGreatDoorLawA
set_option linter.all false
section
namespace Go.Plain
open Go.Abs
def usedC(A:List zae)(i:Int)(c:Nat):Int:=(A.map λa=>onV a.Shares i * cmp c a.Need).sum
theorem usedC_cons{a:zae}{A:List zae}{i:Int}{c:Nat}:usedC (a::A) i c=onV a.Shares i * cmp c a.Need+usedC A i c:=by simp[usedC]
theorem usedC_take{A:List zae}{k:Nat}(h:k<A.length)(i:Int)(c:Nat):usedC (A.take (k+1)) i c=usedC (A.take k) i c+onV A[k].Shares i * cmp c A[k].Need:=by rw[yAO h];simp only[usedC,yB6,yAw,yCp,List.sum_append,List.sum_cons,List.sum_nil];omega
def GoodA(n:Int)(A:List zae):Prop:=∀a∈A,SharesOk a.Shares n/\VecOk a.Need
theorem one_bd{n:Int}{a:zae}(h:SharesOk a.Shares n/\VecOk a.Need)(i:Int)(c:Nat):0<=onV a.Shares i * cmp c a.Need/\onV a.Shares i * cmp c a.Need<=67108864:=
 mul_bd (onV_one h.1 i) (zcg.1 h.2 c)
theorem used_bd{n:Int}{A:List zae}(h:GoodA n A)(i:Int)(c:Nat):0<=usedC A i c/\usedC A i c<=67108864 * A.length:=by
 induction A with
 |nil=>simp[usedC]
 |cons a A ih=>have h1:=ih λb hb=>h b (yAm _ hb);have h2:=one_bd (h a (yAq ..)) i c;rw[usedC_cons,xAd];omega
def TotFit(F:List zac)(A:List zae):Prop:=∀i (h:i<F.length) c,usedC A i c<=cmp c F[i]
theorem ref_times{a:zac}{n:Int}(ha:VecOk a)(hn:0<=n/\n<=64):zcs 1000 a n=some (mulR n a):=by
 obtain ⟨m,rfl⟩:∃m:Nat,n=(m:Int):=⟨n.toNat,by omega⟩;unfold zcs;refine Ret.eq (lpS m (λk x=>x=((k:Int),(k:Int) * a.Cpu,(k:Int) * a.Mem,(k:Int) * a.Gpu,(k:Int) * a.Lic)) (λk x f hk hx hr=>?_) (λx f hx=>?_) (by simp) (by omega))
 ·subst hx;have b1:=mul_bd (n:=((k+1:Nat):Int)) (by omega) ha.cpu;have b2:=mul_bd (n:=((k+1:Nat):Int)) (by omega) ha.mem;have b3:=mul_bd (n:=((k+1:Nat):Int)) (by omega) ha.gpu;have b4:=mul_bd (n:=((k+1:Nat):Int)) (by omega) ha.lic;have e:∀x:Int,((k+1:Nat):Int) * x=(k:Int) * x+x:=λx=>by rw[Int.natCast_add,yCs];simp
  rw[e] at b1 b2 b3 b4;simp only[zda hk,if_true,zbV,Option.bind_some,wr1 (show k<1000000 by omega)];refine hr _ ?_;rw[wr (x:=(k:Int) * a.Cpu+a.Cpu) (by omega) (by omega),wr (x:=(k:Int) * a.Mem+a.Mem) (by omega) (by omega),wr (x:=(k:Int) * a.Gpu+a.Gpu) (by omega) (by omega),wr (x:=(k:Int) * a.Lic+a.Lic) (by omega) (by omega),e,e,e,e]
 ·subst hx;simp only[zc7,yAh,yAx,zaf];rfl
theorem fits_cmp(a b:zac):za7 (zaw 1000 a b) (∀c,cmp c a<=cmp c b):=by
 simp only[zaw,za7,zaf,yAj,yAf];constructor
 ·intro h c
  match c with
  |0=>exact h.1.1.1
  |1=>exact h.1.1.2
  |2=>exact h.1.2
  |_+3=>exact h.2
 ·intro h;exact ⟨⟨⟨h 0,h 1⟩,h 2⟩,h 3⟩
theorem ref_left{F:List zac}{A:List zae}(hF:F.length<=300)(hA:A.length<=300)(hs:∀a∈A,a.Shares.length<=300){n:Int}(h:GoodA n A):Ret (zcN 1000 F A) λr=>r.2=true↔TotFit F A:=by
 unfold zcN;refine lpS F.length (λi x=>(x.1=true↔∀m (h:m<F.length),m<i->∀c,usedC A m c<=cmp c F[m])/\x.2.1=(i:Int)/\x.2.2.length=i) (λi x f hi hx hr=>?_) (λx f hx=>?_) ⟨⟨λ_ m h h'=>by omega,λ_=>rfl⟩,rfl,rfl⟩ (by omega)
 ·obtain ⟨x1,x2,x3⟩:=x;obtain ⟨h1,h2,h3⟩:=hx;dsimp only at h1 h2 h3;subst h2;simp only[zda hi,if_true];refine lpS A.length (λk y=>y=((k:Int),usedC (A.take k) i 0,usedC (A.take k) i 1,usedC (A.take k) i 2,usedC (A.take k) i 3)) (λk y g hk hy hg=>?_) (λy g hy=>?_) (by simp[usedC]) (by omega)
  ·subst hy;have ak:=h _ (yAk hk);have gk:GoodA n (A.take (k+1)):=λa ha=>h a (yBg ha);have lk:((A.take (k+1)).length:Int)<=300:=by rw[yA6];omega
   have b0:=used_bd gk i 0;have b1:=used_bd gk i 1;have b2:=used_bd gk i 2;have b3:=used_bd gk i 3;rw[usedC_take hk] at b0 b1 b2 b3;simp only[zda hk,if_true,zak hk,Option.bind_some,ref_on (hs _ (yAk hk)) ak.1,ref_times ak.2 (onV_one ak.1 i),zbV,wr1 (show k<1000000 by omega)];refine hg _ ?_;rw[usedC_take hk,usedC_take hk,usedC_take hk,usedC_take hk];have e0:(mulR (onV A[k].Shares i) A[k].Need).Cpu=onV A[k].Shares i * cmp 0 A[k].Need:=rfl;have e1:(mulR (onV A[k].Shares i) A[k].Need).Mem=onV A[k].Shares i * cmp 1 A[k].Need:=rfl;have e2:(mulR (onV A[k].Shares i) A[k].Need).Gpu=onV A[k].Shares i * cmp 2 A[k].Need:=rfl;have e3:(mulR (onV A[k].Shares i) A[k].Need).Lic=onV A[k].Shares i * cmp 3 A[k].Need:=rfl;rw[e0,e1,e2,e3,wr (x:=_+onV A[k].Shares i * cmp 0 A[k].Need) (by omega) (by omega),wr (x:=_+onV A[k].Shares i * cmp 1 A[k].Need) (by omega) (by omega),wr (x:=_+onV A[k].Shares i * cmp 2 A[k].Need) (by omega) (by omega),wr (x:=_+onV A[k].Shares i * cmp 3 A[k].Need) (by omega) (by omega)]
  ·subst hy;have ap:∀z:zac,app? x3 [z]=some (x3++[z]):=λz=>app_ok (by simp only[List.length_singleton];omega);simp only[zc7,yAh,yAx,zaS,zak hi,Option.bind_some,drayageref02xSub,ap,wr1 (show i<1000000 by omega),yBa];rw[zag];refine ⟨λhx1=>?_,λhx1=>?_⟩
   ·refine (fits_cmp _ _).bind λr hr1=>?_;refine hr _ ⟨?_,rfl,by simp only[yAC,List.length_singleton];omega⟩;dsimp only;rw[hr1];have ec:∀c,cmp c ({ Cpu:=usedC A i 0,Mem:=usedC A i 1,Gpu:=usedC A i 2,Lic:=usedC A i 3 }:zac)=usedC A i (min c 3):=λc=>by
     match c with
     |0=>rfl
     |1=>rfl
     |2=>rfl
     |c+3=>rw[Nat.min_eq_right (by omega)];rfl
    have eu:∀c,usedC A i (min c 3)=usedC A i c:=λc=>by
     match c with
     |0=>rfl
     |1=>rfl
     |2=>rfl
     |c+3=>rw[Nat.min_eq_right (by omega)];rfl
    constructor
    ·intro hc m hm hmi c;rcases yBc (yB0.1 hmi) with h' | h'
     ·exact h1.1 hx1 m hm h' c
     ·subst h';have:=hc c
      rwa [ec,eu] at this
    ·intro hc c;rw[ec,eu];exact hc i hi (by omega) c
   ·refine hr _ ⟨?_,rfl,by simp only[yAC,List.length_singleton];omega⟩;dsimp only;simp only[yAh,yBr];intro hc;exact hx1 (h1.2 λm hm hmi=>hc m hm (by omega))
 ·obtain ⟨x1,x2,x3⟩:=x;obtain ⟨h1,h2,h3⟩:=hx;dsimp only at h1 h2 h3;subst h2;simp only[zc7,yAh,yAx,zaf];rw[h1];exact ⟨λq i hi c=>q i hi hi c,λq i hi _ c=>q i hi c⟩
structure AllocIn (s:zad) (st:zab) (i:Nat) (a:zae):Prop where
 up:∀m (h:m<st.Allocs.length),m+1=i->st.Allocs[m].Job<a.Job
 job:∃j∈st.Jobs,j.Id=a.Job
 shares:SharesOk a.Shares s.Nodes.length
 need:VecOk a.Need
structure zdx (s:zad) (st:zab):Prop where
 each:∀i (h:i<st.Allocs.length),AllocIn s st i st.Allocs[i]
 fit:TotFit s.Nodes st.Allocs
theorem zdx.good{s:zad}{st:zab}(h:zdx s st):GoodA s.Nodes.length st.Allocs:=λa ha=>by obtain ⟨i,hi,rfl⟩:=yA2 ha;exact ⟨(h.each i hi).shares,(h.each i hi).need⟩
theorem ref_allocs{s:zad}{st:zab}(hw:FewW s st):za7 (zc5 1000 s st) (zdx s st):=by
 have hl:=hw.jobs;have hal:=hw.allocs;have hn:=hw.spec.nodes;unfold zc5;refine lpA st.Allocs (λi a=>AllocIn s st i a) (λi f hi hA hr=>?_) (λf hA=>?_) (by omega)
 ·have hd:decide ((i:Int) > 0)=decide (0<i):=by simp
  have hsh:=hw.shares _ (yAk hi);have fin:(∀m (h:m<st.Allocs.length),m+1=i->st.Allocs[m].Job<st.Allocs[i].Job)->Ret ((zao 1000 st.Jobs st.Allocs[i].Job).bind λr=>
    if decide (r<0)=true then some false else (zbt 1000 st.Allocs[i].Shares (s.Nodes.length:Int)).bind λr'=>
    if (!r')=true then some false else (zaA 1000 st.Allocs[i].Need).bind λr''=>if (!r'')=true then some false else f ((i+1:Nat):Int)) (λb=>b=true↔zdx s st):=λhup=>by
   refine (ref_find (by omega) st.Allocs[i].Job).bind λr hr1=>?_;rw[zag];refine ⟨λh=>no_f λq=>?_,λh=>?_⟩
   ·have:=hr1.1.2 (q.each i hi).job;simp only[yAf] at h;omega
   ·simp only[yAf] at h;refine (ref_place _ _ (yAA hsh (by decide))).bind λr' hr2=>?_;rw[zag];refine ⟨λh=>no_f λq=>?_,λh2=>?_⟩
    ·have:=hr2.2 (q.each i hi).shares;rw[this] at h;simp at h
    ·simp only[yAs,yA1] at h2;refine (ref_vec _).bind λr'' hr3=>?_;rw[zag];refine ⟨λh=>no_f λq=>?_,λh3=>?_⟩
     ·have:=hr3.2 (q.each i hi).need;rw[this] at h;simp at h
     ·simp only[yAs,yA1] at h3;exact hr ⟨hup,hr1.1.1 (by omega),hr2.1 h2,hr3.1 h3⟩
  simp only[zaS,zda hi,if_true,zak hi,Option.bind_some,wr1 (show i<1000000 by omega),hd];rw[zag];refine ⟨λh=>?_,λh=>?_⟩
  ·simp only[yAf] at h;obtain ⟨m,rfl⟩:∃m,i=m+1:=⟨i-1,by omega⟩;rw[wp1 (show m+1<1000000 by omega),zak (show m<st.Allocs.length by omega),xAa,zag];refine ⟨λh2=>no_f λq=>?_,λh2=>fin λm' hm' e=>?_⟩
   ·have:=(q.each (m+1) hi).up m (by omega) rfl;simp only[yAf] at h2;omega
   ·simp only[yAf] at h2;have:m'=m:=by omega
    subst this;omega
  ·simp only[yAf] at h;exact fin λm hm e=>by omega
 ·simp only[zc7,yAh,yAx];have G:GoodA s.Nodes.length st.Allocs:=λa ha=>by
   obtain ⟨j,hj,rfl⟩:=yA2 ha;exact ⟨(hA j hj).shares,(hA j hj).need⟩
  refine (ref_left (by omega) hal (λa ha=>yAA (hw.shares a ha) (by decide)) G).bind λr hr=>?_;rw[zaf,hr];exact ⟨λh=>⟨λi hi=>hA i hi,h⟩,λh=>h.fit⟩
theorem asc_pw{l:List Int}(h:∀i (h:i+1<l.length),l[i]<l[i+1]):l.Pairwise (·<·):=by
 rw[yBF];intro i j hi hj hij;induction j with
 |zero=>omega
 |succ j ih=>
  have h1:=h j hj;rcases yBc (yB0.1 hij) with h2 | h2
  ·have:=ih (by omega) h2;omega
  ·subst h2;exact h1
theorem asc_eq{l m:List Int}(hl:l.Pairwise (·<·))(hm:m.Pairwise (·<·))(h:∀x,x∈l↔x∈m):l=m:=by
 induction l generalizing m with
 |nil=>
  cases m with
  |nil=>rfl
  |cons y m=>exact absurd ((h y).2 (yAq ..)) (by simp)
 |cons x l ih=>
  cases m with
  |nil=>exact absurd ((h x).1 (yAq ..)) (by simp)
  |cons y m=>
   rw[xAo] at hl hm;have e:x=y:=by
    rcases yAu.1 ((h x).1 (yAq ..)) with e | h1
    ·exact e
    ·rcases yAu.1 ((h y).2 (yAq ..)) with e | h2
     ·exact e.symm
     ·have:=hl.1 y h2;have:=hm.1 x h1;omega
   subst e;congr 1;refine ih hl.2 hm.2 λz=>⟨λhz=>?_,λhz=>?_⟩
   ·rcases yAu.1 ((h z).1 (yAm _ hz)) with e | h1
    ·have:=hl.1 z hz;omega
    ·exact h1
   ·rcases yAu.1 ((h z).2 (yAm _ hz)) with e | h1
    ·have:=hm.1 z hz;omega
    ·exact h1
theorem allocsH_fwd{s:zad}{st:zab}{H:List zaa}{A:List zae}{F:List zac}(h:AllocsH s st H A F)(hF:∀r∈F,VecOk r):A.map (·.Job)=H.map (·.Id)/\TotFit F A:=by
 induction H generalizing A F with
 |nil=>rw[show A=[] from h];exact ⟨rfl,λi hi c=>by simp only[usedC,yCp,List.sum_nil];exact (zcg.1 (hF _ (yAk hi)) c).1⟩
 |cons j H ih=>obtain ⟨a,A',rfl,h1,h2,h3⟩:=h;obtain ⟨i1,i2⟩:=ih h3 (takeA_ok h2);refine ⟨by rw[yAw,yAw,i1,h1.job],λi hi c=>?_⟩;have:=i2 i (by rw[zd9];exact hi) c;rw[takeA_at,leftA,cmp_sub,zcR] at this;rw[usedC_cons];omega
theorem allocsH_bwd{s:zad}{st:zab}{n:Int}{H:List zaa}{A:List zae}{F:List zac}(he:A.map (·.Job)=H.map (·.Id))(hF:∀r∈F,VecOk r)(hp:∀a∈A,∀j∈H,a.Job=j.Id->PairOk s st j a)(hg:GoodA n A)(hf:TotFit F A):AllocsH s st H A F:=by
 induction H generalizing A F with
 |nil=>
  cases A with
  |nil=>rfl
  |cons a A=>cases he
 |cons j H ih=>
  cases A with
  |nil=>cases he
  |cons a A=>
   rw[yAw,yAw] at he;have he1:a.Job=j.Id:=by injection he
   have he2:A.map (·.Job)=H.map (·.Id):=by injection he
   have ga:=hg a (yAq ..);have gA:GoodA n A:=λb hb=>hg b (yAm _ hb);have fa:FitsA F a:=λi hi=>zcg.2 λc=>by have h1:=hf i hi c;have h2:=one_bd ga i c;have h3:=used_bd gA i c;have h4:=zcg.1 (hF _ (yAk hi)) c;rw[usedC_cons] at h1;rw[leftA,cmp_sub,zcR];omega
   refine ⟨a,A,rfl,hp a (yAq ..) j (yAq ..) he1,fa,ih he2 (takeA_ok fa) (λb hb k hk=>hp b (yAm _ hb) k (yAm _ hk)) gA λi hi c=>?_⟩;have h1:=hf i (by rwa [zd9] at hi) c;rw[takeA_at,leftA,cmp_sub,zcR];rw[usedC_cons] at h1;omega
theorem jobs_pw{s:zad}{st:zab}(J:JobsOk s st):((st.Jobs.filter hasJ).map (·.Id)).Pairwise (·<·):=by
 have h:(st.Jobs.map (·.Id)).Pairwise (·<·):=asc_pw λi hi=>by rw[yBd,yBd];exact J.sorted i (by simpa using hi)
 rw[List.pairwise_map] at h ⊢;exact h.filter _
structure HasIn (s:zad) (st:zab) (j:zaa):Prop where
 has:(∃a∈st.Allocs,a.Job=j.Id)↔hasJ j=true
 mine:∀a∈st.Allocs,a.Job=j.Id->PairOk s st j a
theorem to_ref{s:zad}{st:zab}(k:SpecOk s)(J:JobsOk s st)(A:AllocsOk s st):zdx s st/\∀j∈st.Jobs,HasIn s st j:=by
 obtain ⟨h1,h2⟩:=allocsH_fwd A k.nodes.ok;have pw:=jobs_pw J;rw[<-h1] at pw;have uniq:∀j∈st.Jobs,∀j'∈st.Jobs,j.Id=j'.Id->j=j':=λj hj j' hj' e=>by obtain ⟨m,hm,rfl⟩:=yA2 hj;obtain ⟨m',hm',rfl⟩:=yA2 hj';have:=J.sorted.inj hm hm' e;subst this;rfl
 refine ⟨⟨λi hi=>?_,h2⟩,λj hj=>⟨⟨λ⟨a,ha,e⟩=>?_,λhh=>?_⟩,λa ha e=>?_⟩⟩
 ·obtain ⟨j,hj,P⟩:=A.mem _ (yAk hi);refine ⟨λm hm e=>?_,⟨j,hj,P.job.symm⟩,P.suits.shares,by rw[P.need];exact (J.each j hj).ok.need⟩;have:=yBF.1 pw m i (by simpa using hm) (by simpa using hi) (by omega);simpa using this
 ·have:a.Job∈st.Allocs.map (·.Job):=yA4.2 ⟨a,ha,rfl⟩;rw[h1] at this;obtain ⟨j',hj',e'⟩:=yA4.1 this;obtain ⟨hj1,hj2⟩:=yBu.1 hj';have:j'=j:=uniq _ hj1 _ hj (by rw[e',e]);subst this;exact hj2
 ·have:j.Id∈(st.Jobs.filter hasJ).map (·.Id):=yA4.2 ⟨j,yBu.2 ⟨hj,hh⟩,rfl⟩;rw[<-h1] at this;obtain ⟨a,ha,e⟩:=yA4.1 this;exact ⟨a,ha,e⟩
 ·obtain ⟨j',hj',P⟩:=A.mem a ha;have:j'=j:=uniq _ hj' _ hj (by rw[<-P.job,e]);subst this;exact P
theorem of_ref{s:zad}{st:zab}(k:SpecOk s)(J:JobsOk s st)(R:zdx s st)(h:∀j∈st.Jobs,HasIn s st j):AllocsOk s st:=by
 have pw:(st.Allocs.map (·.Job)).Pairwise (·<·):=asc_pw λi hi=>by rw[yBd,yBd];exact (R.each (i+1) (by simpa using hi)).up i (by simp at hi;omega) rfl
 refine allocsH_bwd (n:=s.Nodes.length) (asc_eq pw (jobs_pw J) λx=>⟨λhx=>?_,λhx=>?_⟩) k.nodes.ok (λa ha j hj e=>(h j (yBu.1 hj).1).mine a ha e) R.good R.fit
 ·obtain ⟨a,ha,rfl⟩:=yA4.1 hx;obtain ⟨i,hi,rfl⟩:=yA2 ha;obtain ⟨j,hj,e⟩:=(R.each i hi).job;exact yA4.2 ⟨j,yBu.2 ⟨hj,(h j hj).has.1 ⟨_,ha,e.symm⟩⟩,e⟩
 ·obtain ⟨j,hj,rfl⟩:=yA4.1 hx;obtain ⟨a,ha,e⟩:=(h j (yBu.1 hj).1).has.2 (yBu.1 hj).2;exact yA4.2 ⟨a,ha,e⟩
end Go.Plain
end
section
namespace Go.Plain
open Go.Abs
theorem jn_ite{X R:Type}{r:X->Option R}{c:Prop}[Decidable c]{a b:X}:jn r (λj=>if c then j a else j b)=r (if c then a else b):=by unfold jn;split <;> rfl
theorem onV_pos{l:List zal}{n:Int}(h:SharesOk l n){i:Int}:onV l i > 0↔∃x∈l,x.Node=i:=by
 have hm:∀x∈l,1<=x.Many:=λx hx=>(h.mem x hx).2.2.1;clear h;induction l with
 |nil=>simp[onV]
 |cons y l ih=>
  have h1:=ih λx hx=>hm x (yAm _ hx);have h2:=hm y (yAq ..);have h3:=onV_nn (l:=l) (λx hx=>by have:=hm x (yAm _ hx);omega) i;have e:onV (y::l) i=(if y.Node=i then y.Many else 0)+onV l i:=by simp[onV]
  rw[e];constructor
  ·intro hp;by_cases hy:y.Node=i
   ·exact ⟨y,yAq ..,hy⟩
   ·rw[if_neg hy] at hp;obtain ⟨x,hx,e⟩:=h1.1 (by omega);exact ⟨x,yAm _ hx,e⟩
  ·rintro ⟨x,hx,e2⟩;rcases yAu.1 hx with rfl | hx
   ·rw[if_pos e2];omega
   ·have:=h1.2 ⟨x,hx,e2⟩;split <;> omega
def TakenBy(st:zab)(node frm:Int)(a:zae):Prop:=∃j∈st.Jobs,j.Id=a.Job/\(∃x∈a.Shares,x.Node=node)/\frm<j.Start+j.Wall
theorem ref_taken{s:zad}{st:zab}(hw:FewW s st)(R:zdx s st)(node frm:Int):Ret (zcp 1000 st node frm) λb=>JobsOk s st->(b=true↔∃a∈st.Allocs,TakenBy st node frm a):=by
 have hl:=hw.jobs;have hal:=hw.allocs;unfold zcp;refine lpA st.Allocs (λi a=>JobsOk s st->¬TakenBy st node frm a) (λi f hi hA hr=>?_) (λf hA=>?_) (by omega)
 ·simp only[zaS,zda hi,if_true,zak hi,Option.bind_some,wr1 (show i<1000000 by omega)];have ha:=yAk hi;refine (ref_find (by omega) st.Allocs[i].Job).bind λr hr1=>?_;rw[zag];refine ⟨λh=>?_,λh=>?_⟩
  ·simp only[yAf] at h;have at1:=hr1.2.1 h;have S:=(R.each i hi).shares;obtain ⟨hx,e⟩:=at_int (l:=st.Jobs) at1.lo (by have:=at1.lo;have:=at1.hi;omega);have hj:=yAk hx;have fin:Ret (if decide (IntKind.i64.wrap (st.Jobs[r.toNat].Start+st.Jobs[r.toNat].Wall) > frm)=true then some true else f ((i+1:Nat):Int)) (λb=>(∃x∈st.Allocs[i].Shares,x.Node=node)->JobsOk s st->(b=true↔∃a∈st.Allocs,TakenBy st node frm a)):=by
    rw[zag];refine ⟨λh2=>?_,λh2=>?_⟩
    ·rw[zaf];intro hsx J;have jo:=(J.each _ hj).ok;have:=jo.start;have:=jo.wall;rw[wr (by omega) (by omega)] at h2;simp only[yAf] at h2;exact ⟨λ_=>⟨_,ha,_,hj,at1.is,hsx,h2⟩,λ_=>rfl⟩
    ·refine (hr λJ tk=>?_).mono λb hb _=>hb;obtain ⟨j,hj2,e2,-,h3⟩:=tk;have:j=st.Jobs[r.toNat]:=by
      obtain ⟨m,hm,rfl⟩:=yA2 hj2;have:=J.sorted.inj hm hx (by rw[e2,at1.is]);subst this;rfl
     subst this;have jo:=(J.each _ hj).ok;have:=jo.start;have:=jo.wall;rw[wr (by omega) (by omega)] at h2;simp only[yAf] at h2;omega
   rw[ref_on (yAA (hw.shares _ ha) (by decide)) S,xAa,e,zag];simp only[Option.bind_some];refine ⟨λh2=>?_,λh2=>?_⟩
   ·simp only[yAf] at h2;exact fin.mono λb hb=>hb ((onV_pos S).1 h2)
   ·simp only[yAf] at h2;rw[if_neg (by simp)];exact hr λJ ⟨j,hj2,e2,hx2,h3⟩=>h2 ((onV_pos S).2 hx2)
  ·simp only[yAf] at h;rw[if_neg (by simp)];exact hr λJ ⟨j,hj2,e2,hx2,h3⟩=>by have:=hr1.1.2 ⟨j,hj2,e2⟩;omega
 ·simp only[zc7,yAh,yAx,zaf,yBr];rintro J ⟨a,ha,tk⟩;exact zcM (A:=λa=>JobsOk s st->¬TakenBy st node frm a) hA a ha J tk
theorem ref_books{s:zad}{st:zab}(hw:FewW s st)(R:zdx s st):Ret (zdl 1000 s st) λb=>JobsOk s st->(b=true↔BookedOk s st):=by
 have hl:=hw.books;unfold zdl;refine lpA st.Books (λi b=>(b.Id<st.Book/\st.Now<b.To)/\(JobsOk s st->¬∃a∈st.Allocs,TakenBy st b.Node b.From a)) (λi f hi hA hr=>?_) (λf hA=>?_) (by omega)
 ·simp only[zaS,zda hi,if_true,zak hi,Option.bind_some,wr1 (show i<1000000 by omega)];have hb:=yAk hi;rw[zag];refine ⟨λh=>?_,λh=>?_⟩
  ·rw[zaf];intro J;simp only[yAt,yAf] at h;simp only[yAh,yBr];exact λq=>by have:=q.live _ hb;omega
  ·simp only[yAt,yAf] at h;refine (ref_taken hw R _ _).bind λr hr1=>?_;rw[zag];refine ⟨λh2=>?_,λh2=>hr ⟨by omega,λJ=>λq=>h2 ((hr1 J).2 q)⟩⟩;rw[zaf];intro J;simp only[yAh,yBr];intro q;obtain ⟨a,ha,j,hj,e,⟨x,hx,en⟩,hf⟩:=(hr1 J).1 h2;exact q.clash a ha j hj e x hx _ hb en.symm hf
 ·simp only[zc7,yAh,yAx];refine (ref_book _ _ (by omega)).bind λr hr=>?_;rw[zaf];intro J;rw[hr];refine ⟨λh=>⟨h,λb hb=>?_,λa ha j hj e x hx b hb en hf=>?_⟩,λq=>q.books⟩
  ·obtain ⟨m,hm,rfl⟩:=yA2 hb;exact (hA m hm).1
  ·obtain ⟨m,hm,rfl⟩:=yA2 hb;exact (hA m hm).2 J ⟨a,ha,j,hj,e,⟨x,hx,en.symm⟩,hf⟩
structure AtA (l:List zae) (id:Int) (r:Int):Prop where
 lo:0<=r
 hi:r.toNat<l.length
 is:l[r.toNat].Job=id
theorem ref_findA{l:List zae}(hl:l.length<=300)(id:Int):Ret (zcO 1000 l id) λr=>(0<=r↔∃a∈l,a.Job=id)/\(0<=r->AtA l id r):=by
 unfold zcO;refine lpA l (λ_ j=>j.Job≠id) (λi f h _ hr=>?_) (λf h=>?_) (by omega)
 ·simp only[zda h,if_true,zak h,Option.bind_some,wr1 (show i<1000000 by omega),zag,zaf,yAF];exact ⟨λe=>⟨⟨λ_=>⟨_,yAk h,e⟩,λ_=>by omega⟩,λ_=>⟨by omega,by simpa using h,by simpa using e⟩⟩,λe=>hr e⟩
 ·simp only[zc7,yAh,yAx,zaf];refine ⟨⟨λh=>by omega,λ⟨j,hm,e⟩=>absurd e (zcM (A:=λj=>j.Job≠id) h j hm)⟩,λh=>by omega⟩
theorem zdx.uniq{s:zad}{st:zab}(R:zdx s st){i j:Nat}(hi:i<st.Allocs.length)(hj:j<st.Allocs.length)(e:st.Allocs[i].Job=st.Allocs[j].Job):i=j:=by
 have pw:(st.Allocs.map (·.Job)).Pairwise (·<·):=asc_pw λi hi=>by rw[yBd,yBd];exact (R.each (i+1) (by simpa using hi)).up i (by simp at hi;omega) rfl
 rw[yBF] at pw;rcases yBE i j with h | h | h
 ·have:=pw i j (by simpa using hi) (by simpa using hj) h;rw[yBd,yBd] at this;omega
 ·exact h
 ·have:=pw j i (by simpa using hj) (by simpa using hi) h;rw[yBd,yBd] at this;omega
structure RefJob (s:zad) (st:zab) (j:zaa):Prop where
 inn:JobIn s st j
 waits:Waits s st j
 has:HasIn s st j
theorem ref_job{s:zad}(k:SpecOk s){st:zab}(hw:FewW s st)(R:zdx s st){j:zaa}(hj:j∈st.Jobs):za7 (zep 1000 s st j) (RefJob s st j):=by
 have kv:=k.versions;have hl:=hw.jobs;have hal:=hw.allocs;unfold zep;refine (ref_job_right j (hw.after j hj)).bind λr hr1=>?_;rw[zag];refine ⟨λh=>no_f λq=>?_,λh=>?_⟩
 ·have:=hr1.2 q.inn.ok;rw[this] at h;simp only[yAt,yAf,yAY,yAh,false_or] at h;have:=q.inn.next;have:=q.inn.user;have:=q.inn.queue;have:=q.inn.born;have:=q.inn.start;have:=q.inn.fin;omega
 ·simp only[yAt,yAf,not_or,yAs,yA1] at h;have jo:=hr1.1 h.1.1.1.1.1.1;have hst:=jo.state.st;have hsr:=jo.start;have hwl:=jo.wall;simp only[jn_ite];generalize he:(if decide (j.State≥5)=true then (3:Int) else if (j.State == 4)=true then 2 else if (j.State == 3)=true then 1 else 0)=e;have ev:e=extraV j.State:=by
   rw[<-he];simp only[extraV,yAf,yAF,ge_iff_le];split
   ·split <;> (try split) <;> (try split) <;> omega
   ·split
    ·split <;> (try split) <;> omega
    ·split <;> (try split) <;> (try split) <;> omega
  have eb:=extra_bd j.State;refine (ref_findA hal j.Id).bind λr8 hr8=>?_;simp only[zaS,zck,Option.bind_some];rw[ev,wr (x:=s.Versions+extraV j.State) (by omega) (by omega),zag];refine ⟨λh2=>no_f λq=>?_,λh2=>?_⟩
  ·have:=q.inn.version;simp only[yAf] at h2;omega
  ·simp only[yAf] at h2;have I:JobIn s st j:=⟨jo,by omega,by omega,by omega,by omega,by omega,by omega,by omega⟩;have eh:((j.State == 3) || (j.State == 4))=hasJ j:=rfl;rw[eh,zag];refine ⟨λh3=>no_f λq=>?_,λh3=>?_⟩
   ·have:=q.has.has;rw[<-hr8.1] at this;cases hh:hasJ j with
    |true=>have t:=this.2 hh;simp[hh] at h3;omega
    |false=>
     have t:¬0<=r8:=λt=>by have:=this.1 t;rw[hh] at this;cases this
     simp[hh] at h3;omega
   ·have hasI:(∃a∈st.Allocs,a.Job=j.Id)↔hasJ j=true:=by
     rw[<-hr8.1];cases hh:hasJ j with
     |true=>simp[hh] at h3;simp[h3]
     |false=>simp[hh] at h3;simp;omega
    rw[zag];refine ⟨λh4=>yes_t ?_,λh4=>?_⟩
    ·simp only[yAf] at h4;refine ⟨I,λhs=>by omega,hasI,λa ha e=>?_⟩;have:=hasJ_lt (hasI.1 ⟨a,ha,e⟩);omega
    ·simp only[yAf] at h4;have ha:=jo.afterN;refine lpA j.After (λ_ d=>∃i∈st.Jobs,i.Id=d.Job) (λm g hm hA hr=>?_) (λg hA=>?_) (by omega)
     ·simp only[zda hm,if_true,zak hm,Option.bind_some,wr1 (show m<1000000 by omega)];refine (ref_find (by omega) j.After[m].Job).bind λr hr2=>?_;rw[zag];refine ⟨λh5=>no_f λq=>?_,λh5=>hr (hr2.1.1 ?_)⟩
      ·have:=hr2.1.2 ((q.waits (by omega)).after _ (yAk hm));simp only[yAf] at h5;omega
      ·simp only[yAf] at h5;omega
     ·simp only[zc7,yAh,yAx];obtain ⟨b,e1,e2⟩:=fits_eq hw.spec k (q:=j.Queue) (m:=j.Many) jo.need jo.needz;rw[e2,xAa,zag];refine ⟨λh5=>no_f λq=>?_,λh5=>?_⟩
      ·have:=(q.waits (by omega)).fits;rw[e1] at this;simp only[yAa] at this;subst this;simp at h5
      ·simp only[yAs,yA1] at h5;subst h5;have W:Waits s st j:=λ_=>⟨e1,zcM hA⟩;rw[zag];refine ⟨λh6=>yes_t ⟨I,W,hasI,λa ha e=>?_⟩,λh6=>?_⟩
       ·have:=hasI.1 ⟨a,ha,e⟩;rw[this] at h6;simp at h6
       ·simp only[yAs,yA1] at h6;have r0:=hr8.1.2 (hasI.2 h6);have at8:=hr8.2 r0;obtain ⟨hx,e3⟩:=at_int (l:=st.Allocs) at8.lo (by have:=at8.lo;have:=at8.hi;omega);have hma:=yAk hx;rw[wr (x:=j.Start+j.Wall) (by omega) (by omega),e3,zag];simp only[Option.bind_some];refine ⟨λh7=>?_,λh7=>no_f λq=>?_⟩
        ·simp only[yAf] at h7;rw[zag];refine ⟨λh8=>?_,λh8=>no_f λq=>h8 (zd2.2 (q.has.mine _ hma at8.is).need)⟩;have eN:=zd2.1 h8;refine (ref_mine hw.spec k j _ (yAA (hw.shares _ hma) (by decide))).bind λr hr9=>?_;rw[zaf,hr9];refine ⟨λS=>⟨I,W,hasI,λa ha e=>?_⟩,λq=>(q.has.mine _ hma at8.is).suits⟩;have:a=st.Allocs[r8.toNat]:=by
          obtain ⟨m,hm,rfl⟩:=yA2 ha;have:=R.uniq hm hx (by rw[e,at8.is]);subst this;rfl
         subst this;exact ⟨e,eN,S,h7⟩
        ·have:=(q.has.mine _ hma at8.is).now;simp only[yAf] at h7;omega
theorem ref_sound{s:zad}{st:zab}(hw:FewW s st):za7 (zco 1000 s st) (SoundOk s st):=by
 have hl:=hw.jobs;have hq:=hw.stamps;have hus:=hw.use;unfold zco;simp only[zaS];refine (ref_right s hw.spec).bind λr hr1=>?_;rw[zag];refine ⟨λh=>?_,λh=>?_⟩
 ·rw[if_pos trivial];refine no_f λq=>?_;have:=hr1.2 q.spec;rw[this] at h;have k1:=q.spec.ids;have:=q.nums.now;have:=q.nums.next;have:=q.nums.book;rw[wr (x:=s.Ids+1) (by omega) (by omega)] at h;simp only[yAt,yAf,yAY,yAh,false_or] at h;omega
 ·simp only[yAt,yAf,not_or,yAs,yA1] at h;have k:=hr1.1 h.1.1.1.1.1;have k1:=k.ids;rw[wr (x:=s.Ids+1) (by omega) (by omega)] at h;refine (ref_uid st.Book).bind λr2 hr2=>?_;rw[zag];refine ⟨λh2=>no_f λq=>?_,λh2=>?_⟩
  ·have:=hr2.2 (by have:=q.nums.book;omega);rw[this] at h2;simp at h2
  ·simp only[yAs,yA1] at h2;have u2:=hr2.1 h2;have NO:NumsOk s st:=⟨by omega,by omega,by omega⟩;rw[zag];refine ⟨λh3=>?_,λh3=>?_⟩
   ·rw[if_pos trivial];refine no_f λq=>?_;have:=q.jobs.len;simp only[yAf] at h3;omega
   ·simp only[yAf] at h3;refine (ref_allocs hw).bind λr4 hr4=>?_;rw[zag];refine ⟨λh4=>?_,λh4=>?_⟩
    ·rw[if_pos trivial];refine no_f λq=>?_;have:=hr4.2 (to_ref k q.jobs q.allocs).1;rw[this] at h4;simp at h4
    ·simp only[yAs,yA1] at h4;have R:=hr4.1 h4;refine (ref_books hw R).bind λr5 hr5=>?_;rw[zag];refine ⟨λh5=>?_,λh5=>?_⟩
     ·rw[if_pos trivial];refine no_f λq=>?_;have:=(hr5 q.jobs).2 q.booked;rw[this] at h5;simp at h5
     ·simp only[yAs,yA1] at h5;refine (ref_use st.Use s.Users (by omega)).bind λr6 hr6=>?_;rw[zag];refine ⟨λh6=>?_,λh6=>?_⟩
      ·rw[if_pos trivial];refine no_f λq=>?_;have:=hr6.2 ⟨q.use.len,q.use.use⟩;rw[this] at h6;have:=q.use.qlen;simp only[yAt,yBh,ne_eq,yAY,yAh,false_or] at h6;omega
      ·simp only[yAt,yBh,ne_eq,not_or,yAN,yAs,yA1] at h6;have u6:=hr6.1 h6.1;refine (ref_uid st.Stamps.Nodes).bind λr7 hr7=>?_;rw[zag];refine ⟨λh7=>no_f λq=>?_,λh7=>?_⟩
       ·have:=hr7.2 q.use.nodes;rw[this] at h7;simp at h7
       ·simp only[yAs,yA1] at h7;have u7:=hr7.1 h7;refine lpA st.Stamps.Queues (λ_ x=>0<=x/\x<=281474976710656) (λi f hi _ hr=>?_) (λf hS=>?_) (by omega)
        ·simp only[zda hi,if_true,zak hi,Option.bind_some,wr1 (show i<1000000 by omega)];refine (ref_uid _).bind λr8 hr8=>?_;rw[zag];refine ⟨λh8=>no_f λq=>?_,λh8=>hr (hr8.1 (by simpa using h8))⟩;have:=hr8.2 (q.use.stamps _ (yAk hi));rw[this] at h8;simp at h8
        ·simp only[zc7,yAh,yAx];have U:UseOk s st:=⟨u6.1,u6.2,by omega,u7,zcM hS⟩;refine lpA st.Jobs (λi j=>RefJob s st j/\prvI st.Jobs i<j.Id) (λi f hi _ hr=>?_) (λf hJ=>?_) (by omega)
         ·have hd:decide ((i:Int) > 0)=decide (0<i):=by simp
          have hj:=yAk hi;simp only[zda hi,if_true,zak hi,Option.bind_some,wr1 (show i<1000000 by omega),hd];refine (ref_job k hw R hj).bind λr9 hr9=>?_;rw[zag];refine ⟨λh9=>no_f λq=>?_,λh9=>?_⟩
          ·have:=hr9.2 ⟨q.jobs.each _ hj,q.waits _ hj,(to_ref k q.jobs q.allocs).2 _ hj⟩;rw[this] at h9;simp at h9
          ·simp only[yAs,yA1] at h9;have J9:=hr9.1 h9;rw[zag];refine ⟨λh10=>?_,λh10=>?_⟩
           ·simp only[yAf] at h10;obtain ⟨m,rfl⟩:∃m,i=m+1:=⟨i-1,by omega⟩;rw[wp1 (show m+1<1000000 by omega),zak (show m<st.Jobs.length by omega),xAa,zag];refine ⟨λh11=>no_f λq=>?_,λh11=>hr ⟨J9,?_⟩⟩
            ·have:=q.jobs.sorted m hi;simp only[yAf] at h11;omega
            ·rw[prvI_succ (by omega)];simp only[yAf] at h11;omega
           ·simp only[yAf] at h10;have:i=0:=by omega
            subst this;refine hr ⟨J9,?_⟩;have:=J9.inn.ok.id;simp only[prvI];omega
         ·simp only[zc7,yAh,yAx];have JO:JobsOk s st:=jobs_of (by omega) λi hi=>⟨(hJ i hi).1.inn,(hJ i hi).2⟩;have all:∀j∈st.Jobs,RefJob s st j:=λj hj=>by
           obtain ⟨m,hm,rfl⟩:=yA2 hj;exact (hJ m hm).1
          exact yes_t ⟨k,NO,JO,λj hj=>(all j hj).waits,of_ref k JO R λj hj=>(all j hj).has,(hr5 JO).1 h5,U⟩
end Go.Plain
end
section
namespace Go.Plain
open Go.Abs
theorem clone_ints{l:List Int}(h:l.length<=1000000):zaP 1000 l=some l:=by unfold zaP;exact zbA h
theorem copy_ok{s:zad}(hs:FewS s):zdd 1000 s=some s:=by
 have h1:=hs.nodes;have h2:=hs.parts;have h3:=hs.queues;unfold zdd;rw[clone_res (by omega),xAa,show zb6 1000 s.Parts=some s.Parts from zbA (by omega),xAa];refine Ret.eq (lpS s.Parts.length (λi x=>x=((i:Int),s.Parts)) (λi x f hi hx hr=>?_) (λx f hx=>?_) rfl (by omega))
 ·subst hx;have hp:=hs.part _ (yAk hi);simp only[zda hi,if_true,zak hi,Option.bind_some,wr1 (show i<1000000 by omega),clone_ints (show s.Parts[i].length<=1000000 by omega),Int.toNat_natCast,yBz];exact hr _ rfl
 ·subst hx;simp only[zc7,yAh,yAx];rw[show zbb 1000 s.Queues=some s.Queues from zbA (by omega),xAa];refine lpS s.Queues.length (λi x=>x=((i:Int),s.Queues)) (λi x f hi hx hr=>?_) (λx f hx=>?_) rfl (by omega)
  ·subst hx;have hp:=hs.queue _ (yAk hi);simp only[zda hi,if_true,zak hi,Option.bind_some,wr1 (show i<1000000 by omega),clone_ints (show s.Queues[i].Users.length<=1000000 by omega),Int.toNat_natCast,yBz];exact hr _ (Prod.ext rfl (yBz hi))
  ·subst hx;simp only[zc7,yAh,yAx,zaf]
theorem share_new{n:Int}(h:1<=n/\n<=8):share_New 1000 n=some (List.replicate n.toNat 0):=by simp only[share_New,zez];rw[if_neg (by simp;omega),if_neg (by simp;omega)];simp only[Option.bind_some,mk?];rw[if_pos (by omega)];rfl
theorem table_new{n:Int}(h:1<=n/\n<=256):table_New_of79d 1000 n=some (.inr n):=by simp only[table_New_of79d];rw[if_neg (by simp;omega)]
theorem new_ok{s:zad}(hs:FewS s)(k:SpecOk s):zdD 1000 s=some (.inr (List.replicate s.Queues.length 0,[],s.Nodes,s.Parts,s.Queues,s.Users,s.Weights.Age,s.Weights.Size,s.Weights.Qos,s.Weights.Share,s.Decay,s.Mode,s.Jobs,s.Ids,s.Versions,s.Linger,s.Keep,s.In,s.Out,s.Cache,0,1,1,List.replicate s.Users.toNat 0,0,s.Jobs,s.Nodes)):=by have h3:=hs.queues;unfold zdD;rw[spec_true hs k,xAa,if_neg (by simp),table_new k.jobs,xAa];dsimp only;rw[new_ledger hs k,xAa];dsimp only;rw[copy_ok hs,xAa,share_new k.users,xAa];unfold mk?;rw[if_pos (by omega),xAa];rw[xAg]
theorem own_job{j:zaa}(h:j.After.length<=1000000):zd4 1000 j=some j:=by unfold zd4;rw[show zam 1000 j.After=some j.After from zbA h];rfl
theorem all_jobs{l:List zaa}(hl:l.length<=300)(ha:∀j∈l,j.After.length<=10):zbO 1000 l=some l:=by
 unfold zbO;rw[show zbB 1000 l=some l from zbA (by omega),xAa];refine Ret.eq (lpS l.length (λi x=>x=((i:Int),l)) (λi x f hi hx hr=>?_) (λx f hx=>?_) rfl (by omega))
 ·subst hx;have hp:=ha _ (yAk hi);simp only[zda hi,if_true,zak hi,Option.bind_some,wr1 (show i<1000000 by omega),own_job (show l[i].After.length<=1000000 by omega),Int.toNat_natCast,yBz];exact hr _ rfl
 ·subst hx;simp only[zc7,yAh,yAx,zaf]
def mapA(A:List zae):List (Int×zae):=A.map λa=>(a.Job,a)
def AscA(A:List zae):Prop:=(A.map (·.Job)).Pairwise (·<·)
theorem mapA_get{A:List zae}(h:AscA A):∀i (hi:i<A.length),mget (mapA A) A[i].Job=some A[i]:=by
 induction A with
 |nil=>intro i hi;simp at hi
 |cons a A ih=>
  unfold AscA at h;rw[yAw,xAo] at h;intro i hi
  match i,hi with
  |0,hi=>simp[mapA,mget]
  |i + 1, hi=>
   have hi':i<A.length:=by simpa using hi
   have:=h.1 A[i].Job (yA4.2 ⟨_,yAk hi',rfl⟩);have e:mget (mapA (a::A)) A[i].Job=mget (mapA A) A[i].Job:=by simp only[mapA,yAw,mget];rw[if_neg (by omega)]
   rw[List.getElem_cons_succ,e];exact ih h.2 i hi'
theorem mapA_none{A:List zae}{q:Int}(h:∀a∈A,a.Job≠q):mget (mapA A) q=none:=by
 induction A with
 |nil=>rfl
 |cons a A ih=>simp only[mapA,yAw,mget];rw[if_neg (h a (yAq ..))];exact ih λb hb=>h b (yAm _ hb)
theorem mapA_set{A:List zae}{a:zae}(h:∀b∈A,b.Job≠a.Job):mset (mapA A) a.Job a=mapA (A++[a]):=by
 induction A with
 |nil=>rfl
 |cons b A ih=>have:=ih λc hc=>h c (yAm _ hc);simp only[mapA,List.cons_append,yAw,mset] at this ⊢;rw[if_neg (h b (yAq ..)),this]
theorem i64wf{n:Int}(h:0<=n/\n<=1048576):(Lit.int .i64 n).wf=true:=by
 have e1:IntKind.i64.min=-9223372036854775808:=by decide
 have e2:IntKind.i64.max=9223372036854775807:=by decide
 simp only[Lit.wf,yAj,yAf,e1,e2];omega
theorem keys_ok{A:List zae}(hl:A.length<=300)(h:AscA A)(hj:∀a∈A,0<=a.Job/\a.Job<=1048576):keysI (λk=>k) (mapA A)=some (A.map (·.Job)):=by
 have e:(mapA A).map Prod.fst=A.map (·.Job):=by simp[mapA]
 unfold keysI;have wf:∀p∈mapA A,(Lit.int .i64 p.1).wf=true:=λp hp=>by obtain ⟨a,ha,rfl⟩:=yA4.1 hp;exact i64wf (hj a ha)
 have nd:(A.map (·.Job)).Nodup:=h.imp λh=>by omega
 have ln:(mapA A).length<=1000000:=by simp[mapA];omega
 rw[e,if_pos ⟨ln,nd,wf⟩,List.mergeSort_of_pairwise (h.imp λh=>by simp;omega)];simp
theorem all_allocs{A:List zae}(hl:A.length<=300)(h:AscA A)(hj:∀a∈A,0<=a.Job/\a.Job<=1048576)(hs:∀a∈A,a.Shares.length<=300):zaI 1000 (mapA A)=some A:=by
 unfold zaI;rw[keys_ok hl h hj,xAa];refine Ret.eq (lpS (A.map (·.Job)).length (λi x=>x=((i:Int),A.take i)) (λi x f hi hx hr=>?_) (λx f hx=>?_) (by simp) (by simp;omega))
 ·subst hx;have hi':i<A.length:=by simpa using hi
  have e:=mapA_get h i hi';have es:=hs _ (yAk hi');simp only[zda hi,if_true,zak hi,Option.bind_some,wr1 (show i<1000000 by omega),yBd,e,oel,own_alloc (show A[i].Shares.length<=1000000 by omega)];rw[app_ok (by rw[yA6];simp;omega),xAa];exact hr _ (by rw[yAO hi'])
 ·subst hx;simp only[zc7,yAh,yAx,zaf,yAz,yBa]
theorem clone_books{l:List zai}(h:l.length<=1000000):zat 1000 l=some l:=by unfold zat;exact zbA h
theorem beq_dep(a:zbL):zbL.beq a a=true:=by simp[zbL.beq]
theorem beq_share(a:zal):zal.beq a a=true:=by simp[zal.beq]
theorem beq_book(a:zai):zai.beq a a=true:=by simp[zai.beq]
theorem beq_res'(a:zac):zac.beq a a=true:=zd2.2 rfl
theorem lpT{α:Type}{b:(Int->Option Bool)->Int->Option Bool}(l:List α)(hs:∀(i:Nat)(f:Int->Option Bool)(h:i<l.length),b f (i:Int)=f ((i+1:Nat):Int))(he:∀f,b f (l.length:Int)=some true){N:Nat}(hN:l.length<N):lpX b N 0=some true:=
 Ret.eq (lpA l (λ_ _=>True) (λi f h _ hr=>by rw[hs i f h];exact hr trivial) (λf _=>by rw[he];exact ⟨_,rfl,rfl⟩) hN)
theorem same_ints(l:List Int)(hl:l.length<=300):zb3 1000 l l=some true:=by
 unfold zb3;rw[if_neg (by simp)];refine lpT l (λi f h=>?_) (λf=>?_) (by omega)
 ·simp only[zda h,if_true,zak h,Option.bind_some,wr1 (show i<1000000 by omega),yCu,yAh,yAx]
 ·simp only[zc7,yAh,yAx]
theorem same_job(j:zaa)(hl:j.After.length<=300):zbI 1000 j j=some true:=by
 unfold zbI;rw[if_neg (by simp)];refine lpT j.After (λi f h=>?_) (λf=>?_) (by omega)
 ·simp only[zda h,if_true,zak h,Option.bind_some,wr1 (show i<1000000 by omega),beq_dep,yAY,yAh,yAx]
 ·simp only[zc7,yAh,yAx,yCk,beq_res',yBO]
theorem same_jobs(l:List zaa)(hl:l.length<=300)(ha:∀j∈l,j.After.length<=10):zdI 1000 l l=some true:=by
 unfold zdI;rw[if_neg (by simp)];refine lpT l (λi f h=>?_) (λf=>?_) (by omega)
 ·have:=ha _ (yAk h);simp only[zda h,if_true,zak h,Option.bind_some,wr1 (show i<1000000 by omega),same_job l[i] (by omega),yAY,yAh,yAx]
 ·simp only[zc7,yAh,yAx]
theorem same_shares(l:List zal)(hl:l.length<=300):zdS 1000 l l=some true:=by
 unfold zdS;rw[if_neg (by simp)];refine lpT l (λi f h=>?_) (λf=>?_) (by omega)
 ·simp only[zda h,if_true,zak h,Option.bind_some,wr1 (show i<1000000 by omega),beq_share,yAY,yAh,yAx]
 ·simp only[zc7,yAh,yAx]
theorem same_allocs(l:List zae)(hl:l.length<=300)(ha:∀a∈l,a.Shares.length<=300):zdO 1000 l l=some true:=by
 unfold zdO;rw[if_neg (by simp)];refine lpT l (λi f h=>?_) (λf=>?_) (by omega)
 ·have:=ha _ (yAk h);simp only[zaS,zda h,if_true,zak h,Option.bind_some,wr1 (show i<1000000 by omega),yCu,beq_res',same_shares l[i].Shares this,yAY,yAh,yAx]
 ·simp only[zc7,yAh,yAx]
theorem same_books(l:List zai)(hl:l.length<=300):zdP 1000 l l=some true:=by
 unfold zdP;rw[if_neg (by simp)];refine lpT l (λi f h=>?_) (λf=>?_) (by omega)
 ·simp only[zda h,if_true,zak h,Option.bind_some,wr1 (show i<1000000 by omega),beq_book,yAY,yAh,yAx]
 ·simp only[zc7,yAh,yAx]
theorem same_state{s:zad}{st:zab}(hw:FewW s st):zbl 1000 st st=some true:=by have h1:=hw.jobs;have h2:=hw.use;have h3:=hw.stamps;have h4:=hw.books;unfold zbl;rw[if_pos (by simp),same_jobs _ (by omega) hw.after,xAa,if_pos rfl,same_allocs _ hw.allocs hw.sh,xAa,if_pos rfl,same_books _ (by omega),xAa,if_pos rfl,same_ints _ (by omega),xAa,if_pos rfl,same_ints _ (by omega),xAa];simp
end Go.Plain
end
section
namespace Go.Plain
open Go.Abs
theorem sorted_take{l:List zaa}(h:SortedJ l)(n:Nat):SortedJ (l.take n):=λi hi=>by rw[yA6] at hi;rw[yBJ,yBJ];exact h i (by omega)
theorem find_end{l:List zaa}(hl:l.length<=300)(hs:SortedJ l){id:Int}(h:∀j∈l,j.Id<id):zax 1000 l id=some ((l.length:Int),false):=by
 unfold zax;have e:(lpX (λf2 (x1:Int×Int)=>
   if (decide (x1.1<x1.2))=true then
    (
     (at? l (IntKind.i64.wrap (Int.fdiv (IntKind.u64.wrap (IntKind.i64.wrap (x1.1+x1.2))) (2 ^ 1)))).bind λa3=>
     some (decide (a3.Id≥id))).bind λx4=>
    if (!x4)=true then
     f2 ((IntKind.i64.wrap ((IntKind.i64.wrap (Int.fdiv (IntKind.u64.wrap (IntKind.i64.wrap (x1.1+x1.2))) (2 ^ 1)))+1)),x1.2)
    else
     f2 (x1.1,(IntKind.i64.wrap (Int.fdiv (IntKind.u64.wrap (IntKind.i64.wrap (x1.1+x1.2))) (2 ^ 1))))
   else
    some x1.1) 1000 (0,(l.length:Int)))=some (l.length:Int):=by
  refine Ret.eq (half hl hs id (λj=>some (decide (j.Id<id))) (λj hj=>rfl) (λi=>some i) (λi hi h1 h2=>?_) _ (λf x=>?_))
  ·rw[zaf];rcases yBc hi with q | q
   ·have:=h2 i q (yAo _);have:=h _ (yAk q);omega
   ·rw[q]
  ·split
   ·cases at? l (IntKind.i64.wrap (Int.fdiv (IntKind.u64.wrap (IntKind.i64.wrap (x.1+x.2))) (2 ^ 1))) with
    |none=>rfl
    |some a=>
     simp only[Option.bind_some,yAs,yAW,yAf];by_cases hc:a.Id<id
     ·rw[if_pos hc,if_pos (by omega)]
     ·rw[if_neg hc,if_neg (by omega)]
   ·rfl
 rw[e,xAa,zc7,if_neg (by simp)]
theorem put_ok{l:List zaa}{n:Nat}(hn:n<l.length)(hl:l.length<=300)(hs:SortedJ l){m:Int}(hm:(l.length:Int)<=m)(hj:JobOk l[n]):zcr 1000 (l.take n) l[n] m=some (l.take (n+1),0):=by
 obtain ⟨r,e,h⟩:=job_right l[n];have hr:=h.2 hj;subst hr;have ha:=hj.afterN;have ll:(l.take n).length=n:=by rw[yA6];omega
 unfold zcr;rw[e,xAa,if_neg (by simp),find_end (by omega) (sorted_take hs n) (λj hj=>?_),xAa]
 ·rw[if_neg (by simp),if_neg (by rw[ll];simp;omega),own_job (by omega),xAa];unfold zaN;have sl:slice? (l.take n) ((l.take n).length:Int) ((l.take n).length:Int)=some []:=by
   unfold slice?;rw[if_pos ⟨by omega,by omega,by omega⟩];simp
  rw[sl,xAa,if_neg (by simp),if_pos (by simp),app_ok (by rw[ll];simp;omega),xAa,xAa,yAO hn]
 ·obtain ⟨i,hi,rfl⟩:=yA2 hj;rw[yBJ];exact hs.lt (by omega) hn
def leftL(F:List zac)(l:List zae):List zac:=l.foldl takeA F
structure TInv (s:zad) (st:zab) (i:Nat) (x:Int×(List zac)×List (Int×zae)):Prop where
 ix:x.1=(i:Int)
 h:∃H,AllocsH s st H (st.Allocs.drop i) x.2.1
 len:x.2.1.length=s.Nodes.length
 vec:∀r∈x.2.1,VecOk r
 m:x.2.2=mapA (st.Allocs.take i)
 fr:x.2.1=leftL s.Nodes (st.Allocs.take i)
theorem asc_of{s:zad}{st:zab}(q:SoundOk s st):AscA st.Allocs:=by have h:=(allocsH_fwd q.allocs q.spec.nodes.ok).1;unfold AscA;rw[h];exact jobs_pw q.jobs
theorem alloc_ids{s:zad}{st:zab}(q:SoundOk s st):∀a∈st.Allocs,0<=a.Job/\a.Job<=1048576:=λa ha=>by obtain ⟨j,hj,P⟩:=q.allocs.mem a ha;have:=(q.jobs.each j hj).ok.id;have:=P.job;omega
theorem of_ok{s:zad}{st:zab}(hw:FewW s st)(q:SoundOk s st):zdf 1000 s st=some (.inr (st.Stamps.Queues,st.Jobs,(st.Allocs.map λa=>(a.Job,a)),s.Nodes,s.Parts,s.Queues,s.Users,s.Weights.Age,s.Weights.Size,s.Weights.Qos,s.Weights.Share,s.Decay,s.Mode,s.Jobs,s.Ids,s.Versions,s.Linger,s.Keep,s.In,s.Out,s.Cache,st.Now,st.Next,st.Book,st.Books,st.Use,st.Stamps.Nodes,s.Jobs,leftL s.Nodes st.Allocs)):=by
 have hl:=hw.jobs;have hal:=hw.allocs;have hn:=hw.spec.nodes;have hb:=hw.books;have hu:=hw.use;have hs:=hw.stamps;obtain ⟨r,e,h⟩:=sound_ok hw;have hr:=h.2 q;subst hr;have jl:=q.jobs.len;have asc:=asc_of q;unfold zdf;rw[e,xAa,if_neg (by simp),new_ok hw.spec q.spec,xAa];dsimp only;refine Ret.eq ?_;refine lpS st.Jobs.length (λi x=>x=((i:Int),st.Jobs.take i)) (λi x f hi hx hr=>?_) (λx f hx=>?_) rfl (by omega)
 ·subst hx;simp only[zda hi,if_true,zak hi,Option.bind_some,wr1 (show i<1000000 by omega),put_ok hi hl q.jobs.sorted jl (q.jobs.each _ (yAk hi)).ok,yCu,yAh,yAx];exact hr _ rfl
 ·subst hx;simp only[zc7,yAh,yAx];refine lpS st.Allocs.length (TInv s st) (λi x f hi hx hr=>?_) (λx f hx=>?_) ⟨rfl,⟨_,by rw[yB4];exact q.allocs⟩,rfl,q.spec.nodes.ok,rfl,rfl⟩ (by omega)
  ·obtain ⟨x1,F,M⟩:=x;obtain ⟨h1,h2,h3,h4,h5,h6⟩:=hx;dsimp only at h1 h2 h3 h4 h5 h6;subst h1;have hm:=yAk hi;have hsh:=hw.sh _ hm;obtain ⟨H,hH⟩:=h2;rw[xAs hi] at hH;obtain ⟨j,hj,P⟩:=q.allocs.mem _ hm;have jo:=(q.jobs.each j hj).ok;have fit:FitsA F st.Allocs[i]/\∃H',AllocsH s st H' (st.Allocs.drop (i+1)) (takeA F st.Allocs[i]):=by
    cases H with
    |nil=>cases (show st.Allocs[i]::st.Allocs.drop (i+1)=[] from hH)
    |cons j' H'=>obtain ⟨a',A',e',-,hf,hr⟩:=hH;cases e';exact ⟨hf,H',hr⟩
   have free:∀b∈st.Allocs.take i,b.Job≠st.Allocs[i].Job:=λb hb=>by obtain ⟨m,hm2,rfl⟩:=yA2 hb;rw[yA6] at hm2;rw[yBJ];have:=yBF.1 asc m i (by simp;omega) (by simpa using hi) (by omega);rw[yBd,yBd] at this;omega
   have T:TakeOk M F st.Allocs[i]:=⟨by have:=jo.id;have:=P.job;omega,tot_pos (by have:=jo.many;have:=P.suits.tot;omega),by rw[h3];exact P.suits.shares,by rw[P.need];exact jo.need,by rw[h5];exact mapA_none free,fit.1⟩;simp only[zda hi,if_true,zak hi,Option.bind_some,wr1 (show i<1000000 by omega)];refine (take_ok (M:=M) (a:=st.Allocs[i]) (F:=F) (by omega) hsh h4).bind λr hr1=>?_;have z:=hr1.1.2 T;obtain ⟨eM,bh⟩:=hr1.2 z;rw[z];simp only[yCu,yAh,yAx];refine hr _ ⟨rfl,?_,?_,?_,?_,?_⟩
   ·dsimp only;rw[bh.eq];exact fit.2
   ·dsimp only;rw[bh.eq,zd9,h3]
   ·dsimp only;rw[bh.eq];exact takeA_ok fit.1
   ·dsimp only;rw[eM,h5,mapA_set free,yAO hi]
   ·dsimp only;rw[bh.eq,h6,yAO hi,leftL,leftL,List.foldl_append];rfl
  ·obtain ⟨x1,F,M⟩:=x;obtain ⟨h1,h2,h3,h4,h5,h6⟩:=hx;dsimp only at h1 h2 h3 h4 h5 h6;subst h1;simp only[zc7,yAh,yAx];rw[show zaW 1000 st.Books=some st.Books from zbA (by omega),xAa,show zbe 1000 st.Use=some st.Use from zbA (by omega),xAa,show zbe 1000 st.Stamps.Queues=some st.Stamps.Queues from zbA (by omega),xAa,zaf];rw[h5,h6,yBa,yBa];rfl
theorem of_no{s:zad}{st:zab}(hw:FewW s st)(q:¬SoundOk s st):zdf 1000 s st=some (.inl 2):=by
 obtain ⟨r,e,h⟩:=sound_ok hw;have:r=false:=by
  cases r with
  |false=>rfl
  |true=>exact absurd (h.1 rfl) q
 unfold zdf;rw[e,this];rfl
theorem shown{s:zad}{st:zab}(hw:FewW s st)(q:SoundOk s st) :
  zaz 1000 st.Stamps.Queues st.Jobs (st.Allocs.map λa=>(a.Job,a)) st.Now st.Next st.Book st.Books st.Use st.Stamps.Nodes=some st:=by
 have hl:=hw.jobs;have hb:=hw.books;have hu:=hw.use;have hs:=hw.stamps;unfold zaz;rw[all_jobs (by omega) hw.after,xAa,show zaI 1000 (st.Allocs.map λa=>(a.Job,a))=some st.Allocs from all_allocs hw.allocs (asc_of q) (alloc_ids q) hw.sh,xAa,clone_books (by omega),xAa,clone_ints (by omega),xAa,show za2 1000 st.Stamps.Queues=some st.Stamps.Queues from zbA (by omega),xAa]
theorem law_of_ok{s:zad}{st:zab}(hw:FewW s st)(q:SoundOk s st):zbj 1000 s st=some (.inr (st.Stamps.Queues,st.Jobs,(st.Allocs.map λa=>(a.Job,a)),true,s.Nodes,s.Parts,s.Queues,s.Users,s.Weights.Age,s.Weights.Size,s.Weights.Qos,s.Weights.Share,s.Decay,s.Mode,s.Jobs,s.Ids,s.Versions,s.Linger,s.Keep,s.In,s.Out,s.Cache,st.Now,st.Next,st.Book,st.Books,st.Use,st.Stamps.Nodes,s.Jobs,leftL s.Nodes st.Allocs)):=by obtain ⟨r,e2,h⟩:=ref_sound hw;have hr:=h.2 q;subst hr;unfold zbj;rw[of_ok hw q,xAa];dsimp only;rw[e2,xAa,if_neg (by simp),shown hw q,xAa,same_state hw,xAa]
theorem law_of_no{s:zad}{st:zab}(hw:FewW s st)(q:¬SoundOk s st):zbj 1000 s st=some (.inl true):=by
 obtain ⟨r,e2,h⟩:=ref_sound hw;have:r=false:=by
  cases r with
  |false=>rfl
  |true=>exact absurd (h.1 rfl) q
 unfold zbj;rw[of_no hw q,xAa];dsimp only;rw[e2,this];rfl
theorem spec_shown{s:zad}(hs:FewS s) :
  zaK 1000 s.Nodes s.Parts s.Queues s.Users s.Weights.Age s.Weights.Size s.Weights.Qos s.Weights.Share s.Decay s.Mode s.Jobs s.Ids s.Versions s.Linger s.Keep s.In s.Out s.Cache=some s:=by
 unfold zaK;rw[show zdd 1000 _=some s from copy_ok hs];rfl
end Go.Plain
end
section
namespace Go.Plain
open Go.Abs
theorem rises_len{l:List Int}{n:Int}(h:Rises l n):(l.length:Int)<=n∨l=[]:=by
 have key:∀i,i<l.length->(i:Int)<=l[i]!:=by
  intro i;induction i with
  |zero=>intro hi;have:=(h 0 hi).1;simp only[prv] at this;simp only[hi,yBU];omega
  |succ i ih=>intro hi;have h1:=ih (by omega);have h2:=(h (i+1) hi).1;rw[prv_succ (by omega)] at h2;simp only[hi,show i<l.length by omega,yBU] at h1 ⊢;omega
 cases hl:l.length with
 |zero=>exact .inr (yAJ hl)
 |succ m=>left;have h1:=key m (by omega);have h2:=(h m (by omega)).2;simp only[show m<l.length by omega,yBU] at h1;omega
theorem few_of_spec{s:zad}(k:SpecOk s):FewS s:={
 nodes:=by have:=k.nodes.hi;omega
 parts:=by have:=k.parts.hi;omega
 queues:=by have:=k.queues.hi;omega
 part:=λp hp=>by
  have h1:=rises_len (k.parts.ok p hp).2;have:=k.nodes.hi;rcases h1 with h1 | h1
  ·omega
  ·rw[h1];simp
 queue:=λq hq=>by
  have h1:=rises_len (k.queues.ok q hq).users;have:=k.users;rcases h1 with h1 | h1
  ·omega
  ·rw[h1];simp }
theorem shares_len{l:List zal}{n:Int}(h:SharesOk l n)(hn:0<=n):(l.length:Int)<=n:=by
 rcases rises_len h.node with h1 | h1
 ·simpa using h1
 ·have:l=[]:=by simpa using h1
  rw[this];simpa using hn
theorem few_of_sound{s:zad}{st:zab}(q:SoundOk s st):FewW s st:={
 spec:=few_of_spec q.spec
 jobs:=by have:=q.jobs.len;have:=q.spec.jobs;omega
 after:=λj hj=>by have:=(q.jobs.each j hj).ok.afterN;omega
 allocs:=by have h:=(allocsH_fwd q.allocs q.spec.nodes.ok).1;have h2:=yCj List.length h;simp only[yAz] at h2;have h3:(st.Jobs.filter hasJ).length<=st.Jobs.length:=List.length_filter_le _ _;have:=q.jobs.len;have:=q.spec.jobs;omega
 books:=by have:=q.booked.books.len;omega
 use:=by have:=q.use.len;have:=q.spec.users;omega
 stamps:=by have:=q.use.qlen;have:=q.spec.queues.hi;omega
 shares:=λa ha=>by obtain ⟨j,hj,P⟩:=q.allocs.mem a ha;have h1:=shares_len P.suits.shares (by omega);have:=q.spec.nodes.hi;omega }
end Go.Plain
end
section
namespace Go.Plain
open Go.Abs
def zeroJ:zaa:={ Id:=0,User:=0,Queue:=0,Many:=0,Need:={ Cpu:=0,Mem:=0,Gpu:=0,Lic:=0 },Wall:=0,After:=[],State:=0,Ok:=false,Kill:=false,Version:=0,Born:=0,Start:=0,End:=0,Array:=0 }
theorem find_row{l:List zaa}(hl:l.length<=300)(hs:SortedJ l)(id:Int):Ret (zax 1000 l id) λr=>(r.2=true↔∃j∈l,j.Id=id)/\(r.2=true->At l id r.1):=by
 unfold zax;rw[ret_bind];refine half hl hs id (λj=>some (decide (j.Id<id))) (λj hj=>rfl) (λi=>some i) (λi hi h1 h2=>?_) _ (λf x=>?_)
 ·rw[zaf,zag];refine ⟨λh=>?_,λh=>?_⟩
  ·simp only[yAf] at h;have hi':i<l.length:=by omega
   rw[zak hi',xAa,zaf];simp only[yAF];refine ⟨⟨λe=>⟨_,yAk hi',e⟩,λ⟨j,hm,e⟩=>?_⟩,λe=>⟨by omega,by simpa using hi',by simpa using e⟩⟩;obtain ⟨k,hk,rfl⟩:=yA2 hm;rcases yBE k i with q | q | q
   ·have:=h1 k hk q;omega
   ·subst q;exact e
   ·have:=hs.lt q hk;have:=h2 i hi' (by omega);omega
  ·simp only[yAf] at h;simp only[zaf,yAh,yBr,false_implies,yBN];rintro ⟨j,hm,e⟩;obtain ⟨k,hk,rfl⟩:=yA2 hm;have:=h1 k hk (by omega);omega
 ·split
  ·cases at? l (IntKind.i64.wrap (Int.fdiv (IntKind.u64.wrap (IntKind.i64.wrap (x.1+x.2))) (2 ^ 1))) with
   |none=>rfl
   |some a=>
    simp only[Option.bind_some,yAs,yAW,yAf];by_cases hc:a.Id<id
    ·rw[if_pos hc,if_pos (by omega)]
    ·rw[if_neg hc,if_neg (by omega)]
  ·rfl
section
variable{l:List zaa}
theorem job_em(l:List zaa)(id:Int):(∃k,∃h:k<l.length,l[k].Id=id)∨∀j∈l,j.Id≠id:=by
 by_cases h:∃j∈l,j.Id=id
 ·obtain ⟨j,hj,e⟩:=h;obtain ⟨k,hk,rfl⟩:=yA2 hj;exact .inl ⟨k,hk,e⟩
 ·exact .inr λj hj e=>h ⟨j,hj,e⟩
theorem find_some(hl:l.length<=300)(hs:SortedJ l){k:Nat}(hk:k<l.length):zax 1000 l l[k].Id=some ((k:Int),true):=by obtain ⟨⟨r,b⟩,e,h1,h2⟩:=find_row hl hs l[k].Id;have hb:b=true:=h1.2 ⟨_,yAk hk,rfl⟩;subst hb;have a:At l l[k].Id r:=h2 rfl;have:=hs.inj a.hi hk a.is;have:=a.lo;rw[e,show r=(k:Int) by omega]
theorem find_none(hl:l.length<=300)(hs:SortedJ l){id:Int}(h:∀j∈l,j.Id≠id):∃r,zax 1000 l id=some (r,false):=by
 obtain ⟨⟨r,b⟩,e,h1,h2⟩:=find_row hl hs id;have hb:b=false:=by
  cases b with
  |false=>rfl
  |true=>obtain ⟨j,hj,e⟩:=h1.1 rfl;exact absurd e (h j hj)
 exact ⟨r,by rw[e,hb]⟩
theorem job_right_t{j:zaa}(h:JobOk j):zc9 1000 j=some true:=by obtain ⟨r,e,q⟩:=job_right j;rw[e,q.2 h]
theorem sorted_set(hs:SortedJ l){k:Nat}(hk:k<l.length){j:zaa}(he:j.Id=l[k].Id):SortedJ (l.set k j):=by
 have key:∀i (h:i<l.length),((l.set k j)[i]'(by simpa using h)).Id=l[i].Id:=λi h=>by
  rw[List.getElem_set];split
  ·rename_i e;subst e;exact he
  ·rfl
 intro i hi;have hi':i+1<l.length:=by simpa using hi
 rw[key i (by omega),key (i+1) hi'];exact hs i hi'
end
def aftV(x:Int):Int:=if x≥281474976710656 then 0 else x+1
theorem after_ok{x:Int}(h:0<=x):store_after 1000 x=some (aftV x):=by
 unfold store_after aftV;simp only[yAf];split
 ·rfl
 ·rw[wr (by omega) (by omega)]
def zdV(Q:List Int)(q:Int):List Int:=if 0<=q/\q<Q.length then Q.set q.toNat (aftV (Q[q.toNat]?.getD 0)) else Q
theorem stampL_len(Q:List Int)(q:Int):(zdV Q q).length=Q.length:=by unfold zdV;split <;> simp
def StampsIn(Q:List Int):Prop:=∀x∈Q,0<=x/\x<=281474976710656
theorem aftV_bd{x:Int}(h:0<=x/\x<=281474976710656):0<=aftV x/\aftV x<=281474976710656:=by unfold aftV;split <;> omega
theorem stampL_in{Q:List Int}(h:StampsIn Q)(q:Int):StampsIn (zdV Q q):=by
 unfold zdV;split
 ·rename_i hq;have hl:q.toNat<Q.length:=by omega
  intro x hx;rcases yBn hx with e | e
  ·exact h x e
  ·subst e;rw[yAg hl];exact aftV_bd (h _ (yAk hl))
 ·exact h
theorem stamp_ok{Q:List Int}(h:StampsIn Q)(q:Int):zaQ 1000 Q q=some (zdV Q q):=by
 unfold zaQ zdV;by_cases hq:0<=q/\q<Q.length
 ·rw[if_pos (by simp;omega),if_pos hq];obtain ⟨hx,e⟩:=at_int (l:=Q) hq.1 hq.2;rw[e,xAa,after_ok (h _ (yAk hx)).1,xAa,xAa,yAg hx];rfl
 ·rw[if_neg (by simp;omega),if_neg hq]
def changeQ(Q:List Int)(a b:Int):List Int:=if b=a then zdV Q a else zdV (zdV Q a) b
section
variable{l:List zaa}
def WaitS(x:Int):Prop:=x=1∨x=2
instance (x:Int):Decidable (WaitS x):=by unfold WaitS;infer_instance
theorem zex(x:Int):zdc 1000 x=some (decide (WaitS x)):=by unfold zdc;congr 1;rw[yBI];rw[yAf];simp only[yAt,yAF,WaitS]
end
structure Shows (st:zab):Prop where
 jobs:st.Jobs.length<=300
 after:∀j∈st.Jobs,j.After.length<=10
 allocs:st.Allocs.length<=300
 asc:AscA st.Allocs
 ids:∀a∈st.Allocs,0<=a.Job/\a.Job<=1048576
 sh:∀a∈st.Allocs,a.Shares.length<=300
 books:st.Books.length<=20
 use:st.Use.length<=20
 stamps:st.Stamps.Queues.length<=20
theorem shows_of{s:zad}{st:zab}(hw:FewW s st)(q:SoundOk s st):Shows st:=
 ⟨hw.jobs,hw.after,hw.allocs,asc_of q,alloc_ids q,hw.sh,hw.books,hw.use,hw.stamps⟩
theorem shown_of{st:zab}(h:Shows st) :
  zaz 1000 st.Stamps.Queues st.Jobs (st.Allocs.map λa=>(a.Job,a)) st.Now st.Next st.Book st.Books st.Use st.Stamps.Nodes=some st:=by
 have hl:=h.jobs;have hb:=h.books;have hu:=h.use;have hs:=h.stamps;unfold zaz;rw[all_jobs (by omega) h.after,xAa,show zaI 1000 (st.Allocs.map λa=>(a.Job,a))=some st.Allocs from all_allocs h.allocs h.asc h.ids h.sh,xAa,clone_books (by omega),xAa,clone_ints (by omega),xAa,show za2 1000 st.Stamps.Queues=some st.Stamps.Queues from zbA (by omega),xAa]
theorem same_shows{st:zab}(h:Shows st):zbl 1000 st st=some true:=by have h1:=h.jobs;have h2:=h.use;have h3:=h.stamps;have h4:=h.books;unfold zbl;rw[if_pos (by simp),same_jobs _ (by omega) h.after,xAa,if_pos rfl,same_allocs _ h.allocs h.sh,xAa,if_pos rfl,same_books _ (by omega),xAa,if_pos rfl,same_ints _ (by omega),xAa,if_pos rfl,same_ints _ (by omega),xAa];simp
end Go.Plain
end
section
namespace Go.Plain
open Go.Abs
section
variable{l:List zaa}
theorem get_some(hl:l.length<=300)(hs:SortedJ l){k:Nat}(hk:k<l.length)(ha:l[k].After.length<=1000):zaO 1000 l l[k].Id=some (l[k],true):=by unfold zaO;rw[find_some hl hs hk,xAa];simp only[yAY,yAh,yAx];rw[zak hk,xAa,own_job (by omega),xAa]
theorem get_none(hl:l.length<=300)(hs:SortedJ l){id:Int}(h:∀j∈l,j.Id≠id):zaO 1000 l id=some (zeroJ,false):=by unfold zaO;obtain ⟨r,e⟩:=find_none hl hs h;rw[e,xAa];rfl
theorem job_some(hl:l.length<=300)(hs:SortedJ l){k:Nat}(hk:k<l.length)(ha:l[k].After.length<=1000):zaF 1000 l l[k].Id=some (l[k],true):=by unfold zaF;rw[get_some hl hs hk ha,xAa]
theorem job_none(hl:l.length<=300)(hs:SortedJ l){id:Int}(h:∀j∈l,j.Id≠id):zaF 1000 l id=some (zeroJ,false):=by unfold zaF;rw[get_none hl hs h,xAa]
theorem set_ok(hl:l.length<=300)(hs:SortedJ l){k:Nat}(hk:k<l.length){j:zaa}(hj:JobOk j)(he:j.Id=l[k].Id):zcw 1000 l j=some (l.set k j,0):=by have:=hj.afterN;unfold zcw;rw[job_right_t hj,xAa,if_neg (by simp),he,find_some hl hs hk,xAa];dsimp only;rw[if_neg (by simp),own_job (by omega),xAa,zak hk,xAa,xAg]
theorem change_set(hl:l.length<=300)(hs:SortedJ l){k:Nat}(hk:k<l.length){j:zaa}(hj:JobOk j)(he:j.Id=l[k].Id){Q:List Int}(hQ:StampsIn Q) :
  za1 1000 Q l l[k] j=some (l.set k j,changeQ Q l[k].Queue j.Queue,0):=by
 unfold za1;rw[set_ok hl hs hk hj he,xAa];dsimp only;rw[if_neg (by simp),stamp_ok hQ,xAa];dsimp only[zaS];unfold changeQ;by_cases h:j.Queue=l[k].Queue
 ·rw[if_neg (by simp[h]),if_pos h]
 ·rw[if_pos (by simpa using h),if_neg h,stamp_ok (stampL_in hQ _),xAa]
end
end Go.Plain
end
section
namespace Go.Plain
open Go.Abs
section
variable{l:List zaa}
theorem edit_done(hl:l.length<=300)(hs:SortedJ l){k:Nat}(hk:k<l.length)(ha:l[k].After.length<=1000){j:zaa}(hj:JobOk j)(he:j.Id=l[k].Id)(hw:WaitS l[k].State)(hw2:WaitS j.State){Q:List Int}(hQ:StampsIn Q) :
  zbd 1000 Q l j=some (changeQ Q l[k].Queue j.Queue,l.set k j,0):=by
 unfold zbd;rw[he,get_some hl hs hk ha,xAa];dsimp only;rw[if_neg (by simp),job_right_t hj,xAa,if_neg (by simp)];dsimp only[zaS];rw[zex,xAa,if_neg (by simpa using hw),zex,xAa,if_neg (by simpa using hw2),change_set hl hs hk hj he hQ,xAa]
end
end Go.Plain
end
section
namespace Go.Plain
open Go.Abs
structure JS (st:zab):Prop where
 shows:Shows st
 sorted:SortedJ st.Jobs
 ok:∀j∈st.Jobs,JobOk j
 stamps:StampsIn st.Stamps.Queues
theorem js_of{s:zad}{st:zab}(hw:FewW s st)(q:SoundOk s st):JS st:=
 ⟨shows_of hw q,q.jobs.sorted,λj hj=>(q.jobs.each j hj).ok,q.use.stamps⟩
theorem JS.set{st:zab}(h:JS st){k:Nat}(hk:k<st.Jobs.length){j:zaa}(he:j.Id=st.Jobs[k].Id)(hj:JobOk j){Q:List Int}(hQ:StampsIn Q)(hl:Q.length=st.Stamps.Queues.length){n:Int}:JS { st with Jobs:=st.Jobs.set k j,Stamps:={ Queues:=Q,Nodes:=n } }:=by
 have m:∀x∈st.Jobs.set k j,x∈st.Jobs∨x=j:=λx hx=>yBn hx;refine ⟨⟨by simpa using h.shows.jobs,λx hx=>?_,h.shows.allocs,h.shows.asc,h.shows.ids,h.shows.sh,h.shows.books,h.shows.use,by rw[hl];exact h.shows.stamps⟩,sorted_set h.sorted hk he,λx hx=>?_,hQ⟩
 ·rcases m x hx with e | e
  ·exact h.shows.after x e
  ·subst e;have:=hj.afterN;omega
 ·rcases m x hx with e | e
  ·exact h.ok x e
  ·subst e;exact hj
end Go.Plain
end
section
namespace Go.Plain
open Go.Abs
theorem leftL_len{F:List zac}{A:List zae}:(leftL F A).length=F.length:=by
 induction A generalizing F with
 |nil=>rfl
 |cons a A ih=>have:=ih (F:=takeA F a);rw[zd9] at this;exact this
theorem left_cmp{A:List zae}:∀{F:List zac}{i:Nat}(h:i<F.length)(h':i<(leftL F A).length)(c:Nat),cmp c (leftL F A)[i]=cmp c F[i]-usedC A i c:=by
 induction A with
 |nil=>intro F i h h' c;simp[leftL,usedC]
 |cons a A ih=>
  intro F i h h' c;have hl:i<(takeA F a).length:=by rw[zd9];exact h
  have:=ih (F:=takeA F a) hl (by rw[leftL_len,zd9];exact h) c;rw[takeA_at,leftA,cmp_sub,zcR] at this;rw[usedC_cons];have e:(leftL F (a::A))[i]=(leftL (takeA F a) A)[i]'(by rw[leftL_len,zd9];exact h):=rfl;rw[e,this];omega
def backL(F:List zac)(a:zae):List zac:=F.mapIdx λi r=>addR r (mulR (onV a.Shares i) a.Need)
theorem backL_len{F:List zac}{a:zae}:(backL F a).length=F.length:=by simp[backL]
theorem backL_at{F:List zac}{a:zae}{i:Nat}(h:i<(backL F a).length):(backL F a)[i]=addR (F[i]'(by rwa [backL_len] at h)) (mulR (onV a.Shares i) a.Need):=by simp[backL]
def others(A:List zae)(id:Int):List zae:=A.filter λb=>decide (b.Job≠id)
theorem others_none{A:List zae}{id:Int}(h:∀a∈A,a.Job≠id):others A id=A:=by unfold others;rw[List.filter_eq_self];intro a ha;simpa using h a ha
theorem mdel_others{A:List zae}(h:AscA A)(id:Int):mdel (A.map λa=>(a.Job,a)) id=(others A id).map λa=>(a.Job,a):=by
 induction A with
 |nil=>rfl
 |cons b A ih=>
  unfold AscA at h;rw[yAw,xAo] at h;have nx:∀x∈A,b.Job<x.Job:=λx hx=>h.1 x.Job (yA4.2 ⟨x,hx,rfl⟩);simp only[yAw,mdel];by_cases e:b.Job=id
  ·rw[if_pos e];have:others (b::A) id=A:=by
    unfold others;rw[List.filter_cons_of_neg (by simpa using e)];exact others_none λx hx=>by have:=nx x hx;omega
   rw[this]
  ·rw[if_neg e,ih h.2];have:others (b::A) id=b::others A id:=by
    unfold others;rw[List.filter_cons_of_pos (by simpa using e)]
   rw[this,yAw]
theorem mget_mapA{A:List zae}(h:AscA A)(id:Int):(∃a∈A,a.Job=id/\mget (A.map λa=>(a.Job,a)) id=some a)∨((∀a∈A,a.Job≠id)/\mget (A.map λa=>(a.Job,a)) id=none):=by
 by_cases hx:∃a∈A,a.Job=id
 ·obtain ⟨a,ha,e⟩:=hx;obtain ⟨i,hi,rfl⟩:=yA2 ha;exact .inl ⟨_,ha,e,by rw[<-e];exact mapA_get h i hi⟩
 ·have hn:∀a∈A,a.Job≠id:=λa ha e=>hx ⟨a,ha,e⟩;exact .inr ⟨hn,mapA_none hn⟩
theorem add_ok{a b:zac}(ha:VecOk a)(hb:VecOk b):Ret (vec_Add 1000 a b) λr=>(r.2=0↔VecOk (addR a b))/\(r.2=0->r.1=addR a b):=by
 simp only[vec_Add,zaS];obtain ⟨r1,e1,h1⟩:=zcc a;have t1:=h1.2 ha;subst t1;obtain ⟨r2,e2,h2⟩:=zcc b;have t2:=h2.2 hb;subst t2;have fd:∀{x y:Int},0<=x/\x<=1048576->0<=y/\y<=1048576->fsum? x y=some (x+y):=λ{x y} hx hy=>by unfold fsum?;rw[if_pos (by omega)]
 simp only[e1,e2,Option.bind_some,yAY,yAh,yAx,zbg,fd ha.cpu hb.cpu,fd ha.mem hb.mem,fd ha.gpu hb.gpu,fd ha.lic hb.lic];have:=ha.cpu;have:=ha.mem;have:=ha.gpu;have:=ha.lic;have:=hb.cpu;have:=hb.mem;have:=hb.gpu;have:=hb.lic;refine (within_ok (by omega) (by omega) (by omega) (by omega)).bind λr hr=>?_;rw[zaf];exact hr
def FitsB(F:List zac)(a:zae):Prop:=∀r∈backL F a,VecOk r
theorem back_ok{a:zae}{F:List zac}(hF:F.length<=300)(hl:a.Shares.length<=300)(hS:SharesOk a.Shares F.length)(hN:VecOk a.Need)(hv:∀r∈F,VecOk r) :
  Ret (zbC 1000 a F) λr=>(r.2=0↔FitsB F a)/\(r.2=0->r.1=backL F a):=by
 simp only[zbC,zaD,zbA (show F.length<=1000000 by omega),Option.bind_some];have nn:∀x∈a.Shares,0<=x.Many:=λx hx=>by have:=hS.mem x hx;omega
 refine lpS a.Shares.length (λk x=>x.1=(k:Int)/\x.2.length=F.length/\(∀r∈x.2,VecOk r)/\∀i (h:i<x.2.length) (h':i<F.length),x.2[i]=addR F[i] (mulR (onV (a.Shares.take k) i) a.Need)) (λk x f hk hx hr=>?_) (λx f hx=>?_) ⟨rfl,rfl,hv,λi h h'=>?_⟩ (by omega)
 ·obtain ⟨x1,G⟩:=x;obtain ⟨rfl,hlen,hok,hat⟩:=hx;dsimp only at hlen hok hat ⊢;have q:=hS.mem _ (yAk hk);have hn:a.Shares[k].Node.toNat<G.length:=by omega
  have hnF:a.Shares[k].Node.toNat<F.length:=by omega
  have eN:((a.Shares[k].Node.toNat:Nat):Int)=a.Shares[k].Node:=by omega
  have tk:=onV_take hk a.Shares[k].Node;rw[if_pos rfl] at tk;have le:=onV_le nn (k+1) a.Shares[k].Node;have n0:=onV_nn (l:=a.Shares.take k) (λx hx=>nn x (yBg hx)) a.Shares[k].Node;have hg:=hat _ hn hnF;rw[eN] at hg;have bad:(∃c,cmp c G[a.Shares[k].Node.toNat]+a.Shares[k].Many * cmp c a.Need > 1048576)->¬FitsB F a:=λ⟨c,hc⟩ hf=>by
   have hb:a.Shares[k].Node.toNat<(backL F a).length:=by rw[backL_len];exact hnF
   have h1:=zcg.1 (hf _ (yAk hb)) c;rw[backL_at,cmp_add,zcR,eN] at h1;rw[hg,cmp_add,zcR] at hc;have h2:0<=cmp c a.Need:=(zcg.1 hN c).1;have h3:(onV (a.Shares.take k) a.Shares[k].Node+a.Shares[k].Many) * cmp c a.Need<=onV a.Shares a.Shares[k].Node * cmp c a.Need:=yBf (by omega) h2;rw[yCs] at h3;omega
  simp only[zda hk,if_true,zak hk,Option.bind_some,wr1 (show k<1000000 by omega)];refine (times_ok hN q.2.2).bind λr hr1=>?_;simp only[zag,zaf,yBh,ne_eq,yAN];refine ⟨λh=>⟨⟨λh'=>absurd h' h,λhf=>?_⟩,λh'=>absurd h' h⟩,λh=>?_⟩
  ·exfalso;refine bad ?_ hf;have hno:¬VecOk (mulR a.Shares[k].Many a.Need):=λv=>h (hr1.1.2 v);rw[zcg] at hno;obtain ⟨c,hc⟩:=yCd.1 hno;refine ⟨c,?_⟩;rw[zcR] at hc;have h1:=mul_bd (show 0<=a.Shares[k].Many/\a.Shares[k].Many<=64 by omega) (zcg.1 hN c);have h2:=zcg.1 (hok _ (yAk hn)) c;omega
  ·have e1:=hr1.2 h;have v1:=hr1.1.1 h;obtain ⟨hx',e⟩:=at_int (l:=G) (x:=a.Shares[k].Node) (by omega) (by omega);rw[e,xAa,e1];refine (add_ok (hok _ (yAk hn)) v1).bind λr2 hr2=>?_;simp only[Option.bind_some,zag,zaf,yBh,ne_eq,yAN];refine ⟨λh'=>⟨⟨λh2=>absurd h2 h',λhf=>?_⟩,λh2=>absurd h2 h'⟩,λh'=>?_⟩
   ·exfalso;refine bad ?_ hf;have hno:¬VecOk (addR G[a.Shares[k].Node.toNat] (mulR a.Shares[k].Many a.Need)):=λv=>h' (hr2.1.2 v);rw[zcg] at hno;obtain ⟨c,hc⟩:=yCd.1 hno;refine ⟨c,?_⟩;rw[cmp_add,zcR] at hc;have h1:=mul_bd (show 0<=a.Shares[k].Many/\a.Shares[k].Many<=64 by omega) (zcg.1 hN c);have h2:=zcg.1 (hok _ (yAk hn)) c;omega
   ·have e2:=hr2.2 h';have v2:=hr2.1.1 h';refine hr _ ⟨rfl,by simpa using hlen,λr hr'=>?_,λi hi hi'=>?_⟩
    ·dsimp only at hr';rcases yBn hr' with hr' | rfl
     ·exact hok r hr'
     ·rw[e2];exact v2
    ·dsimp only at hi ⊢;rw[yAI] at hi;rw[List.getElem_set];have tki:=onV_take hk (i:Int);split
     ·rename_i ei;subst ei;rw[e2,hg];rw[if_pos eN.symm] at tki;rw[tki];refine res_ext λc=>?_;rw[cmp_add,cmp_add,cmp_add,zcR,zcR,zcR,yCs,eN];omega
     ·rename_i ei;rw[if_neg (by omega),Int.add_zero] at tki;rw[hat i hi hi',tki]
 ·obtain ⟨x1,G⟩:=x;obtain ⟨rfl,hlen,hok,hat⟩:=hx;dsimp only at hlen hok hat ⊢;simp only[zc7,yAh,yAx,zaf,yBa,yBP,true_implies] at hat ⊢;have e:G=backL F a:=List.ext_getElem (by rw[hlen,backL_len]) λi h1 h2=>by rw[backL_at h2];exact hat i h1 (by omega)
  exact ⟨λr hr=>hok r (by rw[e];exact hr),e⟩
 ·refine res_ext λc=>?_;rw[cmp_add,zcR];simp[onV]
theorem give_ok{A:List zae}{F:List zac}(hA:AscA A)(hF:F.length<=300)(hs:∀a∈A,a.Shares.length<=300)(hg:GoodA F.length A)(hv:∀r∈F,VecOk r)(id:Int) :
  Ret (zbR 1000 (A.map λa=>(a.Job,a)) id F) λr=>(r.2.1≠0/\r.1=(A.map λa=>(a.Job,a))/\r.2.2=F/\∀a∈A,a.Job=id->¬FitsB F a) ∨
   (∃a∈A,a.Job=id/\FitsB F a/\r=((others A id).map (λa=>(a.Job,a)),0,backL F a)):=by
 unfold zbR;rcases mget_mapA hA id with ⟨a,ha,e,h⟩ | ⟨hn,h⟩
 ·rw[h];simp only[oel];refine (back_ok hF (hs a ha) (hg a ha).1 (hg a ha).2 hv).bind λr hr=>?_;rw[zag];refine ⟨λh0=>?_,λh0=>?_⟩
  ·simp only[yBh,ne_eq] at h0;rw[zaf];refine .inl ⟨h0,rfl,rfl,λb hb e' hf=>?_⟩;have:b=a:=by
    rcases mget_mapA hA id with ⟨c,hc,e3,h3⟩ | ⟨hn,_⟩
    ·obtain ⟨m,hm,rfl⟩:=yA2 hb;have:=mapA_get hA m hm;rw[e'] at this;rw[show mget (mapA A) id=some a from h] at this;injection this with this
     exact this.symm
    ·exact absurd e (hn a ha)
   subst this;exact h0 (hr.1.2 hf)
  ·simp only[yBh,ne_eq,yAN] at h0;rw[zaf,hr.2 h0,mdel_others hA];exact .inr ⟨a,ha,e,hr.1.1 h0,rfl⟩
 ·rw[h];simp only[oel];rw[zaf];exact .inl ⟨by simp,rfl,rfl,λa ha e=>absurd e (hn a ha)⟩
def nextS(x what:Int):Option Int:=
 if what=1/\x=1 then some 2 else if what=2/\x=2 then some 1 else if what=3/\x=1 then some 3 else if what=4/\x=3 then some 1 else if what=5/\x=3 then some 4 else if what=6/\x=3 then some 4
 else if what=6/\WaitS x then some 6 else if what=7/\(x=3∨x=4) then some 5 else if what=8/\x=4 then some 6 else none
theorem life_next(x what:Int):life_Next 1000 x what=some ((nextS x what).getD 0,(nextS x what).isSome):=by
 unfold life_Next nextS;simp only[zaS,zex,life_Has,Option.bind_some,yAj,yAF];by_cases h1:what=1/\x=1
 ·rw[if_pos h1,if_pos h1];rfl
 rw[if_neg h1,if_neg h1];by_cases h2:what=2/\x=2
 ·rw[if_pos h2,if_pos h2];rfl
 rw[if_neg h2,if_neg h2];by_cases h3:what=3/\x=1
 ·rw[if_pos h3,if_pos h3];rfl
 rw[if_neg h3,if_neg h3];by_cases h4:what=4/\x=3
 ·rw[if_pos h4,if_pos h4];rfl
 rw[if_neg h4,if_neg h4];by_cases h5:what=5/\x=3
 ·rw[if_pos h5,if_pos h5];rfl
 rw[if_neg h5,if_neg h5];by_cases h6:what=6/\x=3
 ·rw[if_pos h6,if_pos h6];rfl
 rw[if_neg h6,if_neg h6];by_cases w6:what=6
 ·rw[if_pos w6];by_cases hw:WaitS x
  ·rw[if_pos (by simpa using hw),if_pos ⟨w6,hw⟩];rfl
  ·have w7:¬what=7:=by omega
   have w8:¬(what=8/\x=4):=by omega
   rw[if_neg (by simpa using hw),if_neg (show ¬(what=6/\WaitS x) from λh=>hw h.2),if_neg w7,if_neg (show ¬(what=7/\(x=3∨x=4)) from λh=>w7 h.1),if_neg (by simp),if_neg w8,if_neg w8];rfl
 ·rw[if_neg w6,if_neg (show ¬false=true by simp),if_neg (show ¬(what=6/\WaitS x) from λh=>w6 h.1)];by_cases w7:what=7
  ·rw[if_pos w7];by_cases hx:x=3∨x=4
   ·rw[if_pos (by simpa using hx),if_pos ⟨w7,hx⟩];rfl
   ·have w8:¬(what=8/\x=4):=by omega
    rw[if_neg (by simpa using hx),if_neg (show ¬(what=7/\(x=3∨x=4)) from λh=>hx h.2),if_neg w8,if_neg w8];rfl
  ·rw[if_neg w7,if_neg (show ¬false=true by simp),if_neg (show ¬(what=7/\(x=3∨x=4)) from λh=>w7 h.1)];by_cases w8:what=8/\x=4
   ·rw[if_pos w8,if_pos w8];rfl
   ·rw[if_neg w8,if_neg w8];rfl
def HasS(x:Int):Prop:=x=3∨x=4
instance (x:Int):Decidable (HasS x):=by unfold HasS;infer_instance
theorem life_has(x:Int):life_Has 1000 x=some (decide (HasS x)):=by unfold life_Has;congr 1;rw[yBI];rw[yAf];simp only[yAt,yAF,HasS]
def OverS(x:Int):Prop:=x=5∨x=6
instance (x:Int):Decidable (OverS x):=by unfold OverS;infer_instance
theorem life_over(x:Int):zd8 1000 x=some (decide (OverS x)):=by unfold zd8;congr 1;rw[yBI];rw[yAf];simp only[yAt,yAF,OverS]
def stepR (j:zaa) (what now:Int) (ok:Bool) (ns:Int):zaa:=
  { j with
    State:=ns
    Version:=j.Version+1
    Ok:=if what=5 then ok else if what=6∨what=8∨what=7∧j.State=3 then false else j.Ok
    Kill:=if what=6 then true else if what=7 then false else j.Kill
    Start:=if what=3 then now else if what=4 then 0 else j.Start
    End:=if OverS ns then now else j.End }
theorem step_jobok{j:zaa}(h:JobOk j){what now:Int}(hn:0<=now/\now<=1099511627776)(ok:Bool){ns:Int}(hs:nextS j.State what=some ns)(hv:j.Version<281474976710656):JobOk (stepR j what now ok ns):=by
 have hver:=h.version;have hst:=h.start;have hfi:=h.fin;have sst:=h.state.start;have sfi:=h.state.fin;have sok:=h.state.ok;have ski:=h.state.kill;have cases9:(what=1/\j.State=1/\ns=2)∨(what=2/\j.State=2/\ns=1)∨(what=3/\j.State=1/\ns=3)∨(what=4/\j.State=3/\ns=1)∨(what=5/\j.State=3/\ns=4)∨(what=6/\j.State=3/\ns=4)∨(what=6/\WaitS j.State/\ns=6)∨(what=7/\(j.State=3∨j.State=4)/\ns=5)∨(what=8/\j.State=4/\ns=6):=by
  unfold nextS at hs;split at hs
  ·simp only[yAa] at hs;exact .inl ⟨by omega,by omega,by omega⟩
  split at hs
  ·simp only[yAa] at hs;exact .inr (.inl ⟨by omega,by omega,by omega⟩)
  split at hs
  ·simp only[yAa] at hs;exact .inr (.inr (.inl ⟨by omega,by omega,by omega⟩))
  split at hs
  ·simp only[yAa] at hs;exact .inr (.inr (.inr (.inl ⟨by omega,by omega,by omega⟩)))
  split at hs
  ·simp only[yAa] at hs;exact .inr (.inr (.inr (.inr (.inl ⟨by omega,by omega,by omega⟩))))
  split at hs
  ·simp only[yAa] at hs;exact .inr (.inr (.inr (.inr (.inr (.inl ⟨by omega,by omega,by omega⟩)))))
  split at hs
  ·rename_i q;simp only[yAa] at hs;exact .inr (.inr (.inr (.inr (.inr (.inr (.inl ⟨q.1,q.2,by omega⟩))))))
  split at hs
  ·rename_i q;simp only[yAa] at hs;exact .inr (.inr (.inr (.inr (.inr (.inr (.inr (.inl ⟨q.1,q.2,by omega⟩)))))))
  split at hs
  ·simp only[yAa] at hs;exact .inr (.inr (.inr (.inr (.inr (.inr (.inr (.inr ⟨by omega,by omega,by omega⟩)))))))
  ·simp at hs
 have okf:j.State<4->j.Ok=false:=λhlt=>by
  cases hk:j.Ok with
  |false=>rfl
  |true=>have:=sok hk;omega
 have kif:j.State<4->j.Kill=false:=λhlt=>by
  cases hk:j.Kill with
  |false=>rfl
  |true=>have:=ski hk;omega
 have wlt:WaitS j.State->j.State<3:=λhw=>by rcases hw with e | e <;> omega
 refine ⟨h.id,h.user,h.queue,h.many,h.need,h.needz,h.wall,h.afterN,h.after,by simp only[stepR];omega,h.born,?_,?_,h.arr,?_⟩
 ·simp only[stepR];split
  ·exact hn
  ·split <;> omega
 ·simp only[stepR];split
  ·exact hn
  ·exact hfi
 ·have st0:j.State<3->j.Start=0:=λhlt=>yB5 λq=>by have:=sst q;omega
  have en0:j.State<5->j.End=0:=λhlt=>yB5 λq=>by have:=sfi q;omega
  rcases cases9 with ⟨rfl,e,rfl⟩ | ⟨rfl,e,rfl⟩ | ⟨rfl,e,rfl⟩ | ⟨rfl,e,rfl⟩ | ⟨rfl,e,rfl⟩ | ⟨rfl,e,rfl⟩ | ⟨rfl,e,rfl⟩ | ⟨rfl,e,rfl⟩ | ⟨rfl,e,rfl⟩
  ·constructor <;> simp[stepR,OverS,okf (by omega),kif (by omega),st0 (by omega),en0 (by omega)]
  ·constructor <;> simp[stepR,OverS,okf (by omega),kif (by omega),st0 (by omega),en0 (by omega)]
  ·constructor <;> simp[stepR,OverS,okf (by omega),kif (by omega),st0 (by omega),en0 (by omega)]
  ·constructor <;> simp[stepR,OverS,okf (by omega),kif (by omega),en0 (by omega)]
  ·constructor <;> simp[stepR,OverS,kif (by omega),en0 (by omega)]
  ·constructor <;> simp[stepR,OverS,en0 (by omega)]
  ·have:=wlt e;constructor <;> simp[stepR,OverS,okf (by omega),kif (by omega),st0 (by omega),en0 (by omega)]
  ·constructor <;> simp[stepR,OverS]
  ·constructor <;> simp[stepR,OverS]
theorem job_step{j:zaa}(h:JobOk j){what now:Int}(hn:0<=now/\now<=1099511627776)(ok:Bool) :
  Ret (job_Step 1000 j what now ok) λr=>(r.2≠0/\(nextS j.State what=none∨j.Version=281474976710656))∨∃ns,nextS j.State what=some ns/\j.Version<281474976710656/\r=(stepR j what now ok ns,0):=by
 have hver:=h.version;have ha:=h.afterN;unfold job_Step;dsimp only[zaS];rw[job_right_t h,xAa,if_neg (by simp)];simp only[zbv,Option.bind_some];rw[if_neg (by simp;omega),life_next,xAa];cases hs:nextS j.State what with
 |none=>rw[if_pos (by simp),zaf];exact .inl ⟨by simp,.inl rfl⟩
 |some ns=>
  dsimp only[Option.isSome,Option.getD];rw[if_neg (by simp),zag];refine ⟨λhv=>by rw[zaf];exact .inl ⟨by simp,.inr (by simpa using hv)⟩,λhv=>?_⟩;simp only[yAF] at hv;rw[show zam 1000 j.After=some j.After from zbA (by omega),xAa,wr (x:=j.Version+1) (by omega) (by omega)];simp only[life_over,Option.bind_some,yAF,yBh,ne_eq,yAs,yAf];have fin:∀(o k:Bool)(t:Int),o=(if what=5 then ok else if what=6∨what=8∨what=7/\j.State=3 then false else j.Ok)->k=(if what=6 then true else if what=7 then false else j.Kill)->t=(if what=3 then now else if what=4 then 0 else j.Start) ->
    Ret (if OverS ns then some (({ Id:=j.Id,User:=j.User,Queue:=j.Queue,Many:=j.Many,Need:=j.Need,Wall:=j.Wall,After:=j.After,State:=ns,Ok:=o,Kill:=k,Version:=j.Version+1,Born:=j.Born,Start:=t,End:=now,Array:=j.Array }:zaa),(0:Int)) else some (({ Id:=j.Id,User:=j.User,Queue:=j.Queue,Many:=j.Many,Need:=j.Need,Wall:=j.Wall,After:=j.After,State:=ns,Ok:=o,Kill:=k,Version:=j.Version+1,Born:=j.Born,Start:=t,End:=j.End,Array:=j.Array }:zaa),(0:Int)))
     λr=>(r.2≠0/\((some ns:Option Int)=none∨j.Version=281474976710656))∨∃ns',(some ns:Option Int)=some ns'/\j.Version<281474976710656/\r=(stepR j what now ok ns',0):=λo k t ho hk ht=>by
   subst ho hk ht;rw[zag];refine ⟨λq=>?_,λq=>?_⟩ <;> rw[zaf] <;> refine .inr ⟨ns,rfl,by omega,?_⟩ <;> simp only[stepR,q,if_true,yAx]
  by_cases w3:what=3
  ·rw[if_pos w3];subst w3;refine fin _ _ _ ?_ ?_ ?_ <;> simp
  rw[if_neg w3];by_cases w4:what=4
  ·rw[if_pos w4];subst w4;refine fin _ _ _ ?_ ?_ ?_ <;> simp
  rw[if_neg w4];by_cases w5:what=5
  ·rw[if_pos w5];subst w5;refine fin _ _ _ ?_ ?_ ?_ <;> simp
  rw[if_neg w5];by_cases w6:what=6
  ·rw[if_pos w6];subst w6;refine fin _ _ _ ?_ ?_ ?_ <;> simp
  rw[if_neg w6];by_cases w7:what=7
  ·rw[if_pos w7];subst w7;by_cases e3:j.State=3
   ·rw[if_neg (by simpa using e3)];refine fin _ _ _ ?_ ?_ ?_ <;> simp[e3]
   ·rw[if_pos e3];refine fin _ _ _ ?_ ?_ ?_ <;> simp[e3]
  rw[if_neg w7];by_cases w8:what=8
  ·rw[if_pos w8];subst w8;refine fin _ _ _ ?_ ?_ ?_ <;> simp
  rw[if_neg w8];refine fin _ _ _ ?_ ?_ ?_ <;> simp[w3,w4,w5,w6,w7,w8]
end Go.Plain
end
section
namespace Go.Plain
open Go.Abs
structure AS (st:zab) (F:List zac):Prop where
 good:GoodA F.length st.Allocs
 few:F.length<=300
 vec:∀r∈F,VecOk r
 nodes:0<=st.Stamps.Nodes
 now:0<=st.Now/\st.Now<=1099511627776
theorem good_of{s:zad}{st:zab}(q:SoundOk s st):GoodA s.Nodes.length st.Allocs:=λa ha=>by obtain ⟨j,hj,P⟩:=q.allocs.mem a ha;exact ⟨P.suits.shares,by rw[P.need];exact (q.jobs.each j hj).ok.need⟩
theorem left_vec{s:zad}{st:zab}(q:SoundOk s st):∀r∈leftL s.Nodes st.Allocs,VecOk r:=λr hr=>by
 obtain ⟨i,hi,rfl⟩:=yA2 hr;have hn:i<s.Nodes.length:=by rwa [leftL_len] at hi
 refine zcg.2 λc=>?_;rw[left_cmp hn hi c];have h1:=(allocsH_fwd q.allocs q.spec.nodes.ok).2 i hn c;have h2:=used_bd (good_of q) i c;have h3:=zcg.1 (q.spec.nodes.ok _ (yAk hn)) c;omega
theorem as_of{s:zad}{st:zab}(hw:FewW s st)(q:SoundOk s st):AS st (leftL s.Nodes st.Allocs):=
 ⟨by rw[leftL_len];exact good_of q,by rw[leftL_len];have:=hw.spec.nodes;omega,left_vec q,q.use.nodes.1,q.nums.now⟩
def FreesTo(st:zab)(F:List zac)(id:Int)(free:Prop)(A':List zae)(n:Int)(F':List zac):Prop:=
 (¬free/\A'=st.Allocs/\n=st.Stamps.Nodes/\F'=F) ∨
 (free/\n=aftV st.Stamps.Nodes/\((A'=st.Allocs/\F'=F/\∀a∈st.Allocs,a.Job=id->¬FitsB F a)∨∃a∈st.Allocs,a.Job=id/\FitsB F a/\A'=others st.Allocs id/\F'=backL F a))
theorem step_ok{st:zab}{F:List zac}(js:JS st)(as:AS st F)(id what:Int)(ok:Bool) :
  Ret (zaX 1000 st.Stamps.Queues st.Jobs (st.Allocs.map λa=>(a.Job,a)) id what ok st.Now st.Stamps.Nodes F) λr=>
   (∃e,e≠0/\r=(st.Stamps.Queues,st.Jobs,st.Allocs.map (λa=>(a.Job,a)),e,st.Stamps.Nodes,F)/\(∀i,∀hi:i<st.Jobs.length,st.Jobs[i].Id=id->what≠3->nextS st.Jobs[i].State what=none∨st.Jobs[i].Version=281474976710656)) ∨
   ∃ i, ∃ hi : i < st.Jobs.length, ∃ ns A' n F', st.Jobs[i].Id = id /\ what ≠ 3 /\ nextS st.Jobs[i].State what = some ns /\ st.Jobs[i].Version < 281474976710656 /\ FreesTo st F id (HasS st.Jobs[i].State /\ ¬ HasS ns) A' n F' /\
    r=(changeQ st.Stamps.Queues st.Jobs[i].Queue st.Jobs[i].Queue,st.Jobs.set i (stepR st.Jobs[i] what st.Now ok ns),A'.map (λa=>(a.Job,a)),0,n,F'):=by
 have hl:=js.shows.jobs;unfold zaX;rcases job_em st.Jobs id with ⟨i,hi,e⟩ | hn
 ·subst e;have hm:=yAk hi;have jo:=js.ok _ hm;have ha:=jo.afterN;rw[get_some hl js.sorted hi (by omega),xAa];dsimp only;rw[if_neg (by simp),zag];refine ⟨λh3=>?_,λh3=>?_⟩
  ·rw[zaf];simp only[yAF] at h3;exact .inl ⟨31,by simp,rfl,λ_ _ _ h=>absurd h3 h⟩
  ·simp only[yAF] at h3;refine (job_step jo as.now ok).bind λr hr=>?_;rw[zag];refine ⟨λh0=>?_,λh0=>?_⟩
   ·rw[zaf];simp only[yBh,ne_eq] at h0;refine .inl ⟨r.2,h0,rfl,λi' hi' e' _=>?_⟩;have:=js.sorted.inj hi' hi e';subst this;rcases hr with ⟨_,q⟩ | ⟨ns,_,_,q⟩
    ·exact q
    ·rw[q] at h0;exact absurd rfl h0
   ·simp only[yBh,ne_eq,yAN] at h0;rcases hr with ⟨q,_⟩ | ⟨ns,hns,hv,rfl⟩
    ·exact absurd h0 q
    have jo':=step_jobok jo as.now ok hns hv;dsimp only;rw[change_set hl js.sorted hi jo' (j:=stepR st.Jobs[i] what st.Now ok ns) rfl js.stamps,xAa];dsimp only[zaS];rw[if_neg (by simp),life_has,xAa];have hQ:(stepR st.Jobs[i] what st.Now ok ns).Queue=st.Jobs[i].Queue:=rfl;have hS:(stepR st.Jobs[i] what st.Now ok ns).State=ns:=rfl;rw[hQ,hS];have nope:∀o,¬(HasS st.Jobs[i].State/\¬HasS ns)->(if (false:Bool)=true then o else some (changeQ st.Stamps.Queues st.Jobs[i].Queue st.Jobs[i].Queue,st.Jobs.set i (stepR st.Jobs[i] what st.Now ok ns),st.Allocs.map (λa=>(a.Job,a)),(0:Int),st.Stamps.Nodes,F))=some (changeQ st.Stamps.Queues st.Jobs[i].Queue st.Jobs[i].Queue,st.Jobs.set i (stepR st.Jobs[i] what st.Now ok ns),st.Allocs.map (λa=>(a.Job,a)),(0:Int),st.Stamps.Nodes,F):=λo _=>if_neg (by simp);by_cases c1:HasS st.Jobs[i].State
    ·rw[if_pos (by simpa using c1),life_has,xAa];by_cases c2:HasS ns
     ·rw[if_neg (by simpa using c2),zaf];exact .inr ⟨i,hi,ns,st.Allocs,_,_,rfl,h3,hns,hv,.inl ⟨λh=>h.2 c2,rfl,rfl,rfl⟩,rfl⟩
     ·rw[if_pos (by simpa using c2)];refine (give_ok js.shows.asc as.few js.shows.sh as.good as.vec st.Jobs[i].Id).bind λg hg=>?_;rw[after_ok as.nodes,xAa,zaf];rcases hg with ⟨g1,g2,g3,g4⟩ | ⟨a,ha',ea,fb,rfl⟩
      ·exact .inr ⟨i,hi,ns,st.Allocs,_,_,rfl,h3,hns,hv,.inr ⟨⟨c1,c2⟩,rfl,.inl ⟨rfl,g3,g4⟩⟩,by rw[g2]⟩
      ·exact .inr ⟨i,hi,ns,others st.Allocs st.Jobs[i].Id,_,_,rfl,h3,hns,hv,.inr ⟨⟨c1,c2⟩,rfl,.inr ⟨a,ha',ea,fb,rfl,rfl⟩⟩,rfl⟩
    ·rw[if_neg (by simpa using c1),if_neg (by simp),zaf];exact .inr ⟨i,hi,ns,st.Allocs,_,_,rfl,h3,hns,hv,.inl ⟨λh=>c1 h.1,rfl,rfl,rfl⟩,rfl⟩
 ·rw[get_none hl js.sorted hn,xAa];dsimp only;rw[if_pos (by simp),zaf];exact .inl ⟨30,by simp,rfl,λi hi e=>absurd e (hn _ (yAk hi))⟩
end Go.Plain
end
section
namespace Go.Plain
open Go.Abs
def refu(key e:Int):zah:={ Key:=key,Err:=e,Job:=0,Version:=0,Nums:=[] }
theorem within_code{a b c d:Int}(ha:a.natAbs<2 ^ 53)(hb:b.natAbs<2 ^ 53)(hc:c.natAbs<2 ^ 53)(hd:d.natAbs<2 ^ 53) :
  Ret (zbw 1000 (a,b) (c,d)) λr=>r.2=0∨r.2=20:=by
 simp only[zbw,vec_join_o7a26,fint_ok ha,fint_ok hb,fint_ok hc,fint_ok hd,Option.bind_some];refine (zcc _).bind λr hr=>?_;rw[zag];exact ⟨λ_=>by rw[zaf];exact .inr rfl,λ_=>by rw[zaf];exact .inl rfl⟩
theorem times_code{a:zac}{n:Int}(ha:VecOk a)(hz:a≠zeroR)(hn:1<=n/\n<=64):Ret (vec_Times 1000 a n) λr=>r.2=0∨r.2=20:=by
 simp only[vec_Times];obtain ⟨r1,e1,h1⟩:=zcc a;have t1:=h1.2 ha;subst t1;have hn':0<=n/\n<=64:=by omega
 simp only[e1,Option.bind_some,yAY,Bool.false_or];rw[if_neg (by simp;omega),if_neg (show ¬(zac.beq a ({ Cpu:=0,Mem:=0,Gpu:=0,Lic:=0 }:zac)=true) from λh=>hz (zd2.1 h)),if_neg (by simp;omega)];have fm:∀{x:Int},0<=x/\x<=1048576->fmul? x n=some (x * n):=λ{x} hx=>by unfold fmul?;rw[if_pos (by omega)]
 have b1:=mul_bd hn' ha.cpu;have b2:=mul_bd hn' ha.mem;have b3:=mul_bd hn' ha.gpu;have b4:=mul_bd hn' ha.lic;simp only[zbg,Option.bind_some,fm ha.cpu,fm ha.mem,fm ha.gpu,fm ha.lic];rw[yBK a.Cpu n,yBK a.Mem n,yBK a.Gpu n,yBK a.Lic n];refine (within_code (by omega) (by omega) (by omega) (by omega)).bind λr hr=>?_;rw[zaf];exact hr
structure DemIn (r:zap):Prop where
 many:1<=r.Many/\r.Many<=64
 need:VecOk r.Need
 needz:r.Need≠zeroR
 wall:1<=r.Wall/\r.Wall<=65536
theorem tells_t{o:Option Bool}{p:Prop}(h:za7 o p)(hp:p):o=some true:=by obtain ⟨b,e,hb⟩:=h;rw[e,hb.2 hp]
theorem tells_f{o:Option Bool}{p:Prop}(h:za7 o p)(hp:¬p):o=some false:=by
 obtain ⟨b,e,hb⟩:=h;cases b with
 |false=>exact e
 |true=>exact absurd (hb.1 rfl) hp
open Classical in
noncomputable def demV(r:zap):Int:=
 if ¬(1<=r.Many/\r.Many<=64) then 2 else if ¬VecOk r.Need then 2 else if r.Need=zeroR then 2 else if ¬(1<=r.Wall/\r.Wall<=65536) then 2 else if VecOk (mulR r.Many r.Need) then 0 else 20
theorem dem_in{r:zap}(h:demV r=0):DemIn r:=by
 unfold demV at h;split at h
 ·omega
 split at h
 ·omega
 split at h
 ·omega
 split at h
 ·omega
 rename_i h1 h2 h3 h4;exact ⟨yCb.1 h1,yCb.1 h2,h3,yCb.1 h4⟩
theorem beq_zero{a:zac}:zac.beq a ({ Cpu:=0,Mem:=0,Gpu:=0,Lic:=0 }:zac)=decide (a=zeroR):=by rw[yBI,yAf];exact zd2
theorem demand_ok(r:zap):submit_Demand 1000 r=some (demV r):=by
 unfold submit_Demand demV;dsimp only[zaS];by_cases hm:1<=r.Many/\r.Many<=64
 ·rw[if_neg (show ¬((decide (r.Many<1)) || (decide (r.Many > 64)))=true by simp;omega),if_neg (yBk hm)];by_cases v:VecOk r.Need
  ·rw[tells_t (zcc r.Need) v,xAa,beq_zero,if_neg (yBk v)];by_cases hz:r.Need=zeroR
   ·rw[if_pos (by simp[hz]),if_pos hz]
   ·rw[if_neg (by simp[hz]),if_neg hz];by_cases hw:1<=r.Wall/\r.Wall<=65536
    ·rw[if_neg (show ¬((decide (r.Wall<1)) || (decide (r.Wall > 65536)))=true by simp;omega),if_neg (yBk hw)];obtain ⟨t,et,ht,_⟩:=times_ok v hm;obtain ⟨t',et',hc⟩:=times_code v hz hm;rw[et] at et';cases et';rw[et,xAa];by_cases vm:VecOk (mulR r.Many r.Need)
     ·rw[if_pos vm,ht.2 vm]
     ·rw[if_neg vm];rcases hc with h | h
      ·exact absurd (ht.1 h) vm
      ·rw[h]
    ·rw[if_pos (show ((decide (r.Wall<1)) || (decide (r.Wall > 65536)))=true by simp;omega),if_pos hw]
  ·rw[tells_f (zcc r.Need) v,xAa,if_pos (by simp),if_pos v]
 ·rw[if_pos (show ((decide (r.Many<1)) || (decide (r.Many > 64)))=true by simp;omega),if_pos rfl,if_pos hm]
theorem ref_demand(r:zap):zb7 1000 r=some (demV r):=by
 unfold zb7 demV;dsimp only[zaS];by_cases hm:1<=r.Many/\r.Many<=64
 ·rw[if_neg (show ¬((decide (r.Many<1)) || (decide (r.Many > 64)))=true by simp;omega),if_neg (yBk hm)];by_cases v:VecOk r.Need
  ·rw[tells_t (ref_vec r.Need) v,xAa,if_neg (show ¬(!true)=true by simp),show zaw 1000 r.Need ({ Cpu:=0,Mem:=0,Gpu:=0,Lic:=0 }:zac)=some (decide (r.Need=zeroR)) from fits_zero v,xAa,if_neg (yBk v)];by_cases hz:r.Need=zeroR
   ·rw[if_pos (by simp[hz]),if_pos hz]
   ·rw[if_neg hz];by_cases hw:1<=r.Wall/\r.Wall<=65536
    ·rw[if_neg (show ¬(decide (r.Need=zeroR) || decide (r.Wall<1) || decide (r.Wall > 65536))=true by simp[hz];omega),if_neg (yBk hw),ref_times v (by omega),xAa];by_cases vm:VecOk (mulR r.Many r.Need)
     ·rw[if_pos vm,tells_t (ref_vec _) vm,xAa,if_neg (by simp)]
     ·rw[if_neg vm,tells_f (ref_vec _) vm,xAa,if_pos (by simp)]
    ·rw[if_pos (show (decide (r.Need=zeroR) || decide (r.Wall<1) || decide (r.Wall > 65536))=true by simp;omega),if_pos hw]
  ·rw[tells_f (ref_vec r.Need) v,xAa,if_pos (by simp),if_pos rfl,if_pos v]
 ·rw[if_pos (show ((decide (r.Many<1)) || (decide (r.Many > 64)))=true by simp;omega),if_pos rfl,if_pos hm]
def whatV(k:Int):Int:=if k=3 then 1 else if k=4 then 2 else if k=5 then 6 else 0
theorem ref_what(k:Int):zcS 1000 k=some (whatV k):=by
 unfold zcS whatV;simp only[yAF];split
 ·rfl
 ·split
  ·rfl
  ·split <;> rfl
theorem tab_at{k:Int}(h:2<=k/\k<=5):at? ([0,0,(-1),1,2,6]:List Int) k=some (if k=2 then -1 else whatV k)/\at? ([0,0,(-1),1,2,6]:List Int) ((k.toNat * 1:Nat):Int)=some (if k=2 then -1 else whatV k):=by
 have:k=2∨k=3∨k=4∨k=5:=by omega
 rcases this with rfl | rfl | rfl | rfl <;> exact ⟨rfl,rfl⟩
theorem such_ok(k:Int):alter_Such 1000 k=some (decide (2<=k/\k<=5)):=by
 unfold alter_Such;by_cases h:0<=k/\k<6
 ·rw[if_pos (by simp;omega)];have:k=0∨k=1∨k=2∨k=3∨k=4∨k=5:=by omega
  rcases this with rfl | rfl | rfl | rfl | rfl | rfl <;> rfl
 ·rw[if_neg (by simp;omega)];congr 1;symm;rw[yAW];omega
structure AltIn (s:zad) (j:zaa) (r:zap):Prop where
 kind:2<=r.Kind/\r.Kind<=5
 version:j.Version<s.Versions
 mod:r.Kind=2->WaitS j.State/\DemIn r/\zbY 1000 s j.Queue r.Many r.Need=some true
 step:r.Kind≠2->∃ns,nextS j.State (whatV r.Kind)=some ns
theorem ref_next{x w:Int}(hw:w=1∨w=2∨w=6):zb4 1000 x w=some ((nextS x w).getD 0):=by
 unfold zb4 nextS;simp only[zaS];rcases hw with rfl | rfl | rfl
 ·by_cases h:x=1
  ·subst h;rfl
  ·rw[if_pos (by simp),if_neg (by simpa using h),if_neg (by omega),if_neg (by omega),if_neg (by omega),if_neg (by omega),if_neg (by omega),if_neg (by omega),if_neg (by omega),if_neg (by omega),if_neg (by omega)];rfl
 ·by_cases h:x=2
  ·subst h;rfl
  ·rw[if_neg (by simp),if_pos (by simp),if_neg (by simpa using h),if_neg (by omega),if_neg (by omega),if_neg (by omega),if_neg (by omega),if_neg (by omega),if_neg (by omega),if_neg (by omega),if_neg (by omega),if_neg (by omega)];rfl
 ·rw[if_neg (by simp),if_neg (by simp),if_neg (by simp),if_neg (by simp),if_neg (by simp),if_pos (by simp)];by_cases h:x=3
  ·subst h;rfl
  ·rw[if_neg (show ¬(x == 3)=true by simpa using h)];by_cases h2:WaitS x
   ·have h2':x=1∨x=2:=h2;rw[if_pos (show ((x == 1) || (x == 2))=true by simpa using h2'),if_neg (by omega),if_neg (by omega),if_neg (by omega),if_neg (by omega),if_neg (by omega),if_neg (show ¬((6:Int)=6/\x=3) from λq=>h q.2),if_pos ⟨rfl,h2⟩];rfl
   ·have h2':¬(x=1∨x=2):=h2;rw[if_neg (show ¬((x == 1) || (x == 2))=true by simpa using h2'),if_neg (by omega),if_neg (by omega),if_neg (by omega),if_neg (by omega),if_neg (by omega),if_neg (show ¬((6:Int)=6/\x=3) from λq=>h q.2),if_neg (λq=>h2 q.2),if_neg (by omega),if_neg (by omega)];rfl
theorem next_pos{x w ns:Int}(h:nextS x w=some ns):ns≠0:=by
 unfold nextS at h
 repeat' split at h
 all_goals simp at h
 all_goals omega
theorem what_cases{k:Int}(h:2<=k/\k<=5)(h2:k≠2):whatV k=1∨whatV k=2∨whatV k=6:=by
 have:k=3∨k=4∨k=5:=by omega
 rcases this with rfl | rfl | rfl
 ·exact .inl rfl
 ·exact .inr (.inl rfl)
 ·exact .inr (.inr rfl)
noncomputable def posV(s:zad)(j:zaa)(r:zap):Int:=
 if r.Kind=2 then (if ¬WaitS j.State then 31 else if demV r≠0 then demV r else if zbY 1000 s j.Queue r.Many r.Need=some true then 0 else 37) else if nextS j.State (whatV r.Kind)=none then 31 else 0
noncomputable def chkV(s:zad)(j:zaa)(u:Int)(r:zap):Int:=
 if ¬(2<=r.Kind/\r.Kind<=5) then 2 else if u<0∨u≥s.Users then 2 else if u≠j.User/\u≠0 then 33 else if r.Version≠0/\r.Version≠j.Version then 32 else if posV s j r≠0 then posV s j r else if j.Version≥s.Versions then 41 else 0
theorem chk_user{s:zad}{j:zaa}{u:Int}{r:zap}(h:u<0∨u≥s.Users):chkV s j u r=2:=by
 unfold chkV;split
 ·rfl
 ·rfl
theorem chk_in{s:zad}{j:zaa}{u:Int}{r:zap}(h:chkV s j u r=0):AltIn s j r:=by
 unfold chkV at h;split at h
 ·omega
 rename_i hk;split at h
 ·omega
 split at h
 ·omega
 split at h
 ·omega
 split at h
 ·rename_i hp;exact absurd h hp
 rename_i hp;split at h
 ·omega
 rename_i hv;have hp:=yAN.1 hp;refine ⟨yCb.1 hk,by omega,λh2=>?_,λh2=>?_⟩
 ·unfold posV at hp;rw[if_pos h2] at hp;split at hp
  ·omega
  rename_i hw;split at hp
  ·rename_i hd;exact absurd hp hd
  rename_i hd;split at hp
  ·rename_i hf;exact ⟨yCb.1 hw,dem_in (yAN.1 hd),hf⟩
  ·omega
 ·unfold posV at hp;rw[if_neg h2] at hp;split at hp
  ·omega
  rename_i hn;cases hx:nextS j.State (whatV r.Kind) with
  |none=>exact absurd hx hn
  |some ns=>exact ⟨ns,rfl⟩
theorem possible_ok{s:zad}(hs:FewS s)(k:SpecOk s)(j:zaa){r:zap}(hk:2<=r.Kind/\r.Kind<=5):alter_possible 1000 s j r=some (posV s j r):=by
 obtain ⟨t1,t2⟩:=tab_at hk;unfold alter_possible posV;rw[t1,t2,xAa,xAa];by_cases h2:r.Kind=2
 ·rw[if_pos h2,if_neg (show ¬(((-1:Int)) != (-1))=true by simp),if_pos h2,zex,xAa];by_cases hw:WaitS j.State
  ·rw[if_neg (by simpa using hw),if_neg (yBk hw),demand_ok,xAa];by_cases h0:demV r=0
   ·have D:=dem_in h0;obtain ⟨b,f1,f2⟩:=fits_eq hs k (q:=j.Queue) (m:=r.Many) D.need D.needz;rw[if_neg (by simpa using h0),if_neg (yBk h0),f1,xAa];cases b with
    |true=>rw[if_neg (by simp),if_pos rfl]
    |false=>rw[if_pos (by simp),if_neg (by simp)]
   ·rw[if_pos (by simpa using h0),if_pos h0]
  ·rw[if_pos (by simpa using hw),if_pos hw]
 ·have wc:=what_cases hk h2;rw[if_neg h2,if_pos (show (whatV r.Kind != (-1))=true by simp;omega),if_neg h2,xAa,xAa,life_next,xAa];cases hn:nextS j.State (whatV r.Kind) with
  |none=>rw[if_pos (by simp),if_pos rfl]
  |some ns=>rw[if_neg (by simp),if_neg (by simp)]
theorem check_ok{s:zad}(hs:FewS s)(k:SpecOk s){j:zaa}(hj:JobOk j)(u:Int)(r:zap):alter_Check 1000 s j u r=some (chkV s j u r):=by
 unfold alter_Check chkV;dsimp only[zaS];rw[such_ok,xAa];by_cases hk:2<=r.Kind/\r.Kind<=5
 rotate_left
 ·rw[if_pos (show (!decide (2<=r.Kind/\r.Kind<=5))=true by simp;omega),if_pos rfl,if_pos hk]
 rw[if_neg (show ¬(!decide (2<=r.Kind/\r.Kind<=5))=true by simp;omega),spec_true hs k,xAa,if_neg (show ¬(!true)=true by simp),job_right_t hj,xAa,if_neg (yBk hk)];by_cases hu:u<0∨u≥s.Users
 ·rw[if_pos (by simp;omega),if_pos hu]
 rw[if_neg (by simp;omega),if_neg hu];by_cases hd:u≠j.User/\u≠0
 ·rw[if_pos (by simp;exact hd),if_pos hd]
 rw[if_neg (by simp;omega),if_neg hd];by_cases hv:r.Version≠0/\r.Version≠j.Version
 ·rw[if_pos (by simp;exact hv),if_pos hv]
 rw[if_neg (by simp;omega),if_neg hv,possible_ok hs k j hk,xAa];by_cases hp:posV s j r=0
 ·rw[if_neg (by simpa using hp),if_neg (yBk hp)];by_cases hc:j.Version≥s.Versions
  ·rw[if_pos (by simpa using hc),if_pos hc]
  ·rw[if_neg (by simpa using hc),if_neg hc]
 ·rw[if_pos (by simpa using hp),if_pos hp]
theorem ref_check25{s:zad}(hs:FewS s)(k:SpecOk s){j:zaa}(hj:JobOk j)(u:Int)(r:zap):zdn 1000 s j u r=some (chkV s j u r):=by
 have ha:=hj.afterN;unfold zdn chkV;dsimp only[zaS];rw[tells_t (ref_right s hs) k,xAa,if_neg (show ¬(!true)=true by simp),tells_t (ref_job_right j (by omega)) hj,xAa];by_cases hk:2<=r.Kind/\r.Kind<=5
 rotate_left
 ·rw[if_pos (by simp;omega),if_pos hk]
 rw[if_neg (yBk hk)];by_cases hu:u<0∨u≥s.Users
 ·rw[if_pos (by simp;omega),if_pos hu]
 rw[if_neg (by simp;omega),if_neg hu];by_cases hd:u≠j.User/\u≠0
 ·rw[if_pos (by simp;exact ⟨hd.2,hd.1⟩),if_pos hd]
 rw[if_neg (by simp;omega),if_neg hd];by_cases hv:r.Version≠0/\r.Version≠j.Version
 ·rw[if_pos (by simp;exact hv),if_pos hv]
 rw[if_neg (by simp;omega),if_neg hv];have st:=hj.state.st;have last:∀{p:Int},p=0->(if (decide (j.Version≥s.Versions))=true then some (41:Int) else some 0)=some (if p≠0 then p else if j.Version≥s.Versions then 41 else 0):=λ{p} hp=>by
  rw[if_neg (yBk hp)];by_cases hc:j.Version≥s.Versions
  ·rw[if_pos (by simpa using hc),if_pos hc]
  ·rw[if_neg (by simpa using hc),if_neg hc]
 unfold posV;by_cases h2:r.Kind=2
 ·rw[if_pos h2];by_cases hw:WaitS j.State
  ·have hw':j.State=1∨j.State=2:=hw;rw[if_neg (show ¬((r.Kind == 2)&&(decide (j.State > 2)))=true by simp;omega),if_neg (show ¬(r.Kind != 2)=true by simpa using h2),if_neg (show ¬(false=true) by simp),if_pos (show (r.Kind == 2)=true by simpa using h2),ref_demand,xAa,if_neg (yBk hw)];by_cases h0:demV r=0
   ·have D:=dem_in h0;obtain ⟨b,f1,f2⟩:=fits_eq hs k (q:=j.Queue) (m:=r.Many) D.need D.needz;rw[if_neg (show ¬(demV r != 0)=true by simpa using h0),if_neg (yBk h0),f1,f2,xAa];cases b with
    |true=>rw[if_neg (show ¬(!true)=true by simp),if_pos rfl];exact last rfl
    |false=>rw[if_pos (show (!false)=true by simp),if_neg (show ¬(some false=some true) by simp)];rfl
   ·rw[if_pos (show (demV r != 0)=true by simpa using h0),if_pos (c:=demV r≠0) h0,if_pos h0]
  ·have hw':¬(j.State=1∨j.State=2):=hw;rw[if_pos (show ((r.Kind == 2)&&(decide (j.State > 2)))=true by simp;omega),if_pos rfl,if_pos hw];rfl
 ·have wc:=what_cases hk h2;rw[if_neg (show ¬((r.Kind == 2)&&(decide (j.State > 2)))=true by simp[h2]),if_pos (show (r.Kind != 2)=true by simpa using h2),ref_what,xAa,ref_next wc,xAa,if_neg h2];cases hn:nextS j.State (whatV r.Kind) with
  |none=>rw[if_pos (by simp),if_pos rfl];rfl
  |some ns=>have:=next_pos hn;rw[if_neg (show ¬(((some ns).getD 0 == (0:Int))=true) by simpa using this),if_neg (show ¬(r.Kind == 2)=true by simpa using h2),if_neg (show ¬(some ns=none) by simp)];exact last rfl
end Go.Plain
end
