/- TyPA, TyPB, TyPC, TyPD, TyS1, TySA, TyS2, TySJ, TyS5, TyS6 -/
import Derived.Test.YtfeddeljlbiniaaGreatLawA
set_option linter.all false
section
namespace Go.Plain
open Go.Abs
def usedC (A:List zac) (i:Int) (c:Nat):Int:=(A.map fun a=>onV a.Shares i * cmp c a.Need).sum
theorem usedC_cons {a:zac} {A:List zac} {i:Int} {c:Nat}:usedC (a::A) i c=onV a.Shares i * cmp c a.Need+usedC A i c:=by simp [usedC]
theorem usedC_take {A:List zac} {k:Nat} (h:k<A.length) (i:Int) (c:Nat):usedC (A.take (k+1)) i c=usedC (A.take k) i c+onV A[k].Shares i * cmp c A[k].Need:=by
 rw [yAP h]
 simp only [usedC,yBE,yAy,yCj,List.sum_append,List.sum_cons,List.sum_nil]
 omega
def GoodA (n:Int) (A:List zac):Prop:=∀a∈A,SharesOk a.Shares n∧VecOk a.Need
theorem one_bd {n:Int} {a:zac} (h:SharesOk a.Shares n∧VecOk a.Need) (i:Int) (c:Nat):0≤onV a.Shares i * cmp c a.Need∧onV a.Shares i * cmp c a.Need≤67108864:=
 mul_bd (onV_one h.1 i) (zb1.1 h.2 c)
theorem used_bd {n:Int} {A:List zac} (h:GoodA n A) (i:Int) (c:Nat):0≤usedC A i c∧usedC A i c≤67108864 * A.length:=by
 induction A with
 | nil=>simp [usedC]
 | cons a A ih =>
  have h1:=ih fun b hb=>h b (yAl _ hb)
  have h2:=one_bd (h a (yAq ..)) i c
  rw [usedC_cons,List.length_cons]
  omega
def TotFit (F:List zaa) (A:List zac):Prop:=∀i (h:i<F.length) c,usedC A i c≤cmp c F[i]
theorem ref_times {a:zaa} {n:Int} (ha:VecOk a) (hn:0≤n∧n≤64):zcO 1000 a n=some (mulR n a):=by
 obtain ⟨m,rfl⟩:∃m:Nat,n=(m:Int):=⟨n.toNat,by omega⟩
 unfold zcO
 refine Ret.eq (lpS m (fun k x=>x=((k:Int),(k:Int) * a.Cpu,(k:Int) * a.Mem,(k:Int) * a.Gpu,(k:Int) * a.Lic)) (fun k x f hk hx hr=>?_) (fun x f hx=>?_) (by simp) (by omega))
 ·subst hx
  have b1:=mul_bd (n:=((k+1:Nat):Int)) (by omega) ha.cpu
  have b2:=mul_bd (n:=((k+1:Nat):Int)) (by omega) ha.mem
  have b3:=mul_bd (n:=((k+1:Nat):Int)) (by omega) ha.gpu
  have b4:=mul_bd (n:=((k+1:Nat):Int)) (by omega) ha.lic
  have e:∀x:Int,((k+1:Nat):Int) * x=(k:Int) * x+x:=fun x=>by rw [Int.natCast_add,yCo]; simp
  rw [e] at b1 b2 b3 b4
  simp only [zcs hk,if_true,zbK,Option.bind_some,wr1 (show k<1000000 by omega)]
  refine hr _ ?_
  rw [wr (x:=(k:Int) * a.Cpu+a.Cpu) (by omega) (by omega),wr (x:=(k:Int) * a.Mem+a.Mem) (by omega) (by omega),wr (x:=(k:Int) * a.Gpu+a.Gpu) (by omega) (by omega),wr (x:=(k:Int) * a.Lic+a.Lic) (by omega) (by omega),e,e,e,e]
 ·subst hx
  simp only [zcr,yAg,yA0,zad]
  rfl
theorem fits_cmp (a b:zaa):zbn (zaB 1000 a b) (∀c,cmp c a≤cmp c b):=by
 simp only [zaB,zbn,zad,yAj,yAe]
 constructor
 ·intro h c
  match c with
  | 0=>exact h.1.1.1
  | 1=>exact h.1.1.2
  | 2=>exact h.1.2
  | _+3=>exact h.2
 ·intro h
  exact ⟨⟨⟨h 0,h 1⟩,h 2⟩,h 3⟩
theorem ref_left {F:List zaa} {A:List zac} (hF:F.length≤300) (hA:A.length≤300) (hs:∀a∈A,a.Shares.length≤300) {n:Int} (h:GoodA n A):Ret (zdp 1000 F A) fun r=>r.2=true↔TotFit F A:=by
 unfold zdp
 refine lpS F.length (fun i x=>(x.1=true↔∀m (h:m<F.length),m<i→∀c,usedC A m c≤cmp c F[m])∧x.2.1=(i:Int)∧x.2.2.length=i) (fun i x f hi hx hr=>?_) (fun x f hx=>?_) ⟨⟨fun _ m h h'=>by omega,fun _=>rfl⟩,rfl,rfl⟩ (by omega)
 ·obtain ⟨x1,x2,x3⟩:=x
  obtain ⟨h1,h2,h3⟩:=hx
  dsimp only at h1 h2 h3
  subst h2
  simp only [zcs hi,if_true]
  refine lpS A.length (fun k y=>y=((k:Int),usedC (A.take k) i 0,usedC (A.take k) i 1,usedC (A.take k) i 2,usedC (A.take k) i 3)) (fun k y g hk hy hg=>?_) (fun y g hy=>?_) (by simp [usedC]) (by omega)
  ·subst hy
   have ak:=h _ (yAn hk)
   have gk:GoodA n (A.take (k+1)):=fun a ha=>h a (yAV ha)
   have lk:((A.take (k+1)).length:Int)≤300:=by rw [yA1]; omega
   have b0:=used_bd gk i 0; have b1:=used_bd gk i 1; have b2:=used_bd gk i 2; have b3:=used_bd gk i 3
   rw [usedC_take hk] at b0 b1 b2 b3
   simp only [zcs hk,if_true,zal hk,Option.bind_some,ref_on (hs _ (yAn hk)) ak.1,ref_times ak.2 (onV_one ak.1 i),zbK,wr1 (show k<1000000 by omega)]
   refine hg _ ?_
   rw [usedC_take hk,usedC_take hk,usedC_take hk,usedC_take hk]
   have e0:(mulR (onV A[k].Shares i) A[k].Need).Cpu=onV A[k].Shares i * cmp 0 A[k].Need:=rfl
   have e1:(mulR (onV A[k].Shares i) A[k].Need).Mem=onV A[k].Shares i * cmp 1 A[k].Need:=rfl
   have e2:(mulR (onV A[k].Shares i) A[k].Need).Gpu=onV A[k].Shares i * cmp 2 A[k].Need:=rfl
   have e3:(mulR (onV A[k].Shares i) A[k].Need).Lic=onV A[k].Shares i * cmp 3 A[k].Need:=rfl
   rw [e0,e1,e2,e3,wr (x:=_+onV A[k].Shares i * cmp 0 A[k].Need) (by omega) (by omega),wr (x:=_+onV A[k].Shares i * cmp 1 A[k].Need) (by omega) (by omega),wr (x:=_+onV A[k].Shares i * cmp 2 A[k].Need) (by omega) (by omega),wr (x:=_+onV A[k].Shares i * cmp 3 A[k].Need) (by omega) (by omega)]
  ·subst hy
   have ap:∀z:zaa,app? x3 [z]=some (x3++[z]):=fun z=>app_ok (by simp only [List.length_singleton]; omega)
   simp only [zcr,yAg,yA0,zaQ,zal hi,Option.bind_some,drayageref02xSub,ap,wr1 (show i<1000000 by omega),yBr]
   rw [zaf]
   refine ⟨fun hx1=>?_,fun hx1=>?_⟩
   ·refine (fits_cmp _ _).bind fun r hr1=>?_
    refine hr _ ⟨?_,rfl,by simp only [yAA,List.length_singleton]; omega⟩
    dsimp only
    rw [hr1]
    have ec:∀c,cmp c ({ Cpu:=usedC A i 0,Mem:=usedC A i 1,Gpu:=usedC A i 2,Lic:=usedC A i 3 }:zaa)=usedC A i (min c 3):=fun c=>by
     match c with
     | 0=>rfl
     | 1=>rfl
     | 2=>rfl
     | c+3=>rw [Nat.min_eq_right (by omega)]; rfl
    have eu:∀c,usedC A i (min c 3)=usedC A i c:=fun c=>by
     match c with
     | 0=>rfl
     | 1=>rfl
     | 2=>rfl
     | c+3=>rw [Nat.min_eq_right (by omega)]; rfl
    constructor
    ·intro hc m hm hmi c
     rcases yBd (yBz.1 hmi) with h' | h'
     ·exact h1.1 hx1 m hm h' c
     ·subst h'
      have:=hc c
      rwa [ec,eu] at this
    ·intro hc c
     rw [ec,eu]
     exact hc i hi (by omega) c
   ·refine hr _ ⟨?_,rfl,by simp only [yAA,List.length_singleton]; omega⟩
    dsimp only
    simp only [yAg,yBp]
    intro hc
    exact hx1 (h1.2 fun m hm hmi=>hc m hm (by omega))
 ·obtain ⟨x1,x2,x3⟩:=x
  obtain ⟨h1,h2,h3⟩:=hx
  dsimp only at h1 h2 h3
  subst h2
  simp only [zcr,yAg,yA0,zad]
  rw [h1]
  exact ⟨fun q i hi c=>q i hi hi c,fun q i hi _ c=>q i hi c⟩
structure AllocIn (s:zae) (st:zai) (i:Nat) (a:zac):Prop where
 up:∀m (h:m<st.Allocs.length),m+1=i→st.Allocs[m].Job<a.Job
 job:∃j∈st.Jobs,j.Id=a.Job
 shares:SharesOk a.Shares s.Nodes.length
 need:VecOk a.Need
structure zc3 (s:zae) (st:zai):Prop where
 each:∀i (h:i<st.Allocs.length),AllocIn s st i st.Allocs[i]
 fit:TotFit s.Nodes st.Allocs
theorem zc3.good {s:zae} {st:zai} (h:zc3 s st):GoodA s.Nodes.length st.Allocs:=fun a ha=>by
 obtain ⟨i,hi,rfl⟩:=yA9 ha
 exact ⟨(h.each i hi).shares,(h.each i hi).need⟩
theorem ref_allocs {s:zae} {st:zai} (hw:FewW s st):zbn (zcC 1000 s st) (zc3 s st):=by
 have hl:=hw.jobs; have hal:=hw.allocs; have hn:=hw.spec.nodes
 unfold zcC
 refine lpA st.Allocs (fun i a=>AllocIn s st i a) (fun i f hi hA hr=>?_) (fun f hA=>?_) (by omega)
 ·have hd:decide ((i:Int) > 0)=decide (0<i):=by simp
  have hsh:=hw.shares _ (yAn hi)
  have fin:(∀m (h:m<st.Allocs.length),m+1=i→st.Allocs[m].Job<st.Allocs[i].Job)→Ret ((zaA 1000 st.Jobs st.Allocs[i].Job).bind fun r=>
    if decide (r<0)=true then some false else (zbg 1000 st.Allocs[i].Shares (s.Nodes.length:Int)).bind fun r'=>
    if (!r')=true then some false else (zaL 1000 st.Allocs[i].Need).bind fun r''=>if (!r'')=true then some false else f ((i+1:Nat):Int)) (fun b=>b=true↔zc3 s st):=fun hup=>by
   refine (ref_find (by omega) st.Allocs[i].Job).bind fun r hr1=>?_
   rw [zaf]
   refine ⟨fun h=>no_f fun q=>?_,fun h=>?_⟩
   ·have:=hr1.1.2 (q.each i hi).job
    simp only [yAe] at h
    omega
   ·simp only [yAe] at h
    refine (ref_place _ _ (yAB hsh (by decide))).bind fun r' hr2=>?_
    rw [zaf]
    refine ⟨fun h=>no_f fun q=>?_,fun h2=>?_⟩
    ·have:=hr2.2 (q.each i hi).shares
     rw [this] at h
     simp at h
    ·simp only [yAt,yA2] at h2
     refine (ref_vec _).bind fun r'' hr3=>?_
     rw [zaf]
     refine ⟨fun h=>no_f fun q=>?_,fun h3=>?_⟩
     ·have:=hr3.2 (q.each i hi).need
      rw [this] at h
      simp at h
     ·simp only [yAt,yA2] at h3
      exact hr ⟨hup,hr1.1.1 (by omega),hr2.1 h2,hr3.1 h3⟩
  simp only [zaQ,zcs hi,if_true,zal hi,Option.bind_some,wr1 (show i<1000000 by omega),hd]
  rw [zaf]
  refine ⟨fun h=>?_,fun h=>?_⟩
  ·simp only [yAe] at h
   obtain ⟨m,rfl⟩:∃m,i=m+1:=⟨i-1,by omega⟩
   rw [wp1 (show m+1<1000000 by omega),zal (show m<st.Allocs.length by omega),Option.bind_some,zaf]
   refine ⟨fun h2=>no_f fun q=>?_,fun h2=>fin fun m' hm' e=>?_⟩
   ·have:=(q.each (m+1) hi).up m (by omega) rfl
    simp only [yAe] at h2
    omega
   ·simp only [yAe] at h2
    have:m'=m:=by omega
    subst this
    omega
  ·simp only [yAe] at h
   exact fin fun m hm e=>by omega
 ·simp only [zcr,yAg,yA0]
  have G:GoodA s.Nodes.length st.Allocs:=fun a ha=>by
   obtain ⟨j,hj,rfl⟩:=yA9 ha
   exact ⟨(hA j hj).shares,(hA j hj).need⟩
  refine (ref_left (by omega) hal (fun a ha=>yAB (hw.shares a ha) (by decide)) G).bind fun r hr=>?_
  rw [zad,hr]
  exact ⟨fun h=>⟨fun i hi=>hA i hi,h⟩,fun h=>h.fit⟩
theorem asc_pw {l:List Int} (h:∀i (h:i+1<l.length),l[i]<l[i+1]):l.Pairwise (·<·):=by
 rw [yBH]
 intro i j hi hj hij
 induction j with
 | zero=>omega
 | succ j ih =>
  have h1:=h j hj
  rcases yBd (yBz.1 hij) with h2 | h2
  ·have:=ih (by omega) h2; omega
  ·subst h2; exact h1
theorem asc_eq {l m:List Int} (hl:l.Pairwise (·<·)) (hm:m.Pairwise (·<·)) (h:∀x,x∈l↔x∈m):l=m:=by
 induction l generalizing m with
 | nil =>
  cases m with
  | nil=>rfl
  | cons y m=>exact absurd ((h y).2 (yAq ..)) (by simp)
 | cons x l ih =>
  cases m with
  | nil=>exact absurd ((h x).1 (yAq ..)) (by simp)
  | cons y m =>
   rw [List.pairwise_cons] at hl hm
   have e:x=y:=by
    rcases yAu.1 ((h x).1 (yAq ..)) with e | h1
    ·exact e
    ·rcases yAu.1 ((h y).2 (yAq ..)) with e | h2
     ·exact e.symm
     ·have:=hl.1 y h2; have:=hm.1 x h1; omega
   subst e
   congr 1
   refine ih hl.2 hm.2 fun z=>⟨fun hz=>?_,fun hz=>?_⟩
   ·rcases yAu.1 ((h z).1 (yAl _ hz)) with e | h1
    ·have:=hl.1 z hz; omega
    ·exact h1
   ·rcases yAu.1 ((h z).2 (yAl _ hz)) with e | h1
    ·have:=hm.1 z hz; omega
    ·exact h1
theorem allocsH_fwd {s:zae} {st:zai} {H:List zab} {A:List zac} {F:List zaa} (h:AllocsH s st H A F) (hF:∀r∈F,VecOk r):A.map (·.Job)=H.map (·.Id)∧TotFit F A:=by
 induction H generalizing A F with
 | nil =>
  rw [show A=[] from h]
  exact ⟨rfl,fun i hi c=>by simp only [usedC,yCj,List.sum_nil]; exact (zb1.1 (hF _ (yAn hi)) c).1⟩
 | cons j H ih =>
  obtain ⟨a,A',rfl,h1,h2,h3⟩:=h
  obtain ⟨i1,i2⟩:=ih h3 (takeA_ok h2)
  refine ⟨by rw [yAy,yAy,i1,h1.job],fun i hi c=>?_⟩
  have:=i2 i (by rw [zcG]; exact hi) c
  rw [takeA_at,leftA,cmp_sub,zcq] at this
  rw [usedC_cons]
  omega
theorem allocsH_bwd {s:zae} {st:zai} {n:Int} {H:List zab} {A:List zac} {F:List zaa} (he:A.map (·.Job)=H.map (·.Id)) (hF:∀r∈F,VecOk r) (hp:∀a∈A,∀j∈H,a.Job=j.Id→PairOk s st j a) (hg:GoodA n A) (hf:TotFit F A):AllocsH s st H A F:=by
 induction H generalizing A F with
 | nil =>
  cases A with
  | nil=>rfl
  | cons a A=>cases he
 | cons j H ih =>
  cases A with
  | nil=>cases he
  | cons a A =>
   rw [yAy,yAy] at he
   have he1:a.Job=j.Id:=by injection he
   have he2:A.map (·.Job)=H.map (·.Id):=by injection he
   have ga:=hg a (yAq ..)
   have gA:GoodA n A:=fun b hb=>hg b (yAl _ hb)
   have fa:FitsA F a:=fun i hi=>zb1.2 fun c=>by
    have h1:=hf i hi c
    have h2:=one_bd ga i c
    have h3:=used_bd gA i c
    have h4:=zb1.1 (hF _ (yAn hi)) c
    rw [usedC_cons] at h1
    rw [leftA,cmp_sub,zcq]
    omega
   refine ⟨a,A,rfl,hp a (yAq ..) j (yAq ..) he1,fa,ih he2 (takeA_ok fa) (fun b hb k hk=>hp b (yAl _ hb) k (yAl _ hk)) gA fun i hi c=>?_⟩
   have h1:=hf i (by rwa [zcG] at hi) c
   rw [takeA_at,leftA,cmp_sub,zcq]
   rw [usedC_cons] at h1
   omega
theorem jobs_pw {s:zae} {st:zai} (J:JobsOk s st):((st.Jobs.filter hasJ).map (·.Id)).Pairwise (·<·):=by
 have h:(st.Jobs.map (·.Id)).Pairwise (·<·):=asc_pw fun i hi=>by
  rw [yBe,yBe]
  exact J.sorted i (by simpa using hi)
 rw [List.pairwise_map] at h ⊢
 exact h.filter _
structure HasIn (s:zae) (st:zai) (j:zab):Prop where
 has:(∃a∈st.Allocs,a.Job=j.Id)↔hasJ j=true
 mine:∀a∈st.Allocs,a.Job=j.Id→PairOk s st j a
theorem to_ref {s:zae} {st:zai} (k:SpecOk s) (J:JobsOk s st) (A:AllocsOk s st):zc3 s st∧∀j∈st.Jobs,HasIn s st j:=by
 obtain ⟨h1,h2⟩:=allocsH_fwd A k.nodes.ok
 have pw:=jobs_pw J
 rw [←h1] at pw
 have uniq:∀j∈st.Jobs,∀j'∈st.Jobs,j.Id=j'.Id→j=j':=fun j hj j' hj' e=>by
  obtain ⟨m,hm,rfl⟩:=yA9 hj
  obtain ⟨m',hm',rfl⟩:=yA9 hj'
  have:=J.sorted.inj hm hm' e
  subst this
  rfl
 refine ⟨⟨fun i hi=>?_,h2⟩,fun j hj=>⟨⟨fun ⟨a,ha,e⟩=>?_,fun hh=>?_⟩,fun a ha e=>?_⟩⟩
 ·obtain ⟨j,hj,P⟩:=A.mem _ (yAn hi)
  refine ⟨fun m hm e=>?_,⟨j,hj,P.job.symm⟩,P.suits.shares,by rw [P.need]; exact (J.each j hj).ok.need⟩
  have:=yBH.1 pw m i (by simpa using hm) (by simpa using hi) (by omega)
  simpa using this
 ·have:a.Job∈st.Allocs.map (·.Job):=yA4.2 ⟨a,ha,rfl⟩
  rw [h1] at this
  obtain ⟨j',hj',e'⟩:=yA4.1 this
  obtain ⟨hj1,hj2⟩:=yBx.1 hj'
  have:j'=j:=uniq _ hj1 _ hj (by rw [e',e])
  subst this
  exact hj2
 ·have:j.Id∈(st.Jobs.filter hasJ).map (·.Id):=yA4.2 ⟨j,yBx.2 ⟨hj,hh⟩,rfl⟩
  rw [←h1] at this
  obtain ⟨a,ha,e⟩:=yA4.1 this
  exact ⟨a,ha,e⟩
 ·obtain ⟨j',hj',P⟩:=A.mem a ha
  have:j'=j:=uniq _ hj' _ hj (by rw [←P.job,e])
  subst this
  exact P
theorem of_ref {s:zae} {st:zai} (k:SpecOk s) (J:JobsOk s st) (R:zc3 s st) (h:∀j∈st.Jobs,HasIn s st j):AllocsOk s st:=by
 have pw:(st.Allocs.map (·.Job)).Pairwise (·<·):=asc_pw fun i hi=>by
  rw [yBe,yBe]
  exact (R.each (i+1) (by simpa using hi)).up i (by simp at hi; omega) rfl
 refine allocsH_bwd (n:=s.Nodes.length) (asc_eq pw (jobs_pw J) fun x=>⟨fun hx=>?_,fun hx=>?_⟩) k.nodes.ok (fun a ha j hj e=>(h j (yBx.1 hj).1).mine a ha e) R.good R.fit
 ·obtain ⟨a,ha,rfl⟩:=yA4.1 hx
  obtain ⟨i,hi,rfl⟩:=yA9 ha
  obtain ⟨j,hj,e⟩:=(R.each i hi).job
  exact yA4.2 ⟨j,yBx.2 ⟨hj,(h j hj).has.1 ⟨_,ha,e.symm⟩⟩,e⟩
 ·obtain ⟨j,hj,rfl⟩:=yA4.1 hx
  obtain ⟨a,ha,e⟩:=(h j (yBx.1 hj).1).has.2 (yBx.1 hj).2
  exact yA4.2 ⟨a,ha,e⟩
end Go.Plain
end
section
namespace Go.Plain
open Go.Abs
theorem jn_ite {X R:Type} {r:X→Option R} {c:Prop} [Decidable c] {a b:X}:jn r (fun j=>if c then j a else j b)=r (if c then a else b):=by
 unfold jn
 split <;> rfl
theorem onV_pos {l:List zaj} {n:Int} (h:SharesOk l n) {i:Int}:onV l i > 0↔∃x∈l,x.Node=i:=by
 have hm:∀x∈l,1≤x.Many:=fun x hx=>(h.mem x hx).2.2.1
 clear h
 induction l with
 | nil=>simp [onV]
 | cons y l ih =>
  have h1:=ih fun x hx=>hm x (yAl _ hx)
  have h2:=hm y (yAq ..)
  have h3:=onV_nn (l:=l) (fun x hx=>by have:=hm x (yAl _ hx); omega) i
  have e:onV (y::l) i=(if y.Node=i then y.Many else 0)+onV l i:=by simp [onV]
  rw [e]
  constructor
  ·intro hp
   by_cases hy:y.Node=i
   ·exact ⟨y,yAq ..,hy⟩
   ·rw [if_neg hy] at hp
    obtain ⟨x,hx,e⟩:=h1.1 (by omega)
    exact ⟨x,yAl _ hx,e⟩
  ·rintro ⟨x,hx,e2⟩
   rcases yAu.1 hx with rfl | hx
   ·rw [if_pos e2]; omega
   ·have:=h1.2 ⟨x,hx,e2⟩
    split <;> omega
def TakenBy (st:zai) (node frm:Int) (a:zac):Prop:=∃j∈st.Jobs,j.Id=a.Job∧(∃x∈a.Shares,x.Node=node)∧frm<j.Start+j.Wall
theorem ref_taken {s:zae} {st:zai} (hw:FewW s st) (R:zc3 s st) (node frm:Int):Ret (zcS 1000 st node frm) fun b=>JobsOk s st→(b=true↔∃a∈st.Allocs,TakenBy st node frm a):=by
 have hl:=hw.jobs; have hal:=hw.allocs
 unfold zcS
 refine lpA st.Allocs (fun i a=>JobsOk s st→¬TakenBy st node frm a) (fun i f hi hA hr=>?_) (fun f hA=>?_) (by omega)
 ·simp only [zaQ,zcs hi,if_true,zal hi,Option.bind_some,wr1 (show i<1000000 by omega)]
  have ha:=yAn hi
  refine (ref_find (by omega) st.Allocs[i].Job).bind fun r hr1=>?_
  rw [zaf]
  refine ⟨fun h=>?_,fun h=>?_⟩
  ·simp only [yAe] at h
   have at1:=hr1.2.1 h
   have S:=(R.each i hi).shares
   obtain ⟨hx,e⟩:=at_int (l:=st.Jobs) at1.lo (by have:=at1.lo; have:=at1.hi; omega)
   have hj:=yAn hx
   have fin:Ret (if decide (IntKind.i64.wrap (st.Jobs[r.toNat].Start+st.Jobs[r.toNat].Wall) > frm)=true then some true else f ((i+1:Nat):Int)) (fun b=>(∃x∈st.Allocs[i].Shares,x.Node=node)→JobsOk s st→(b=true↔∃a∈st.Allocs,TakenBy st node frm a)):=by
    rw [zaf]
    refine ⟨fun h2=>?_,fun h2=>?_⟩
    ·rw [zad]
     intro hsx J
     have jo:=(J.each _ hj).ok
     have:=jo.start; have:=jo.wall
     rw [wr (by omega) (by omega)] at h2
     simp only [yAe] at h2
     exact ⟨fun _=>⟨_,ha,_,hj,at1.is,hsx,h2⟩,fun _=>rfl⟩
    ·refine (hr fun J tk=>?_).mono fun b hb _=>hb
     obtain ⟨j,hj2,e2,-,h3⟩:=tk
     have:j=st.Jobs[r.toNat]:=by
      obtain ⟨m,hm,rfl⟩:=yA9 hj2
      have:=J.sorted.inj hm hx (by rw [e2,at1.is])
      subst this
      rfl
     subst this
     have jo:=(J.each _ hj).ok
     have:=jo.start; have:=jo.wall
     rw [wr (by omega) (by omega)] at h2
     simp only [yAe] at h2
     omega
   rw [ref_on (yAB (hw.shares _ ha) (by decide)) S,Option.bind_some,e,zaf]
   simp only [Option.bind_some]
   refine ⟨fun h2=>?_,fun h2=>?_⟩
   ·simp only [yAe] at h2
    exact fin.mono fun b hb=>hb ((onV_pos S).1 h2)
   ·simp only [yAe] at h2
    rw [if_neg (by simp)]
    exact hr fun J ⟨j,hj2,e2,hx2,h3⟩=>h2 ((onV_pos S).2 hx2)
  ·simp only [yAe] at h
   rw [if_neg (by simp)]
   exact hr fun J ⟨j,hj2,e2,hx2,h3⟩=>by have:=hr1.1.2 ⟨j,hj2,e2⟩; omega
 ·simp only [zcr,yAg,yA0,zad,yBp]
  rintro J ⟨a,ha,tk⟩
  exact zbX (A:=fun a=>JobsOk s st→¬TakenBy st node frm a) hA a ha J tk
theorem ref_books {s:zae} {st:zai} (hw:FewW s st) (R:zc3 s st):Ret (zcQ 1000 s st) fun b=>JobsOk s st→(b=true↔BookedOk s st):=by
 have hl:=hw.books
 unfold zcQ
 refine lpA st.Books (fun i b=>(b.Id<st.Book∧st.Now<b.To)∧(JobsOk s st→¬∃a∈st.Allocs,TakenBy st b.Node b.From a)) (fun i f hi hA hr=>?_) (fun f hA=>?_) (by omega)
 ·simp only [zaQ,zcs hi,if_true,zal hi,Option.bind_some,wr1 (show i<1000000 by omega)]
  have hb:=yAn hi
  rw [zaf]
  refine ⟨fun h=>?_,fun h=>?_⟩
  ·rw [zad]
   intro J
   simp only [yAs,yAe] at h
   simp only [yAg,yBp]
   exact fun q=>by have:=q.live _ hb; omega
  ·simp only [yAs,yAe] at h
   refine (ref_taken hw R _ _).bind fun r hr1=>?_
   rw [zaf]
   refine ⟨fun h2=>?_,fun h2=>hr ⟨by omega,fun J=>fun q=>h2 ((hr1 J).2 q)⟩⟩
   rw [zad]
   intro J
   simp only [yAg,yBp]
   intro q
   obtain ⟨a,ha,j,hj,e,⟨x,hx,en⟩,hf⟩:=(hr1 J).1 h2
   exact q.clash a ha j hj e x hx _ hb en.symm hf
 ·simp only [zcr,yAg,yA0]
  refine (ref_book _ _ (by omega)).bind fun r hr=>?_
  rw [zad]
  intro J
  rw [hr]
  refine ⟨fun h=>⟨h,fun b hb=>?_,fun a ha j hj e x hx b hb en hf=>?_⟩,fun q=>q.books⟩
  ·obtain ⟨m,hm,rfl⟩:=yA9 hb
   exact (hA m hm).1
  ·obtain ⟨m,hm,rfl⟩:=yA9 hb
   exact (hA m hm).2 J ⟨a,ha,j,hj,e,⟨x,hx,en.symm⟩,hf⟩
structure AtA (l:List zac) (id:Int) (r:Int):Prop where
 lo:0≤r
 hi:r.toNat<l.length
 is:l[r.toNat].Job=id
theorem ref_findA {l:List zac} (hl:l.length≤300) (id:Int):Ret (zdr 1000 l id) fun r=>(0≤r↔∃a∈l,a.Job=id)∧(0≤r→AtA l id r):=by
 unfold zdr
 refine lpA l (fun _ j=>j.Job≠id) (fun i f h _ hr=>?_) (fun f h=>?_) (by omega)
 ·simp only [zcs h,if_true,zal h,Option.bind_some,wr1 (show i<1000000 by omega),zaf,zad,yAL]
  exact ⟨fun e=>⟨⟨fun _=>⟨_,yAn h,e⟩,fun _=>by omega⟩,fun _=>⟨by omega,by simpa using h,by simpa using e⟩⟩,fun e=>hr e⟩
 ·simp only [zcr,yAg,yA0,zad]
  refine ⟨⟨fun h=>by omega,fun ⟨j,hm,e⟩=>absurd e (zbX (A:=fun j=>j.Job≠id) h j hm)⟩,fun h=>by omega⟩
theorem zc3.uniq {s:zae} {st:zai} (R:zc3 s st) {i j:Nat} (hi:i<st.Allocs.length) (hj:j<st.Allocs.length) (e:st.Allocs[i].Job=st.Allocs[j].Job):i=j:=by
 have pw:(st.Allocs.map (·.Job)).Pairwise (·<·):=asc_pw fun i hi=>by
  rw [yBe,yBe]
  exact (R.each (i+1) (by simpa using hi)).up i (by simp at hi; omega) rfl
 rw [yBH] at pw
 rcases yBD i j with h | h | h
 ·have:=pw i j (by simpa using hi) (by simpa using hj) h
  rw [yBe,yBe] at this; omega
 ·exact h
 ·have:=pw j i (by simpa using hj) (by simpa using hi) h
  rw [yBe,yBe] at this; omega
structure RefJob (s:zae) (st:zai) (j:zab):Prop where
 inn:JobIn s st j
 waits:Waits s st j
 has:HasIn s st j
theorem ref_job {s:zae} (k:SpecOk s) {st:zai} (hw:FewW s st) (R:zc3 s st) {j:zab} (hj:j∈st.Jobs):zbn (zdR 1000 s st j) (RefJob s st j):=by
 have kv:=k.versions
 have hl:=hw.jobs; have hal:=hw.allocs
 unfold zdR
 refine (ref_job_right j (hw.after j hj)).bind fun r hr1=>?_
 rw [zaf]
 refine ⟨fun h=>no_f fun q=>?_,fun h=>?_⟩
 ·have:=hr1.2 q.inn.ok
  rw [this] at h
  simp only [yAs,yAe,yBb,yAg,false_or] at h
  have:=q.inn.next; have:=q.inn.user; have:=q.inn.queue; have:=q.inn.born; have:=q.inn.start; have:=q.inn.fin
  omega
 ·simp only [yAs,yAe,not_or,yAt,yA2] at h
  have jo:=hr1.1 h.1.1.1.1.1.1
  have hst:=jo.state.st; have hsr:=jo.start; have hwl:=jo.wall
  simp only [jn_ite]
  generalize he:(if decide (j.State≥5)=true then (3:Int) else if (j.State == 4)=true then 2 else if (j.State == 3)=true then 1 else 0)=e
  have ev:e=extraV j.State:=by
   rw [←he]
   simp only [extraV,yAe,yAL,ge_iff_le]
   split
   ·split <;> (try split) <;> (try split) <;> omega
   ·split
    ·split <;> (try split) <;> omega
    ·split <;> (try split) <;> (try split) <;> omega
  have eb:=extra_bd j.State
  refine (ref_findA hal j.Id).bind fun r8 hr8=>?_
  simp only [zaQ,za6,Option.bind_some]
  rw [ev,wr (x:=s.Versions+extraV j.State) (by omega) (by omega),zaf]
  refine ⟨fun h2=>no_f fun q=>?_,fun h2=>?_⟩
  ·have:=q.inn.version
   simp only [yAe] at h2
   omega
  ·simp only [yAe] at h2
   have I:JobIn s st j:=⟨jo,by omega,by omega,by omega,by omega,by omega,by omega,by omega⟩
   have eh:((j.State == 3) || (j.State == 4))=hasJ j:=rfl
   rw [eh,zaf]
   refine ⟨fun h3=>no_f fun q=>?_,fun h3=>?_⟩
   ·have:=q.has.has
    rw [←hr8.1] at this
    cases hh:hasJ j with
    | true=>have t:=this.2 hh; simp [hh] at h3; omega
    | false =>
     have t:¬0≤r8:=fun t=>by have:=this.1 t; rw [hh] at this; cases this
     simp [hh] at h3
     omega
   ·have hasI:(∃a∈st.Allocs,a.Job=j.Id)↔hasJ j=true:=by
     rw [←hr8.1]
     cases hh:hasJ j with
     | true=>simp [hh] at h3; simp [h3]
     | false=>simp [hh] at h3; simp; omega
    rw [zaf]
    refine ⟨fun h4=>yes_t ?_,fun h4=>?_⟩
    ·simp only [yAe] at h4
     refine ⟨I,fun hs=>by omega,hasI,fun a ha e=>?_⟩
     have:=hasJ_lt (hasI.1 ⟨a,ha,e⟩)
     omega
    ·simp only [yAe] at h4
     have ha:=jo.afterN
     refine lpA j.After (fun _ d=>∃i∈st.Jobs,i.Id=d.Job) (fun m g hm hA hr=>?_) (fun g hA=>?_) (by omega)
     ·simp only [zcs hm,if_true,zal hm,Option.bind_some,wr1 (show m<1000000 by omega)]
      refine (ref_find (by omega) j.After[m].Job).bind fun r hr2=>?_
      rw [zaf]
      refine ⟨fun h5=>no_f fun q=>?_,fun h5=>hr (hr2.1.1 ?_)⟩
      ·have:=hr2.1.2 ((q.waits (by omega)).after _ (yAn hm))
       simp only [yAe] at h5
       omega
      ·simp only [yAe] at h5
       omega
     ·simp only [zcr,yAg,yA0]
      obtain ⟨b,e1,e2⟩:=fits_eq hw.spec k (q:=j.Queue) (m:=j.Many) jo.need jo.needz
      rw [e2,Option.bind_some,zaf]
      refine ⟨fun h5=>no_f fun q=>?_,fun h5=>?_⟩
      ·have:=(q.waits (by omega)).fits
       rw [e1] at this
       simp only [yAa] at this
       subst this
       simp at h5
      ·simp only [yAt,yA2] at h5
       subst h5
       have W:Waits s st j:=fun _=>⟨e1,zbX hA⟩
       rw [zaf]
       refine ⟨fun h6=>yes_t ⟨I,W,hasI,fun a ha e=>?_⟩,fun h6=>?_⟩
       ·have:=hasI.1 ⟨a,ha,e⟩
        rw [this] at h6
        simp at h6
       ·simp only [yAt,yA2] at h6
        have r0:=hr8.1.2 (hasI.2 h6)
        have at8:=hr8.2 r0
        obtain ⟨hx,e3⟩:=at_int (l:=st.Allocs) at8.lo (by have:=at8.lo; have:=at8.hi; omega)
        have hma:=yAn hx
        rw [wr (x:=j.Start+j.Wall) (by omega) (by omega),e3,zaf]
        simp only [Option.bind_some]
        refine ⟨fun h7=>?_,fun h7=>no_f fun q=>?_⟩
        ·simp only [yAe] at h7
         rw [zaf]
         refine ⟨fun h8=>?_,fun h8=>no_f fun q=>h8 (beq_res.2 (q.has.mine _ hma at8.is).need)⟩
         have eN:=beq_res.1 h8
         refine (ref_mine hw.spec k j _ (yAB (hw.shares _ hma) (by decide))).bind fun r hr9=>?_
         rw [zad,hr9]
         refine ⟨fun S=>⟨I,W,hasI,fun a ha e=>?_⟩,fun q=>(q.has.mine _ hma at8.is).suits⟩
         have:a=st.Allocs[r8.toNat]:=by
          obtain ⟨m,hm,rfl⟩:=yA9 ha
          have:=R.uniq hm hx (by rw [e,at8.is])
          subst this
          rfl
         subst this
         exact ⟨e,eN,S,h7⟩
        ·have:=(q.has.mine _ hma at8.is).now
         simp only [yAe] at h7
         omega
theorem ref_sound {s:zae} {st:zai} (hw:FewW s st):zbn (zcb 1000 s st) (zdf s st):=by
 have hl:=hw.jobs; have hq:=hw.stamps; have hus:=hw.use
 unfold zcb
 simp only [zaQ]
 refine (ref_right s hw.spec).bind fun r hr1=>?_
 rw [zaf]
 refine ⟨fun h=>?_,fun h=>?_⟩
 ·rw [if_pos trivial]
  refine no_f fun q=>?_
  have:=hr1.2 q.spec
  rw [this] at h
  have k1:=q.spec.ids; have:=q.nums.now; have:=q.nums.next; have:=q.nums.book
  rw [wr (x:=s.Ids+1) (by omega) (by omega)] at h
  simp only [yAs,yAe,yBb,yAg,false_or] at h
  omega
 ·simp only [yAs,yAe,not_or,yAt,yA2] at h
  have k:=hr1.1 h.1.1.1.1.1
  have k1:=k.ids
  rw [wr (x:=s.Ids+1) (by omega) (by omega)] at h
  refine (ref_uid st.Book).bind fun r2 hr2=>?_
  rw [zaf]
  refine ⟨fun h2=>no_f fun q=>?_,fun h2=>?_⟩
  ·have:=hr2.2 (by have:=q.nums.book; omega)
   rw [this] at h2
   simp at h2
  ·simp only [yAt,yA2] at h2
   have u2:=hr2.1 h2
   have NO:NumsOk s st:=⟨by omega,by omega,by omega⟩
   rw [zaf]
   refine ⟨fun h3=>?_,fun h3=>?_⟩
   ·rw [if_pos trivial]
    refine no_f fun q=>?_
    have:=q.jobs.len
    simp only [yAe] at h3
    omega
   ·simp only [yAe] at h3
    refine (ref_allocs hw).bind fun r4 hr4=>?_
    rw [zaf]
    refine ⟨fun h4=>?_,fun h4=>?_⟩
    ·rw [if_pos trivial]
     refine no_f fun q=>?_
     have:=hr4.2 (to_ref k q.jobs q.allocs).1
     rw [this] at h4
     simp at h4
    ·simp only [yAt,yA2] at h4
     have R:=hr4.1 h4
     refine (ref_books hw R).bind fun r5 hr5=>?_
     rw [zaf]
     refine ⟨fun h5=>?_,fun h5=>?_⟩
     ·rw [if_pos trivial]
      refine no_f fun q=>?_
      have:=(hr5 q.jobs).2 q.booked
      rw [this] at h5
      simp at h5
     ·simp only [yAt,yA2] at h5
      refine (ref_use st.Use s.Users (by omega)).bind fun r6 hr6=>?_
      rw [zaf]
      refine ⟨fun h6=>?_,fun h6=>?_⟩
      ·rw [if_pos trivial]
       refine no_f fun q=>?_
       have:=hr6.2 ⟨q.use.len,q.use.use⟩
       rw [this] at h6
       have:=q.use.qlen
       simp only [yAs,yBm,ne_eq,yBb,yAg,false_or] at h6
       omega
      ·simp only [yAs,yBm,ne_eq,not_or,yAX,yAt,yA2] at h6
       have u6:=hr6.1 h6.1
       refine (ref_uid st.Stamps.Nodes).bind fun r7 hr7=>?_
       rw [zaf]
       refine ⟨fun h7=>no_f fun q=>?_,fun h7=>?_⟩
       ·have:=hr7.2 q.use.nodes
        rw [this] at h7
        simp at h7
       ·simp only [yAt,yA2] at h7
        have u7:=hr7.1 h7
        refine lpA st.Stamps.Queues (fun _ x=>0≤x∧x≤281474976710656) (fun i f hi _ hr=>?_) (fun f hS=>?_) (by omega)
        ·simp only [zcs hi,if_true,zal hi,Option.bind_some,wr1 (show i<1000000 by omega)]
         refine (ref_uid _).bind fun r8 hr8=>?_
         rw [zaf]
         refine ⟨fun h8=>no_f fun q=>?_,fun h8=>hr (hr8.1 (by simpa using h8))⟩
         have:=hr8.2 (q.use.stamps _ (yAn hi))
         rw [this] at h8
         simp at h8
        ·simp only [zcr,yAg,yA0]
         have U:UseOk s st:=⟨u6.1,u6.2,by omega,u7,zbX hS⟩
         refine lpA st.Jobs (fun i j=>RefJob s st j∧prvI st.Jobs i<j.Id) (fun i f hi _ hr=>?_) (fun f hJ=>?_) (by omega)
         ·have hd:decide ((i:Int) > 0)=decide (0<i):=by simp
          have hj:=yAn hi
          simp only [zcs hi,if_true,zal hi,Option.bind_some,wr1 (show i<1000000 by omega),hd]
          refine (ref_job k hw R hj).bind fun r9 hr9=>?_
          rw [zaf]
          refine ⟨fun h9=>no_f fun q=>?_,fun h9=>?_⟩
          ·have:=hr9.2 ⟨q.jobs.each _ hj,q.waits _ hj,(to_ref k q.jobs q.allocs).2 _ hj⟩
           rw [this] at h9
           simp at h9
          ·simp only [yAt,yA2] at h9
           have J9:=hr9.1 h9
           rw [zaf]
           refine ⟨fun h10=>?_,fun h10=>?_⟩
           ·simp only [yAe] at h10
            obtain ⟨m,rfl⟩:∃m,i=m+1:=⟨i-1,by omega⟩
            rw [wp1 (show m+1<1000000 by omega),zal (show m<st.Jobs.length by omega),Option.bind_some,zaf]
            refine ⟨fun h11=>no_f fun q=>?_,fun h11=>hr ⟨J9,?_⟩⟩
            ·have:=q.jobs.sorted m hi
             simp only [yAe] at h11
             omega
            ·rw [prvI_succ (by omega)]
             simp only [yAe] at h11
             omega
           ·simp only [yAe] at h10
            have:i=0:=by omega
            subst this
            refine hr ⟨J9,?_⟩
            have:=J9.inn.ok.id
            simp only [prvI]
            omega
         ·simp only [zcr,yAg,yA0]
          have JO:JobsOk s st:=jobs_of (by omega) fun i hi=>⟨(hJ i hi).1.inn,(hJ i hi).2⟩
          have all:∀j∈st.Jobs,RefJob s st j:=fun j hj=>by
           obtain ⟨m,hm,rfl⟩:=yA9 hj
           exact (hJ m hm).1
          exact yes_t ⟨k,NO,JO,fun j hj=>(all j hj).waits,of_ref k JO R fun j hj=>(all j hj).has,(hr5 JO).1 h5,U⟩
end Go.Plain
end
section
namespace Go.Plain
open Go.Abs
theorem clone_ints {l:List Int} (h:l.length≤1000000):zaC 1000 l=some l:=by
 unfold zaC
 exact zc5 h
theorem copy_ok {s:zae} (hs:FewS s):zcH 1000 s=some s:=by
 have h1:=hs.nodes; have h2:=hs.parts; have h3:=hs.queues
 unfold zcH
 rw [clone_res (by omega),Option.bind_some,show zbU 1000 s.Parts=some s.Parts from zc5 (by omega),Option.bind_some]
 refine Ret.eq (lpS s.Parts.length (fun i x=>x=((i:Int),s.Parts)) (fun i x f hi hx hr=>?_) (fun x f hx=>?_) rfl (by omega))
 ·subst hx
  have hp:=hs.part _ (yAn hi)
  simp only [zcs hi,if_true,zal hi,Option.bind_some,wr1 (show i<1000000 by omega),clone_ints (show s.Parts[i].length≤1000000 by omega),Int.toNat_natCast,yBW]
  exact hr _ rfl
 ·subst hx
  simp only [zcr,yAg,yA0]
  rw [show zaZ 1000 s.Queues=some s.Queues from zc5 (by omega),Option.bind_some]
  refine lpS s.Queues.length (fun i x=>x=((i:Int),s.Queues)) (fun i x f hi hx hr=>?_) (fun x f hx=>?_) rfl (by omega)
  ·subst hx
   have hp:=hs.queue _ (yAn hi)
   simp only [zcs hi,if_true,zal hi,Option.bind_some,wr1 (show i<1000000 by omega),clone_ints (show s.Queues[i].Users.length≤1000000 by omega),Int.toNat_natCast,yBW]
   exact hr _ (Prod.ext rfl (yBW hi))
  ·subst hx
   simp only [zcr,yAg,yA0,zad]
theorem share_new {n:Int} (h:1≤n∧n≤8):share_New 1000 n=some (List.replicate n.toNat 0):=by
 simp only [share_New,zbr]
 rw [if_neg (by simp; omega),if_neg (by simp; omega)]
 simp only [Option.bind_some,mk?]
 rw [if_pos (by omega)]
 rfl
theorem table_new {n:Int} (h:1≤n∧n≤256):table_New_of79d 1000 n=some (.inr n):=by
 simp only [table_New_of79d]
 rw [if_neg (by simp; omega)]
theorem new_ok {s:zae} (hs:FewS s) (k:SpecOk s):zdg 1000 s=some (.inr (List.replicate s.Queues.length 0,[],s.Nodes,s.Parts,s.Queues,s.Users,s.Weights.Age,s.Weights.Size,s.Weights.Qos,s.Weights.Share,s.Decay,s.Mode,s.Jobs,s.Ids,s.Versions,s.Linger,s.Keep,s.In,s.Out,s.Cache,0,1,1,List.replicate s.Users.toNat 0,0,s.Jobs,s.Nodes)):=by
 have h3:=hs.queues
 unfold zdg
 rw [spec_true hs k,Option.bind_some,if_neg (by simp),table_new k.jobs,Option.bind_some]
 dsimp only
 rw [new_ledger hs k,Option.bind_some]
 dsimp only
 rw [copy_ok hs,Option.bind_some,share_new k.users,Option.bind_some]
 unfold mk?
 rw [if_pos (by omega),Option.bind_some]
 rw [Int.toNat_natCast]
theorem own_job {j:zab} (h:j.After.length≤1000000):table_own 1000 j=some j:=by
 unfold table_own
 rw [show zaO 1000 j.After=some j.After from zc5 h]
 rfl
theorem all_jobs {l:List zab} (hl:l.length≤300) (ha:∀j∈l,j.After.length≤10):zbb 1000 l=some l:=by
 unfold zbb
 rw [show zbt 1000 l=some l from zc5 (by omega),Option.bind_some]
 refine Ret.eq (lpS l.length (fun i x=>x=((i:Int),l)) (fun i x f hi hx hr=>?_) (fun x f hx=>?_) rfl (by omega))
 ·subst hx
  have hp:=ha _ (yAn hi)
  simp only [zcs hi,if_true,zal hi,Option.bind_some,wr1 (show i<1000000 by omega),own_job (show l[i].After.length≤1000000 by omega),Int.toNat_natCast,yBW]
  exact hr _ rfl
 ·subst hx
  simp only [zcr,yAg,yA0,zad]
def mapA (A:List zac):List (Int×zac):=A.map fun a=>(a.Job,a)
def AscA (A:List zac):Prop:=(A.map (·.Job)).Pairwise (·<·)
theorem mapA_get {A:List zac} (h:AscA A):∀i (hi:i<A.length),mget (mapA A) A[i].Job=some A[i]:=by
 induction A with
 | nil=>intro i hi; simp at hi
 | cons a A ih =>
  unfold AscA at h
  rw [yAy,List.pairwise_cons] at h
  intro i hi
  match i,hi with
  | 0,hi=>simp [mapA,mget]
  | i + 1, hi =>
   have hi':i<A.length:=by simpa using hi
   have:=h.1 A[i].Job (yA4.2 ⟨_,yAn hi',rfl⟩)
   have e:mget (mapA (a::A)) A[i].Job=mget (mapA A) A[i].Job:=by
    simp only [mapA,yAy,mget]
    rw [if_neg (by omega)]
   rw [List.getElem_cons_succ,e]
   exact ih h.2 i hi'
theorem mapA_none {A:List zac} {q:Int} (h:∀a∈A,a.Job≠q):mget (mapA A) q=none:=by
 induction A with
 | nil=>rfl
 | cons a A ih =>
  simp only [mapA,yAy,mget]
  rw [if_neg (h a (yAq ..))]
  exact ih fun b hb=>h b (yAl _ hb)
theorem mapA_set {A:List zac} {a:zac} (h:∀b∈A,b.Job≠a.Job):mset (mapA A) a.Job a=mapA (A++[a]):=by
 induction A with
 | nil=>rfl
 | cons b A ih =>
  have:=ih fun c hc=>h c (yAl _ hc)
  simp only [mapA,List.cons_append,yAy,mset] at this ⊢
  rw [if_neg (h b (yAq ..)),this]
theorem i64wf {n:Int} (h:0≤n∧n≤1048576):(Lit.int .i64 n).wf=true:=by
 have e1:IntKind.i64.min=-9223372036854775808:=by decide
 have e2:IntKind.i64.max=9223372036854775807:=by decide
 simp only [Lit.wf,yAj,yAe,e1,e2]
 omega
theorem keys_ok {A:List zac} (hl:A.length≤300) (h:AscA A) (hj:∀a∈A,0≤a.Job∧a.Job≤1048576):keysI (fun k=>k) (mapA A)=some (A.map (·.Job)):=by
 have e:(mapA A).map Prod.fst=A.map (·.Job):=by simp [mapA]
 unfold keysI
 have wf:∀p∈mapA A,(Lit.int .i64 p.1).wf=true:=fun p hp=>by
  obtain ⟨a,ha,rfl⟩:=yA4.1 hp
  exact i64wf (hj a ha)
 have nd:(A.map (·.Job)).Nodup:=h.imp fun h=>by omega
 have ln:(mapA A).length≤1000000:=by simp [mapA]; omega
 rw [e,if_pos ⟨ln,nd,wf⟩,List.mergeSort_of_pairwise (h.imp fun h=>by simp; omega)]
 simp
theorem all_allocs {A:List zac} (hl:A.length≤300) (h:AscA A) (hj:∀a∈A,0≤a.Job∧a.Job≤1048576) (hs:∀a∈A,a.Shares.length≤300):zaD 1000 (mapA A)=some A:=by
 unfold zaD
 rw [keys_ok hl h hj,Option.bind_some]
 refine Ret.eq (lpS (A.map (·.Job)).length (fun i x=>x=((i:Int),A.take i)) (fun i x f hi hx hr=>?_) (fun x f hx=>?_) (by simp) (by simp; omega))
 ·subst hx
  have hi':i<A.length:=by simpa using hi
  have e:=mapA_get h i hi'
  have es:=hs _ (yAn hi')
  simp only [zcs hi,if_true,zal hi,Option.bind_some,wr1 (show i<1000000 by omega),yBe,e,oel,own_alloc (show A[i].Shares.length≤1000000 by omega)]
  rw [app_ok (by rw [yA1]; simp; omega),Option.bind_some]
  exact hr _ (by rw [yAP hi'])
 ·subst hx
  simp only [zcr,yAg,yA0,zad,yAx,yBr]
theorem clone_books {l:List zag} (h:l.length≤1000000):zav 1000 l=some l:=by
 unfold zav
 exact zc5 h
theorem beq_dep (a:api_Dep):api_Dep.beq a a=true:=by simp [api_Dep.beq]
theorem beq_share (a:zaj):zaj.beq a a=true:=by simp [zaj.beq]
theorem beq_book (a:zag):zag.beq a a=true:=by simp [zag.beq]
theorem beq_res' (a:zaa):zaa.beq a a=true:=beq_res.2 rfl
theorem lpT {α:Type} {b:(Int→Option Bool)→Int→Option Bool} (l:List α) (hs:∀(i:Nat) (f:Int→Option Bool) (h:i<l.length),b f (i:Int)=f ((i+1:Nat):Int)) (he:∀f,b f (l.length:Int)=some true) {N:Nat} (hN:l.length<N):lpX b N 0=some true:=
 Ret.eq (lpA l (fun _ _=>True) (fun i f h _ hr=>by rw [hs i f h]; exact hr trivial) (fun f _=>by rw [he]; exact ⟨_,rfl,rfl⟩) hN)
theorem same_ints (l:List Int) (hl:l.length≤300):zco 1000 l l=some true:=by
 unfold zco
 rw [if_neg (by simp)]
 refine lpT l (fun i f h=>?_) (fun f=>?_) (by omega)
 ·simp only [zcs h,if_true,zal h,Option.bind_some,wr1 (show i<1000000 by omega),yCq,yAg,yA0]
 ·simp only [zcr,yAg,yA0]
theorem same_job (j:zab) (hl:j.After.length≤300):zdm 1000 j j=some true:=by
 unfold zdm
 rw [if_neg (by simp)]
 refine lpT j.After (fun i f h=>?_) (fun f=>?_) (by omega)
 ·simp only [zcs h,if_true,zal h,Option.bind_some,wr1 (show i<1000000 by omega),beq_dep,yBb,yAg,yA0]
 ·simp only [zcr,yAg,yA0,yCe,beq_res',yBO]
theorem same_jobs (l:List zab) (hl:l.length≤300) (ha:∀j∈l,j.After.length≤10):zdo 1000 l l=some true:=by
 unfold zdo
 rw [if_neg (by simp)]
 refine lpT l (fun i f h=>?_) (fun f=>?_) (by omega)
 ·have:=ha _ (yAn h)
  simp only [zcs h,if_true,zal h,Option.bind_some,wr1 (show i<1000000 by omega),same_job l[i] (by omega),yBb,yAg,yA0]
 ·simp only [zcr,yAg,yA0]
theorem same_shares (l:List zaj) (hl:l.length≤300):zdl 1000 l l=some true:=by
 unfold zdl
 rw [if_neg (by simp)]
 refine lpT l (fun i f h=>?_) (fun f=>?_) (by omega)
 ·simp only [zcs h,if_true,zal h,Option.bind_some,wr1 (show i<1000000 by omega),beq_share,yBb,yAg,yA0]
 ·simp only [zcr,yAg,yA0]
theorem same_allocs (l:List zac) (hl:l.length≤300) (ha:∀a∈l,a.Shares.length≤300):zdq 1000 l l=some true:=by
 unfold zdq
 rw [if_neg (by simp)]
 refine lpT l (fun i f h=>?_) (fun f=>?_) (by omega)
 ·have:=ha _ (yAn h)
  simp only [zaQ,zcs h,if_true,zal h,Option.bind_some,wr1 (show i<1000000 by omega),yCq,beq_res',same_shares l[i].Shares this,yBb,yAg,yA0]
 ·simp only [zcr,yAg,yA0]
theorem same_books (l:List zag) (hl:l.length≤300):zdn 1000 l l=some true:=by
 unfold zdn
 rw [if_neg (by simp)]
 refine lpT l (fun i f h=>?_) (fun f=>?_) (by omega)
 ·simp only [zcs h,if_true,zal h,Option.bind_some,wr1 (show i<1000000 by omega),beq_book,yBb,yAg,yA0]
 ·simp only [zcr,yAg,yA0]
theorem same_state {s:zae} {st:zai} (hw:FewW s st):za8 1000 st st=some true:=by
 have h1:=hw.jobs; have h2:=hw.use; have h3:=hw.stamps; have h4:=hw.books
 unfold za8
 rw [if_pos (by simp),same_jobs _ (by omega) hw.after,Option.bind_some,if_pos rfl,same_allocs _ hw.allocs hw.sh,Option.bind_some,if_pos rfl,same_books _ (by omega),Option.bind_some,if_pos rfl,same_ints _ (by omega),Option.bind_some,if_pos rfl,same_ints _ (by omega),Option.bind_some]
 simp
end Go.Plain
end
section
namespace Go.Plain
open Go.Abs
theorem sorted_take {l:List zab} (h:SortedJ l) (n:Nat):SortedJ (l.take n):=fun i hi=>by
 rw [yA1] at hi
 rw [yBJ,yBJ]
 exact h i (by omega)
theorem find_end {l:List zab} (hl:l.length≤300) (hs:SortedJ l) {id:Int} (h:∀j∈l,j.Id<id):zar 1000 l id=some ((l.length:Int),false):=by
 unfold zar
 have e:(lpX (fun f2 (x1:Int×Int)=>
   if (decide (x1.1<x1.2))=true then
    (
     (at? l (IntKind.i64.wrap (Int.fdiv (IntKind.u64.wrap (IntKind.i64.wrap (x1.1+x1.2))) (2 ^ 1)))).bind fun a3=>
     some (decide (a3.Id≥id))).bind fun x4=>
    if (!x4)=true then
     f2 ((IntKind.i64.wrap ((IntKind.i64.wrap (Int.fdiv (IntKind.u64.wrap (IntKind.i64.wrap (x1.1+x1.2))) (2 ^ 1)))+1)),x1.2)
    else
     f2 (x1.1,(IntKind.i64.wrap (Int.fdiv (IntKind.u64.wrap (IntKind.i64.wrap (x1.1+x1.2))) (2 ^ 1))))
   else
    some x1.1) 1000 (0,(l.length:Int)))=some (l.length:Int):=by
  refine Ret.eq (half hl hs id (fun j=>some (decide (j.Id<id))) (fun j hj=>rfl) (fun i=>some i) (fun i hi h1 h2=>?_) _ (fun f x=>?_))
  ·rw [zad]
   rcases yBd hi with q | q
   ·have:=h2 i q (yAo _)
    have:=h _ (yAn q)
    omega
   ·rw [q]
  ·split
   ·cases at? l (IntKind.i64.wrap (Int.fdiv (IntKind.u64.wrap (IntKind.i64.wrap (x.1+x.2))) (2 ^ 1))) with
    | none=>rfl
    | some a =>
     simp only [Option.bind_some,yAt,yBa,yAe]
     by_cases hc:a.Id<id
     ·rw [if_pos hc,if_pos (by omega)]
     ·rw [if_neg hc,if_neg (by omega)]
   ·rfl
 rw [e,Option.bind_some,zcr,if_neg (by simp)]
theorem put_ok {l:List zab} {n:Nat} (hn:n<l.length) (hl:l.length≤300) (hs:SortedJ l) {m:Int} (hm:(l.length:Int)≤m) (hj:JobOk l[n]):zb8 1000 (l.take n) l[n] m=some (l.take (n+1),0):=by
 obtain ⟨r,e,h⟩:=job_right l[n]
 have hr:=h.2 hj
 subst hr
 have ha:=hj.afterN
 have ll:(l.take n).length=n:=by rw [yA1]; omega
 unfold zb8
 rw [e,Option.bind_some,if_neg (by simp),find_end (by omega) (sorted_take hs n) (fun j hj=>?_),Option.bind_some]
 ·rw [if_neg (by simp),if_neg (by rw [ll]; simp; omega),own_job (by omega),Option.bind_some]
  unfold zaK
  have sl:slice? (l.take n) ((l.take n).length:Int) ((l.take n).length:Int)=some []:=by
   unfold slice?
   rw [if_pos ⟨by omega,by omega,by omega⟩]
   simp
  rw [sl,Option.bind_some,if_neg (by simp),if_pos (by simp),app_ok (by rw [ll]; simp; omega),Option.bind_some,Option.bind_some,yAP hn]
 ·obtain ⟨i,hi,rfl⟩:=yA9 hj
  rw [yBJ]
  exact hs.lt (by omega) hn
def leftL (F:List zaa) (l:List zac):List zaa:=l.foldl takeA F
structure TInv (s:zae) (st:zai) (i:Nat) (x:Int×(List zaa)×List (Int×zac)):Prop where
 ix:x.1=(i:Int)
 h:∃H,AllocsH s st H (st.Allocs.drop i) x.2.1
 len:x.2.1.length=s.Nodes.length
 vec:∀r∈x.2.1,VecOk r
 m:x.2.2=mapA (st.Allocs.take i)
 fr:x.2.1=leftL s.Nodes (st.Allocs.take i)
theorem asc_of {s:zae} {st:zai} (q:zdf s st):AscA st.Allocs:=by
 have h:=(allocsH_fwd q.allocs q.spec.nodes.ok).1
 unfold AscA
 rw [h]
 exact jobs_pw q.jobs
theorem alloc_ids {s:zae} {st:zai} (q:zdf s st):∀a∈st.Allocs,0≤a.Job∧a.Job≤1048576:=fun a ha=>by
 obtain ⟨j,hj,P⟩:=q.allocs.mem a ha
 have:=(q.jobs.each j hj).ok.id
 have:=P.job
 omega
theorem of_ok {s:zae} {st:zai} (hw:FewW s st) (q:zdf s st):zcJ 1000 s st=some (.inr (st.Stamps.Queues,st.Jobs,(st.Allocs.map fun a=>(a.Job,a)),s.Nodes,s.Parts,s.Queues,s.Users,s.Weights.Age,s.Weights.Size,s.Weights.Qos,s.Weights.Share,s.Decay,s.Mode,s.Jobs,s.Ids,s.Versions,s.Linger,s.Keep,s.In,s.Out,s.Cache,st.Now,st.Next,st.Book,st.Books,st.Use,st.Stamps.Nodes,s.Jobs,leftL s.Nodes st.Allocs)):=by
 have hl:=hw.jobs; have hal:=hw.allocs; have hn:=hw.spec.nodes; have hb:=hw.books; have hu:=hw.use; have hs:=hw.stamps
 obtain ⟨r,e,h⟩:=sound_ok hw
 have hr:=h.2 q
 subst hr
 have jl:=q.jobs.len
 have asc:=asc_of q
 unfold zcJ
 rw [e,Option.bind_some,if_neg (by simp),new_ok hw.spec q.spec,Option.bind_some]
 dsimp only
 refine Ret.eq ?_
 refine lpS st.Jobs.length (fun i x=>x=((i:Int),st.Jobs.take i)) (fun i x f hi hx hr=>?_) (fun x f hx=>?_) rfl (by omega)
 ·subst hx
  simp only [zcs hi,if_true,zal hi,Option.bind_some,wr1 (show i<1000000 by omega),put_ok hi hl q.jobs.sorted jl (q.jobs.each _ (yAn hi)).ok,yCq,yAg,yA0]
  exact hr _ rfl
 ·subst hx
  simp only [zcr,yAg,yA0]
  refine lpS st.Allocs.length (TInv s st) (fun i x f hi hx hr=>?_) (fun x f hx=>?_) ⟨rfl,⟨_,by rw [yB4]; exact q.allocs⟩,rfl,q.spec.nodes.ok,rfl,rfl⟩ (by omega)
  ·obtain ⟨x1,F,M⟩:=x
   obtain ⟨h1,h2,h3,h4,h5,h6⟩:=hx
   dsimp only at h1 h2 h3 h4 h5 h6
   subst h1
   have hm:=yAn hi
   have hsh:=hw.sh _ hm
   obtain ⟨H,hH⟩:=h2
   rw [List.drop_eq_getElem_cons hi] at hH
   obtain ⟨j,hj,P⟩:=q.allocs.mem _ hm
   have jo:=(q.jobs.each j hj).ok
   have fit:FitsA F st.Allocs[i]∧∃H',AllocsH s st H' (st.Allocs.drop (i+1)) (takeA F st.Allocs[i]):=by
    cases H with
    | nil=>cases (show st.Allocs[i]::st.Allocs.drop (i+1)=[] from hH)
    | cons j' H' =>
     obtain ⟨a',A',e',-,hf,hr⟩:=hH
     cases e'
     exact ⟨hf,H',hr⟩
   have free:∀b∈st.Allocs.take i,b.Job≠st.Allocs[i].Job:=fun b hb=>by
    obtain ⟨m,hm2,rfl⟩:=yA9 hb
    rw [yA1] at hm2
    rw [yBJ]
    have:=yBH.1 asc m i (by simp; omega) (by simpa using hi) (by omega)
    rw [yBe,yBe] at this
    omega
   have T:TakeOk M F st.Allocs[i]:=⟨by have:=jo.id; have:=P.job; omega,tot_pos (by have:=jo.many; have:=P.suits.tot; omega),by rw [h3]; exact P.suits.shares,by rw [P.need]; exact jo.need,by rw [h5]; exact mapA_none free,fit.1⟩
   simp only [zcs hi,if_true,zal hi,Option.bind_some,wr1 (show i<1000000 by omega)]
   refine (take_ok (M:=M) (a:=st.Allocs[i]) (F:=F) (by omega) hsh h4).bind fun r hr1=>?_
   have z:=hr1.1.2 T
   obtain ⟨eM,bh⟩:=hr1.2 z
   rw [z]
   simp only [yCq,yAg,yA0]
   refine hr _ ⟨rfl,?_,?_,?_,?_,?_⟩
   ·dsimp only
    rw [bh.eq]
    exact fit.2
   ·dsimp only
    rw [bh.eq,zcG,h3]
   ·dsimp only
    rw [bh.eq]
    exact takeA_ok fit.1
   ·dsimp only
    rw [eM,h5,mapA_set free,yAP hi]
   ·dsimp only
    rw [bh.eq,h6,yAP hi,leftL,leftL,List.foldl_append]
    rfl
  ·obtain ⟨x1,F,M⟩:=x
   obtain ⟨h1,h2,h3,h4,h5,h6⟩:=hx
   dsimp only at h1 h2 h3 h4 h5 h6
   subst h1
   simp only [zcr,yAg,yA0]
   rw [show zaR 1000 st.Books=some st.Books from zc5 (by omega),Option.bind_some,show za3 1000 st.Use=some st.Use from zc5 (by omega),Option.bind_some,show za3 1000 st.Stamps.Queues=some st.Stamps.Queues from zc5 (by omega),Option.bind_some,zad]
   rw [h5,h6,yBr,yBr]
   rfl
theorem of_no {s:zae} {st:zai} (hw:FewW s st) (q:¬zdf s st):zcJ 1000 s st=some (.inl 2):=by
 obtain ⟨r,e,h⟩:=sound_ok hw
 have:r=false:=by
  cases r with
  | false=>rfl
  | true=>exact absurd (h.1 rfl) q
 unfold zcJ
 rw [e,this]
 rfl
theorem shown {s:zae} {st:zai} (hw:FewW s st) (q:zdf s st) :
  zah 1000 st.Stamps.Queues st.Jobs (st.Allocs.map fun a=>(a.Job,a)) st.Now st.Next st.Book st.Books st.Use st.Stamps.Nodes=some st:=by
 have hl:=hw.jobs; have hb:=hw.books; have hu:=hw.use; have hs:=hw.stamps
 unfold zah
 rw [all_jobs (by omega) hw.after,Option.bind_some,show zaD 1000 (st.Allocs.map fun a=>(a.Job,a))=some st.Allocs from all_allocs hw.allocs (asc_of q) (alloc_ids q) hw.sh,Option.bind_some,clone_books (by omega),Option.bind_some,clone_ints (by omega),Option.bind_some,show zaT 1000 st.Stamps.Queues=some st.Stamps.Queues from zc5 (by omega),Option.bind_some]
theorem law_of_ok {s:zae} {st:zai} (hw:FewW s st) (q:zdf s st):zba 1000 s st=some (.inr (st.Stamps.Queues,st.Jobs,(st.Allocs.map fun a=>(a.Job,a)),true,s.Nodes,s.Parts,s.Queues,s.Users,s.Weights.Age,s.Weights.Size,s.Weights.Qos,s.Weights.Share,s.Decay,s.Mode,s.Jobs,s.Ids,s.Versions,s.Linger,s.Keep,s.In,s.Out,s.Cache,st.Now,st.Next,st.Book,st.Books,st.Use,st.Stamps.Nodes,s.Jobs,leftL s.Nodes st.Allocs)):=by
 obtain ⟨r,e2,h⟩:=ref_sound hw
 have hr:=h.2 q
 subst hr
 unfold zba
 rw [of_ok hw q,Option.bind_some]
 dsimp only
 rw [e2,Option.bind_some,if_neg (by simp),shown hw q,Option.bind_some,same_state hw,Option.bind_some]
theorem law_of_no {s:zae} {st:zai} (hw:FewW s st) (q:¬zdf s st):zba 1000 s st=some (.inl true):=by
 obtain ⟨r,e2,h⟩:=ref_sound hw
 have:r=false:=by
  cases r with
  | false=>rfl
  | true=>exact absurd (h.1 rfl) q
 unfold zba
 rw [of_no hw q,Option.bind_some]
 dsimp only
 rw [e2,this]
 rfl
theorem spec_shown {s:zae} (hs:FewS s) :
  za2 1000 s.Nodes s.Parts s.Queues s.Users s.Weights.Age s.Weights.Size s.Weights.Qos s.Weights.Share s.Decay s.Mode s.Jobs s.Ids s.Versions s.Linger s.Keep s.In s.Out s.Cache=some s:=by
 unfold za2
 rw [show zcH 1000 _=some s from copy_ok hs]
 rfl
end Go.Plain
end
section
namespace Go.Plain
open Go.Abs
theorem rises_len {l:List Int} {n:Int} (h:Rises l n):(l.length:Int)≤n∨l=[]:=by
 have key:∀i,i<l.length→(i:Int)≤l[i]!:=by
  intro i
  induction i with
  | zero =>
   intro hi
   have:=(h 0 hi).1
   simp only [prv] at this
   simp only [hi,yBT]
   omega
  | succ i ih =>
   intro hi
   have h1:=ih (by omega)
   have h2:=(h (i+1) hi).1
   rw [prv_succ (by omega)] at h2
   simp only [hi,show i<l.length by omega,yBT] at h1 ⊢
   omega
 cases hl:l.length with
 | zero=>exact .inr (yAF hl)
 | succ m =>
  left
  have h1:=key m (by omega)
  have h2:=(h m (by omega)).2
  simp only [show m<l.length by omega,yBT] at h1
  omega
theorem few_of_spec {s:zae} (k:SpecOk s):FewS s:={
 nodes:=by have:=k.nodes.hi; omega
 parts:=by have:=k.parts.hi; omega
 queues:=by have:=k.queues.hi; omega
 part:=fun p hp=>by
  have h1:=rises_len (k.parts.ok p hp).2
  have:=k.nodes.hi
  rcases h1 with h1 | h1
  ·omega
  ·rw [h1]; simp
 queue:=fun q hq=>by
  have h1:=rises_len (k.queues.ok q hq).users
  have:=k.users
  rcases h1 with h1 | h1
  ·omega
  ·rw [h1]; simp }
theorem shares_len {l:List zaj} {n:Int} (h:SharesOk l n) (hn:0≤n):(l.length:Int)≤n:=by
 rcases rises_len h.node with h1 | h1
 ·simpa using h1
 ·have:l=[]:=by simpa using h1
  rw [this]; simpa using hn
theorem few_of_sound {s:zae} {st:zai} (q:zdf s st):FewW s st:={
 spec:=few_of_spec q.spec
 jobs:=by have:=q.jobs.len; have:=q.spec.jobs; omega
 after:=fun j hj=>by have:=(q.jobs.each j hj).ok.afterN; omega
 allocs:=by
  have h:=(allocsH_fwd q.allocs q.spec.nodes.ok).1
  have h2:=yCv List.length h
  simp only [yAx] at h2
  have h3:(st.Jobs.filter hasJ).length≤st.Jobs.length:=List.length_filter_le _ _
  have:=q.jobs.len; have:=q.spec.jobs
  omega
 books:=by have:=q.booked.books.len; omega
 use:=by have:=q.use.len; have:=q.spec.users; omega
 stamps:=by have:=q.use.qlen; have:=q.spec.queues.hi; omega
 shares:=fun a ha=>by
  obtain ⟨j,hj,P⟩:=q.allocs.mem a ha
  have h1:=shares_len P.suits.shares (by omega)
  have:=q.spec.nodes.hi
  omega }
end Go.Plain
end
section
namespace Go.Plain
open Go.Abs
def zeroJ:zab:={ Id:=0,User:=0,Queue:=0,Many:=0,Need:={ Cpu:=0,Mem:=0,Gpu:=0,Lic:=0 },Wall:=0,After:=[],State:=0,Ok:=false,Kill:=false,Version:=0,Born:=0,Start:=0,End:=0,Array:=0 }
theorem find_row {l:List zab} (hl:l.length≤300) (hs:SortedJ l) (id:Int):Ret (zar 1000 l id) fun r=>(r.2=true↔∃j∈l,j.Id=id)∧(r.2=true→At l id r.1):=by
 unfold zar
 rw [ret_bind]
 refine half hl hs id (fun j=>some (decide (j.Id<id))) (fun j hj=>rfl) (fun i=>some i) (fun i hi h1 h2=>?_) _ (fun f x=>?_)
 ·rw [zad,zaf]
  refine ⟨fun h=>?_,fun h=>?_⟩
  ·simp only [yAe] at h
   have hi':i<l.length:=by omega
   rw [zal hi',Option.bind_some,zad]
   simp only [yAL]
   refine ⟨⟨fun e=>⟨_,yAn hi',e⟩,fun ⟨j,hm,e⟩=>?_⟩,fun e=>⟨by omega,by simpa using hi',by simpa using e⟩⟩
   obtain ⟨k,hk,rfl⟩:=yA9 hm
   rcases yBD k i with q | q | q
   ·have:=h1 k hk q; omega
   ·subst q; exact e
   ·have:=hs.lt q hk; have:=h2 i hi' (by omega); omega
  ·simp only [yAe] at h
   simp only [zad,yAg,yBp,false_implies,yBM]
   rintro ⟨j,hm,e⟩
   obtain ⟨k,hk,rfl⟩:=yA9 hm
   have:=h1 k hk (by omega)
   omega
 ·split
  ·cases at? l (IntKind.i64.wrap (Int.fdiv (IntKind.u64.wrap (IntKind.i64.wrap (x.1+x.2))) (2 ^ 1))) with
   | none=>rfl
   | some a =>
    simp only [Option.bind_some,yAt,yBa,yAe]
    by_cases hc:a.Id<id
    ·rw [if_pos hc,if_pos (by omega)]
    ·rw [if_neg hc,if_neg (by omega)]
  ·rfl
section
variable {l:List zab}
theorem job_em (l:List zab) (id:Int):(∃k,∃h:k<l.length,l[k].Id=id)∨∀j∈l,j.Id≠id:=by
 by_cases h:∃j∈l,j.Id=id
 ·obtain ⟨j,hj,e⟩:=h
  obtain ⟨k,hk,rfl⟩:=yA9 hj
  exact .inl ⟨k,hk,e⟩
 ·exact .inr fun j hj e=>h ⟨j,hj,e⟩
theorem find_some (hl:l.length≤300) (hs:SortedJ l) {k:Nat} (hk:k<l.length):zar 1000 l l[k].Id=some ((k:Int),true):=by
 obtain ⟨⟨r,b⟩,e,h1,h2⟩:=find_row hl hs l[k].Id
 have hb:b=true:=h1.2 ⟨_,yAn hk,rfl⟩
 subst hb
 have a:At l l[k].Id r:=h2 rfl
 have:=hs.inj a.hi hk a.is
 have:=a.lo
 rw [e,show r=(k:Int) by omega]
theorem find_none (hl:l.length≤300) (hs:SortedJ l) {id:Int} (h:∀j∈l,j.Id≠id):∃r,zar 1000 l id=some (r,false):=by
 obtain ⟨⟨r,b⟩,e,h1,h2⟩:=find_row hl hs id
 have hb:b=false:=by
  cases b with
  | false=>rfl
  | true=>obtain ⟨j,hj,e⟩:=h1.1 rfl; exact absurd e (h j hj)
 exact ⟨r,by rw [e,hb]⟩
theorem job_right_t {j:zab} (h:JobOk j):zc6 1000 j=some true:=by
 obtain ⟨r,e,q⟩:=job_right j
 rw [e,q.2 h]
theorem sorted_set (hs:SortedJ l) {k:Nat} (hk:k<l.length) {j:zab} (he:j.Id=l[k].Id):SortedJ (l.set k j):=by
 have key:∀i (h:i<l.length),((l.set k j)[i]'(by simpa using h)).Id=l[i].Id:=fun i h=>by
  rw [List.getElem_set]
  split
  ·rename_i e; subst e; exact he
  ·rfl
 intro i hi
 have hi':i+1<l.length:=by simpa using hi
 rw [key i (by omega),key (i+1) hi']
 exact hs i hi'
end
def aftV (x:Int):Int:=if x≥281474976710656 then 0 else x+1
theorem after_ok {x:Int} (h:0≤x):zdX 1000 x=some (aftV x):=by
 unfold zdX aftV
 simp only [yAe]
 split
 ·rfl
 ·rw [wr (by omega) (by omega)]
def stampL (Q:List Int) (q:Int):List Int:=if 0≤q∧q<Q.length then Q.set q.toNat (aftV (Q[q.toNat]?.getD 0)) else Q
theorem stampL_len (Q:List Int) (q:Int):(stampL Q q).length=Q.length:=by unfold stampL; split <;> simp
def StampsIn (Q:List Int):Prop:=∀x∈Q,0≤x∧x≤281474976710656
theorem aftV_bd {x:Int} (h:0≤x∧x≤281474976710656):0≤aftV x∧aftV x≤281474976710656:=by unfold aftV; split <;> omega
theorem stampL_in {Q:List Int} (h:StampsIn Q) (q:Int):StampsIn (stampL Q q):=by
 unfold stampL
 split
 ·rename_i hq
  have hl:q.toNat<Q.length:=by omega
  intro x hx
  rcases yBu hx with e | e
  ·exact h x e
  ·subst e
   rw [yAi hl]
   exact aftV_bd (h _ (yAn hl))
 ·exact h
theorem stamp_ok {Q:List Int} (h:StampsIn Q) (q:Int):zaM 1000 Q q=some (stampL Q q):=by
 unfold zaM stampL
 by_cases hq:0≤q∧q<Q.length
 ·rw [if_pos (by simp; omega),if_pos hq]
  obtain ⟨hx,e⟩:=at_int (l:=Q) hq.1 hq.2
  rw [e,Option.bind_some,after_ok (h _ (yAn hx)).1,Option.bind_some,Option.bind_some,yAi hx]
  rfl
 ·rw [if_neg (by simp; omega),if_neg hq]
def changeQ (Q:List Int) (a b:Int):List Int:=if b=a then stampL Q a else stampL (stampL Q a) b
section
variable {l:List zab}
def WaitS (x:Int):Prop:=x=1∨x=2
instance (x:Int):Decidable (WaitS x):=by unfold WaitS; infer_instance
theorem life_waits (x:Int):life_Waits 1000 x=some (decide (WaitS x)):=by
 unfold life_Waits
 congr 1
 rw [yBV]
 rw [yAe]
 simp only [yAs,yAL,WaitS]
end
structure Shows (st:zai):Prop where
 jobs:st.Jobs.length≤300
 after:∀j∈st.Jobs,j.After.length≤10
 allocs:st.Allocs.length≤300
 asc:AscA st.Allocs
 ids:∀a∈st.Allocs,0≤a.Job∧a.Job≤1048576
 sh:∀a∈st.Allocs,a.Shares.length≤300
 books:st.Books.length≤20
 use:st.Use.length≤20
 stamps:st.Stamps.Queues.length≤20
theorem sorted_app {l:List zab} {j:zab} (hs:SortedJ l) (hlt:∀x∈l,x.Id<j.Id):SortedJ (l++[j]):=fun i hi=>by
 rw [yAA] at hi
 simp only [List.length_cons,List.length_nil,yBh] at hi
 rcases yAC (i+1) l.length with h | h
 ·rw [yCk (by omega),yCk h]
  exact hs i h
 ·have e:i+1=l.length:=by omega
  rw [yCk (by omega),List.getElem_append_right h]
  simp only [e,yBK,List.getElem_cons_zero]
  exact hlt _ (yAn _)
end Go.Plain
end
section
namespace Go.Plain
open Go.Abs
section
variable {l:List zab}
theorem get_some (hl:l.length≤300) (hs:SortedJ l) {k:Nat} (hk:k<l.length) (ha:l[k].After.length≤1000):zaE 1000 l l[k].Id=some (l[k],true):=by
 unfold zaE
 rw [find_some hl hs hk,Option.bind_some]
 simp only [yBb,yAg,yA0]
 rw [zal hk,Option.bind_some,own_job (by omega),Option.bind_some]
theorem get_none (hl:l.length≤300) (hs:SortedJ l) {id:Int} (h:∀j∈l,j.Id≠id):zaE 1000 l id=some (zeroJ,false):=by
 unfold zaE
 obtain ⟨r,e⟩:=find_none hl hs h
 rw [e,Option.bind_some]
 rfl
theorem set_ok (hl:l.length≤300) (hs:SortedJ l) {k:Nat} (hk:k<l.length) {j:zab} (hj:JobOk j) (he:j.Id=l[k].Id):zb6 1000 l j=some (l.set k j,0):=by
 have:=hj.afterN
 unfold zb6
 rw [job_right_t hj,Option.bind_some,if_neg (by simp),he,find_some hl hs hk,Option.bind_some]
 dsimp only
 rw [if_neg (by simp),own_job (by omega),Option.bind_some,zal hk,Option.bind_some,Int.toNat_natCast]
theorem change_set (hl:l.length≤300) (hs:SortedJ l) {k:Nat} (hk:k<l.length) {j:zab} (hj:JobOk j) (he:j.Id=l[k].Id) {Q:List Int} (hQ:StampsIn Q) :
  zaI 1000 Q l l[k] j=some (l.set k j,changeQ Q l[k].Queue j.Queue,0):=by
 unfold zaI
 rw [set_ok hl hs hk hj he,Option.bind_some]
 dsimp only
 rw [if_neg (by simp),stamp_ok hQ,Option.bind_some]
 dsimp only [zaQ]
 unfold changeQ
 by_cases h:j.Queue=l[k].Queue
 ·rw [if_neg (by simp [h]),if_pos h]
 ·rw [if_pos (by simpa using h),if_neg h,stamp_ok (stampL_in hQ _),Option.bind_some]
end
end Go.Plain
end
section
namespace Go.Plain
open Go.Abs
structure JS (st:zai):Prop where
 shows:Shows st
 sorted:SortedJ st.Jobs
 ok:∀j∈st.Jobs,JobOk j
 stamps:StampsIn st.Stamps.Queues
theorem JS.set {st:zai} (h:JS st) {k:Nat} (hk:k<st.Jobs.length) {j:zab} (he:j.Id=st.Jobs[k].Id) (hj:JobOk j) {Q:List Int} (hQ:StampsIn Q) (hl:Q.length=st.Stamps.Queues.length) {n:Int}:JS { st with Jobs:=st.Jobs.set k j,Stamps:={ Queues:=Q,Nodes:=n } }:=by
 have m:∀x∈st.Jobs.set k j,x∈st.Jobs∨x=j:=fun x hx=>yBu hx
 refine ⟨⟨by simpa using h.shows.jobs,fun x hx=>?_,h.shows.allocs,h.shows.asc,h.shows.ids,h.shows.sh,h.shows.books,h.shows.use,by rw [hl]; exact h.shows.stamps⟩,sorted_set h.sorted hk he,fun x hx=>?_,hQ⟩
 ·rcases m x hx with e | e
  ·exact h.shows.after x e
  ·subst e; have:=hj.afterN; omega
 ·rcases m x hx with e | e
  ·exact h.ok x e
  ·subst e; exact hj
end Go.Plain
end
section
namespace Go.Plain
open Go.Abs
theorem leftL_len {F:List zaa} {A:List zac}:(leftL F A).length=F.length:=by
 induction A generalizing F with
 | nil=>rfl
 | cons a A ih =>
  have:=ih (F:=takeA F a)
  rw [zcG] at this
  exact this
theorem left_cmp {A:List zac}:∀{F:List zaa} {i:Nat} (h:i<F.length) (h':i<(leftL F A).length) (c:Nat),cmp c (leftL F A)[i]=cmp c F[i]-usedC A i c:=by
 induction A with
 | nil=>intro F i h h' c; simp [leftL,usedC]
 | cons a A ih =>
  intro F i h h' c
  have hl:i<(takeA F a).length:=by rw [zcG]; exact h
  have:=ih (F:=takeA F a) hl (by rw [leftL_len,zcG]; exact h) c
  rw [takeA_at,leftA,cmp_sub,zcq] at this
  rw [usedC_cons]
  have e:(leftL F (a::A))[i]=(leftL (takeA F a) A)[i]'(by rw [leftL_len,zcG]; exact h):=rfl
  rw [e,this]
  omega
def backL (F:List zaa) (a:zac):List zaa:=F.mapIdx fun i r=>addR r (mulR (onV a.Shares i) a.Need)
theorem backL_len {F:List zaa} {a:zac}:(backL F a).length=F.length:=by simp [backL]
theorem backL_at {F:List zaa} {a:zac} {i:Nat} (h:i<(backL F a).length):(backL F a)[i]=addR (F[i]'(by rwa [backL_len] at h)) (mulR (onV a.Shares i) a.Need):=by simp [backL]
def others (A:List zac) (id:Int):List zac:=A.filter fun b=>decide (b.Job≠id)
theorem add_ok {a b:zaa} (ha:VecOk a) (hb:VecOk b):Ret (vec_Add 1000 a b) fun r=>(r.2=0↔VecOk (addR a b))∧(r.2=0→r.1=addR a b):=by
 simp only [vec_Add,zaQ]
 obtain ⟨r1,e1,h1⟩:=zdk a
 have t1:=h1.2 ha
 subst t1
 obtain ⟨r2,e2,h2⟩:=zdk b
 have t2:=h2.2 hb
 subst t2
 have fd:∀{x y:Int},0≤x∧x≤1048576→0≤y∧y≤1048576→fsum? x y=some (x+y):=fun {x y} hx hy=>by unfold fsum?; rw [if_pos (by omega)]
 simp only [e1,e2,Option.bind_some,yBb,yAg,yA0,zbj,fd ha.cpu hb.cpu,fd ha.mem hb.mem,fd ha.gpu hb.gpu,fd ha.lic hb.lic]
 have:=ha.cpu; have:=ha.mem; have:=ha.gpu; have:=ha.lic; have:=hb.cpu; have:=hb.mem; have:=hb.gpu; have:=hb.lic
 refine (within_ok (by omega) (by omega) (by omega) (by omega)).bind fun r hr=>?_
 rw [zad]
 exact hr
def FitsB (F:List zaa) (a:zac):Prop:=∀r∈backL F a,VecOk r
theorem back_ok {a:zac} {F:List zaa} (hF:F.length≤300) (hl:a.Shares.length≤300) (hS:SharesOk a.Shares F.length) (hN:VecOk a.Need) (hv:∀r∈F,VecOk r) :
  Ret (zbw 1000 a F) fun r=>(r.2=0↔FitsB F a)∧(r.2=0→r.1=backL F a):=by
 simp only [zbw,zat,zc5 (show F.length≤1000000 by omega),Option.bind_some]
 have nn:∀x∈a.Shares,0≤x.Many:=fun x hx=>by have:=hS.mem x hx; omega
 refine lpS a.Shares.length (fun k x=>x.1=(k:Int)∧x.2.length=F.length∧(∀r∈x.2,VecOk r)∧∀i (h:i<x.2.length) (h':i<F.length),x.2[i]=addR F[i] (mulR (onV (a.Shares.take k) i) a.Need)) (fun k x f hk hx hr=>?_) (fun x f hx=>?_) ⟨rfl,rfl,hv,fun i h h'=>?_⟩ (by omega)
 ·obtain ⟨x1,G⟩:=x
  obtain ⟨rfl,hlen,hok,hat⟩:=hx
  dsimp only at hlen hok hat ⊢
  have q:=hS.mem _ (yAn hk)
  have hn:a.Shares[k].Node.toNat<G.length:=by omega
  have hnF:a.Shares[k].Node.toNat<F.length:=by omega
  have eN:((a.Shares[k].Node.toNat:Nat):Int)=a.Shares[k].Node:=by omega
  have tk:=onV_take hk a.Shares[k].Node
  rw [if_pos rfl] at tk
  have le:=onV_le nn (k+1) a.Shares[k].Node
  have n0:=onV_nn (l:=a.Shares.take k) (fun x hx=>nn x (yAV hx)) a.Shares[k].Node
  have hg:=hat _ hn hnF
  rw [eN] at hg
  have bad:(∃c,cmp c G[a.Shares[k].Node.toNat]+a.Shares[k].Many * cmp c a.Need > 1048576)→¬FitsB F a:=fun ⟨c,hc⟩ hf=>by
   have hb:a.Shares[k].Node.toNat<(backL F a).length:=by rw [backL_len]; exact hnF
   have h1:=zb1.1 (hf _ (yAn hb)) c
   rw [backL_at,cmp_add,zcq,eN] at h1
   rw [hg,cmp_add,zcq] at hc
   have h2:0≤cmp c a.Need:=(zb1.1 hN c).1
   have h3:(onV (a.Shares.take k) a.Shares[k].Node+a.Shares[k].Many) * cmp c a.Need≤onV a.Shares a.Shares[k].Node * cmp c a.Need:=yBf (by omega) h2
   rw [yCo] at h3
   omega
  simp only [zcs hk,if_true,zal hk,Option.bind_some,wr1 (show k<1000000 by omega)]
  refine (times_ok hN q.2.2).bind fun r hr1=>?_
  simp only [zaf,zad,yBm,ne_eq,yAX]
  refine ⟨fun h=>⟨⟨fun h'=>absurd h' h,fun hf=>?_⟩,fun h'=>absurd h' h⟩,fun h=>?_⟩
  ·exfalso
   refine bad ?_ hf
   have hno:¬VecOk (mulR a.Shares[k].Many a.Need):=fun v=>h (hr1.1.2 v)
   rw [zb1] at hno
   obtain ⟨c,hc⟩:=yBZ.1 hno
   refine ⟨c,?_⟩
   rw [zcq] at hc
   have h1:=mul_bd (show 0≤a.Shares[k].Many∧a.Shares[k].Many≤64 by omega) (zb1.1 hN c)
   have h2:=zb1.1 (hok _ (yAn hn)) c
   omega
  ·have e1:=hr1.2 h
   have v1:=hr1.1.1 h
   obtain ⟨hx',e⟩:=at_int (l:=G) (x:=a.Shares[k].Node) (by omega) (by omega)
   rw [e,Option.bind_some,e1]
   refine (add_ok (hok _ (yAn hn)) v1).bind fun r2 hr2=>?_
   simp only [Option.bind_some,zaf,zad,yBm,ne_eq,yAX]
   refine ⟨fun h'=>⟨⟨fun h2=>absurd h2 h',fun hf=>?_⟩,fun h2=>absurd h2 h'⟩,fun h'=>?_⟩
   ·exfalso
    refine bad ?_ hf
    have hno:¬VecOk (addR G[a.Shares[k].Node.toNat] (mulR a.Shares[k].Many a.Need)):=fun v=>h' (hr2.1.2 v)
    rw [zb1] at hno
    obtain ⟨c,hc⟩:=yBZ.1 hno
    refine ⟨c,?_⟩
    rw [cmp_add,zcq] at hc
    have h1:=mul_bd (show 0≤a.Shares[k].Many∧a.Shares[k].Many≤64 by omega) (zb1.1 hN c)
    have h2:=zb1.1 (hok _ (yAn hn)) c
    omega
   ·have e2:=hr2.2 h'
    have v2:=hr2.1.1 h'
    refine hr _ ⟨rfl,by simpa using hlen,fun r hr'=>?_,fun i hi hi'=>?_⟩
    ·dsimp only at hr'
     rcases yBu hr' with hr' | rfl
     ·exact hok r hr'
     ·rw [e2]; exact v2
    ·dsimp only at hi ⊢
     rw [yAI] at hi
     rw [List.getElem_set]
     have tki:=onV_take hk (i:Int)
     split
     ·rename_i ei
      subst ei
      rw [e2,hg]
      rw [if_pos eN.symm] at tki
      rw [tki]
      refine res_ext fun c=>?_
      rw [cmp_add,cmp_add,cmp_add,zcq,zcq,zcq,yCo,eN]
      omega
     ·rename_i ei
      rw [if_neg (by omega),Int.add_zero] at tki
      rw [hat i hi hi',tki]
 ·obtain ⟨x1,G⟩:=x
  obtain ⟨rfl,hlen,hok,hat⟩:=hx
  dsimp only at hlen hok hat ⊢
  simp only [zcr,yAg,yA0,zad,yBr,yBP,true_implies] at hat ⊢
  have e:G=backL F a:=List.ext_getElem (by rw [hlen,backL_len]) fun i h1 h2=>by rw [backL_at h2]; exact hat i h1 (by omega)
  exact ⟨fun r hr=>hok r (by rw [e]; exact hr),e⟩
 ·refine res_ext fun c=>?_
  rw [cmp_add,zcq]
  simp [onV]
def nextS (x what:Int):Option Int:=
 if what=1∧x=1 then some 2 else if what=2∧x=2 then some 1 else if what=3∧x=1 then some 3 else if what=4∧x=3 then some 1 else if what=5∧x=3 then some 4 else if what=6∧x=3 then some 4
 else if what=6∧WaitS x then some 6 else if what=7∧(x=3∨x=4) then some 5 else if what=8∧x=4 then some 6 else none
theorem life_next (x what:Int):life_Next 1000 x what=some ((nextS x what).getD 0,(nextS x what).isSome):=by
 unfold life_Next nextS
 simp only [zaQ,life_waits,life_Has,Option.bind_some,yAj,yAL]
 by_cases h1:what=1∧x=1
 ·rw [if_pos h1,if_pos h1]; rfl
 rw [if_neg h1,if_neg h1]
 by_cases h2:what=2∧x=2
 ·rw [if_pos h2,if_pos h2]; rfl
 rw [if_neg h2,if_neg h2]
 by_cases h3:what=3∧x=1
 ·rw [if_pos h3,if_pos h3]; rfl
 rw [if_neg h3,if_neg h3]
 by_cases h4:what=4∧x=3
 ·rw [if_pos h4,if_pos h4]; rfl
 rw [if_neg h4,if_neg h4]
 by_cases h5:what=5∧x=3
 ·rw [if_pos h5,if_pos h5]; rfl
 rw [if_neg h5,if_neg h5]
 by_cases h6:what=6∧x=3
 ·rw [if_pos h6,if_pos h6]; rfl
 rw [if_neg h6,if_neg h6]
 by_cases w6:what=6
 ·rw [if_pos w6]
  by_cases hw:WaitS x
  ·rw [if_pos (by simpa using hw),if_pos ⟨w6,hw⟩]; rfl
  ·have w7:¬what=7:=by omega
   have w8:¬(what=8∧x=4):=by omega
   rw [if_neg (by simpa using hw),if_neg (show ¬(what=6∧WaitS x) from fun h=>hw h.2),if_neg w7,if_neg (show ¬(what=7∧(x=3∨x=4)) from fun h=>w7 h.1),if_neg (by simp),if_neg w8,if_neg w8]; rfl
 ·rw [if_neg w6,if_neg (show ¬false=true by simp),if_neg (show ¬(what=6∧WaitS x) from fun h=>w6 h.1)]
  by_cases w7:what=7
  ·rw [if_pos w7]
   by_cases hx:x=3∨x=4
   ·rw [if_pos (by simpa using hx),if_pos ⟨w7,hx⟩]; rfl
   ·have w8:¬(what=8∧x=4):=by omega
    rw [if_neg (by simpa using hx),if_neg (show ¬(what=7∧(x=3∨x=4)) from fun h=>hx h.2),if_neg w8,if_neg w8]; rfl
  ·rw [if_neg w7,if_neg (show ¬false=true by simp),if_neg (show ¬(what=7∧(x=3∨x=4)) from fun h=>w7 h.1)]
   by_cases w8:what=8∧x=4
   ·rw [if_pos w8,if_pos w8]; rfl
   ·rw [if_neg w8,if_neg w8]; rfl
def HasS (x:Int):Prop:=x=3∨x=4
instance (x:Int):Decidable (HasS x):=by unfold HasS; infer_instance
theorem life_has (x:Int):life_Has 1000 x=some (decide (HasS x)):=by
 unfold life_Has
 congr 1
 rw [yBV]
 rw [yAe]
 simp only [yAs,yAL,HasS]
def OverS (x:Int):Prop:=x=5∨x=6
instance (x:Int):Decidable (OverS x):=by unfold OverS; infer_instance
theorem life_over (x:Int):zbY 1000 x=some (decide (OverS x)):=by
 unfold zbY
 congr 1
 rw [yBV]
 rw [yAe]
 simp only [yAs,yAL,OverS]
def stepR (j:zab) (what now:Int) (ok:Bool) (ns:Int):zab:=
  { j with
    State:=ns
    Version:=j.Version+1
    Ok:=if what=5 then ok else if what=6∨what=8∨what=7∧j.State=3 then false else j.Ok
    Kill:=if what=6 then true else if what=7 then false else j.Kill
    Start:=if what=3 then now else if what=4 then 0 else j.Start
    End:=if OverS ns then now else j.End }
theorem step_jobok {j:zab} (h:JobOk j) {what now:Int} (hn:0≤now∧now≤1099511627776) (ok:Bool) {ns:Int} (hs:nextS j.State what=some ns) (hv:j.Version<281474976710656):JobOk (stepR j what now ok ns):=by
 have hver:=h.version; have hst:=h.start; have hfi:=h.fin
 have sst:=h.state.start; have sfi:=h.state.fin; have sok:=h.state.ok; have ski:=h.state.kill
 have cases9:(what=1∧j.State=1∧ns=2)∨(what=2∧j.State=2∧ns=1)∨(what=3∧j.State=1∧ns=3)∨(what=4∧j.State=3∧ns=1)∨(what=5∧j.State=3∧ns=4)∨(what=6∧j.State=3∧ns=4)∨(what=6∧WaitS j.State∧ns=6)∨(what=7∧(j.State=3∨j.State=4)∧ns=5)∨(what=8∧j.State=4∧ns=6):=by
  unfold nextS at hs
  split at hs
  ·simp only [yAa] at hs; exact .inl ⟨by omega,by omega,by omega⟩
  split at hs
  ·simp only [yAa] at hs; exact .inr (.inl ⟨by omega,by omega,by omega⟩)
  split at hs
  ·simp only [yAa] at hs; exact .inr (.inr (.inl ⟨by omega,by omega,by omega⟩))
  split at hs
  ·simp only [yAa] at hs; exact .inr (.inr (.inr (.inl ⟨by omega,by omega,by omega⟩)))
  split at hs
  ·simp only [yAa] at hs; exact .inr (.inr (.inr (.inr (.inl ⟨by omega,by omega,by omega⟩))))
  split at hs
  ·simp only [yAa] at hs; exact .inr (.inr (.inr (.inr (.inr (.inl ⟨by omega,by omega,by omega⟩)))))
  split at hs
  ·rename_i q; simp only [yAa] at hs; exact .inr (.inr (.inr (.inr (.inr (.inr (.inl ⟨q.1,q.2,by omega⟩))))))
  split at hs
  ·rename_i q; simp only [yAa] at hs; exact .inr (.inr (.inr (.inr (.inr (.inr (.inr (.inl ⟨q.1,q.2,by omega⟩)))))))
  split at hs
  ·simp only [yAa] at hs; exact .inr (.inr (.inr (.inr (.inr (.inr (.inr (.inr ⟨by omega,by omega,by omega⟩)))))))
  ·simp at hs
 have okf:j.State<4→j.Ok=false:=fun hlt=>by
  cases hk:j.Ok with
  | false=>rfl
  | true=>have:=sok hk; omega
 have kif:j.State<4→j.Kill=false:=fun hlt=>by
  cases hk:j.Kill with
  | false=>rfl
  | true=>have:=ski hk; omega
 have wlt:WaitS j.State→j.State<3:=fun hw=>by rcases hw with e | e <;> omega
 refine ⟨h.id,h.user,h.queue,h.many,h.need,h.needz,h.wall,h.afterN,h.after,by simp only [stepR]; omega,h.born,?_,?_,h.arr,?_⟩
 ·simp only [stepR]; split
  ·exact hn
  ·split <;> omega
 ·simp only [stepR]; split
  ·exact hn
  ·exact hfi
 ·have st0:j.State<3→j.Start=0:=fun hlt=>yB5 fun q=>by have:=sst q; omega
  have en0:j.State<5→j.End=0:=fun hlt=>yB5 fun q=>by have:=sfi q; omega
  rcases cases9 with ⟨rfl,e,rfl⟩ | ⟨rfl,e,rfl⟩ | ⟨rfl,e,rfl⟩ | ⟨rfl,e,rfl⟩ | ⟨rfl,e,rfl⟩ | ⟨rfl,e,rfl⟩ | ⟨rfl,e,rfl⟩ | ⟨rfl,e,rfl⟩ | ⟨rfl,e,rfl⟩
  ·constructor <;> simp [stepR,OverS,okf (by omega),kif (by omega),st0 (by omega),en0 (by omega)]
  ·constructor <;> simp [stepR,OverS,okf (by omega),kif (by omega),st0 (by omega),en0 (by omega)]
  ·constructor <;> simp [stepR,OverS,okf (by omega),kif (by omega),st0 (by omega),en0 (by omega)]
  ·constructor <;> simp [stepR,OverS,okf (by omega),kif (by omega),en0 (by omega)]
  ·constructor <;> simp [stepR,OverS,kif (by omega),en0 (by omega)]
  ·constructor <;> simp [stepR,OverS,en0 (by omega)]
  ·have:=wlt e
   constructor <;> simp [stepR,OverS,okf (by omega),kif (by omega),st0 (by omega),en0 (by omega)]
  ·constructor <;> simp [stepR,OverS]
  ·constructor <;> simp [stepR,OverS]
theorem job_step {j:zab} (h:JobOk j) {what now:Int} (hn:0≤now∧now≤1099511627776) (ok:Bool) :
  Ret (job_Step 1000 j what now ok) fun r=>(r.2≠0∧(nextS j.State what=none∨j.Version=281474976710656))∨∃ns,nextS j.State what=some ns∧j.Version<281474976710656∧r=(stepR j what now ok ns,0):=by
 have hver:=h.version; have ha:=h.afterN
 unfold job_Step
 dsimp only [zaQ]
 rw [job_right_t h,Option.bind_some,if_neg (by simp)]
 simp only [zbq,Option.bind_some]
 rw [if_neg (by simp; omega),life_next,Option.bind_some]
 cases hs:nextS j.State what with
 | none=>rw [if_pos (by simp),zad]; exact .inl ⟨by simp,.inl rfl⟩
 | some ns =>
  dsimp only [Option.isSome,Option.getD]
  rw [if_neg (by simp),zaf]
  refine ⟨fun hv=>by rw [zad]; exact .inl ⟨by simp,.inr (by simpa using hv)⟩,fun hv=>?_⟩
  simp only [yAL] at hv
  rw [show zaO 1000 j.After=some j.After from zc5 (by omega),Option.bind_some,wr (x:=j.Version+1) (by omega) (by omega)]
  simp only [life_over,Option.bind_some,yAL,yBm,ne_eq,yAt,yAe]
  have fin:∀(o k:Bool) (t:Int),o=(if what=5 then ok else if what=6∨what=8∨what=7∧j.State=3 then false else j.Ok)→k=(if what=6 then true else if what=7 then false else j.Kill)→t=(if what=3 then now else if what=4 then 0 else j.Start) →
    Ret (if OverS ns then some (({ Id:=j.Id,User:=j.User,Queue:=j.Queue,Many:=j.Many,Need:=j.Need,Wall:=j.Wall,After:=j.After,State:=ns,Ok:=o,Kill:=k,Version:=j.Version+1,Born:=j.Born,Start:=t,End:=now,Array:=j.Array }:zab),(0:Int)) else some (({ Id:=j.Id,User:=j.User,Queue:=j.Queue,Many:=j.Many,Need:=j.Need,Wall:=j.Wall,After:=j.After,State:=ns,Ok:=o,Kill:=k,Version:=j.Version+1,Born:=j.Born,Start:=t,End:=j.End,Array:=j.Array }:zab),(0:Int)))
     fun r=>(r.2≠0∧((some ns:Option Int)=none∨j.Version=281474976710656))∨∃ns',(some ns:Option Int)=some ns'∧j.Version<281474976710656∧r=(stepR j what now ok ns',0):=fun o k t ho hk ht=>by
   subst ho hk ht
   rw [zaf]
   refine ⟨fun q=>?_,fun q=>?_⟩ <;> rw [zad] <;> refine .inr ⟨ns,rfl,by omega,?_⟩ <;> simp only [stepR,q,if_true,yA0]
  by_cases w3:what=3
  ·rw [if_pos w3]; subst w3; refine fin _ _ _ ?_ ?_ ?_ <;> simp
  rw [if_neg w3]
  by_cases w4:what=4
  ·rw [if_pos w4]; subst w4; refine fin _ _ _ ?_ ?_ ?_ <;> simp
  rw [if_neg w4]
  by_cases w5:what=5
  ·rw [if_pos w5]; subst w5; refine fin _ _ _ ?_ ?_ ?_ <;> simp
  rw [if_neg w5]
  by_cases w6:what=6
  ·rw [if_pos w6]; subst w6; refine fin _ _ _ ?_ ?_ ?_ <;> simp
  rw [if_neg w6]
  by_cases w7:what=7
  ·rw [if_pos w7]; subst w7
   by_cases e3:j.State=3
   ·rw [if_neg (by simpa using e3)]; refine fin _ _ _ ?_ ?_ ?_ <;> simp [e3]
   ·rw [if_pos e3]; refine fin _ _ _ ?_ ?_ ?_ <;> simp [e3]
  rw [if_neg w7]
  by_cases w8:what=8
  ·rw [if_pos w8]; subst w8; refine fin _ _ _ ?_ ?_ ?_ <;> simp
  rw [if_neg w8]
  refine fin _ _ _ ?_ ?_ ?_ <;> simp [w3,w4,w5,w6,w7,w8]
end Go.Plain
end
section
namespace Go.Plain
open Go.Abs
structure AS (st:zai) (F:List zaa):Prop where
 good:GoodA F.length st.Allocs
 few:F.length≤300
 vec:∀r∈F,VecOk r
 nodes:0≤st.Stamps.Nodes
 now:0≤st.Now∧st.Now≤1099511627776
theorem good_of {s:zae} {st:zai} (q:zdf s st):GoodA s.Nodes.length st.Allocs:=fun a ha=>by
 obtain ⟨j,hj,P⟩:=q.allocs.mem a ha
 exact ⟨P.suits.shares,by rw [P.need]; exact (q.jobs.each j hj).ok.need⟩
theorem left_vec {s:zae} {st:zai} (q:zdf s st):∀r∈leftL s.Nodes st.Allocs,VecOk r:=fun r hr=>by
 obtain ⟨i,hi,rfl⟩:=yA9 hr
 have hn:i<s.Nodes.length:=by rwa [leftL_len] at hi
 refine zb1.2 fun c=>?_
 rw [left_cmp hn hi c]
 have h1:=(allocsH_fwd q.allocs q.spec.nodes.ok).2 i hn c
 have h2:=used_bd (good_of q) i c
 have h3:=zb1.1 (q.spec.nodes.ok _ (yAn hn)) c
 omega
end Go.Plain
end
