/- TyPA, TyPB, TyI1, TyI2, TyI3, TyI4, TyI5 -/
import Derived.Test.YtiejgibbjgdlgaaGreatLawA
set_option linter.all false
section
namespace Go.Plain
open Go.Abs
def usedC (A:List zag) (i:Int) (c:Nat):Int:=(A.map fun a=>onV a.Shares i * cmp c a.Need).sum
theorem usedC_cons {a:zag} {A:List zag} {i:Int} {c:Nat}:usedC (a::A) i c=onV a.Shares i * cmp c a.Need+usedC A i c:=by simp [usedC]
theorem usedC_take {A:List zag} {k:Nat} (h:k<A.length) (i:Int) (c:Nat):usedC (A.take (k+1)) i c=usedC (A.take k) i c+onV A[k].Shares i * cmp c A[k].Need:=by
 rw [yBm h]
 simp only [usedC,yBD,yA3,yCh,List.sum_append,List.sum_cons,List.sum_nil]
 omega
def GoodA (n:Int) (A:List zag):Prop:=∀a∈A,SharesOk a.Shares n∧VecOk a.Need
theorem one_bd {n:Int} {a:zag} (h:SharesOk a.Shares n∧VecOk a.Need) (i:Int) (c:Nat):0≤onV a.Shares i * cmp c a.Need∧onV a.Shares i * cmp c a.Need≤67108864:=
 mul_bd (onV_one h.1 i) (vec_iff.1 h.2 c)
theorem used_bd {n:Int} {A:List zag} (h:GoodA n A) (i:Int) (c:Nat):0≤usedC A i c∧usedC A i c≤67108864 * A.length:=by
 induction A with
 | nil=>simp [usedC]
 | cons a A ih =>
  have h1:=ih fun b hb=>h b (yAk _ hb)
  have h2:=one_bd (h a (yAq ..)) i c
  rw [usedC_cons,List.length_cons]
  omega
def TotFit (F:List zac) (A:List zag):Prop:=∀i (h:i<F.length) c,usedC A i c≤cmp c F[i]
theorem ref_times {a:zac} {n:Int} (ha:VecOk a) (hn:0≤n∧n≤64):zcj 200000 a n=some (mulR n a):=by
 obtain ⟨m,rfl⟩:∃m:Nat,n=(m:Int):=⟨n.toNat,by omega⟩
 unfold zcj
 refine Ret.eq (lpS m (fun k x=>x=((k:Int),(k:Int) * a.Cpu,(k:Int) * a.Mem,(k:Int) * a.Gpu,(k:Int) * a.Lic)) (fun k x f hk hx hr=>?_) (fun x f hx=>?_) (by simp) (by omega))
 ·subst hx
  have b1:=mul_bd (n:=((k+1:Nat):Int)) (by omega) ha.cpu
  have b2:=mul_bd (n:=((k+1:Nat):Int)) (by omega) ha.mem
  have b3:=mul_bd (n:=((k+1:Nat):Int)) (by omega) ha.gpu
  have b4:=mul_bd (n:=((k+1:Nat):Int)) (by omega) ha.lic
  have e:∀x:Int,((k+1:Nat):Int) * x=(k:Int) * x+x:=fun x=>by rw [Int.natCast_add,Int.add_mul]; simp
  rw [e] at b1 b2 b3 b4
  simp only [zb5 hk,if_true,zbf,Option.bind_some,wr1 (show k<1000000 by omega)]
  refine hr _ ?_
  rw [wr (x:=(k:Int) * a.Cpu+a.Cpu) (by omega) (by omega),wr (x:=(k:Int) * a.Mem+a.Mem) (by omega) (by omega),wr (x:=(k:Int) * a.Gpu+a.Gpu) (by omega) (by omega),wr (x:=(k:Int) * a.Lic+a.Lic) (by omega) (by omega),e,e,e,e]
 ·subst hx
  simp only [zb7,yAg,yAy,zab]
  rfl
theorem fits_cmp (a b:zac):zaY (zax 200000 a b) (∀c,cmp c a≤cmp c b):=by
 simp only [zax,zaY,zab,yAj,yAf]
 constructor
 ·intro h c
  match c with
  | 0=>exact h.1.1.1
  | 1=>exact h.1.1.2
  | 2=>exact h.1.2
  | _+3=>exact h.2
 ·intro h
  exact ⟨⟨⟨h 0,h 1⟩,h 2⟩,h 3⟩
theorem ref_left {F:List zac} {A:List zag} (hF:F.length≤300) (hA:A.length≤300) (hs:∀a∈A,a.Shares.length≤300) {n:Int} (h:GoodA n A):Ret (zcC 200000 F A) fun r=>r.2=true↔TotFit F A:=by
 unfold zcC
 refine lpS F.length (fun i x=>(x.1=true↔∀m (h:m<F.length),m<i→∀c,usedC A m c≤cmp c F[m])∧x.2.1=(i:Int)∧x.2.2.length=i) (fun i x f hi hx hr=>?_) (fun x f hx=>?_) ⟨⟨fun _ m h h'=>by omega,fun _=>rfl⟩,rfl,rfl⟩ (by omega)
 ·obtain ⟨x1,x2,x3⟩:=x
  obtain ⟨h1,h2,h3⟩:=hx
  dsimp only at h1 h2 h3
  subst h2
  simp only [zb5 hi,if_true]
  refine lpS A.length (fun k y=>y=((k:Int),usedC (A.take k) i 0,usedC (A.take k) i 1,usedC (A.take k) i 2,usedC (A.take k) i 3)) (fun k y g hk hy hg=>?_) (fun y g hy=>?_) (by simp [usedC]) (by omega)
  ·subst hy
   have ak:=h _ (yAo hk)
   have gk:GoodA n (A.take (k+1)):=fun a ha=>h a (yBc ha)
   have lk:((A.take (k+1)).length:Int)≤300:=by rw [yA6]; omega
   have b0:=used_bd gk i 0; have b1:=used_bd gk i 1; have b2:=used_bd gk i 2; have b3:=used_bd gk i 3
   rw [usedC_take hk] at b0 b1 b2 b3
   simp only [zb5 hk,if_true,zao hk,Option.bind_some,ref_on (hs _ (yAo hk)) ak.1,ref_times ak.2 (onV_one ak.1 i),zbf,wr1 (show k<1000000 by omega)]
   refine hg _ ?_
   rw [usedC_take hk,usedC_take hk,usedC_take hk,usedC_take hk]
   have e0:(mulR (onV A[k].Shares i) A[k].Need).Cpu=onV A[k].Shares i * cmp 0 A[k].Need:=rfl
   have e1:(mulR (onV A[k].Shares i) A[k].Need).Mem=onV A[k].Shares i * cmp 1 A[k].Need:=rfl
   have e2:(mulR (onV A[k].Shares i) A[k].Need).Gpu=onV A[k].Shares i * cmp 2 A[k].Need:=rfl
   have e3:(mulR (onV A[k].Shares i) A[k].Need).Lic=onV A[k].Shares i * cmp 3 A[k].Need:=rfl
   rw [e0,e1,e2,e3,wr (x:=_+onV A[k].Shares i * cmp 0 A[k].Need) (by omega) (by omega),wr (x:=_+onV A[k].Shares i * cmp 1 A[k].Need) (by omega) (by omega),wr (x:=_+onV A[k].Shares i * cmp 2 A[k].Need) (by omega) (by omega),wr (x:=_+onV A[k].Shares i * cmp 3 A[k].Need) (by omega) (by omega)]
  ·subst hy
   have ap:∀z:zac,app? x3 [z]=some (x3++[z]):=fun z=>zbt (by simp only [List.length_singleton]; omega)
   simp only [zb7,yAg,yAy,zbh,zao hi,Option.bind_some,drayageref02xSub,ap,wr1 (show i<1000000 by omega),yBq]
   rw [zaf]
   refine ⟨fun hx1=>?_,fun hx1=>?_⟩
   ·refine (fits_cmp _ _).bind fun r hr1=>?_
    refine hr _ ⟨?_,rfl,by simp only [yAr,List.length_singleton]; omega⟩
    dsimp only
    rw [hr1]
    have ec:∀c,cmp c ({ Cpu:=usedC A i 0,Mem:=usedC A i 1,Gpu:=usedC A i 2,Lic:=usedC A i 3 }:zac)=usedC A i (min c 3):=fun c=>by
     match c with
     | 0=>rfl
     | 1=>rfl
     | 2=>rfl
     | c+3=>rw [Nat.min_eq_right (by omega)]; rfl
    have eu:∀c,usedC A i (min c 3)=usedC A i c:=fun c=>by
     match c with
     | 0=>rfl
     | 1=>rfl
     | 2=>rfl
     | c+3=>rw [Nat.min_eq_right (by omega)]; rfl
    constructor
    ·intro hc m hm hmi c
     rcases yBb (yBv.1 hmi) with h' | h'
     ·exact h1.1 hx1 m hm h' c
     ·subst h'
      have:=hc c
      rwa [ec,eu] at this
    ·intro hc c
     rw [ec,eu]
     exact hc i hi (by omega) c
   ·refine hr _ ⟨?_,rfl,by simp only [yAr,List.length_singleton]; omega⟩
    dsimp only
    simp only [yAg,yBo]
    intro hc
    exact hx1 (h1.2 fun m hm hmi=>hc m hm (by omega))
 ·obtain ⟨x1,x2,x3⟩:=x
  obtain ⟨h1,h2,h3⟩:=hx
  dsimp only at h1 h2 h3
  subst h2
  simp only [zb7,yAg,yAy,zab]
  rw [h1]
  exact ⟨fun q i hi c=>q i hi hi c,fun q i hi _ c=>q i hi c⟩
structure AllocIn (s:zad) (st:zae) (i:Nat) (a:zag):Prop where
 up:∀m (h:m<st.Allocs.length),m+1=i→st.Allocs[m].Job<a.Job
 job:∃j∈st.Jobs,j.Id=a.Job
 shares:SharesOk a.Shares s.Nodes.length
 need:VecOk a.Need
structure zcs (s:zad) (st:zae):Prop where
 each:∀i (h:i<st.Allocs.length),AllocIn s st i st.Allocs[i]
 fit:TotFit s.Nodes st.Allocs
theorem zcs.good {s:zad} {st:zae} (h:zcs s st):GoodA s.Nodes.length st.Allocs:=fun a ha=>by
 obtain ⟨i,hi,rfl⟩:=yAD ha
 exact ⟨(h.each i hi).shares,(h.each i hi).need⟩
theorem ref_allocs {s:zad} {st:zae} (hw:FewW s st):zaY (zbW 200000 s st) (zcs s st):=by
 have hl:=hw.jobs; have hal:=hw.allocs; have hn:=hw.spec.nodes
 unfold zbW
 refine lpA st.Allocs (fun i a=>AllocIn s st i a) (fun i f hi hA hr=>?_) (fun f hA=>?_) (by omega)
 ·have hd:decide ((i:Int) > 0)=decide (0<i):=by simp
  have hsh:=hw.shares _ (yAo hi)
  have fin:(∀m (h:m<st.Allocs.length),m+1=i→st.Allocs[m].Job<st.Allocs[i].Job)→Ret ((zaT 200000 st.Jobs st.Allocs[i].Job).bind fun r=>
    if decide (r<0)=true then some false else (za1 200000 st.Allocs[i].Shares (s.Nodes.length:Int)).bind fun r'=>
    if (!r')=true then some false else (zaC 200000 st.Allocs[i].Need).bind fun r''=>if (!r'')=true then some false else f ((i+1:Nat):Int)) (fun b=>b=true↔zcs s st):=fun hup=>by
   refine (ref_find (by omega) st.Allocs[i].Job).bind fun r hr1=>?_
   rw [zaf]
   refine ⟨fun h=>no_f fun q=>?_,fun h=>?_⟩
   ·have:=hr1.1.2 (q.each i hi).job
    simp only [yAf] at h
    omega
   ·simp only [yAf] at h
    refine (ref_place _ _ (yAB hsh (by decide))).bind fun r' hr2=>?_
    rw [zaf]
    refine ⟨fun h=>no_f fun q=>?_,fun h2=>?_⟩
    ·have:=hr2.2 (q.each i hi).shares
     rw [this] at h
     simp at h
    ·simp only [yAv,yA0] at h2
     refine (ref_vec _).bind fun r'' hr3=>?_
     rw [zaf]
     refine ⟨fun h=>no_f fun q=>?_,fun h3=>?_⟩
     ·have:=hr3.2 (q.each i hi).need
      rw [this] at h
      simp at h
     ·simp only [yAv,yA0] at h3
      exact hr ⟨hup,hr1.1.1 (by omega),hr2.1 h2,hr3.1 h3⟩
  simp only [zbh,zb5 hi,if_true,zao hi,Option.bind_some,wr1 (show i<1000000 by omega),hd]
  rw [zaf]
  refine ⟨fun h=>?_,fun h=>?_⟩
  ·simp only [yAf] at h
   obtain ⟨m,rfl⟩:∃m,i=m+1:=⟨i-1,by omega⟩
   rw [wp1 (show m+1<1000000 by omega),zao (show m<st.Allocs.length by omega),Option.bind_some,zaf]
   refine ⟨fun h2=>no_f fun q=>?_,fun h2=>fin fun m' hm' e=>?_⟩
   ·have:=(q.each (m+1) hi).up m (by omega) rfl
    simp only [yAf] at h2
    omega
   ·simp only [yAf] at h2
    have:m'=m:=by omega
    subst this
    omega
  ·simp only [yAf] at h
   exact fin fun m hm e=>by omega
 ·simp only [zb7,yAg,yAy]
  have G:GoodA s.Nodes.length st.Allocs:=fun a ha=>by
   obtain ⟨j,hj,rfl⟩:=yAD ha
   exact ⟨(hA j hj).shares,(hA j hj).need⟩
  refine (ref_left (by omega) hal (fun a ha=>yAB (hw.shares a ha) (by decide)) G).bind fun r hr=>?_
  rw [zab,hr]
  exact ⟨fun h=>⟨fun i hi=>hA i hi,h⟩,fun h=>h.fit⟩
theorem asc_pw {l:List Int} (h:∀i (h:i+1<l.length),l[i]<l[i+1]):l.Pairwise (·<·):=by
 rw [yBZ]
 intro i j hi hj hij
 induction j with
 | zero=>omega
 | succ j ih =>
  have h1:=h j hj
  rcases yBb (yBv.1 hij) with h2 | h2
  ·have:=ih (by omega) h2; omega
  ·subst h2; exact h1
theorem asc_eq {l m:List Int} (hl:l.Pairwise (·<·)) (hm:m.Pairwise (·<·)) (h:∀x,x∈l↔x∈m):l=m:=by
 induction l generalizing m with
 | nil =>
  cases m with
  | nil=>rfl
  | cons y m=>exact absurd ((h y).2 (yAq ..)) (by simp)
 | cons x l ih =>
  cases m with
  | nil=>exact absurd ((h x).1 (yAq ..)) (by simp)
  | cons y m =>
   rw [List.pairwise_cons] at hl hm
   have e:x=y:=by
    rcases yAt.1 ((h x).1 (yAq ..)) with e | h1
    ·exact e
    ·rcases yAt.1 ((h y).2 (yAq ..)) with e | h2
     ·exact e.symm
     ·have:=hl.1 y h2; have:=hm.1 x h1; omega
   subst e
   congr 1
   refine ih hl.2 hm.2 fun z=>⟨fun hz=>?_,fun hz=>?_⟩
   ·rcases yAt.1 ((h z).1 (yAk _ hz)) with e | h1
    ·have:=hl.1 z hz; omega
    ·exact h1
   ·rcases yAt.1 ((h z).2 (yAk _ hz)) with e | h1
    ·have:=hm.1 z hz; omega
    ·exact h1
theorem allocsH_fwd {s:zad} {st:zae} {H:List zam} {A:List zag} {F:List zac} (h:AllocsH s st H A F) (hF:∀r∈F,VecOk r):A.map (·.Job)=H.map (·.Id)∧TotFit F A:=by
 induction H generalizing A F with
 | nil =>
  rw [show A=[] from h]
  exact ⟨rfl,fun i hi c=>by simp only [usedC,yCh,List.sum_nil]; exact (vec_iff.1 (hF _ (yAo hi)) c).1⟩
 | cons j H ih =>
  obtain ⟨a,A',rfl,h1,h2,h3⟩:=h
  obtain ⟨i1,i2⟩:=ih h3 (takeA_ok h2)
  refine ⟨by rw [yA3,yA3,i1,h1.job],fun i hi c=>?_⟩
  have:=i2 i (by rw [takeA_len]; exact hi) c
  rw [takeA_at,leftA,cmp_sub,cmp_mul] at this
  rw [usedC_cons]
  omega
theorem allocsH_bwd {s:zad} {st:zae} {n:Int} {H:List zam} {A:List zag} {F:List zac} (he:A.map (·.Job)=H.map (·.Id)) (hF:∀r∈F,VecOk r) (hp:∀a∈A,∀j∈H,a.Job=j.Id→PairOk s st j a) (hg:GoodA n A) (hf:TotFit F A):AllocsH s st H A F:=by
 induction H generalizing A F with
 | nil =>
  cases A with
  | nil=>rfl
  | cons a A=>cases he
 | cons j H ih =>
  cases A with
  | nil=>cases he
  | cons a A =>
   rw [yA3,yA3] at he
   have he1:a.Job=j.Id:=by injection he
   have he2:A.map (·.Job)=H.map (·.Id):=by injection he
   have ga:=hg a (yAq ..)
   have gA:GoodA n A:=fun b hb=>hg b (yAk _ hb)
   have fa:FitsA F a:=fun i hi=>vec_iff.2 fun c=>by
    have h1:=hf i hi c
    have h2:=one_bd ga i c
    have h3:=used_bd gA i c
    have h4:=vec_iff.1 (hF _ (yAo hi)) c
    rw [usedC_cons] at h1
    rw [leftA,cmp_sub,cmp_mul]
    omega
   refine ⟨a,A,rfl,hp a (yAq ..) j (yAq ..) he1,fa,ih he2 (takeA_ok fa) (fun b hb k hk=>hp b (yAk _ hb) k (yAk _ hk)) gA fun i hi c=>?_⟩
   have h1:=hf i (by rwa [takeA_len] at hi) c
   rw [takeA_at,leftA,cmp_sub,cmp_mul]
   rw [usedC_cons] at h1
   omega
theorem jobs_pw {s:zad} {st:zae} (J:JobsOk s st):((st.Jobs.filter hasJ).map (·.Id)).Pairwise (·<·):=by
 have h:(st.Jobs.map (·.Id)).Pairwise (·<·):=asc_pw fun i hi=>by
  rw [yBj,yBj]
  exact J.sorted i (by simpa using hi)
 rw [List.pairwise_map] at h ⊢
 exact h.filter _
structure HasIn (s:zad) (st:zae) (j:zam):Prop where
 has:(∃a∈st.Allocs,a.Job=j.Id)↔hasJ j=true
 mine:∀a∈st.Allocs,a.Job=j.Id→PairOk s st j a
theorem to_ref {s:zad} {st:zae} (k:SpecOk s) (J:JobsOk s st) (A:AllocsOk s st):zcs s st∧∀j∈st.Jobs,HasIn s st j:=by
 obtain ⟨h1,h2⟩:=allocsH_fwd A k.nodes.ok
 have pw:=jobs_pw J
 rw [←h1] at pw
 have uniq:∀j∈st.Jobs,∀j'∈st.Jobs,j.Id=j'.Id→j=j':=fun j hj j' hj' e=>by
  obtain ⟨m,hm,rfl⟩:=yAD hj
  obtain ⟨m',hm',rfl⟩:=yAD hj'
  have:=J.sorted.inj hm hm' e
  subst this
  rfl
 refine ⟨⟨fun i hi=>?_,h2⟩,fun j hj=>⟨⟨fun ⟨a,ha,e⟩=>?_,fun hh=>?_⟩,fun a ha e=>?_⟩⟩
 ·obtain ⟨j,hj,P⟩:=A.mem _ (yAo hi)
  refine ⟨fun m hm e=>?_,⟨j,hj,P.job.symm⟩,P.suits.shares,by rw [P.need]; exact (J.each j hj).ok.need⟩
  have:=yBZ.1 pw m i (by simpa using hm) (by simpa using hi) (by omega)
  simpa using this
 ·have:a.Job∈st.Allocs.map (·.Job):=yA4.2 ⟨a,ha,rfl⟩
  rw [h1] at this
  obtain ⟨j',hj',e'⟩:=yA4.1 this
  obtain ⟨hj1,hj2⟩:=yBu.1 hj'
  have:j'=j:=uniq _ hj1 _ hj (by rw [e',e])
  subst this
  exact hj2
 ·have:j.Id∈(st.Jobs.filter hasJ).map (·.Id):=yA4.2 ⟨j,yBu.2 ⟨hj,hh⟩,rfl⟩
  rw [←h1] at this
  obtain ⟨a,ha,e⟩:=yA4.1 this
  exact ⟨a,ha,e⟩
 ·obtain ⟨j',hj',P⟩:=A.mem a ha
  have:j'=j:=uniq _ hj' _ hj (by rw [←P.job,e])
  subst this
  exact P
theorem of_ref {s:zad} {st:zae} (k:SpecOk s) (J:JobsOk s st) (R:zcs s st) (h:∀j∈st.Jobs,HasIn s st j):AllocsOk s st:=by
 have pw:(st.Allocs.map (·.Job)).Pairwise (·<·):=asc_pw fun i hi=>by
  rw [yBj,yBj]
  exact (R.each (i+1) (by simpa using hi)).up i (by simp at hi; omega) rfl
 refine allocsH_bwd (n:=s.Nodes.length) (asc_eq pw (jobs_pw J) fun x=>⟨fun hx=>?_,fun hx=>?_⟩) k.nodes.ok (fun a ha j hj e=>(h j (yBu.1 hj).1).mine a ha e) R.good R.fit
 ·obtain ⟨a,ha,rfl⟩:=yA4.1 hx
  obtain ⟨i,hi,rfl⟩:=yAD ha
  obtain ⟨j,hj,e⟩:=(R.each i hi).job
  exact yA4.2 ⟨j,yBu.2 ⟨hj,(h j hj).has.1 ⟨_,ha,e.symm⟩⟩,e⟩
 ·obtain ⟨j,hj,rfl⟩:=yA4.1 hx
  obtain ⟨a,ha,e⟩:=(h j (yBu.1 hj).1).has.2 (yBu.1 hj).2
  exact yA4.2 ⟨a,ha,e⟩
end Go.Plain
end
section
namespace Go.Plain
open Go.Abs
theorem jn_ite {X R:Type} {r:X→Option R} {c:Prop} [Decidable c] {a b:X}:jn r (fun j=>if c then j a else j b)=r (if c then a else b):=by
 unfold jn
 split <;> rfl
theorem onV_pos {l:List zaj} {n:Int} (h:SharesOk l n) {i:Int}:onV l i > 0↔∃x∈l,x.Node=i:=by
 have hm:∀x∈l,1≤x.Many:=fun x hx=>(h.mem x hx).2.2.1
 clear h
 induction l with
 | nil=>simp [onV]
 | cons y l ih =>
  have h1:=ih fun x hx=>hm x (yAk _ hx)
  have h2:=hm y (yAq ..)
  have h3:=onV_nn (l:=l) (fun x hx=>by have:=hm x (yAk _ hx); omega) i
  have e:onV (y::l) i=(if y.Node=i then y.Many else 0)+onV l i:=by simp [onV]
  rw [e]
  constructor
  ·intro hp
   by_cases hy:y.Node=i
   ·exact ⟨y,yAq ..,hy⟩
   ·rw [if_neg hy] at hp
    obtain ⟨x,hx,e⟩:=h1.1 (by omega)
    exact ⟨x,yAk _ hx,e⟩
  ·rintro ⟨x,hx,e2⟩
   rcases yAt.1 hx with rfl | hx
   ·rw [if_pos e2]; omega
   ·have:=h1.2 ⟨x,hx,e2⟩
    split <;> omega
def TakenBy (st:zae) (node frm:Int) (a:zag):Prop:=∃j∈st.Jobs,j.Id=a.Job∧(∃x∈a.Shares,x.Node=node)∧frm<j.Start+j.Wall
theorem ref_taken {s:zad} {st:zae} (hw:FewW s st) (R:zcs s st) (node frm:Int):Ret (zcn 200000 st node frm) fun b=>JobsOk s st→(b=true↔∃a∈st.Allocs,TakenBy st node frm a):=by
 have hl:=hw.jobs; have hal:=hw.allocs
 unfold zcn
 refine lpA st.Allocs (fun i a=>JobsOk s st→¬TakenBy st node frm a) (fun i f hi hA hr=>?_) (fun f hA=>?_) (by omega)
 ·simp only [zbh,zb5 hi,if_true,zao hi,Option.bind_some,wr1 (show i<1000000 by omega)]
  have ha:=yAo hi
  refine (ref_find (by omega) st.Allocs[i].Job).bind fun r hr1=>?_
  rw [zaf]
  refine ⟨fun h=>?_,fun h=>?_⟩
  ·simp only [yAf] at h
   have at1:=hr1.2.1 h
   have S:=(R.each i hi).shares
   obtain ⟨hx,e⟩:=at_int (l:=st.Jobs) at1.lo (by have:=at1.lo; have:=at1.hi; omega)
   have hj:=yAo hx
   have fin:Ret (if decide (IntKind.i64.wrap (st.Jobs[r.toNat].Start+st.Jobs[r.toNat].Wall) > frm)=true then some true else f ((i+1:Nat):Int)) (fun b=>(∃x∈st.Allocs[i].Shares,x.Node=node)→JobsOk s st→(b=true↔∃a∈st.Allocs,TakenBy st node frm a)):=by
    rw [zaf]
    refine ⟨fun h2=>?_,fun h2=>?_⟩
    ·rw [zab]
     intro hsx J
     have jo:=(J.each _ hj).ok
     have:=jo.start; have:=jo.wall
     rw [wr (by omega) (by omega)] at h2
     simp only [yAf] at h2
     exact ⟨fun _=>⟨_,ha,_,hj,at1.is,hsx,h2⟩,fun _=>rfl⟩
    ·refine (hr fun J tk=>?_).mono fun b hb _=>hb
     obtain ⟨j,hj2,e2,-,h3⟩:=tk
     have:j=st.Jobs[r.toNat]:=by
      obtain ⟨m,hm,rfl⟩:=yAD hj2
      have:=J.sorted.inj hm hx (by rw [e2,at1.is])
      subst this
      rfl
     subst this
     have jo:=(J.each _ hj).ok
     have:=jo.start; have:=jo.wall
     rw [wr (by omega) (by omega)] at h2
     simp only [yAf] at h2
     omega
   rw [ref_on (yAB (hw.shares _ ha) (by decide)) S,Option.bind_some,e,zaf]
   simp only [Option.bind_some]
   refine ⟨fun h2=>?_,fun h2=>?_⟩
   ·simp only [yAf] at h2
    exact fin.mono fun b hb=>hb ((onV_pos S).1 h2)
   ·simp only [yAf] at h2
    rw [if_neg (by simp)]
    exact hr fun J ⟨j,hj2,e2,hx2,h3⟩=>h2 ((onV_pos S).2 hx2)
  ·simp only [yAf] at h
   rw [if_neg (by simp)]
   exact hr fun J ⟨j,hj2,e2,hx2,h3⟩=>by have:=hr1.1.2 ⟨j,hj2,e2⟩; omega
 ·simp only [zb7,yAg,yAy,zab,yBo]
  rintro J ⟨a,ha,tk⟩
  exact zbP (A:=fun a=>JobsOk s st→¬TakenBy st node frm a) hA a ha J tk
theorem ref_books {s:zad} {st:zae} (hw:FewW s st) (R:zcs s st):Ret (zb9 200000 s st) fun b=>JobsOk s st→(b=true↔BookedOk s st):=by
 have hl:=hw.books
 unfold zb9
 refine lpA st.Books (fun i b=>(b.Id<st.Book∧st.Now<b.To)∧(JobsOk s st→¬∃a∈st.Allocs,TakenBy st b.Node b.From a)) (fun i f hi hA hr=>?_) (fun f hA=>?_) (by omega)
 ·simp only [zbh,zb5 hi,if_true,zao hi,Option.bind_some,wr1 (show i<1000000 by omega)]
  have hb:=yAo hi
  rw [zaf]
  refine ⟨fun h=>?_,fun h=>?_⟩
  ·rw [zab]
   intro J
   simp only [yAu,yAf] at h
   simp only [yAg,yBo]
   exact fun q=>by have:=q.live _ hb; omega
  ·simp only [yAu,yAf] at h
   refine (ref_taken hw R _ _).bind fun r hr1=>?_
   rw [zaf]
   refine ⟨fun h2=>?_,fun h2=>hr ⟨by omega,fun J=>fun q=>h2 ((hr1 J).2 q)⟩⟩
   rw [zab]
   intro J
   simp only [yAg,yBo]
   intro q
   obtain ⟨a,ha,j,hj,e,⟨x,hx,en⟩,hf⟩:=(hr1 J).1 h2
   exact q.clash a ha j hj e x hx _ hb en.symm hf
 ·simp only [zb7,yAg,yAy]
  refine (ref_book _ _ (by omega)).bind fun r hr=>?_
  rw [zab]
  intro J
  rw [hr]
  refine ⟨fun h=>⟨h,fun b hb=>?_,fun a ha j hj e x hx b hb en hf=>?_⟩,fun q=>q.books⟩
  ·obtain ⟨m,hm,rfl⟩:=yAD hb
   exact (hA m hm).1
  ·obtain ⟨m,hm,rfl⟩:=yAD hb
   exact (hA m hm).2 J ⟨a,ha,j,hj,e,⟨x,hx,en.symm⟩,hf⟩
structure AtA (l:List zag) (id:Int) (r:Int):Prop where
 lo:0≤r
 hi:r.toNat<l.length
 is:l[r.toNat].Job=id
theorem ref_findA {l:List zag} (hl:l.length≤300) (id:Int):Ret (zcK 200000 l id) fun r=>(0≤r↔∃a∈l,a.Job=id)∧(0≤r→AtA l id r):=by
 unfold zcK
 refine lpA l (fun _ j=>j.Job≠id) (fun i f h _ hr=>?_) (fun f h=>?_) (by omega)
 ·simp only [zb5 h,if_true,zao h,Option.bind_some,wr1 (show i<1000000 by omega),zaf,zab,yAP]
  exact ⟨fun e=>⟨⟨fun _=>⟨_,yAo h,e⟩,fun _=>by omega⟩,fun _=>⟨by omega,by simpa using h,by simpa using e⟩⟩,fun e=>hr e⟩
 ·simp only [zb7,yAg,yAy,zab]
  refine ⟨⟨fun h=>by omega,fun ⟨j,hm,e⟩=>absurd e (zbP (A:=fun j=>j.Job≠id) h j hm)⟩,fun h=>by omega⟩
theorem zcs.uniq {s:zad} {st:zae} (R:zcs s st) {i j:Nat} (hi:i<st.Allocs.length) (hj:j<st.Allocs.length) (e:st.Allocs[i].Job=st.Allocs[j].Job):i=j:=by
 have pw:(st.Allocs.map (·.Job)).Pairwise (·<·):=asc_pw fun i hi=>by
  rw [yBj,yBj]
  exact (R.each (i+1) (by simpa using hi)).up i (by simp at hi; omega) rfl
 rw [yBZ] at pw
 rcases yBE i j with h | h | h
 ·have:=pw i j (by simpa using hi) (by simpa using hj) h
  rw [yBj,yBj] at this; omega
 ·exact h
 ·have:=pw j i (by simpa using hj) (by simpa using hi) h
  rw [yBj,yBj] at this; omega
structure RefJob (s:zad) (st:zae) (j:zam):Prop where
 inn:JobIn s st j
 waits:Waits s st j
 has:HasIn s st j
theorem ref_job {s:zad} (k:SpecOk s) {st:zae} (hw:FewW s st) (R:zcs s st) {j:zam} (hj:j∈st.Jobs):zaY (zc8 200000 s st j) (RefJob s st j):=by
 have kv:=k.versions
 have hl:=hw.jobs; have hal:=hw.allocs
 unfold zc8
 refine (ref_job_right j (hw.after j hj)).bind fun r hr1=>?_
 rw [zaf]
 refine ⟨fun h=>no_f fun q=>?_,fun h=>?_⟩
 ·have:=hr1.2 q.inn.ok
  rw [this] at h
  simp only [yAu,yAf,yBa,yAg,false_or] at h
  have:=q.inn.next; have:=q.inn.user; have:=q.inn.queue; have:=q.inn.born; have:=q.inn.start; have:=q.inn.fin
  omega
 ·simp only [yAu,yAf,not_or,yAv,yA0] at h
  have jo:=hr1.1 h.1.1.1.1.1.1
  have hst:=jo.state.st; have hsr:=jo.start; have hwl:=jo.wall
  simp only [jn_ite]
  generalize he:(if decide (j.State≥5)=true then (3:Int) else if (j.State == 4)=true then 2 else if (j.State == 3)=true then 1 else 0)=e
  have ev:e=extraV j.State:=by
   rw [←he]
   simp only [extraV,yAf,yAP,ge_iff_le]
   split
   ·split <;> (try split) <;> (try split) <;> omega
   ·split
    ·split <;> (try split) <;> omega
    ·split <;> (try split) <;> (try split) <;> omega
  have eb:=extra_bd j.State
  refine (ref_findA hal j.Id).bind fun r8 hr8=>?_
  simp only [zbh,zc5,Option.bind_some]
  rw [ev,wr (x:=s.Versions+extraV j.State) (by omega) (by omega),zaf]
  refine ⟨fun h2=>no_f fun q=>?_,fun h2=>?_⟩
  ·have:=q.inn.version
   simp only [yAf] at h2
   omega
  ·simp only [yAf] at h2
   have I:JobIn s st j:=⟨jo,by omega,by omega,by omega,by omega,by omega,by omega,by omega⟩
   have eh:((j.State == 3) || (j.State == 4))=hasJ j:=rfl
   rw [eh,zaf]
   refine ⟨fun h3=>no_f fun q=>?_,fun h3=>?_⟩
   ·have:=q.has.has
    rw [←hr8.1] at this
    cases hh:hasJ j with
    | true=>have t:=this.2 hh; simp [hh] at h3; omega
    | false =>
     have t:¬0≤r8:=fun t=>by have:=this.1 t; rw [hh] at this; cases this
     simp [hh] at h3
     omega
   ·have hasI:(∃a∈st.Allocs,a.Job=j.Id)↔hasJ j=true:=by
     rw [←hr8.1]
     cases hh:hasJ j with
     | true=>simp [hh] at h3; simp [h3]
     | false=>simp [hh] at h3; simp; omega
    rw [zaf]
    refine ⟨fun h4=>yes_t ?_,fun h4=>?_⟩
    ·simp only [yAf] at h4
     refine ⟨I,fun hs=>by omega,hasI,fun a ha e=>?_⟩
     have:=hasJ_lt (hasI.1 ⟨a,ha,e⟩)
     omega
    ·simp only [yAf] at h4
     have ha:=jo.afterN
     refine lpA j.After (fun _ d=>∃i∈st.Jobs,i.Id=d.Job) (fun m g hm hA hr=>?_) (fun g hA=>?_) (by omega)
     ·simp only [zb5 hm,if_true,zao hm,Option.bind_some,wr1 (show m<1000000 by omega)]
      refine (ref_find (by omega) j.After[m].Job).bind fun r hr2=>?_
      rw [zaf]
      refine ⟨fun h5=>no_f fun q=>?_,fun h5=>hr (hr2.1.1 ?_)⟩
      ·have:=hr2.1.2 ((q.waits (by omega)).after _ (yAo hm))
       simp only [yAf] at h5
       omega
      ·simp only [yAf] at h5
       omega
     ·simp only [zb7,yAg,yAy]
      obtain ⟨b,e1,e2⟩:=fits_eq hw.spec k (q:=j.Queue) (m:=j.Many) jo.need jo.needz
      rw [e2,Option.bind_some,zaf]
      refine ⟨fun h5=>no_f fun q=>?_,fun h5=>?_⟩
      ·have:=(q.waits (by omega)).fits
       rw [e1] at this
       simp only [yAa] at this
       subst this
       simp at h5
      ·simp only [yAv,yA0] at h5
       subst h5
       have W:Waits s st j:=fun _=>⟨e1,zbP hA⟩
       rw [zaf]
       refine ⟨fun h6=>yes_t ⟨I,W,hasI,fun a ha e=>?_⟩,fun h6=>?_⟩
       ·have:=hasI.1 ⟨a,ha,e⟩
        rw [this] at h6
        simp at h6
       ·simp only [yAv,yA0] at h6
        have r0:=hr8.1.2 (hasI.2 h6)
        have at8:=hr8.2 r0
        obtain ⟨hx,e3⟩:=at_int (l:=st.Allocs) at8.lo (by have:=at8.lo; have:=at8.hi; omega)
        have hma:=yAo hx
        rw [wr (x:=j.Start+j.Wall) (by omega) (by omega),e3,zaf]
        simp only [Option.bind_some]
        refine ⟨fun h7=>?_,fun h7=>no_f fun q=>?_⟩
        ·simp only [yAf] at h7
         rw [zaf]
         refine ⟨fun h8=>?_,fun h8=>no_f fun q=>h8 (beq_res.2 (q.has.mine _ hma at8.is).need)⟩
         have eN:=beq_res.1 h8
         refine (ref_mine hw.spec k j _ (yAB (hw.shares _ hma) (by decide))).bind fun r hr9=>?_
         rw [zab,hr9]
         refine ⟨fun S=>⟨I,W,hasI,fun a ha e=>?_⟩,fun q=>(q.has.mine _ hma at8.is).suits⟩
         have:a=st.Allocs[r8.toNat]:=by
          obtain ⟨m,hm,rfl⟩:=yAD ha
          have:=R.uniq hm hx (by rw [e,at8.is])
          subst this
          rfl
         subst this
         exact ⟨e,eN,S,h7⟩
        ·have:=(q.has.mine _ hma at8.is).now
         simp only [yAf] at h7
         omega
theorem ref_sound {s:zad} {st:zae} (hw:FewW s st):zaY (zck 200000 s st) (SoundOk s st):=by
 have hl:=hw.jobs; have hq:=hw.stamps; have hus:=hw.use
 unfold zck
 simp only [zbh]
 refine (ref_right s hw.spec).bind fun r hr1=>?_
 rw [zaf]
 refine ⟨fun h=>?_,fun h=>?_⟩
 ·rw [if_pos trivial]
  refine no_f fun q=>?_
  have:=hr1.2 q.spec
  rw [this] at h
  have k1:=q.spec.ids; have:=q.nums.now; have:=q.nums.next; have:=q.nums.book
  rw [wr (x:=s.Ids+1) (by omega) (by omega)] at h
  simp only [yAu,yAf,yBa,yAg,false_or] at h
  omega
 ·simp only [yAu,yAf,not_or,yAv,yA0] at h
  have k:=hr1.1 h.1.1.1.1.1
  have k1:=k.ids
  rw [wr (x:=s.Ids+1) (by omega) (by omega)] at h
  refine (ref_uid st.Book).bind fun r2 hr2=>?_
  rw [zaf]
  refine ⟨fun h2=>no_f fun q=>?_,fun h2=>?_⟩
  ·have:=hr2.2 (by have:=q.nums.book; omega)
   rw [this] at h2
   simp at h2
  ·simp only [yAv,yA0] at h2
   have u2:=hr2.1 h2
   have NO:NumsOk s st:=⟨by omega,by omega,by omega⟩
   rw [zaf]
   refine ⟨fun h3=>?_,fun h3=>?_⟩
   ·rw [if_pos trivial]
    refine no_f fun q=>?_
    have:=q.jobs.len
    simp only [yAf] at h3
    omega
   ·simp only [yAf] at h3
    refine (ref_allocs hw).bind fun r4 hr4=>?_
    rw [zaf]
    refine ⟨fun h4=>?_,fun h4=>?_⟩
    ·rw [if_pos trivial]
     refine no_f fun q=>?_
     have:=hr4.2 (to_ref k q.jobs q.allocs).1
     rw [this] at h4
     simp at h4
    ·simp only [yAv,yA0] at h4
     have R:=hr4.1 h4
     refine (ref_books hw R).bind fun r5 hr5=>?_
     rw [zaf]
     refine ⟨fun h5=>?_,fun h5=>?_⟩
     ·rw [if_pos trivial]
      refine no_f fun q=>?_
      have:=(hr5 q.jobs).2 q.booked
      rw [this] at h5
      simp at h5
     ·simp only [yAv,yA0] at h5
      refine (ref_use st.Use s.Users (by omega)).bind fun r6 hr6=>?_
      rw [zaf]
      refine ⟨fun h6=>?_,fun h6=>?_⟩
      ·rw [if_pos trivial]
       refine no_f fun q=>?_
       have:=hr6.2 ⟨q.use.len,q.use.use⟩
       rw [this] at h6
       have:=q.use.qlen
       simp only [yAu,yBp,ne_eq,yBa,yAg,false_or] at h6
       omega
      ·simp only [yAu,yBp,ne_eq,not_or,yAZ,yAv,yA0] at h6
       have u6:=hr6.1 h6.1
       refine (ref_uid st.Stamps.Nodes).bind fun r7 hr7=>?_
       rw [zaf]
       refine ⟨fun h7=>no_f fun q=>?_,fun h7=>?_⟩
       ·have:=hr7.2 q.use.nodes
        rw [this] at h7
        simp at h7
       ·simp only [yAv,yA0] at h7
        have u7:=hr7.1 h7
        refine lpA st.Stamps.Queues (fun _ x=>0≤x∧x≤281474976710656) (fun i f hi _ hr=>?_) (fun f hS=>?_) (by omega)
        ·simp only [zb5 hi,if_true,zao hi,Option.bind_some,wr1 (show i<1000000 by omega)]
         refine (ref_uid _).bind fun r8 hr8=>?_
         rw [zaf]
         refine ⟨fun h8=>no_f fun q=>?_,fun h8=>hr (hr8.1 (by simpa using h8))⟩
         have:=hr8.2 (q.use.stamps _ (yAo hi))
         rw [this] at h8
         simp at h8
        ·simp only [zb7,yAg,yAy]
         have U:UseOk s st:=⟨u6.1,u6.2,by omega,u7,zbP hS⟩
         refine lpA st.Jobs (fun i j=>RefJob s st j∧prvI st.Jobs i<j.Id) (fun i f hi _ hr=>?_) (fun f hJ=>?_) (by omega)
         ·have hd:decide ((i:Int) > 0)=decide (0<i):=by simp
          have hj:=yAo hi
          simp only [zb5 hi,if_true,zao hi,Option.bind_some,wr1 (show i<1000000 by omega),hd]
          refine (ref_job k hw R hj).bind fun r9 hr9=>?_
          rw [zaf]
          refine ⟨fun h9=>no_f fun q=>?_,fun h9=>?_⟩
          ·have:=hr9.2 ⟨q.jobs.each _ hj,q.waits _ hj,(to_ref k q.jobs q.allocs).2 _ hj⟩
           rw [this] at h9
           simp at h9
          ·simp only [yAv,yA0] at h9
           have J9:=hr9.1 h9
           rw [zaf]
           refine ⟨fun h10=>?_,fun h10=>?_⟩
           ·simp only [yAf] at h10
            obtain ⟨m,rfl⟩:∃m,i=m+1:=⟨i-1,by omega⟩
            rw [wp1 (show m+1<1000000 by omega),zao (show m<st.Jobs.length by omega),Option.bind_some,zaf]
            refine ⟨fun h11=>no_f fun q=>?_,fun h11=>hr ⟨J9,?_⟩⟩
            ·have:=q.jobs.sorted m hi
             simp only [yAf] at h11
             omega
            ·rw [prvI_succ (by omega)]
             simp only [yAf] at h11
             omega
           ·simp only [yAf] at h10
            have:i=0:=by omega
            subst this
            refine hr ⟨J9,?_⟩
            have:=J9.inn.ok.id
            simp only [prvI]
            omega
         ·simp only [zb7,yAg,yAy]
          have JO:JobsOk s st:=jobs_of (by omega) fun i hi=>⟨(hJ i hi).1.inn,(hJ i hi).2⟩
          have all:∀j∈st.Jobs,RefJob s st j:=fun j hj=>by
           obtain ⟨m,hm,rfl⟩:=yAD hj
           exact (hJ m hm).1
          exact yes_t ⟨k,NO,JO,fun j hj=>(all j hj).waits,of_ref k JO R fun j hj=>(all j hj).has,(hr5 JO).1 h5,U⟩
end Go.Plain
end
section
namespace Go.Plain
open Go.Abs
def dg:Nat→Nat→List Int
 | 0,n=>[(n:Int)]
 | k+1,n=>if n<128 then [(n:Int)] else ((n % 128+128:Nat):Int)::dg k (n / 128)
def eb (x:Int):List Int:=dg 7 x.toNat
def bs (l:List Int):List Int:=l.flatMap eb
def Good (x:Int):Prop:=0≤x∧x≤281474976710656
theorem bs_nil:bs []=[]:=rfl
theorem bs_cons {a:Int} {l:List Int}:bs (a::l)=eb a++bs l:=rfl
theorem bs_app {l m:List Int}:bs (l++m)=bs l++bs m:=by simp [bs]
theorem dg_len (k n:Nat):(dg k n).length≤k+1:=by
  induction k generalizing n with
  | zero=>simp [dg]
  | succ k ih => unfold dg; split
                 · simp
                 · have:=ih (n / 128); simp only [List.length_cons]; omega
theorem eb_len (x:Int):(eb x).length≤8:=dg_len 7 _
theorem bs_len (l:List Int):(bs l).length≤8 * l.length:=by
 induction l with
 | nil=>simp [bs]
 | cons a l ih=>rw [bs_cons,yAr,List.length_cons]; have:=eb_len a; omega
theorem pow_div {k n:Nat} (h:n<128 ^ (k+1+1)):n / 128<128 ^ (k+1):=by
 rw [Nat.pow_succ] at h
 exact Nat.div_lt_of_lt_mul (by omega)
theorem dg_byte (k n:Nat) (h:n<128 ^ (k+1)):∀x∈dg k n,0≤x∧x≤255:=by
 induction k generalizing n with
 | zero=>intro x hx; simp only [dg,yAO] at hx; simp at h; omega
 | succ k ih =>
  intro x hx
  unfold dg at hx
  split at hx
  ·simp only [yAO] at hx; omega
  ·rcases yAt.1 hx with rfl | hx
   ·omega
   ·exact ih _ (pow_div h) x hx
theorem Good.lt {x:Int} (h:Good x):x.toNat<128 ^ (7+1):=by have:=h.1; have:=h.2; simp; omega
theorem bs_byte {l:List Int} (h:∀x∈l,Good x):∀x∈bs l,0≤x∧x≤255:=fun x hx=>by
 obtain ⟨a,ha,hx⟩:=yBx.1 hx
 exact dg_byte 7 _ (h a ha).lt x hx
theorem rem_nat (n m:Nat) (h:m≠0):rem? (n:Int) (m:Int)=some ((n % m:Nat):Int):=by
 unfold rem?
 rw [if_neg (by omega),Int.tmod_eq_emod_of_nonneg (by omega)]
 rfl
theorem quo_nat (n m:Nat) (h:m≠0) (hn:n<1000000000000000000):quo? .i64 (n:Int) (m:Int)=some ((n / m:Nat):Int):=by
 unfold quo?
 rw [if_neg (by omega),yBS (by omega)]
 have e:((n:Int) / (m:Int))=((n / m:Nat):Int):=rfl
 rw [e]
 have:=Nat.div_le_self n m
 generalize n / m=q at *
 rw [wr (by omega) (by omega)]
theorem rem128 (n:Nat):rem? (n:Int) 128=some ((n % 128:Nat):Int):=rem_nat n 128 (by decide)
theorem quo128 (n:Nat) (hn:n<1000000000000000000):quo? .i64 (n:Int) 128=some ((n / 128:Nat):Int):=quo_nat n 128 (by decide) hn
theorem wu8 {n:Nat} (h:n<256):IntKind.u8.wrap (n:Int)=(n:Int):=by rw [IntKind.wrap_u8]; omega
theorem put_one {R:Type} {K:List Int→Option R}:∀(k n N:Nat) (out:List Int),n<128 ^ (k+1)→n<1000000000000000000→out.length+(k+1)≤1000000→k<N →
  lpX (fun f9 (x8:Int×List Int)=>
     if (decide (x8.1≥128))=true then
      (rem? x8.1 128).bind fun q10=>
      (app? x8.2 ([(IntKind.u8.wrap (IntKind.i64.wrap (q10+128)))]:List Int)).bind fun z11=>
      (quo? .i64 x8.1 128).bind fun q12=>
      f9 (q12,z11)
     else
      (app? x8.2 ([(IntKind.u8.wrap x8.1)]:List Int)).bind fun z13=>
      K z13) N ((n:Int),out)=K (out++dg k n):=by
 intro k
 induction k with
 | zero =>
  intro n N out h h2 hl hN
  match N,hN with
  | N + 1, _ =>
   simp at h
   unfold lpX
   simp only []
   rw [if_neg (by simp; omega),wu8 (by omega),zbt (by simp; omega)]
   rfl
 | succ k ih =>
  intro n N out h h2 hl hN
  match N,hN with
  | N + 1, hN =>
   unfold lpX dg
   simp only []
   by_cases hc:n<128
   ·rw [if_neg (by simp; omega),wu8 (by omega),zbt (by simp; omega),if_pos hc]
    rfl
   ·rw [if_pos (by simp; omega),if_neg hc,rem128,Option.bind_some,show (((n % 128:Nat):Int)+128)=((n % 128+128:Nat):Int) from rfl,wr (by omega) (by omega),wu8 (by omega),zbt (by simp; omega),Option.bind_some,quo128 n h2,Option.bind_some]
    have hd:n / 128<n:=by omega
    rw [ih (n / 128) N _ (pow_div h) (by omega) (by simp; omega) (by omega),yAw]
    rfl
theorem lpG {α β R:Type} {b:(Int×List β→Option R)→Int×List β→Option R} {Q:R→Prop} (l:List α) (g:α→List β) (acc:List β)
  (hs:∀(i:Nat) (h:i<l.length) (z:List β) (f:Int×List β→Option R),z.length+(g l[i]).length≤acc.length+(l.flatMap g).length→Ret (f (((i+1:Nat):Int),z++g l[i])) Q→Ret (b f ((i:Int),z)) Q)
  (he:∀f,Ret (b f ((l.length:Int),acc++l.flatMap g)) Q) {N:Nat} (hN:l.length<N):Ret (lpX b N (0,acc)) Q:=by
 refine lpS l.length (fun i x=>x=((i:Int),acc++(l.take i).flatMap g)) (fun i x f hi hx hr=>?_) (fun x f hx=>?_) (by simp) hN
 ·subst hx
  have e:acc++(l.take (i+1)).flatMap g=acc++(l.take i).flatMap g++g l[i]:=by
   rw [List.take_add_one,yAi hi,Option.toList_some,yCe,yAQ,List.flatMap_nil,yBi,yAw]
  have le:(acc++(l.take (i+1)).flatMap g).length≤acc.length+(l.flatMap g).length:=by
   have h0:l.flatMap g=(l.take (i+1)).flatMap g++(l.drop (i+1)).flatMap g:=by rw [←yCe,List.take_append_drop]
   rw [h0]; simp only [yAr]; omega
  refine hs i hi _ f (by rw [e] at le; simpa [yBA] using le) ?_
  exact hr _ (by rw [e])
 ·subst hx
  rw [yBq]
  exact he f
theorem put_all {l:List Int} (hl:l.length≤100000) (h:∀x∈l,Good x) {p:List Int} (hp:p.length≤199990) {Q:List Int×Int→Prop} (hq:Q (p++bs l,0)) :
  Ret (lpX (fun f6 (x5 : Int × List Int) =>
    if (decide (x5.1<(l.length:Int)))=true then
     (at? l x5.1).bind fun a7=>
     lpX (fun f9 (x8:Int×List Int)=>
      if (decide (x8.1≥128))=true then
       (rem? x8.1 128).bind fun q10=>
       (app? x8.2 ([(IntKind.u8.wrap (IntKind.i64.wrap (q10+128)))]:List Int)).bind fun z11=>
       (quo? .i64 x8.1 128).bind fun q12=>
       f9 (q12,z11)
      else
       (app? x8.2 ([(IntKind.u8.wrap x8.1)]:List Int)).bind fun z13=>
       f6 ((IntKind.i64.wrap (x5.1+1)),z13)) 200000 (a7,x5.2)
    else
     some (x5.2,(0:Int))) 200000 (0,p)) Q:=by
 refine lpG l eb p (fun i hi z f hz hr=>?_) (fun f=>?_) (by omega)
 ·have g:=h _ (yAo hi)
  have g1:=g.1; have g2:=g.2
  have hb:=bs_len l
  have hle:z.length+8≤1000000:=by
   have:z.length≤p.length+(l.flatMap eb).length:=by omega
   have:(l.flatMap eb).length≤8 * l.length:=bs_len l
   omega
  simp only [zb5 hi,if_true,zao hi,Option.bind_some,wr1 (show i<1000000 by omega)]
  rw [show l[i]=((l[i].toNat:Nat):Int) by omega,put_one (K:=fun z13=>f (((i+1:Nat):Int),z13)) 7 _ 200000 z g.lt (by omega) hle (by omega)]
  exact hr
 ·simp only [zb7,yAg,yAy,zab]
  exact hq
theorem put_chk {l:List Int} (hl:l.length≤100000) (h:∀x∈l,Good x) {E:Option (List Int×Int)} {Q:List Int×Int→Prop} (he:Ret E Q) :
  Ret (lpX (fun f2 (x1:Int)=>
  if (decide (x1<(l.length:Int)))=true then
   (at? l x1).bind fun a3=>
   if ((decide (a3<0)) || (decide (a3 > 281474976710656)))=true then
    some ([],(2:Int))
   else
    f2 (IntKind.i64.wrap (x1+1))
  else E) 200000 0) Q:=by
 refine lpA l (fun _ _=>True) (fun i f hi _ hr=>?_) (fun f _=>?_) (by omega)
 ·have g:=h _ (yAo hi)
  have g1:=g.1; have g2:=g.2
  simp only [zb5 hi,if_true,zao hi,Option.bind_some,wr1 (show i<1000000 by omega)]
  rw [if_neg (by simp; omega)]
  exact hr trivial
 ·simp only [zb7,yAg,yAy]
  exact he
theorem codec_put {l p:List Int} (hl:l.length≤100000) (hp:p.length≤199990) (h:∀x∈l,Good x):codec_Put 200000 p l=some (p++bs l,0):=by
 unfold codec_Put
 refine Ret.eq (put_chk hl h ?_)
 rw [show zaK 200000 p=some p from app_nil (by omega),Option.bind_some]
 exact put_all hl h hp rfl
theorem codec_put_o {l p:List Int} (hl:l.length≤100000) (hp:p.length≤199990) (h:∀x∈l,Good x):codec_Put_o07a2 200000 l p=some (p++bs l,0):=by
 unfold codec_Put_o07a2
 refine Ret.eq (put_chk hl h ?_)
 rw [show zaK 200000 p=some p from app_nil (by omega),Option.bind_some]
 exact put_all hl h hp rfl
theorem ref_step (N n:Nat):za0 (N+1) (n:Int)=(if (decide ((n:Int)<128))=true then some ([(IntKind.u8.wrap (n:Int))]:List Int) else (rem? (n:Int) 128).bind fun q1=>(quo? .i64 (n:Int) 128).bind fun q2=>(za0 N q2).bind fun r3=>(app? ([(IntKind.u8.wrap (IntKind.i64.wrap (128+q1)))]:List Int) r3).bind fun z4=>some z4):=rfl
theorem ref_bytes:∀(k n N:Nat),n<128 ^ (k+1)→n<1000000000000000000→k≤100000→k<N→za0 N (n:Int)=some (dg k n):=by
 intro k
 induction k with
 | zero =>
  intro n N h h2 hk hN
  match N,hN with
  | N + 1, _ =>
   simp at h
   rw [ref_step]
   rw [if_pos (by simp; omega),wu8 (by omega)]
   rfl
 | succ k ih =>
  intro n N h h2 hk hN
  match N,hN with
  | N + 1, hN =>
   rw [ref_step]
   unfold dg
   by_cases hc:n<128
   ·rw [if_pos (by simp; omega),wu8 (by omega),if_pos hc]
   ·have:=dg_len k (n / 128)
    rw [if_neg (by simp; omega),if_neg hc,rem128,Option.bind_some,quo128 n h2,Option.bind_some,ih (n / 128) N (pow_div h) (by omega) (by omega) (by omega),Option.bind_some,
     show (128+((n % 128:Nat):Int))=((n % 128+128:Nat):Int) by omega,wr (by omega) (by omega),wu8 (by omega),zbt (by simp; omega)]
    rfl
theorem ref_eb {x:Int} (h:Good x):za0 200000 x=some (eb x):=by
 have h1:=h.1; have h2:=h.2
 have:=ref_bytes 7 x.toNat 200000 h.lt (by omega) (by omega) (by omega)
 rwa [show ((x.toNat:Nat):Int)=x by omega] at this
theorem ref_put {l:List Int} (hl:l.length≤100000) (h:∀x∈l,Good x):zbs 200000 l=some (bs l):=by
 unfold zbs
 refine Ret.eq (lpG l eb [] (fun i hi z f hz hr=>?_) (fun f=>?_) (by omega))
 ·have:(l.flatMap eb).length≤8 * l.length:=bs_len l
  simp only [zb5 hi,if_true,zao hi,Option.bind_some,wr1 (show i<1000000 by omega),ref_eb (h _ (yAo hi))]
  rw [zbt (by rw [List.length_nil] at hz; omega),Option.bind_some]
  exact hr
 ·simp only [zb7,yAg,yAy,zab]
  rfl
end Go.Plain
end
section
namespace Go.Plain
open Go.Abs
def chk (b:List Int):Nat→Int
 | 0=>0
 | k+1=>chk b k+((k+1:Nat):Int) * ((b[k]?).getD 0)
theorem chk_bd {b:List Int} (h:∀x∈b,0≤x∧x≤255) (k:Nat) (hk:k≤b.length) (hl:b.length<200000):0≤chk b k∧chk b k≤51000000 * k:=by
 induction k with
 | zero=>simp [chk]
 | succ k ih =>
  have h1:=ih (by omega)
  have h2:=h _ (yAo (show k<b.length by omega))
  unfold chk
  rw [yAi (show k<b.length by omega),Option.getD_some]
  have h3:0≤((k+1:Nat):Int) * b[k]:=yBC (by omega) h2.1
  have h4:((k+1:Nat):Int) * b[k]≤200000 * 255:=Int.mul_le_mul (by omega) h2.2 h2.1 (by omega)
  omega
theorem rem_int {x:Int} (h:0≤x):rem? x 65521=some (x % 65521):=by
 unfold rem?
 rw [if_neg (by omega),Int.tmod_eq_emod_of_nonneg h]
theorem mul_b {a b:Int} (ha:0≤a∧a≤255) (hb:0≤b∧b≤200000):0≤a * b∧a * b≤51000000:=by
 have h3:0≤a * b:=yBC ha.1 hb.1
 have h4:a * b≤255 * 200000:=Int.mul_le_mul ha.2 hb.2 hb.1 (by omega)
 omega
theorem img_check {b:List Int} (h:∀x∈b,0≤x∧x≤255) (hl:b.length<200000):zcy 200000 b=some (chk b b.length % 65521):=by
 unfold zcy
 refine Ret.eq (lpS b.length (fun i x=>x=(chk b i % 65521,(i:Int))) (fun i x f hi hx hr=>?_) (fun x f hx=>?_) rfl hl)
 ·subst hx
  have h2:=h _ (yAo hi)
  have hm:0≤((i+1:Nat):Int) % 65521∧((i+1:Nat):Int) % 65521≤200000:=by omega
  have h3:=mul_b h2 hm
  have hc:0≤chk b i % 65521∧chk b i % 65521<65521:=by omega
  simp only [zb5 hi,if_true,zao hi,Option.bind_some,wr1 (show i<1000000 by omega)]
  rw [rem_int (by omega),Option.bind_some,wr (x:=b[i]) (by omega) (by omega),wr (x:=b[i] * (((i+1:Nat):Int) % 65521)) (by omega) (by omega),wr (by omega) (by omega),rem_int (by omega),Option.bind_some]
  refine hr _ ?_
  congr 1
  rw [chk,yAi hi,Option.getD_some,yCg (((i+1:Nat):Int)) b[i]]
  rw [Int.add_emod,Int.emod_emod_of_dvd _ (Int.dvd_refl _),Int.mul_emod,Int.emod_emod_of_dvd _ (Int.dvd_refl _),←Int.mul_emod,←Int.add_emod]
 ·subst hx
  simp only [zb7,yAg,yAy,zab]
theorem ref_check {b:List Int} (h:∀x∈b,0≤x∧x≤255) (hl:b.length<200000):zbC 200000 b=some (chk b b.length % 65521):=by
 unfold zbC
 refine Ret.eq (lpS b.length (fun i x=>x=(chk b i,(i:Int))) (fun i x f hi hx hr=>?_) (fun x f hx=>?_) rfl hl)
 ·subst hx
  have h2:=h _ (yAo hi)
  have h3:=mul_b h2 (show 0≤((i+1:Nat):Int)∧((i+1:Nat):Int)≤200000 by omega)
  have hc:=chk_bd h i (by omega) hl
  have e:((i+1:Nat):Int) * b[i]=b[i] * ((i+1:Nat):Int):=yCg _ _
  simp only [zb5 hi,if_true,zao hi,Option.bind_some,wr1 (show i<1000000 by omega)]
  rw [wr (x:=b[i]) (by omega) (by omega),e,wr (x:=b[i] * ((i+1:Nat):Int)) (by omega) (by omega),wr (by omega) (by omega)]
  refine hr _ ?_
  congr 1
  rw [chk,yAi hi,Option.getD_some,e]
 ·subst hx
  have hc:=chk_bd h b.length (yAn _) hl
  simp only [zb7,yAg,yAy]
  rw [rem_int hc.1,Option.bind_some,zab]
def tr (b:Bool):Int:=if b then 1 else 0
theorem img_tr (b:Bool):image_number 200000 b=some (tr b):=by cases b <;> rfl
theorem ref_tr (b:Bool):zbA 200000 b=some (tr b):=by cases b <;> rfl
def depN (d:zct):List Int:=[d.Job,tr d.Ok]
def partN (x:zaj):List Int:=[x.Node,x.Many]
def bookN (k:zak):List Int:=[k.Id,k.Node,k.From,k.To]
def jobN (j:zam):List Int:=[j.Id,j.User,j.Queue,j.Many,j.Need.Cpu,j.Need.Mem,j.Need.Gpu,j.Need.Lic,j.Wall,(j.After.length:Int)]++j.After.flatMap depN++[j.State,tr j.Ok,tr j.Kill,j.Version,j.Born,j.Start,j.End,j.Array]
def zcP (a:zag):List Int:=[a.Job,a.Need.Cpu,a.Need.Mem,a.Need.Gpu,a.Need.Lic,(a.Shares.length:Int)]++a.Shares.flatMap partN
def zbQ (st:zae):List Int:=
 [st.Now,st.Next,st.Book,(st.Jobs.length:Int)]++st.Jobs.flatMap jobN++[(st.Allocs.length:Int)]++st.Allocs.flatMap zcP++[(st.Books.length:Int)]++st.Books.flatMap bookN ++
  [(st.Use.length:Int)]++st.Use++[(st.Stamps.Queues.length:Int)]++st.Stamps.Queues++[st.Stamps.Nodes]
theorem zbV {α:Type} {l:List α} {g:α→List Int} {c:Nat} (h:∀a∈l,(g a).length≤c):(l.flatMap g).length≤c * l.length:=by
 induction l with
 | nil=>simp
 | cons a l ih =>
  have h1:=ih fun x hx=>h x (yAk _ hx)
  have h2:=h a (yAq ..)
  rw [yAQ,yAr,List.length_cons,Nat.mul_add]; omega
structure Small (st:zae):Prop where
 jobs:st.Jobs.length≤256
 after:∀j∈st.Jobs,j.After.length≤4
 allocs:st.Allocs.length≤256
 shares:∀a∈st.Allocs,a.Shares.length≤16
 books:st.Books.length≤16
 use:st.Use.length≤8
 stamps:st.Stamps.Queues.length≤8
theorem depN_len {l:List zct}:(l.flatMap depN).length≤2 * l.length:=zbV fun _ _=>by simp [depN]
theorem partN_len {l:List zaj}:(l.flatMap partN).length≤2 * l.length:=zbV fun _ _=>by simp [partN]
theorem jobN_len {j:zam} (h:j.After.length≤4):(jobN j).length≤26:=by
 have:=depN_len (l:=j.After)
 simp only [jobN,yAr,List.length_cons,List.length_nil]; omega
theorem allocN_len {a:zag} (h:a.Shares.length≤16):(zcP a).length≤38:=by
 have:=partN_len (l:=a.Shares)
 simp only [zcP,yAr,List.length_cons,List.length_nil]; omega
theorem jobsN_len {l:List zam} (h:∀j∈l,j.After.length≤4):(l.flatMap jobN).length≤26 * l.length:=zbV fun j hj=>jobN_len (h j hj)
theorem allocsN_len {l:List zag} (h:∀a∈l,a.Shares.length≤16):(l.flatMap zcP).length≤38 * l.length:=zbV fun j hj=>allocN_len (h j hj)
theorem booksN_len {l:List zak}:(l.flatMap bookN).length≤4 * l.length:=zbV fun _ _=>by simp [bookN]
theorem ref_jobN {j:zam} (h:j.After.length≤4):zc9 200000 j=some (jobN j):=by
 unfold zc9
 have hd:=depN_len (l:=j.After)
 refine Ret.eq (lpG j.After depN _ (fun i hi z f hz hr=>?_) (fun f=>?_) (by omega))
 ·simp only [List.length_cons,List.length_nil] at hz
  simp only [zb5 hi,if_true,zao hi,Option.bind_some,wr1 (show i<1000000 by omega),ref_tr]
  rw [zbt (by simp; omega),Option.bind_some,zbt (by simp; omega),Option.bind_some,yAw]
  exact hr
 ·simp only [zb7,yAg,yAy,ref_tr,Option.bind_some]
  rw [zbt (by simp only [yAr,List.length_cons,List.length_nil]; omega),Option.bind_some,zab]
  rfl
theorem ref_allocN {a:zag} (h:a.Shares.length≤16):zce 200000 a=some (zcP a):=by
 unfold zce
 have hd:=partN_len (l:=a.Shares)
 refine Ret.eq (lpG a.Shares partN _ (fun i hi z f hz hr=>?_) (fun f=>?_) (by omega))
 ·simp only [List.length_cons,List.length_nil] at hz
  simp only [zb5 hi,if_true,zao hi,Option.bind_some,wr1 (show i<1000000 by omega)]
  rw [zbt (by simp; omega),Option.bind_some,zbt (by simp; omega),Option.bind_some,yAw]
  exact hr
 ·simp only [zb7,yAg,yAy,zab]
  rfl
theorem ref_numbers {st:zae} (h:Small st):zbI 200000 st=some (zbQ st):=by
 have h1:=h.jobs; have h2:=h.allocs; have h3:=h.books; have h4:=h.use; have h5:=h.stamps
 have k1:=jobsN_len h.after; have k2:=allocsN_len h.shares; have k3:=booksN_len (l:=st.Books)
 unfold zbI
 refine Ret.eq (lpG st.Jobs jobN _ (fun i hi z f hz hr=>?_) (fun f=>?_) (by omega))
 ·simp only [List.length_cons,List.length_nil] at hz
  simp only [zb5 hi,if_true,zao hi,Option.bind_some,wr1 (show i<1000000 by omega),ref_jobN (h.after _ (yAo hi))]
  rw [zbt (by omega),Option.bind_some]
  exact hr
 simp only [zb7,yAg,yAy]
 rw [zbt (by simp only [yAr,List.length_cons,List.length_nil]; omega),Option.bind_some]
 refine lpG st.Allocs zcP _ (fun i hi z f hz hr=>?_) (fun f=>?_) (by omega)
 ·simp only [yAr,List.length_cons,List.length_nil] at hz
  simp only [zb5 hi,if_true,zao hi,Option.bind_some,wr1 (show i<1000000 by omega),ref_allocN (h.shares _ (yAo hi))]
  rw [zbt (by omega),Option.bind_some]
  exact hr
 simp only [zb7,yAg,yAy]
 rw [zbt (by simp only [yAr,List.length_cons,List.length_nil]; omega),Option.bind_some]
 refine lpG st.Books bookN _ (fun i hi z f hz hr=>?_) (fun f=>?_) (by omega)
 ·simp only [yAr,List.length_cons,List.length_nil] at hz
  simp only [zb5 hi,if_true,zao hi,Option.bind_some,wr1 (show i<1000000 by omega)]
  rw [zbt (by simp only [bookN,List.length_cons,List.length_nil] at hz ⊢; omega),Option.bind_some]
  exact hr
 simp only [zb7,yAg,yAy]
 iterate 5 rw [zbt (by simp only [yAr,List.length_cons,List.length_nil]; omega),Option.bind_some]
 rw [zab]
 rfl
theorem img_numbers {st:zae} (h:Small st):image_numbers 200000 st=some (zbQ st):=by
 have h1:=h.jobs; have h2:=h.allocs; have h3:=h.books; have h4:=h.use; have h5:=h.stamps
 have k1:=jobsN_len h.after; have k2:=allocsN_len h.shares; have k3:=booksN_len (l:=st.Books)
 unfold image_numbers
 refine Ret.eq (lpG st.Jobs jobN _ (fun i hi z f hz hr=>?_) (fun f=>?_) (by omega))
 ·simp only [List.length_cons,List.length_nil] at hz
  have ha:=h.after _ (yAo hi)
  have hd:=depN_len (l:=st.Jobs[i].After)
  simp only [jobN,yAr,List.length_cons,List.length_nil] at hz
  simp only [zb5 hi,if_true,zao hi,Option.bind_some,wr1 (show i<1000000 by omega)]
  rw [zbt (by simp only [yAr,List.length_cons,List.length_nil]; omega),Option.bind_some,zbt (by simp only [yAr,List.length_cons,List.length_nil]; omega),Option.bind_some]
  refine lpG st.Jobs[i].After depN _ (fun i' hi' z' f' hz' hr'=>?_) (fun f'=>?_) (by omega)
  ·simp only [yAr,List.length_cons,List.length_nil] at hz'
   simp only [zb5 hi',if_true,zao hi',Option.bind_some,wr1 (show i'<1000000 by omega),img_tr]
   rw [zbt (by simp only [depN,List.length_cons,List.length_nil] at hz' ⊢; omega),Option.bind_some]
   exact hr'
  ·simp only [zb7,yAg,yAy,img_tr,Option.bind_some]
   rw [zbt (by simp only [yAr,List.length_cons,List.length_nil]; omega),Option.bind_some]
   have e:z++jobN st.Jobs[i]=z++[st.Jobs[i].Id,st.Jobs[i].User,st.Jobs[i].Queue,st.Jobs[i].Many,st.Jobs[i].Need.Cpu,st.Jobs[i].Need.Mem,st.Jobs[i].Need.Gpu,st.Jobs[i].Need.Lic,st.Jobs[i].Wall]++[(st.Jobs[i].After.length:Int)]++st.Jobs[i].After.flatMap depN++[st.Jobs[i].State,tr st.Jobs[i].Ok,tr st.Jobs[i].Kill,st.Jobs[i].Version,st.Jobs[i].Born,st.Jobs[i].Start,st.Jobs[i].End,st.Jobs[i].Array]:=by simp [jobN]
   rw [←e]
   exact hr
 simp only [zb7,yAg,yAy]
 rw [zbt (by simp only [yAr,List.length_cons,List.length_nil]; omega),Option.bind_some]
 refine lpG st.Allocs zcP _ (fun i hi z f hz hr=>?_) (fun f=>?_) (by omega)
 ·simp only [yAr,List.length_cons,List.length_nil] at hz
  have ha:=h.shares _ (yAo hi)
  have hd:=partN_len (l:=st.Allocs[i].Shares)
  simp only [zcP,yAr,List.length_cons,List.length_nil] at hz
  simp only [zb5 hi,if_true,zao hi,Option.bind_some,wr1 (show i<1000000 by omega)]
  rw [zbt (by simp only [yAr,List.length_cons,List.length_nil]; omega),Option.bind_some]
  refine lpG st.Allocs[i].Shares partN _ (fun i' hi' z' f' hz' hr'=>?_) (fun f'=>?_) (by omega)
  ·simp only [yAr,List.length_cons,List.length_nil] at hz'
   simp only [zb5 hi',if_true,zao hi',Option.bind_some,wr1 (show i'<1000000 by omega)]
   rw [zbt (by simp only [partN,List.length_cons,List.length_nil] at hz' ⊢; omega),Option.bind_some]
   exact hr'
  ·simp only [zb7,yAg,yAy]
   rw [yAw]
   exact hr
 simp only [zb7,yAg,yAy]
 rw [zbt (by simp only [yAr,List.length_cons,List.length_nil]; omega),Option.bind_some]
 refine lpG st.Books bookN _ (fun i hi z f hz hr=>?_) (fun f=>?_) (by omega)
 ·simp only [yAr,List.length_cons,List.length_nil] at hz
  simp only [zb5 hi,if_true,zao hi,Option.bind_some,wr1 (show i<1000000 by omega)]
  rw [zbt (by simp only [bookN,List.length_cons,List.length_nil] at hz ⊢; omega),Option.bind_some]
  exact hr
 simp only [zb7,yAg,yAy]
 iterate 5 rw [zbt (by simp only [yAr,List.length_cons,List.length_nil]; omega),Option.bind_some]
 rw [zab]
 rfl
theorem stateN_len {st:zae} (h:Small st):(zbQ st).length≤17000:=by
 have h1:=h.jobs; have h2:=h.allocs; have h3:=h.books; have h4:=h.use; have h5:=h.stamps
 have k1:=jobsN_len h.after; have k2:=allocsN_len h.shares; have k3:=booksN_len (l:=st.Books)
 simp only [zbQ,yAr,List.length_cons,List.length_nil]; omega
end Go.Plain
end
section
namespace Go.Plain
open Go.Abs
theorem shl_nat {q c:Nat} (hc:c≤49) (h:q * 2 ^ c≤281474976710656):shl? .i64 (q:Int) (c:Int)=some ((q * 2 ^ c:Nat):Int):=by
 unfold shl?
 rw [if_neg (by omega),Int.toNat_natCast,show min c (IntKind.bits .i64)=c from yCk (by show c≤64; omega)]
 have e:((q:Int) * 2 ^ c)=((q * 2 ^ c:Nat):Int):=by simp
 rw [e]
 generalize q * 2 ^ c=y at *
 rw [wr (by omega) (by omega)]
theorem dg_small {k n:Nat} (h:n<128):dg k n=[(n:Int)]:=by
 cases k with
 | zero=>rfl
 | succ k=>unfold dg; rw [if_pos h]
theorem at_mid {α:Type} {p l:List α} {a:α} {i:Nat} (h:p.length=i):at? (p++a::l) (i:Int)=some a:=by
 subst h
 rw [zao (by simp)]
 simp
theorem slice_tail {α:Type} {p l:List α} {i:Nat} (h:p.length=i):slice? (p++l) (i:Int) ((p++l).length:Int)=some l:=by
 subst h
 unfold slice?
 rw [if_pos ⟨by omega,by simp only [yAr]; omega,yCr _⟩,Int.toNat_natCast,Int.toNat_natCast,yBq]
 simp
theorem num_loop {rest:List Int}:∀(k m i acc n N:Nat) (pre i0:List Int),i0=pre++(dg k m++rest)→pre.length=i→i+k=7→1≤i→1≤m→m<128 ^ (k+1)→n=acc+m * 2 ^ (7 * i)→n≤281474976710656→k<N →
  lpX (fun f2 (x1:Int×Int)=>
     if (x1.2 == 8)=true then
      (zah 200000 11).bind fun x3=>
      some (x3.1,x3.2.1,x3.2.2)
     else
      if (x1.2 == (i0.length:Int))=true then
       (zah 200000 10).bind fun x4=>
       some (x4.1,x4.2.1,x4.2.2)
      else
       (at? i0 x1.2).bind fun a5=>
       (rem? (IntKind.i64.wrap a5) 128).bind fun q6=>
       (shl? .i64 q6 (IntKind.i64.wrap (7 * x1.2))).bind fun q7=>
       if (decide ((IntKind.i64.wrap a5)≥128))=true then
        f2 ((IntKind.i64.wrap (x1.1+q7)),(IntKind.i64.wrap (x1.2+1)))
       else
        if (((decide ((IntKind.i64.wrap (x1.2+1)) > 1))&&((IntKind.i64.wrap a5) == 0)) || (decide ((IntKind.i64.wrap (x1.1+q7)) > 281474976710656)))=true then
         (zah 200000 11).bind fun x8=>
         some (x8.1,x8.2.1,x8.2.2)
        else
         (slice? i0 (IntKind.i64.wrap (x1.2+1)) (i0.length:Int)).bind fun z9=>
         some ((IntKind.i64.wrap (x1.1+q7)),z9,(0:Int))) N ((acc:Int),(i:Int))=some ((n:Int),rest,0):=by
 intro k
 induction k with
 | zero =>
  intro m i acc n N pre i0 e0 hp hik hi hm hlt hn hle hN
  match N,hN with
  | N + 1, _ =>
   have hm128:m<128:=by simpa using hlt
   rw [dg_small hm128] at e0
   have hlen:(i:Int)≠i0.length:=by subst e0 hp; simp; omega
   have hq:m * 2 ^ (7 * i)≤281474976710656:=by omega
   unfold lpX
   simp only []
   rw [if_neg (by simp; omega),if_neg (by simpa using hlen)]
   subst e0
   rw [show pre++([(m:Int)]++rest)=pre++(m:Int)::rest from rfl,at_mid hp,Option.bind_some,wr (x:=(m:Int)) (by omega) (by omega),rem128,Option.bind_some,yBH hm128,
    show (7 * (i:Int))=((7 * i:Nat):Int) by omega,wr (by omega) (by omega),shl_nat (by omega) hq,Option.bind_some,if_neg (by simp; omega),wr1 (show i<1000000 by omega)]
   rw [show ((acc:Int)+((m * 2 ^ (7 * i):Nat):Int))=(n:Int) by omega,wr (by omega) (by omega),if_neg (by simp; omega)]
   rw [show pre++(m:Int)::rest=(pre++[(m:Int)])++rest by simp,slice_tail (by simp [hp]),Option.bind_some]
 | succ k ih =>
  intro m i acc n N pre i0 e0 hp hik hi hm hlt hn hle hN
  match N,hN with
  | N + 1, hN =>
   have hq:m * 2 ^ (7 * i)≤281474976710656:=by omega
   by_cases hm128:m<128
   ·rw [dg_small hm128] at e0
    have hlen:(i:Int)≠i0.length:=by subst e0 hp; simp; omega
    unfold lpX
    simp only []
    rw [if_neg (by simp; omega),if_neg (by simpa using hlen)]
    subst e0
    rw [show pre++([(m:Int)]++rest)=pre++(m:Int)::rest from rfl,at_mid hp,Option.bind_some,wr (x:=(m:Int)) (by omega) (by omega),rem128,Option.bind_some,yBH hm128,
     show (7 * (i:Int))=((7 * i:Nat):Int) by omega,wr (by omega) (by omega),shl_nat (by omega) hq,Option.bind_some,if_neg (by simp; omega),wr1 (show i<1000000 by omega)]
    rw [show ((acc:Int)+((m * 2 ^ (7 * i):Nat):Int))=(n:Int) by omega,wr (by omega) (by omega),if_neg (by simp; omega)]
    rw [show pre++(m:Int)::rest=(pre++[(m:Int)])++rest by simp,slice_tail (by simp [hp]),Option.bind_some]
   ·have ed:dg (k+1) m=((m % 128+128:Nat):Int)::dg k (m / 128):=by rw [dg,if_neg hm128]
    rw [ed] at e0
    have hlen:(i:Int)≠i0.length:=by subst e0 hp; simp; omega
    have e1:(m % 128) * 2 ^ (7 * i)+(m / 128) * 2 ^ (7 * (i+1))=m * 2 ^ (7 * i):=by
     rw [Nat.mul_add 7 i 1,yBP,show (2:Nat) ^ (7 * 1)=128 from rfl,yCo (2 ^ (7 * i)) 128,←yCi,←yAY,yCo (m / 128) 128,Nat.mod_add_div]
    have hm':m<1000000000000 * 1000000:=by
     have:m * 1≤m * 2 ^ (7 * i):=Nat.mul_le_mul_left _ (Nat.one_le_two_pow)
     omega
    unfold lpX
    simp only []
    rw [if_neg (by simp; omega),if_neg (by simpa using hlen),e0,List.cons_append,at_mid hp,Option.bind_some,wr (x:=((m % 128+128:Nat):Int)) (by omega) (by omega),rem128,Option.bind_some,
     show (m % 128+128) % 128=m % 128 by omega,show (7 * (i:Int))=((7 * i:Nat):Int) by omega,wr (by omega) (by omega),shl_nat (by omega) (by omega),Option.bind_some,if_pos (by simp; omega),wr1 (show i<1000000 by omega)]
    rw [show ((acc:Int)+(((m % 128) * 2 ^ (7 * i):Nat):Int))=((acc+(m % 128) * 2 ^ (7 * i):Nat):Int) from rfl,wr (by omega) (by omega)]
    refine ih (m / 128) (i+1) (acc+(m % 128) * 2 ^ (7 * i)) n N (pre++[((m % 128+128:Nat):Int)]) _ (by simp) (by simp [hp]) (by omega) (by omega) (by omega) (pow_div hlt) (by omega) hle (by omega)
theorem number {x:Int} (h:Good x) (rest:List Int):zaa 200000 (eb x++rest) 0=some (x,rest,0):=by
 have h1:=h.1; have h2:=h.2
 have hlt:=h.lt
 obtain ⟨n,rfl⟩:∃n:Nat,x=(n:Int):=⟨x.toNat,by omega⟩
 unfold eb
 rw [Int.toNat_natCast] at hlt ⊢
 unfold zaa
 rw [if_neg (by simp)]
 by_cases hn:n<128
 ·rw [dg_small hn,if_neg (by simp; omega),show ([(n:Int)]++rest)=[]++(n:Int)::rest from rfl,show at? ([]++(n:Int)::rest) 0=some (n:Int) from at_mid rfl,Option.bind_some,wr (by omega) (by omega),rem128,Option.bind_some,yBH hn,
   show shl? .i64 (n:Int) 0=some ((n * 2 ^ 0:Nat):Int) from shl_nat (c:=0) (by omega) (by omega),Option.bind_some,if_neg (by simp; omega),show (0+((n * 2 ^ 0:Nat):Int))=(n:Int) by omega,wr (by omega) (by omega),if_neg (by simp; omega),
   show ([]++(n:Int)::rest)=[(n:Int)]++rest from rfl,show slice? ([(n:Int)]++rest) 1 _=some rest from slice_tail (p:=[(n:Int)]) (i:=1) rfl]
  rfl
 ·have ed:dg 7 n=((n % 128+128:Nat):Int)::dg 6 (n / 128):=by rw [dg,if_neg hn]
  rw [ed,if_neg (by simp; omega),show at? (((n % 128+128:Nat):Int)::dg 6 (n / 128)++rest) 0=some ((n % 128+128:Nat):Int) from at_mid (p:=[]) rfl,Option.bind_some,wr (by omega) (by omega),rem128,Option.bind_some,show (n % 128+128) % 128=n % 128 by omega,
   show shl? .i64 ((n % 128:Nat):Int) 0=some (((n % 128) * 2 ^ 0:Nat):Int) from shl_nat (c:=0) (by omega) (by omega),Option.bind_some,if_pos (by simp; omega),show (0+(((n % 128) * 2 ^ 0:Nat):Int))=((n % 128:Nat):Int) by omega,wr (by omega) (by omega)]
  exact num_loop 6 (n / 128) 1 (n % 128) n 200000 [((n % 128+128:Nat):Int)] _ rfl rfl (by omega) (by omega) (by omega) (pow_div hlt) (by omega) (by omega) (by omega)
theorem within {x lo hi:Int} (h:Good x) (hb:lo≤x∧x≤hi) (rest:List Int):zal 200000 lo hi (eb x++rest) 0=some (x,rest,0):=by
 unfold zal
 rw [number h,Option.bind_some]
 simp only []
 rw [if_neg (by simp),if_neg (by simp; omega)]
def listR {α:Type} (most:Int) (one:List Int→Int→Option (α×List Int×Int)) (l:List Int) (e:Int):Option (List α×List Int×Int):=
 (zal 200000 0 most l e).bind fun x7=>
  lpX (fun f9 (x8:Int×(List Int)×Int×List α)=>
   if (decide (x8.1<x7.1))=true then
    (one x8.2.1 x8.2.2.1).bind fun x10=>
    (app? x8.2.2.2 ([x10.1]:List α)).bind fun z11=>
    f9 ((IntKind.i64.wrap (x8.1+1)),x10.2.1,x10.2.2,z11)
   else
    some (x8.2.2.2,x8.2.1,x8.2.2.1)) 200000 (0,x7.2.1,x7.2.2,([]:List α))
theorem list_read {α:Type} {most:Int} {one:List Int→Int→Option (α×List Int×Int)} {g:α→List Int} {l:List α} (hm:(l.length:Int)≤most∧most≤1000) (h:∀a∈l,∀rest,one (bs (g a)++rest) 0=some (a,rest,0)) (rest:List Int) :
  listR most one (eb (l.length:Int)++(bs (l.flatMap g)++rest)) 0=some (l,rest,0):=by
 unfold listR
 rw [within (x:=(l.length:Int)) ⟨by omega,by omega⟩ (by omega),Option.bind_some]
 refine Ret.eq (lpS l.length (fun i x=>x=((i:Int),bs ((l.drop i).flatMap g)++rest,0,l.take i)) (fun i x f hi hx hr=>?_) (fun x f hx=>?_) (by simp) (by omega))
 ·subst hx
  simp only []
  rw [if_pos (zb5 hi),List.drop_eq_getElem_cons hi,yAQ,bs_app,yAw,h _ (yAo hi),Option.bind_some]
  simp only []
  rw [zbt (by simp; omega),Option.bind_some,wr1 (show i<1000000 by omega)]
  refine hr _ ?_
  rw [List.take_add_one,yAi hi]
  rfl
 ·subst hx
  simp only [zb7,yAg,yAy,zab,List.drop_length,List.flatMap_nil,bs_nil,List.nil_append,yBq]
end Go.Plain
end
section
namespace Go.Plain
open Go.Abs
theorem Good.tr (b:Bool):Good (tr b):=by cases b <;> exact ⟨by decide,by decide⟩
theorem truth_read (b:Bool) (rest:List Int):zau 200000 (eb (tr b)++rest) 0=some (b,rest,0):=by
 unfold zau
 rw [within (Good.tr b) (by cases b <;> exact ⟨by decide,by decide⟩),Option.bind_some]
 cases b <;> rfl
theorem vec_read {r:zac} (h1:Good r.Cpu) (h2:Good r.Mem) (h3:Good r.Gpu) (h4:Good r.Lic) (rest:List Int) :
  zaA 200000 (eb r.Cpu++(eb r.Mem++(eb r.Gpu++(eb r.Lic++rest)))) 0=some (r,rest,0):=by
 unfold zaA
 simp only [number h1,number h2,number h3,number h4,Option.bind_some]
theorem dep_read {d:zct} (h:∀x∈depN d,Good x) (rest:List Int):zaP 200000 (bs (depN d)++rest) 0=some (d,rest,0):=by
 unfold zaP depN
 simp only [bs_cons,bs_nil,yAw,List.nil_append,number (h d.Job (by simp [depN])),truth_read,Option.bind_some]
theorem part_read {d:zaj} (h:∀x∈partN d,Good x) (rest:List Int):zaM 200000 (bs (partN d)++rest) 0=some (d,rest,0):=by
 unfold zaM partN
 simp only [bs_cons,bs_nil,yAw,List.nil_append,number (h d.Node (by simp [partN])),number (h d.Many (by simp [partN])),Option.bind_some]
theorem book_read {d:zak} (h:∀x∈bookN d,Good x) (rest:List Int):zaD 200000 (bs (bookN d)++rest) 0=some (d,rest,0):=by
 unfold zaD bookN
 simp only [bs_cons,bs_nil,yAw,List.nil_append,number (h d.Id (by simp [bookN])),number (h d.Node (by simp [bookN])),number (h d.From (by simp [bookN])),number (h d.To (by simp [bookN])),Option.bind_some]
theorem job_eq (i0:List Int) (i1:Int):zaO 200000 i0 i1 =
 (zaa 200000 i0 i1).bind fun x1=>
 (zaa 200000 x1.2.1 x1.2.2).bind fun x2=>
 (zaa 200000 x2.2.1 x2.2.2).bind fun x3=>
 (zaa 200000 x3.2.1 x3.2.2).bind fun x4=>
 (zaA 200000 x4.2.1 x4.2.2).bind fun x5=>
 (zaa 200000 x5.2.1 x5.2.2).bind fun x6=>
 (listR 4 (zaP 200000) x6.2.1 x6.2.2).bind fun x12=>
 (zaa 200000 x12.2.1 x12.2.2).bind fun x13=>
 (zau 200000 x13.2.1 x13.2.2).bind fun x14=>
 (zau 200000 x14.2.1 x14.2.2).bind fun x15=>
 (zaa 200000 x15.2.1 x15.2.2).bind fun x16=>
 (zaa 200000 x16.2.1 x16.2.2).bind fun x17=>
 (zaa 200000 x17.2.1 x17.2.2).bind fun x18=>
 (zaa 200000 x18.2.1 x18.2.2).bind fun x19=>
 (zaa 200000 x19.2.1 x19.2.2).bind fun x20=>
 some (({ Id:=x1.1,User:=x2.1,Queue:=x3.1,Many:=x4.1,Need:=x5.1,Wall:=x6.1,After:=x12.1,State:=x13.1,Ok:=x14.1,Kill:=x15.1,Version:=x16.1,Born:=x17.1,Start:=x18.1,End:=x19.1,Array:=x20.1 }:zam),x20.2.1,x20.2.2):=rfl
theorem job_read {j:zam} (h:∀x∈jobN j,Good x) (ha:j.After.length≤4) (rest:List Int):zaO 200000 (bs (jobN j)++rest) 0=some (j,rest,0):=by
 have g:∀d∈j.After,∀x∈depN d,Good x:=fun d hd x hx=>h x (by
  unfold jobN
  exact yB6 _ (yBB _ (yBx.2 ⟨d,hd,hx⟩)))
 rw [job_eq]
 have L:=fun r=>list_read (most:=4) (one:=zaP 200000) (g:=depN) (l:=j.After) ⟨by omega,by omega⟩ (fun a ha r=>dep_read (g a ha) r) r
 unfold jobN
 simp only [bs_app,bs_cons,bs_nil,yAw,List.nil_append]
 simp only [number (h j.Id (by simp [jobN])),number (h j.User (by simp [jobN])),number (h j.Queue (by simp [jobN])),number (h j.Many (by simp [jobN])),vec_read (h j.Need.Cpu (by simp [jobN])) (h j.Need.Mem (by simp [jobN])) (h j.Need.Gpu (by simp [jobN])) (h j.Need.Lic (by simp [jobN])),number (h j.Wall (by simp [jobN])),L,number (h j.State (by simp [jobN])),truth_read,number (h j.Version (by simp [jobN])),number (h j.Born (by simp [jobN])),number (h j.Start (by simp [jobN])),number (h j.End (by simp [jobN])),number (h j.Array (by simp [jobN])),Option.bind_some]
theorem alloc_eq (i0:List Int) (i1:Int):zaH 200000 i0 i1 =
 (zaa 200000 i0 i1).bind fun x1=>
 (zaA 200000 x1.2.1 x1.2.2).bind fun x2=>
 (listR 16 (zaM 200000) x2.2.1 x2.2.2).bind fun x8=>
 some (({ Job:=x1.1,Need:=x2.1,Shares:=x8.1 }:zag),x8.2.1,x8.2.2):=rfl
theorem alloc_read {a:zag} (h:∀x∈zcP a,Good x) (ha:a.Shares.length≤16) (rest:List Int):zaH 200000 (bs (zcP a)++rest) 0=some (a,rest,0):=by
 have g:∀d∈a.Shares,∀x∈partN d,Good x:=fun d hd x hx=>h x (by
  unfold zcP
  exact yBB _ (yBx.2 ⟨d,hd,hx⟩))
 rw [alloc_eq]
 have L:=fun r=>list_read (most:=16) (one:=zaM 200000) (g:=partN) (l:=a.Shares) ⟨by omega,by omega⟩ (fun a ha r=>part_read (g a ha) r) r
 unfold zcP
 simp only [bs_app,bs_cons,bs_nil,yAw,List.nil_append]
 simp only [number (h a.Job (by simp [zcP])),vec_read (h a.Need.Cpu (by simp [zcP])) (h a.Need.Mem (by simp [zcP])) (h a.Need.Gpu (by simp [zcP])) (h a.Need.Lic (by simp [zcP])),L,Option.bind_some]
theorem state_eq (i0:List Int) (i1:Int):zaS 200000 i0 i1 =
 (zaa 200000 i0 i1).bind fun x1=>
 (zaa 200000 x1.2.1 x1.2.2).bind fun x2=>
 (zaa 200000 x2.2.1 x2.2.2).bind fun x3=>
 (listR 256 (zaO 200000) x3.2.1 x3.2.2).bind fun x9=>
 (listR 256 (zaH 200000) x9.2.1 x9.2.2).bind fun x15=>
 (listR 16 (zaD 200000) x15.2.1 x15.2.2).bind fun x21=>
 (listR 8 (zaa 200000) x21.2.1 x21.2.2).bind fun x42=>
 (listR 8 (zaa 200000) x42.2.1 x42.2.2).bind fun x63=>
 (zaa 200000 x63.2.1 x63.2.2).bind fun x64=>
 some (({ Now:=x1.1,Next:=x2.1,Book:=x3.1,Jobs:=x9.1,Allocs:=x15.1,Books:=x21.1,Use:=x42.1,Stamps:=({ Queues:=x63.1,Nodes:=x64.1 }:zcE) }:zae),x64.2.1,x64.2.2):=rfl
theorem flat_one (l:List Int):l.flatMap (fun x=>[x])=l:=by
 induction l with
 | nil=>rfl
 | cons a l ih=>rw [yAQ,ih]; rfl
theorem ints_read {l:List Int} (h:∀x∈l,Good x) (hl:l.length≤8) (rest:List Int):listR 8 (zaa 200000) (eb (l.length:Int)++(bs l++rest)) 0=some (l,rest,0):=by
 have L:=list_read (most:=8) (one:=zaa 200000) (g:=fun x=>[x]) (l:=l) ⟨by omega,by omega⟩ (fun a ha r=>by
  rw [bs_cons,bs_nil,yBi]; exact number (h a ha) r) rest
 rw [flat_one] at L
 exact L
theorem state_read {st:zae} (S:Small st) (h:∀x∈zbQ st,Good x) (rest:List Int):zaS 200000 (bs (zbQ st)++rest) 0=some (st,rest,0):=by
 have h1:=S.jobs; have h2:=S.allocs; have h3:=S.books; have h4:=S.use; have h5:=S.stamps
 have gj:∀d∈st.Jobs,∀x∈jobN d,Good x:=fun d hd x hx=>h x (by
  have:x∈st.Jobs.flatMap jobN:=yBx.2 ⟨d,hd,hx⟩
  simp only [zbQ,yA7,this,true_or,or_true])
 have ga:∀d∈st.Allocs,∀x∈zcP d,Good x:=fun d hd x hx=>h x (by
  have:x∈st.Allocs.flatMap zcP:=yBx.2 ⟨d,hd,hx⟩
  simp only [zbQ,yA7,this,true_or,or_true])
 have gb:∀d∈st.Books,∀x∈bookN d,Good x:=fun d hd x hx=>h x (by
  have:x∈st.Books.flatMap bookN:=yBx.2 ⟨d,hd,hx⟩
  simp only [zbQ,yA7,this,true_or,or_true])
 have gu:∀x∈st.Use,Good x:=fun x hx=>h x (by simp only [zbQ,yA7,hx,true_or,or_true])
 have gq:∀x∈st.Stamps.Queues,Good x:=fun x hx=>h x (by simp only [zbQ,yA7,hx,true_or,or_true])
 have L1:=fun r=>list_read (most:=256) (one:=zaO 200000) (g:=jobN) (l:=st.Jobs) ⟨by omega,by omega⟩ (fun a ha r=>job_read (gj a ha) (S.after a ha) r) r
 have L2:=fun r=>list_read (most:=256) (one:=zaH 200000) (g:=zcP) (l:=st.Allocs) ⟨by omega,by omega⟩ (fun a ha r=>alloc_read (ga a ha) (S.shares a ha) r) r
 have L3:=fun r=>list_read (most:=16) (one:=zaD 200000) (g:=bookN) (l:=st.Books) ⟨by omega,by omega⟩ (fun a ha r=>book_read (gb a ha) r) r
 rw [state_eq]
 unfold zbQ
 simp only [bs_app,bs_cons,bs_nil,yAw,List.nil_append]
 simp only [number (h st.Now (by simp [zbQ])),number (h st.Next (by simp [zbQ])),number (h st.Book (by simp [zbQ])),L1,L2,L3,ints_read gu h4,ints_read gq h5,number (h st.Stamps.Nodes (by simp [zbQ])),Option.bind_some]
theorem Rises.len {l:List Int} {n:Int} (h:Rises l n):(l.length:Int)≤n∨l=[]:=by
 have:∀i (hi:i<l.length),(i:Int)≤l[i]:=by
  intro i
  induction i with
  | zero=>intro hi; exact (h.mem _ (yAo hi)).1
  | succ i ih=>intro hi; have:=(h (i+1) hi).1; rw [prv_succ (by omega)] at this; have:=ih (by omega); omega
 cases l with
 | nil=>exact .inr rfl
 | cons a l =>
  have h1:=this l.length (by simp)
  have h2:=(h l.length (by simp)).2
  left
  rw [List.length_cons]
  omega
theorem AllocsH.len {s:zad} {st:zae} {H:List zam} {A:List zag} {F:List zac} (h:AllocsH s st H A F):A.length=H.length:=by
 induction H generalizing A F with
 | nil=>rw [show A=[] from h]; rfl
 | cons j H ih =>
  obtain ⟨b,A',rfl,h1,h2,h3⟩:=h
  rw [List.length_cons,List.length_cons,ih h3]
theorem sound_small {s:zad} {st:zae} (h:SoundOk s st):Small st:=by
 have k:=h.spec
 have hn:=k.nodes.hi
 refine ⟨?_,fun j hj=>(h.jobs.each j hj).ok.afterN,?_,fun a ha=>?_,h.booked.1.len,?_,?_⟩
 ·have:=h.jobs.len; have:=k.jobs; omega
 ·have h1:=AllocsH.len h.allocs
  have h2:=List.length_filter_le hasJ st.Jobs
  have:=h.jobs.len; have:=k.jobs; omega
 ·obtain ⟨j,_,hp⟩:=h.allocs.mem a ha
  rcases hp.suits.shares.node.len with h1 | h1
  ·rw [yA2] at h1; omega
  ·rw [List.map_eq_nil_iff] at h1; rw [h1]; simp
 ·have:=h.use.len; have:=k.users; omega
 ·have:=h.use.qlen; have:=k.queues.hi; omega
theorem sound_good {s:zad} {st:zae} (h:SoundOk s st):∀x∈zbQ st,Good x:=by
 have S:=sound_small h
 have k:=h.spec
 have hn:=k.nodes.hi; have hi:=k.ids
 have hm:=h.nums
 have m1:=S.jobs; have m2:=S.allocs; have m3:=S.books; have m4:=S.use; have m5:=S.stamps
 have e0:=hm.now; have e1:=hm.next; have e2:=hm.book
 have J:∀j∈st.Jobs,∀x∈jobN j,Good x:=fun j hj x hx=>by
  have o:=(h.jobs.each j hj).ok
  have o1:=o.id; have o2:=o.user; have o3:=o.queue; have o4:=o.many; have o5:=o.need; have o6:=o.wall; have o7:=o.afterN; have o8:=o.after; have o9:=o.version; have p1:=o.born; have p2:=o.start; have p3:=o.fin; have p4:=o.arr; have p5:=o.state.st
  have q1:=o5.cpu; have q2:=o5.mem; have q3:=o5.gpu; have q4:=o5.lic
  simp only [jobN,yA7,yAt,yBd,yCc,yBx] at hx
  rcases hx with ((rfl | rfl | rfl | rfl | rfl | rfl | rfl | rfl | rfl | rfl) | ⟨d,hd,hx⟩) | (rfl | rfl | rfl | rfl | rfl | rfl | rfl | rfl)
  all_goals try exact Good.tr _
  all_goals try (exact ⟨by omega,by omega⟩)
  have:=o8 d hd
  simp only [depN,yAt,yBd,yCc] at hx
  rcases hx with rfl | rfl
  ·exact ⟨by omega,by omega⟩
  ·exact Good.tr _
 have A:∀a∈st.Allocs,∀x∈zcP a,Good x:=fun a ha x hx=>by
  obtain ⟨j,hj,hp⟩:=h.allocs.mem a ha
  have o:=(h.jobs.each j hj).ok
  have o1:=o.id; have e:=hp.job; have e':=hp.need; have o5:=o.need
  rw [←e'] at o5
  have q1:=o5.cpu; have q2:=o5.mem; have q3:=o5.gpu; have q4:=o5.lic
  have sl:=S.shares a ha
  simp only [zcP,yA7,yAt,yBd,yCc,yBx] at hx
  rcases hx with (rfl | rfl | rfl | rfl | rfl | rfl) | ⟨d,hd,hx⟩
  all_goals try (exact ⟨by omega,by omega⟩)
  have:=hp.suits.shares.mem d hd
  simp only [partN,yAt,yBd,yCc] at hx
  rcases hx with rfl | rfl
  ·exact ⟨by omega,by omega⟩
  ·exact ⟨by omega,by omega⟩
 have B:∀a∈st.Books,∀x∈bookN a,Good x:=fun a ha x hx=>by
  obtain ⟨i,hi',rfl⟩:=yAD ha
  have o:=(h.booked.1.each i hi').one
  have o1:=o.id; have o2:=o.node; have o3:=o.lo; have o4:=o.span; have o5:=o.hi
  simp only [bookN,yAt,yBd,yCc] at hx
  rcases hx with rfl | rfl | rfl | rfl
  all_goals exact ⟨by omega,by omega⟩
 intro x hx
 simp only [zbQ,yA7,yAt,yBd,yCc,yBx] at hx
 have un:=h.use.nodes
 rcases hx with ((((((((((rfl | rfl | rfl | rfl) | ⟨j,hj,hx⟩) | rfl) | ⟨j,hj,hx⟩) | rfl) | ⟨j,hj,hx⟩) | rfl) | hx) | rfl) | hx) | rfl
 all_goals try (exact ⟨by omega,by omega⟩)
 ·exact J j hj x hx
 ·exact A j hj x hx
 ·exact B j hj x hx
 ·have:=h.use.use x hx; exact ⟨by omega,by omega⟩
 ·have:=h.use.stamps x hx; exact ⟨by omega,by omega⟩
end Go.Plain
end
section
namespace Go.Plain
open Go.Abs
theorem beq_dep (a:zct):zct.beq a a=true:=by simp [zct.beq]
theorem beq_share (a:zaj):zaj.beq a a=true:=by simp [zaj.beq]
theorem beq_book (a:zak):zak.beq a a=true:=by simp [zak.beq]
theorem beq_res' (a:zac):zac.beq a a=true:=beq_res.2 rfl
theorem lpT {α:Type} {b:(Int→Option Bool)→Int→Option Bool} (l:List α) (hs:∀(i:Nat) (f:Int→Option Bool) (h:i<l.length),b f (i:Int)=f ((i+1:Nat):Int)) (he:∀f,b f (l.length:Int)=some true) {N:Nat} (hN:l.length<N):lpX b N 0=some true:=
 Ret.eq (lpA l (fun _ _=>True) (fun i f h _ hr=>by rw [hs i f h]; exact hr trivial) (fun f _=>by rw [he]; exact ⟨_,rfl,rfl⟩) hN)
theorem same_ints (l:List Int) (hl:l.length≤300):zbN 200000 l l=some true:=by
 unfold zbN
 rw [if_neg (by simp)]
 refine lpT l (fun i f h=>?_) (fun f=>?_) (by omega)
 ·simp only [zb5 h,if_true,zao h,Option.bind_some,wr1 (show i<1000000 by omega),bne_self_eq_false,yAg,yAy]
 ·simp only [zb7,yAg,yAy]
theorem same_job (j:zam) (hl:j.After.length≤300):zcL 200000 j j=some true:=by
 unfold zcL
 rw [if_neg (by simp)]
 refine lpT j.After (fun i f h=>?_) (fun f=>?_) (by omega)
 ·simp only [zb5 h,if_true,zao h,Option.bind_some,wr1 (show i<1000000 by omega),beq_dep,yBa,yAg,yAy]
 ·simp only [zb7,yAg,yAy,yCb,beq_res',yBG]
theorem same_jobs (l:List zam) (hl:l.length≤300) (ha:∀j∈l,j.After.length≤10):zcA 200000 l l=some true:=by
 unfold zcA
 rw [if_neg (by simp)]
 refine lpT l (fun i f h=>?_) (fun f=>?_) (by omega)
 ·have:=ha _ (yAo h)
  simp only [zb5 h,if_true,zao h,Option.bind_some,wr1 (show i<1000000 by omega),same_job l[i] (by omega),yBa,yAg,yAy]
 ·simp only [zb7,yAg,yAy]
theorem same_shares (l:List zaj) (hl:l.length≤300):zcD 200000 l l=some true:=by
 unfold zcD
 rw [if_neg (by simp)]
 refine lpT l (fun i f h=>?_) (fun f=>?_) (by omega)
 ·simp only [zb5 h,if_true,zao h,Option.bind_some,wr1 (show i<1000000 by omega),beq_share,yBa,yAg,yAy]
 ·simp only [zb7,yAg,yAy]
theorem same_allocs (l:List zag) (hl:l.length≤300) (ha:∀a∈l,a.Shares.length≤300):zcF 200000 l l=some true:=by
 unfold zcF
 rw [if_neg (by simp)]
 refine lpT l (fun i f h=>?_) (fun f=>?_) (by omega)
 ·have:=ha _ (yAo h)
  simp only [zbh,zb5 h,if_true,zao h,Option.bind_some,wr1 (show i<1000000 by omega),bne_self_eq_false,beq_res',same_shares l[i].Shares this,yBa,yAg,yAy]
 ·simp only [zb7,yAg,yAy]
theorem same_books (l:List zak) (hl:l.length≤300):zcJ 200000 l l=some true:=by
 unfold zcJ
 rw [if_neg (by simp)]
 refine lpT l (fun i f h=>?_) (fun f=>?_) (by omega)
 ·simp only [zb5 h,if_true,zao h,Option.bind_some,wr1 (show i<1000000 by omega),beq_book,yBa,yAg,yAy]
 ·simp only [zb7,yAg,yAy]
theorem same_state {s:zad} {st:zae} (hw:FewW s st):zcG 200000 st st=some true:=by
 have h1:=hw.jobs; have h2:=hw.use; have h3:=hw.stamps; have h4:=hw.books
 unfold zcG
 rw [if_pos (by simp),same_jobs _ (by omega) hw.after,Option.bind_some,if_pos rfl,same_allocs _ hw.allocs hw.sh,Option.bind_some,if_pos rfl,same_books _ (by omega),Option.bind_some,if_pos rfl,same_ints _ (by omega),Option.bind_some,if_pos rfl,same_ints _ (by omega),Option.bind_some]
 simp
theorem same_bytes (l:List Int) (hl:l.length<200000):zbx 200000 l l=some true:=by
 unfold zbx
 rw [if_neg (by simp)]
 refine lpT l (fun i f h=>?_) (fun f=>?_) hl
 ·simp only [zb5 h,if_true,zao h,Option.bind_some,wr1 (show i<1000000 by omega),bne_self_eq_false,yAg,yAy]
 ·simp only [zb7,yAg,yAy]
theorem img_awake:drayagelaw50xawake 200000=some true:=by kernel_rfl
theorem mod_good {x:Int}:Good (x % 65521):=⟨by omega,by omega⟩
theorem one_bs {x:Int}:bs [x]=eb x:=by rw [bs_cons,bs_nil,yBi]
def bytesOf (st:zae):List Int:=bs (zbQ st)
def sumOf (st:zae):Int:=chk (bytesOf st) (bytesOf st).length % 65521
theorem bytesOf_len {st:zae} (S:Small st):(bytesOf st).length≤136000:=by
 have:=stateN_len S
 have:=bs_len (zbQ st)
 unfold bytesOf; omega
theorem write_ok {s:zad} {st:zae} (hw:FewW s st) (h:SoundOk s st):zde 200000 s st=some (bytesOf st++eb (sumOf st),0):=by
 have S:=sound_small h
 have G:=sound_good h
 have hl:=stateN_len S
 have hb:=bytesOf_len S
 unfold zde
 obtain ⟨r,e,hr⟩:=sound_ok hw
 rw [e,Option.bind_some,hr.2 h,if_neg (by simp),img_numbers S,Option.bind_some,codec_put (by omega) (by simp) G,Option.bind_some,List.nil_append]
 simp only []
 rw [if_neg (by simp),img_check (bs_byte G) (show (bs (zbQ st)).length<200000 from Nat.lt_of_le_of_lt hb (by omega)),Option.bind_some,codec_put_o (by simp) (show (bs (zbQ st)).length≤199990 from yAB hb (by omega)) (fun x hx=>by
  rw [yAO] at hx; subst hx; exact mod_good),Option.bind_some]
 simp only []
 rw [if_neg (by simp),one_bs]
 rfl
theorem write_no {s:zad} {st:zae} (hw:FewW s st) (h:¬SoundOk s st):zde 200000 s st=some ([],2):=by
 unfold zde
 obtain ⟨r,e,hr⟩:=sound_ok hw
 have:r=false:=by cases r with
  | false=>rfl
  | true=>exact absurd (hr.1 rfl) h
 subst this
 rw [e,Option.bind_some,if_pos (by simp)]
theorem ref_write {s:zad} {st:zae} (h:SoundOk s st):zcd 200000 st=some (bytesOf st++eb (sumOf st)):=by
 have S:=sound_small h
 have G:=sound_good h
 have hl:=stateN_len S
 have hb:=bytesOf_len S
 have h8:=eb_len (sumOf st)
 unfold zcd
 rw [ref_numbers S,Option.bind_some,ref_put (by omega) G,Option.bind_some,ref_check (bs_byte G) (show (bs (zbQ st)).length<200000 from Nat.lt_of_le_of_lt hb (by omega)),Option.bind_some,ref_eb mod_good,Option.bind_some]
 have:=zbt (l:=bytesOf st) (m:=eb (sumOf st)) (by omega)
 rw [show app? (bs (zbQ st)) (eb (chk (bs (zbQ st)) (bs (zbQ st)).length % 65521))=some (bytesOf st++eb (sumOf st)) from this,Option.bind_some]
theorem slice_head {l m:List Int} {x:Int} (h:x=(l.length:Int)):slice? (l++m) 0 x=some l:=by
 subst h
 unfold slice?
 rw [if_pos ⟨by omega,by omega,by simp only [yAr]; omega⟩,Int.toNat_natCast]
 simp
theorem read_ok {s:zad} {st:zae} (hw:FewW s st) (h:SoundOk s st):image_Read 200000 s (bytesOf st++eb (sumOf st))=some (st,0):=by
 have S:=sound_small h
 have G:=sound_good h
 have hb:=bytesOf_len S
 have h8:=eb_len (sumOf st)
 unfold image_Read
 rw [spec_true hw.spec h.spec,Option.bind_some,if_neg (by simp),
  show codec_New_o0c64 200000 (bytesOf st++eb (sumOf st))=some (bytesOf st++eb (sumOf st),0) by
   unfold codec_New_o0c64
   rw [show bytes_Clone 200000 (bytesOf st++eb (sumOf st))=some _ from app_nil (by rw [yAr]; omega),Option.bind_some],Option.bind_some]
 simp only []
 rw [show zaS 200000 (bytesOf st++eb (sumOf st)) 0=some (st,eb (sumOf st),0) from state_read S G _,Option.bind_some]
 simp only [zbr,zbj,Option.bind_some]
 rw [if_neg (by simp),wr (by rw [yAr]; omega) (by rw [yAr]; omega),slice_head (by rw [yAr]; omega),Option.bind_some,show zcy 200000 (bytesOf st)=some (sumOf st) from img_check (bs_byte G) (Nat.lt_of_le_of_lt hb (by omega)),Option.bind_some,zbh]
 have W:=within (x:=sumOf st) mod_good ⟨yCr _,yCr _⟩ []
 rw [yBi] at W
 rw [W,Option.bind_some]
 simp only []
 obtain ⟨r,e,hr⟩:=sound_ok hw
 have:=hr.2 h
 subst this
 rw [if_neg (by simp),show zb8 200000 [] 0=some 0 from rfl,Option.bind_some,if_neg (by simp),e,Option.bind_some]
 rfl
theorem imageWrites (w:zca) (b:List Int) (hb:∀x∈b,0≤x∧x≤255):zbO 200000 w b=some true:=by
 obtain ⟨s,st⟩:=w
 refine Ret.eq ?_
 unfold zbO
 rw [img_awake,Option.bind_some,if_neg (by simp)]
 refine (few23 s st).bind fun r hr=>?_
 rw [zaf]
 refine ⟨fun _=>zab.2 rfl,fun hn=>?_⟩
 simp only [yAu,yAv,yAf,not_or,yA0] at hn
 have hw:=hr hn.1
 have hl:b.length≤2000:=by omega
 by_cases h:SoundOk s st
 ·rw [write_ok hw h,Option.bind_some,img_check hb (by omega),Option.bind_some,ref_check hb (by omega),Option.bind_some,if_neg (by simp)]
  obtain ⟨r,e,hr⟩:=ref_sound hw
  have:=hr.2 h
  subst this
  have S:=sound_small h
  have hb':=bytesOf_len S
  have h8:=eb_len (sumOf st)
  simp only []
  rw [e,Option.bind_some,if_neg (by simp),read_ok hw h,Option.bind_some,if_pos (by simp),ref_write h,Option.bind_some,same_bytes _ (by rw [yAr]; omega),Option.bind_some,if_pos (by simp),same_state hw,Option.bind_some,zab]
 ·rw [write_no hw h,Option.bind_some,img_check hb (by omega),Option.bind_some,ref_check hb (by omega),Option.bind_some,if_neg (by simp)]
  obtain ⟨r,e,hr⟩:=ref_sound hw
  have:r=false:=by cases r with
   | false=>rfl
   | true=>exact absurd (hr.1 rfl) h
  subst this
  simp only []
  rw [e,Option.bind_some,if_pos (by simp),zab]
  rfl
end Go.Plain
end
