/- TyPA, TyPB, TyPC, TyPD, TyS1, TyS2, TyS3, TyS4 -/
import Derived.Test.YtgneliafoejmeaaGreatLawA
set_option linter.all false
section
namespace Go.Plain
open Go.Abs
def usedC (A:List zab) (i:Int) (c:Nat):Int:=(A.map fun a=>onV a.Shares i * cmp c a.Need).sum
theorem usedC_cons {a:zab} {A:List zab} {i:Int} {c:Nat}:usedC (a::A) i c=onV a.Shares i * cmp c a.Need+usedC A i c:=by simp [usedC]
theorem usedC_take {A:List zab} {k:Nat} (h:k<A.length) (i:Int) (c:Nat):usedC (A.take (k+1)) i c=usedC (A.take k) i c+onV A[k].Shares i * cmp c A[k].Need:=by
  rw [List.take_succ_eq_append_getElem h]
  simp only [usedC,List.map_append,List.map_cons,List.map_nil,List.sum_append,List.sum_cons,List.sum_nil]
  omega
def GoodA (n:Int) (A:List zab):Prop:=∀a∈A,SharesOk a.Shares n∧VecOk a.Need
theorem one_bd {n:Int} {a:zab} (h:SharesOk a.Shares n∧VecOk a.Need) (i:Int) (c:Nat):0≤onV a.Shares i * cmp c a.Need∧onV a.Shares i * cmp c a.Need≤67108864:=
  mul_bd (onV_one h.1 i) (vec_iff.1 h.2 c)
theorem used_bd {n:Int} {A:List zab} (h:GoodA n A) (i:Int) (c:Nat):0≤usedC A i c∧usedC A i c≤67108864 * A.length:=by
  induction A with
  | nil=>simp [usedC]
  | cons a A ih =>
    have h1:=ih fun b hb=>h b (List.mem_cons_of_mem _ hb)
    have h2:=one_bd (h a (List.mem_cons_self ..)) i c
    rw [usedC_cons,List.length_cons]
    omega
def TotFit (F:List zaa) (A:List zab):Prop:=∀i (h:i<F.length) c,usedC A i c≤cmp c F[i]
theorem ref_times {a:zaa} {n:Int} (ha:VecOk a) (hn:0≤n∧n≤64):zcH 1000 a n=some (mulR n a):=by
  obtain ⟨m,rfl⟩:∃m:Nat,n=(m:Int):=⟨n.toNat,by omega⟩
  unfold zcH
  refine Ret.eq (lpS m (fun k x=>x=((k:Int),(k:Int) * a.Cpu,(k:Int) * a.Mem,(k:Int) * a.Gpu,(k:Int) * a.Lic)) (fun k x f hk hx hr=>?_) (fun x f hx=>?_) (by simp) (by omega))
  · subst hx
    have b1:=mul_bd (n:=((k+1:Nat):Int)) (by omega) ha.cpu
    have b2:=mul_bd (n:=((k+1:Nat):Int)) (by omega) ha.mem
    have b3:=mul_bd (n:=((k+1:Nat):Int)) (by omega) ha.gpu
    have b4:=mul_bd (n:=((k+1:Nat):Int)) (by omega) ha.lic
    have e:∀x:Int,((k+1:Nat):Int) * x=(k:Int) * x+x:=fun x=>by rw [Int.natCast_add,Int.add_mul]; simp
    rw [e] at b1 b2 b3 b4
    simp only [zdw hk,if_true,zbB,Option.bind_some,wr1 (show k<1000000 by omega)]
    refine hr _ ?_
    rw [wr (x:=(k:Int) * a.Cpu+a.Cpu) (by omega) (by omega),wr (x:=(k:Int) * a.Mem+a.Mem) (by omega) (by omega),wr (x:=(k:Int) * a.Gpu+a.Gpu) (by omega) (by omega),wr (x:=(k:Int) * a.Lic+a.Lic) (by omega) (by omega),e,e,e,e]
  · subst hx
    simp only [zdv,Bool.false_eq_true,if_false,zae]
    rfl
theorem fits_cmp (a b:zaa):za8 (zaw 1000 a b) (∀c,cmp c a≤cmp c b):=by
  simp only [zaw,za8,zae,Bool.and_eq_true,decide_eq_true_eq]
  constructor
  · intro h c
    match c with
    | 0=>exact h.1.1.1
    | 1=>exact h.1.1.2
    | 2=>exact h.1.2
    | _+3=>exact h.2
  · intro h
    exact ⟨⟨⟨h 0,h 1⟩,h 2⟩,h 3⟩
theorem ref_left {F:List zaa} {A:List zab} (hF:F.length≤300) (hA:A.length≤300) (hs:∀a∈A,a.Shares.length≤300) {n:Int} (h:GoodA n A):Ret (zdl 1000 F A) fun r=>r.2=true↔TotFit F A:=by
  unfold zdl
  refine lpS F.length (fun i x=>(x.1=true↔∀m (h:m<F.length),m<i→∀c,usedC A m c≤cmp c F[m])∧x.2.1=(i:Int)∧x.2.2.length=i) (fun i x f hi hx hr=>?_) (fun x f hx=>?_) ⟨⟨fun _ m h h'=>by omega,fun _=>rfl⟩,rfl,rfl⟩ (by omega)
  · obtain ⟨x1,x2,x3⟩:=x
    obtain ⟨h1,h2,h3⟩:=hx
    dsimp only at h1 h2 h3
    subst h2
    simp only [zdw hi,if_true]
    refine lpS A.length (fun k y=>y=((k:Int),usedC (A.take k) i 0,usedC (A.take k) i 1,usedC (A.take k) i 2,usedC (A.take k) i 3)) (fun k y g hk hy hg=>?_) (fun y g hy=>?_) (by simp [usedC]) (by omega)
    · subst hy
      have ak:=h _ (List.getElem_mem hk)
      have gk:GoodA n (A.take (k+1)):=fun a ha=>h a (List.mem_of_mem_take ha)
      have lk:((A.take (k+1)).length:Int)≤300:=by rw [List.length_take]; omega
      have b0:=used_bd gk i 0; have b1:=used_bd gk i 1; have b2:=used_bd gk i 2; have b3:=used_bd gk i 3
      rw [usedC_take hk] at b0 b1 b2 b3
      simp only [zdw hk,if_true,zam hk,Option.bind_some,ref_on (hs _ (List.getElem_mem hk)) ak.1,ref_times ak.2 (onV_one ak.1 i),zbB,wr1 (show k<1000000 by omega)]
      refine hg _ ?_
      rw [usedC_take hk,usedC_take hk,usedC_take hk,usedC_take hk]
      have e0:(mulR (onV A[k].Shares i) A[k].Need).Cpu=onV A[k].Shares i * cmp 0 A[k].Need:=rfl
      have e1:(mulR (onV A[k].Shares i) A[k].Need).Mem=onV A[k].Shares i * cmp 1 A[k].Need:=rfl
      have e2:(mulR (onV A[k].Shares i) A[k].Need).Gpu=onV A[k].Shares i * cmp 2 A[k].Need:=rfl
      have e3:(mulR (onV A[k].Shares i) A[k].Need).Lic=onV A[k].Shares i * cmp 3 A[k].Need:=rfl
      rw [e0,e1,e2,e3,wr (x:=_+onV A[k].Shares i * cmp 0 A[k].Need) (by omega) (by omega),wr (x:=_+onV A[k].Shares i * cmp 1 A[k].Need) (by omega) (by omega),wr (x:=_+onV A[k].Shares i * cmp 2 A[k].Need) (by omega) (by omega),wr (x:=_+onV A[k].Shares i * cmp 3 A[k].Need) (by omega) (by omega)]
    · subst hy
      have ap:∀z:zaa,app? x3 [z]=some (x3++[z]):=fun z=>app_ok (by simp only [List.length_singleton]; omega)
      simp only [zdv,Bool.false_eq_true,if_false,zbn,zam hi,Option.bind_some,drayageref02xSub,ap,wr1 (show i<1000000 by omega),List.take_length]
      rw [zaf]
      refine ⟨fun hx1=>?_,fun hx1=>?_⟩
      · refine (fits_cmp _ _).bind fun r hr1=>?_
        refine hr _ ⟨?_,rfl,by simp only [List.length_append,List.length_singleton]; omega⟩
        dsimp only
        rw [hr1]
        have ec:∀c,cmp c ({ Cpu:=usedC A i 0,Mem:=usedC A i 1,Gpu:=usedC A i 2,Lic:=usedC A i 3 }:zaa)=usedC A i (min c 3):=fun c=>by
          match c with
          | 0=>rfl
          | 1=>rfl
          | 2=>rfl
          | c+3=>rw [Nat.min_eq_right (by omega)]; rfl
        have eu:∀c,usedC A i (min c 3)=usedC A i c:=fun c=>by
          match c with
          | 0=>rfl
          | 1=>rfl
          | 2=>rfl
          | c+3=>rw [Nat.min_eq_right (by omega)]; rfl
        constructor
        · intro hc m hm hmi c
          rcases Nat.lt_or_eq_of_le (Nat.lt_succ_iff.1 hmi) with h' | h'
          · exact h1.1 hx1 m hm h' c
          · subst h'
            have:=hc c
            rwa [ec,eu] at this
        · intro hc c
          rw [ec,eu]
          exact hc i hi (by omega) c
      · refine hr _ ⟨?_,rfl,by simp only [List.length_append,List.length_singleton]; omega⟩
        dsimp only
        simp only [Bool.false_eq_true,false_iff]
        intro hc
        exact hx1 (h1.2 fun m hm hmi=>hc m hm (by omega))
  · obtain ⟨x1,x2,x3⟩:=x
    obtain ⟨h1,h2,h3⟩:=hx
    dsimp only at h1 h2 h3
    subst h2
    simp only [zdv,Bool.false_eq_true,if_false,zae]
    rw [h1]
    exact ⟨fun q i hi c=>q i hi hi c,fun q i hi _ c=>q i hi c⟩
structure AllocIn (s:zad) (st:zag) (i:Nat) (a:zab):Prop where
  up:∀m (h:m<st.Allocs.length),m+1=i→st.Allocs[m].Job<a.Job
  job:∃j∈st.Jobs,j.Id=a.Job
  shares:SharesOk a.Shares s.Nodes.length
  need:VecOk a.Need
structure zc1 (s:zad) (st:zag):Prop where
  each:∀i (h:i<st.Allocs.length),AllocIn s st i st.Allocs[i]
  fit:TotFit s.Nodes st.Allocs
theorem zc1.good {s:zad} {st:zag} (h:zc1 s st):GoodA s.Nodes.length st.Allocs:=fun a ha=>by
  obtain ⟨i,hi,rfl⟩:=List.getElem_of_mem ha
  exact ⟨(h.each i hi).shares,(h.each i hi).need⟩
theorem ref_allocs {s:zad} {st:zag} (hw:FewW s st):za8 (zcp 1000 s st) (zc1 s st):=by
  have hl:=hw.jobs; have hal:=hw.allocs; have hn:=hw.spec.nodes
  unfold zcp
  refine lpA st.Allocs (fun i a=>AllocIn s st i a) (fun i f hi hA hr=>?_) (fun f hA=>?_) (by omega)
  · have hd:decide ((i:Int) > 0)=decide (0<i):=by simp
    have hsh:=hw.shares _ (List.getElem_mem hi)
    have fin:(∀m (h:m<st.Allocs.length),m+1=i→st.Allocs[m].Job<st.Allocs[i].Job)→Ret ((zaN 1000 st.Jobs st.Allocs[i].Job).bind fun r=>
        if decide (r<0)=true then some false else (zbh 1000 st.Allocs[i].Shares (s.Nodes.length:Int)).bind fun r'=>
        if (!r')=true then some false else (zaH 1000 st.Allocs[i].Need).bind fun r''=>if (!r'')=true then some false else f ((i+1:Nat):Int)) (fun b=>b=true↔zc1 s st):=fun hup=>by
      refine (ref_find (by omega) st.Allocs[i].Job).bind fun r hr1=>?_
      rw [zaf]
      refine ⟨fun h=>no_f fun q=>?_,fun h=>?_⟩
      · have:=hr1.1.2 (q.each i hi).job
        simp only [decide_eq_true_eq] at h
        omega
      · simp only [decide_eq_true_eq] at h
        refine (ref_place _ _ (Nat.le_trans hsh (by decide))).bind fun r' hr2=>?_
        rw [zaf]
        refine ⟨fun h=>no_f fun q=>?_,fun h2=>?_⟩
        · have:=hr2.2 (q.each i hi).shares
          rw [this] at h
          simp at h
        · simp only [Bool.not_eq_true',Bool.not_eq_false] at h2
          refine (ref_vec _).bind fun r'' hr3=>?_
          rw [zaf]
          refine ⟨fun h=>no_f fun q=>?_,fun h3=>?_⟩
          · have:=hr3.2 (q.each i hi).need
            rw [this] at h
            simp at h
          · simp only [Bool.not_eq_true',Bool.not_eq_false] at h3
            exact hr ⟨hup,hr1.1.1 (by omega),hr2.1 h2,hr3.1 h3⟩
    simp only [zbn,zdw hi,if_true,zam hi,Option.bind_some,wr1 (show i<1000000 by omega),hd]
    rw [zaf]
    refine ⟨fun h=>?_,fun h=>?_⟩
    · simp only [decide_eq_true_eq] at h
      obtain ⟨m,rfl⟩:∃m,i=m+1:=⟨i-1,by omega⟩
      rw [wp1 (show m+1<1000000 by omega),zam (show m<st.Allocs.length by omega),Option.bind_some,zaf]
      refine ⟨fun h2=>no_f fun q=>?_,fun h2=>fin fun m' hm' e=>?_⟩
      · have:=(q.each (m+1) hi).up m (by omega) rfl
        simp only [decide_eq_true_eq] at h2
        omega
      · simp only [decide_eq_true_eq] at h2
        have:m'=m:=by omega
        subst this
        omega
    · simp only [decide_eq_true_eq] at h
      exact fin fun m hm e=>by omega
  · simp only [zdv,Bool.false_eq_true,if_false]
    have G:GoodA s.Nodes.length st.Allocs:=fun a ha=>by
      obtain ⟨j,hj,rfl⟩:=List.getElem_of_mem ha
      exact ⟨(hA j hj).shares,(hA j hj).need⟩
    refine (ref_left (by omega) hal (fun a ha=>Nat.le_trans (hw.shares a ha) (by decide)) G).bind fun r hr=>?_
    rw [zae,hr]
    exact ⟨fun h=>⟨fun i hi=>hA i hi,h⟩,fun h=>h.fit⟩
theorem asc_pw {l:List Int} (h:∀i (h:i+1<l.length),l[i]<l[i+1]):l.Pairwise (·<·):=by
  rw [List.pairwise_iff_getElem]
  intro i j hi hj hij
  induction j with
  | zero=>omega
  | succ j ih =>
    have h1:=h j hj
    rcases Nat.lt_or_eq_of_le (Nat.lt_succ_iff.1 hij) with h2 | h2
    · have:=ih (by omega) h2; omega
    · subst h2; exact h1
theorem asc_eq {l m:List Int} (hl:l.Pairwise (·<·)) (hm:m.Pairwise (·<·)) (h:∀x,x∈l↔x∈m):l=m:=by
  induction l generalizing m with
  | nil =>
    cases m with
    | nil=>rfl
    | cons y m=>exact absurd ((h y).2 (List.mem_cons_self ..)) (by simp)
  | cons x l ih =>
    cases m with
    | nil=>exact absurd ((h x).1 (List.mem_cons_self ..)) (by simp)
    | cons y m =>
      rw [List.pairwise_cons] at hl hm
      have e:x=y:=by
        rcases List.mem_cons.1 ((h x).1 (List.mem_cons_self ..)) with e | h1
        · exact e
        · rcases List.mem_cons.1 ((h y).2 (List.mem_cons_self ..)) with e | h2
          · exact e.symm
          · have:=hl.1 y h2; have:=hm.1 x h1; omega
      subst e
      congr 1
      refine ih hl.2 hm.2 fun z=>⟨fun hz=>?_,fun hz=>?_⟩
      · rcases List.mem_cons.1 ((h z).1 (List.mem_cons_of_mem _ hz)) with e | h1
        · have:=hl.1 z hz; omega
        · exact h1
      · rcases List.mem_cons.1 ((h z).2 (List.mem_cons_of_mem _ hz)) with e | h1
        · have:=hm.1 z hz; omega
        · exact h1
theorem allocsH_fwd {s:zad} {st:zag} {H:List zac} {A:List zab} {F:List zaa} (h:AllocsH s st H A F) (hF:∀r∈F,VecOk r):A.map (·.Job)=H.map (·.Id)∧TotFit F A:=by
  induction H generalizing A F with
  | nil =>
    rw [show A=[] from h]
    exact ⟨rfl,fun i hi c=>by simp only [usedC,List.map_nil,List.sum_nil]; exact (vec_iff.1 (hF _ (List.getElem_mem hi)) c).1⟩
  | cons j H ih =>
    obtain ⟨a,A',rfl,h1,h2,h3⟩:=h
    obtain ⟨i1,i2⟩:=ih h3 (takeA_ok h2)
    refine ⟨by rw [List.map_cons,List.map_cons,i1,h1.job],fun i hi c=>?_⟩
    have:=i2 i (by rw [takeA_len]; exact hi) c
    rw [takeA_at,leftA,cmp_sub,cmp_mul] at this
    rw [usedC_cons]
    omega
theorem allocsH_bwd {s:zad} {st:zag} {n:Int} {H:List zac} {A:List zab} {F:List zaa} (he:A.map (·.Job)=H.map (·.Id)) (hF:∀r∈F,VecOk r) (hp:∀a∈A,∀j∈H,a.Job=j.Id→PairOk s st j a) (hg:GoodA n A) (hf:TotFit F A):AllocsH s st H A F:=by
  induction H generalizing A F with
  | nil =>
    cases A with
    | nil=>rfl
    | cons a A=>cases he
  | cons j H ih =>
    cases A with
    | nil=>cases he
    | cons a A =>
      rw [List.map_cons,List.map_cons] at he
      have he1:a.Job=j.Id:=by injection he
      have he2:A.map (·.Job)=H.map (·.Id):=by injection he
      have ga:=hg a (List.mem_cons_self ..)
      have gA:GoodA n A:=fun b hb=>hg b (List.mem_cons_of_mem _ hb)
      have fa:FitsA F a:=fun i hi=>vec_iff.2 fun c=>by
        have h1:=hf i hi c
        have h2:=one_bd ga i c
        have h3:=used_bd gA i c
        have h4:=vec_iff.1 (hF _ (List.getElem_mem hi)) c
        rw [usedC_cons] at h1
        rw [leftA,cmp_sub,cmp_mul]
        omega
      refine ⟨a,A,rfl,hp a (List.mem_cons_self ..) j (List.mem_cons_self ..) he1,fa,ih he2 (takeA_ok fa) (fun b hb k hk=>hp b (List.mem_cons_of_mem _ hb) k (List.mem_cons_of_mem _ hk)) gA fun i hi c=>?_⟩
      have h1:=hf i (by rwa [takeA_len] at hi) c
      rw [takeA_at,leftA,cmp_sub,cmp_mul]
      rw [usedC_cons] at h1
      omega
theorem jobs_pw {s:zad} {st:zag} (J:JobsOk s st):((st.Jobs.filter hasJ).map (·.Id)).Pairwise (·<·):=by
  have h:(st.Jobs.map (·.Id)).Pairwise (·<·):=asc_pw fun i hi=>by
    rw [List.getElem_map,List.getElem_map]
    exact J.sorted i (by simpa using hi)
  rw [List.pairwise_map] at h ⊢
  exact h.filter _
structure HasIn (s:zad) (st:zag) (j:zac):Prop where
  has:(∃a∈st.Allocs,a.Job=j.Id)↔hasJ j=true
  mine:∀a∈st.Allocs,a.Job=j.Id→PairOk s st j a
theorem to_ref {s:zad} {st:zag} (k:SpecOk s) (J:JobsOk s st) (A:AllocsOk s st):zc1 s st∧∀j∈st.Jobs,HasIn s st j:=by
  obtain ⟨h1,h2⟩:=allocsH_fwd A k.nodes.ok
  have pw:=jobs_pw J
  rw [←h1] at pw
  have uniq:∀j∈st.Jobs,∀j'∈st.Jobs,j.Id=j'.Id→j=j':=fun j hj j' hj' e=>by
    obtain ⟨m,hm,rfl⟩:=List.getElem_of_mem hj
    obtain ⟨m',hm',rfl⟩:=List.getElem_of_mem hj'
    have:=J.sorted.inj hm hm' e
    subst this
    rfl
  refine ⟨⟨fun i hi=>?_,h2⟩,fun j hj=>⟨⟨fun ⟨a,ha,e⟩=>?_,fun hh=>?_⟩,fun a ha e=>?_⟩⟩
  · obtain ⟨j,hj,P⟩:=A.mem _ (List.getElem_mem hi)
    refine ⟨fun m hm e=>?_,⟨j,hj,P.job.symm⟩,P.suits.shares,by rw [P.need]; exact (J.each j hj).ok.need⟩
    have:=List.pairwise_iff_getElem.1 pw m i (by simpa using hm) (by simpa using hi) (by omega)
    simpa using this
  · have:a.Job∈st.Allocs.map (·.Job):=List.mem_map.2 ⟨a,ha,rfl⟩
    rw [h1] at this
    obtain ⟨j',hj',e'⟩:=List.mem_map.1 this
    obtain ⟨hj1,hj2⟩:=List.mem_filter.1 hj'
    have:j'=j:=uniq _ hj1 _ hj (by rw [e',e])
    subst this
    exact hj2
  · have:j.Id∈(st.Jobs.filter hasJ).map (·.Id):=List.mem_map.2 ⟨j,List.mem_filter.2 ⟨hj,hh⟩,rfl⟩
    rw [←h1] at this
    obtain ⟨a,ha,e⟩:=List.mem_map.1 this
    exact ⟨a,ha,e⟩
  · obtain ⟨j',hj',P⟩:=A.mem a ha
    have:j'=j:=uniq _ hj' _ hj (by rw [←P.job,e])
    subst this
    exact P
theorem of_ref {s:zad} {st:zag} (k:SpecOk s) (J:JobsOk s st) (R:zc1 s st) (h:∀j∈st.Jobs,HasIn s st j):AllocsOk s st:=by
  have pw:(st.Allocs.map (·.Job)).Pairwise (·<·):=asc_pw fun i hi=>by
    rw [List.getElem_map,List.getElem_map]
    exact (R.each (i+1) (by simpa using hi)).up i (by simp at hi; omega) rfl
  refine allocsH_bwd (n:=s.Nodes.length) (asc_eq pw (jobs_pw J) fun x=>⟨fun hx=>?_,fun hx=>?_⟩) k.nodes.ok (fun a ha j hj e=>(h j (List.mem_filter.1 hj).1).mine a ha e) R.good R.fit
  · obtain ⟨a,ha,rfl⟩:=List.mem_map.1 hx
    obtain ⟨i,hi,rfl⟩:=List.getElem_of_mem ha
    obtain ⟨j,hj,e⟩:=(R.each i hi).job
    exact List.mem_map.2 ⟨j,List.mem_filter.2 ⟨hj,(h j hj).has.1 ⟨_,ha,e.symm⟩⟩,e⟩
  · obtain ⟨j,hj,rfl⟩:=List.mem_map.1 hx
    obtain ⟨a,ha,e⟩:=(h j (List.mem_filter.1 hj).1).has.2 (List.mem_filter.1 hj).2
    exact List.mem_map.2 ⟨a,ha,e⟩
end Go.Plain
end
section
namespace Go.Plain
open Go.Abs
theorem jn_ite {X R:Type} {r:X→Option R} {c:Prop} [Decidable c] {a b:X}:jn r (fun j=>if c then j a else j b)=r (if c then a else b):=by
  unfold jn
  split <;> rfl
theorem onV_pos {l:List zaj} {n:Int} (h:SharesOk l n) {i:Int}:onV l i > 0↔∃x∈l,x.Node=i:=by
  have hm:∀x∈l,1≤x.Many:=fun x hx=>(h.mem x hx).2.2.1
  clear h
  induction l with
  | nil=>simp [onV]
  | cons y l ih =>
    have h1:=ih fun x hx=>hm x (List.mem_cons_of_mem _ hx)
    have h2:=hm y (List.mem_cons_self ..)
    have h3:=onV_nn (l:=l) (fun x hx=>by have:=hm x (List.mem_cons_of_mem _ hx); omega) i
    have e:onV (y::l) i=(if y.Node=i then y.Many else 0)+onV l i:=by simp [onV]
    rw [e]
    constructor
    · intro hp
      by_cases hy:y.Node=i
      · exact ⟨y,List.mem_cons_self ..,hy⟩
      · rw [if_neg hy] at hp
        obtain ⟨x,hx,e⟩:=h1.1 (by omega)
        exact ⟨x,List.mem_cons_of_mem _ hx,e⟩
    · rintro ⟨x,hx,e2⟩
      rcases List.mem_cons.1 hx with rfl | hx
      · rw [if_pos e2]; omega
      · have:=h1.2 ⟨x,hx,e2⟩
        split <;> omega
def TakenBy (st:zag) (node frm:Int) (a:zab):Prop:=∃j∈st.Jobs,j.Id=a.Job∧(∃x∈a.Shares,x.Node=node)∧frm<j.Start+j.Wall
theorem ref_taken {s:zad} {st:zag} (hw:FewW s st) (R:zc1 s st) (node frm:Int):Ret (zcF 1000 st node frm) fun b=>JobsOk s st→(b=true↔∃a∈st.Allocs,TakenBy st node frm a):=by
  have hl:=hw.jobs; have hal:=hw.allocs
  unfold zcF
  refine lpA st.Allocs (fun i a=>JobsOk s st→¬TakenBy st node frm a) (fun i f hi hA hr=>?_) (fun f hA=>?_) (by omega)
  · simp only [zbn,zdw hi,if_true,zam hi,Option.bind_some,wr1 (show i<1000000 by omega)]
    have ha:=List.getElem_mem hi
    refine (ref_find (by omega) st.Allocs[i].Job).bind fun r hr1=>?_
    rw [zaf]
    refine ⟨fun h=>?_,fun h=>?_⟩
    · simp only [decide_eq_true_eq] at h
      have at1:=hr1.2.1 h
      have S:=(R.each i hi).shares
      obtain ⟨hx,e⟩:=at_int (l:=st.Jobs) at1.lo (by have:=at1.lo; have:=at1.hi; omega)
      have hj:=List.getElem_mem hx
      have fin:Ret (if decide (IntKind.i64.wrap (st.Jobs[r.toNat].Start+st.Jobs[r.toNat].Wall) > frm)=true then some true else f ((i+1:Nat):Int)) (fun b=>(∃x∈st.Allocs[i].Shares,x.Node=node)→JobsOk s st→(b=true↔∃a∈st.Allocs,TakenBy st node frm a)):=by
        rw [zaf]
        refine ⟨fun h2=>?_,fun h2=>?_⟩
        · rw [zae]
          intro hsx J
          have jo:=(J.each _ hj).ok
          have:=jo.start; have:=jo.wall
          rw [wr (by omega) (by omega)] at h2
          simp only [decide_eq_true_eq] at h2
          exact ⟨fun _=>⟨_,ha,_,hj,at1.is,hsx,h2⟩,fun _=>rfl⟩
        · refine (hr fun J tk=>?_).mono fun b hb _=>hb
          obtain ⟨j,hj2,e2,-,h3⟩:=tk
          have:j=st.Jobs[r.toNat]:=by
            obtain ⟨m,hm,rfl⟩:=List.getElem_of_mem hj2
            have:=J.sorted.inj hm hx (by rw [e2,at1.is])
            subst this
            rfl
          subst this
          have jo:=(J.each _ hj).ok
          have:=jo.start; have:=jo.wall
          rw [wr (by omega) (by omega)] at h2
          simp only [decide_eq_true_eq] at h2
          omega
      rw [ref_on (Nat.le_trans (hw.shares _ ha) (by decide)) S,Option.bind_some,e,zaf]
      simp only [Option.bind_some]
      refine ⟨fun h2=>?_,fun h2=>?_⟩
      · simp only [decide_eq_true_eq] at h2
        exact fin.mono fun b hb=>hb ((onV_pos S).1 h2)
      · simp only [decide_eq_true_eq] at h2
        rw [if_neg (by simp)]
        exact hr fun J ⟨j,hj2,e2,hx2,h3⟩=>h2 ((onV_pos S).2 hx2)
    · simp only [decide_eq_true_eq] at h
      rw [if_neg (by simp)]
      exact hr fun J ⟨j,hj2,e2,hx2,h3⟩=>by have:=hr1.1.2 ⟨j,hj2,e2⟩; omega
  · simp only [zdv,Bool.false_eq_true,if_false,zae,false_iff]
    rintro J ⟨a,ha,tk⟩
    exact zci (A:=fun a=>JobsOk s st→¬TakenBy st node frm a) hA a ha J tk
theorem ref_books {s:zad} {st:zag} (hw:FewW s st) (R:zc1 s st):Ret (zcP 1000 s st) fun b=>JobsOk s st→(b=true↔BookedOk s st):=by
  have hl:=hw.books
  unfold zcP
  refine lpA st.Books (fun i b=>(b.Id<st.Book∧st.Now<b.To)∧(JobsOk s st→¬∃a∈st.Allocs,TakenBy st b.Node b.From a)) (fun i f hi hA hr=>?_) (fun f hA=>?_) (by omega)
  · simp only [zbn,zdw hi,if_true,zam hi,Option.bind_some,wr1 (show i<1000000 by omega)]
    have hb:=List.getElem_mem hi
    rw [zaf]
    refine ⟨fun h=>?_,fun h=>?_⟩
    · rw [zae]
      intro J
      simp only [Bool.or_eq_true,decide_eq_true_eq] at h
      simp only [Bool.false_eq_true,false_iff]
      exact fun q=>by have:=q.live _ hb; omega
    · simp only [Bool.or_eq_true,decide_eq_true_eq] at h
      refine (ref_taken hw R _ _).bind fun r hr1=>?_
      rw [zaf]
      refine ⟨fun h2=>?_,fun h2=>hr ⟨by omega,fun J=>fun q=>h2 ((hr1 J).2 q)⟩⟩
      rw [zae]
      intro J
      simp only [Bool.false_eq_true,false_iff]
      intro q
      obtain ⟨a,ha,j,hj,e,⟨x,hx,en⟩,hf⟩:=(hr1 J).1 h2
      exact q.clash a ha j hj e x hx _ hb en.symm hf
  · simp only [zdv,Bool.false_eq_true,if_false]
    refine (ref_book _ _ (by omega)).bind fun r hr=>?_
    rw [zae]
    intro J
    rw [hr]
    refine ⟨fun h=>⟨h,fun b hb=>?_,fun a ha j hj e x hx b hb en hf=>?_⟩,fun q=>q.books⟩
    · obtain ⟨m,hm,rfl⟩:=List.getElem_of_mem hb
      exact (hA m hm).1
    · obtain ⟨m,hm,rfl⟩:=List.getElem_of_mem hb
      exact (hA m hm).2 J ⟨a,ha,j,hj,e,⟨x,hx,en.symm⟩,hf⟩
structure AtA (l:List zab) (id:Int) (r:Int):Prop where
  lo:0≤r
  hi:r.toNat<l.length
  is:l[r.toNat].Job=id
theorem ref_findA {l:List zab} (hl:l.length≤300) (id:Int):Ret (zde 1000 l id) fun r=>(0≤r↔∃a∈l,a.Job=id)∧(0≤r→AtA l id r):=by
  unfold zde
  refine lpA l (fun _ j=>j.Job≠id) (fun i f h _ hr=>?_) (fun f h=>?_) (by omega)
  · simp only [zdw h,if_true,zam h,Option.bind_some,wr1 (show i<1000000 by omega),zaf,zae,beq_iff_eq]
    exact ⟨fun e=>⟨⟨fun _=>⟨_,List.getElem_mem h,e⟩,fun _=>by omega⟩,fun _=>⟨by omega,by simpa using h,by simpa using e⟩⟩,fun e=>hr e⟩
  · simp only [zdv,Bool.false_eq_true,if_false,zae]
    refine ⟨⟨fun h=>by omega,fun ⟨j,hm,e⟩=>absurd e (zci (A:=fun j=>j.Job≠id) h j hm)⟩,fun h=>by omega⟩
theorem zc1.uniq {s:zad} {st:zag} (R:zc1 s st) {i j:Nat} (hi:i<st.Allocs.length) (hj:j<st.Allocs.length) (e:st.Allocs[i].Job=st.Allocs[j].Job):i=j:=by
  have pw:(st.Allocs.map (·.Job)).Pairwise (·<·):=asc_pw fun i hi=>by
    rw [List.getElem_map,List.getElem_map]
    exact (R.each (i+1) (by simpa using hi)).up i (by simp at hi; omega) rfl
  rw [List.pairwise_iff_getElem] at pw
  rcases Nat.lt_trichotomy i j with h | h | h
  · have:=pw i j (by simpa using hi) (by simpa using hj) h
    rw [List.getElem_map,List.getElem_map] at this; omega
  · exact h
  · have:=pw j i (by simpa using hj) (by simpa using hi) h
    rw [List.getElem_map,List.getElem_map] at this; omega
structure RefJob (s:zad) (st:zag) (j:zac):Prop where
  inn:JobIn s st j
  waits:Waits s st j
  has:HasIn s st j
theorem ref_job {s:zad} (k:SpecOk s) {st:zag} (hw:FewW s st) (R:zc1 s st) {j:zac} (hj:j∈st.Jobs):za8 (zdE 1000 s st j) (RefJob s st j):=by
  have kv:=k.versions
  have hl:=hw.jobs; have hal:=hw.allocs
  unfold zdE
  refine (ref_job_right j (hw.after j hj)).bind fun r hr1=>?_
  rw [zaf]
  refine ⟨fun h=>no_f fun q=>?_,fun h=>?_⟩
  · have:=hr1.2 q.inn.ok
    rw [this] at h
    simp only [Bool.or_eq_true,decide_eq_true_eq,Bool.not_true,Bool.false_eq_true,false_or] at h
    have:=q.inn.next; have:=q.inn.user; have:=q.inn.queue; have:=q.inn.born; have:=q.inn.start; have:=q.inn.fin
    omega
  · simp only [Bool.or_eq_true,decide_eq_true_eq,not_or,Bool.not_eq_true',Bool.not_eq_false] at h
    have jo:=hr1.1 h.1.1.1.1.1.1
    have hst:=jo.state.st; have hsr:=jo.start; have hwl:=jo.wall
    simp only [jn_ite]
    generalize he:(if decide (j.State≥5)=true then (3:Int) else if (j.State == 4)=true then 2 else if (j.State == 3)=true then 1 else 0)=e
    have ev:e=extraV j.State:=by
      rw [←he]
      simp only [extraV,decide_eq_true_eq,beq_iff_eq,ge_iff_le]
      split
      · split <;> (try split) <;> (try split) <;> omega
      · split
        · split <;> (try split) <;> omega
        · split <;> (try split) <;> (try split) <;> omega
    have eb:=extra_bd j.State
    refine (ref_findA hal j.Id).bind fun r8 hr8=>?_
    simp only [zbn,zdH,Option.bind_some]
    rw [ev,wr (x:=s.Versions+extraV j.State) (by omega) (by omega),zaf]
    refine ⟨fun h2=>no_f fun q=>?_,fun h2=>?_⟩
    · have:=q.inn.version
      simp only [decide_eq_true_eq] at h2
      omega
    · simp only [decide_eq_true_eq] at h2
      have I:JobIn s st j:=⟨jo,by omega,by omega,by omega,by omega,by omega,by omega,by omega⟩
      have eh:((j.State == 3) || (j.State == 4))=hasJ j:=rfl
      rw [eh,zaf]
      refine ⟨fun h3=>no_f fun q=>?_,fun h3=>?_⟩
      · have:=q.has.has
        rw [←hr8.1] at this
        cases hh:hasJ j with
        | true=>have t:=this.2 hh; simp [hh] at h3; omega
        | false =>
          have t:¬0≤r8:=fun t=>by have:=this.1 t; rw [hh] at this; cases this
          simp [hh] at h3
          omega
      · have hasI:(∃a∈st.Allocs,a.Job=j.Id)↔hasJ j=true:=by
          rw [←hr8.1]
          cases hh:hasJ j with
          | true=>simp [hh] at h3; simp [h3]
          | false=>simp [hh] at h3; simp; omega
        rw [zaf]
        refine ⟨fun h4=>yes_t ?_,fun h4=>?_⟩
        · simp only [decide_eq_true_eq] at h4
          refine ⟨I,fun hs=>by omega,hasI,fun a ha e=>?_⟩
          have:=hasJ_lt (hasI.1 ⟨a,ha,e⟩)
          omega
        · simp only [decide_eq_true_eq] at h4
          have ha:=jo.afterN
          refine lpA j.After (fun _ d=>∃i∈st.Jobs,i.Id=d.Job) (fun m g hm hA hr=>?_) (fun g hA=>?_) (by omega)
          · simp only [zdw hm,if_true,zam hm,Option.bind_some,wr1 (show m<1000000 by omega)]
            refine (ref_find (by omega) j.After[m].Job).bind fun r hr2=>?_
            rw [zaf]
            refine ⟨fun h5=>no_f fun q=>?_,fun h5=>hr (hr2.1.1 ?_)⟩
            · have:=hr2.1.2 ((q.waits (by omega)).after _ (List.getElem_mem hm))
              simp only [decide_eq_true_eq] at h5
              omega
            · simp only [decide_eq_true_eq] at h5
              omega
          · simp only [zdv,Bool.false_eq_true,if_false]
            obtain ⟨b,e1,e2⟩:=fits_eq hw.spec k (q:=j.Queue) (m:=j.Many) jo.need jo.needz
            rw [e2,Option.bind_some,zaf]
            refine ⟨fun h5=>no_f fun q=>?_,fun h5=>?_⟩
            · have:=(q.waits (by omega)).fits
              rw [e1] at this
              simp only [Option.some.injEq] at this
              subst this
              simp at h5
            · simp only [Bool.not_eq_true',Bool.not_eq_false] at h5
              subst h5
              have W:Waits s st j:=fun _=>⟨e1,zci hA⟩
              rw [zaf]
              refine ⟨fun h6=>yes_t ⟨I,W,hasI,fun a ha e=>?_⟩,fun h6=>?_⟩
              · have:=hasI.1 ⟨a,ha,e⟩
                rw [this] at h6
                simp at h6
              · simp only [Bool.not_eq_true',Bool.not_eq_false] at h6
                have r0:=hr8.1.2 (hasI.2 h6)
                have at8:=hr8.2 r0
                obtain ⟨hx,e3⟩:=at_int (l:=st.Allocs) at8.lo (by have:=at8.lo; have:=at8.hi; omega)
                have hma:=List.getElem_mem hx
                rw [wr (x:=j.Start+j.Wall) (by omega) (by omega),e3,zaf]
                simp only [Option.bind_some]
                refine ⟨fun h7=>?_,fun h7=>no_f fun q=>?_⟩
                · simp only [decide_eq_true_eq] at h7
                  rw [zaf]
                  refine ⟨fun h8=>?_,fun h8=>no_f fun q=>h8 (beq_res.2 (q.has.mine _ hma at8.is).need)⟩
                  have eN:=beq_res.1 h8
                  refine (ref_mine hw.spec k j _ (Nat.le_trans (hw.shares _ hma) (by decide))).bind fun r hr9=>?_
                  rw [zae,hr9]
                  refine ⟨fun S=>⟨I,W,hasI,fun a ha e=>?_⟩,fun q=>(q.has.mine _ hma at8.is).suits⟩
                  have:a=st.Allocs[r8.toNat]:=by
                    obtain ⟨m,hm,rfl⟩:=List.getElem_of_mem ha
                    have:=R.uniq hm hx (by rw [e,at8.is])
                    subst this
                    rfl
                  subst this
                  exact ⟨e,eN,S,h7⟩
                · have:=(q.has.mine _ hma at8.is).now
                  simp only [decide_eq_true_eq] at h7
                  omega
theorem ref_sound {s:zad} {st:zag} (hw:FewW s st):za8 (zb0 1000 s st) (zdO s st):=by
  have hl:=hw.jobs; have hq:=hw.stamps; have hus:=hw.use
  unfold zb0
  simp only [zbn]
  refine (ref_right s hw.spec).bind fun r hr1=>?_
  rw [zaf]
  refine ⟨fun h=>?_,fun h=>?_⟩
  · rw [if_pos trivial]
    refine no_f fun q=>?_
    have:=hr1.2 q.spec
    rw [this] at h
    have k1:=q.spec.ids; have:=q.nums.now; have:=q.nums.next; have:=q.nums.book
    rw [wr (x:=s.Ids+1) (by omega) (by omega)] at h
    simp only [Bool.or_eq_true,decide_eq_true_eq,Bool.not_true,Bool.false_eq_true,false_or] at h
    omega
  · simp only [Bool.or_eq_true,decide_eq_true_eq,not_or,Bool.not_eq_true',Bool.not_eq_false] at h
    have k:=hr1.1 h.1.1.1.1.1
    have k1:=k.ids
    rw [wr (x:=s.Ids+1) (by omega) (by omega)] at h
    refine (ref_uid st.Book).bind fun r2 hr2=>?_
    rw [zaf]
    refine ⟨fun h2=>no_f fun q=>?_,fun h2=>?_⟩
    · have:=hr2.2 (by have:=q.nums.book; omega)
      rw [this] at h2
      simp at h2
    · simp only [Bool.not_eq_true',Bool.not_eq_false] at h2
      have u2:=hr2.1 h2
      have NO:NumsOk s st:=⟨by omega,by omega,by omega⟩
      rw [zaf]
      refine ⟨fun h3=>?_,fun h3=>?_⟩
      · rw [if_pos trivial]
        refine no_f fun q=>?_
        have:=q.jobs.len
        simp only [decide_eq_true_eq] at h3
        omega
      · simp only [decide_eq_true_eq] at h3
        refine (ref_allocs hw).bind fun r4 hr4=>?_
        rw [zaf]
        refine ⟨fun h4=>?_,fun h4=>?_⟩
        · rw [if_pos trivial]
          refine no_f fun q=>?_
          have:=hr4.2 (to_ref k q.jobs q.allocs).1
          rw [this] at h4
          simp at h4
        · simp only [Bool.not_eq_true',Bool.not_eq_false] at h4
          have R:=hr4.1 h4
          refine (ref_books hw R).bind fun r5 hr5=>?_
          rw [zaf]
          refine ⟨fun h5=>?_,fun h5=>?_⟩
          · rw [if_pos trivial]
            refine no_f fun q=>?_
            have:=(hr5 q.jobs).2 q.booked
            rw [this] at h5
            simp at h5
          · simp only [Bool.not_eq_true',Bool.not_eq_false] at h5
            refine (ref_use st.Use s.Users (by omega)).bind fun r6 hr6=>?_
            rw [zaf]
            refine ⟨fun h6=>?_,fun h6=>?_⟩
            · rw [if_pos trivial]
              refine no_f fun q=>?_
              have:=hr6.2 ⟨q.use.len,q.use.use⟩
              rw [this] at h6
              have:=q.use.qlen
              simp only [Bool.or_eq_true,bne_iff_ne,ne_eq,Bool.not_true,Bool.false_eq_true,false_or] at h6
              omega
            · simp only [Bool.or_eq_true,bne_iff_ne,ne_eq,not_or,Decidable.not_not,Bool.not_eq_true',Bool.not_eq_false] at h6
              have u6:=hr6.1 h6.1
              refine (ref_uid st.Stamps.Nodes).bind fun r7 hr7=>?_
              rw [zaf]
              refine ⟨fun h7=>no_f fun q=>?_,fun h7=>?_⟩
              · have:=hr7.2 q.use.nodes
                rw [this] at h7
                simp at h7
              · simp only [Bool.not_eq_true',Bool.not_eq_false] at h7
                have u7:=hr7.1 h7
                refine lpA st.Stamps.Queues (fun _ x=>0≤x∧x≤281474976710656) (fun i f hi _ hr=>?_) (fun f hS=>?_) (by omega)
                · simp only [zdw hi,if_true,zam hi,Option.bind_some,wr1 (show i<1000000 by omega)]
                  refine (ref_uid _).bind fun r8 hr8=>?_
                  rw [zaf]
                  refine ⟨fun h8=>no_f fun q=>?_,fun h8=>hr (hr8.1 (by simpa using h8))⟩
                  have:=hr8.2 (q.use.stamps _ (List.getElem_mem hi))
                  rw [this] at h8
                  simp at h8
                · simp only [zdv,Bool.false_eq_true,if_false]
                  have U:UseOk s st:=⟨u6.1,u6.2,by omega,u7,zci hS⟩
                  refine lpA st.Jobs (fun i j=>RefJob s st j∧prvI st.Jobs i<j.Id) (fun i f hi _ hr=>?_) (fun f hJ=>?_) (by omega)
                  · have hd:decide ((i:Int) > 0)=decide (0<i):=by simp
                    have hj:=List.getElem_mem hi
                    simp only [zdw hi,if_true,zam hi,Option.bind_some,wr1 (show i<1000000 by omega),hd]
                    refine (ref_job k hw R hj).bind fun r9 hr9=>?_
                    rw [zaf]
                    refine ⟨fun h9=>no_f fun q=>?_,fun h9=>?_⟩
                    · have:=hr9.2 ⟨q.jobs.each _ hj,q.waits _ hj,(to_ref k q.jobs q.allocs).2 _ hj⟩
                      rw [this] at h9
                      simp at h9
                    · simp only [Bool.not_eq_true',Bool.not_eq_false] at h9
                      have J9:=hr9.1 h9
                      rw [zaf]
                      refine ⟨fun h10=>?_,fun h10=>?_⟩
                      · simp only [decide_eq_true_eq] at h10
                        obtain ⟨m,rfl⟩:∃m,i=m+1:=⟨i-1,by omega⟩
                        rw [wp1 (show m+1<1000000 by omega),zam (show m<st.Jobs.length by omega),Option.bind_some,zaf]
                        refine ⟨fun h11=>no_f fun q=>?_,fun h11=>hr ⟨J9,?_⟩⟩
                        · have:=q.jobs.sorted m hi
                          simp only [decide_eq_true_eq] at h11
                          omega
                        · rw [prvI_succ (by omega)]
                          simp only [decide_eq_true_eq] at h11
                          omega
                      · simp only [decide_eq_true_eq] at h10
                        have:i=0:=by omega
                        subst this
                        refine hr ⟨J9,?_⟩
                        have:=J9.inn.ok.id
                        simp only [prvI]
                        omega
                  · simp only [zdv,Bool.false_eq_true,if_false]
                    have JO:JobsOk s st:=jobs_of (by omega) fun i hi=>⟨(hJ i hi).1.inn,(hJ i hi).2⟩
                    have all:∀j∈st.Jobs,RefJob s st j:=fun j hj=>by
                      obtain ⟨m,hm,rfl⟩:=List.getElem_of_mem hj
                      exact (hJ m hm).1
                    exact yes_t ⟨k,NO,JO,fun j hj=>(all j hj).waits,of_ref k JO R fun j hj=>(all j hj).has,(hr5 JO).1 h5,U⟩
end Go.Plain
end
section
namespace Go.Plain
open Go.Abs
theorem clone_ints {l:List Int} (h:l.length≤1000000):zaT 1000 l=some l:=by
  unfold zaT
  exact zcX h
theorem copy_ok {s:zad} (hs:FewS s):zcy 1000 s=some s:=by
  have h1:=hs.nodes; have h2:=hs.parts; have h3:=hs.queues
  unfold zcy
  rw [clone_res (by omega),Option.bind_some,show zbI 1000 s.Parts=some s.Parts from zcX (by omega),Option.bind_some]
  refine Ret.eq (lpS s.Parts.length (fun i x=>x=((i:Int),s.Parts)) (fun i x f hi hx hr=>?_) (fun x f hx=>?_) rfl (by omega))
  · subst hx
    have hp:=hs.part _ (List.getElem_mem hi)
    simp only [zdw hi,if_true,zam hi,Option.bind_some,wr1 (show i<1000000 by omega),clone_ints (show s.Parts[i].length≤1000000 by omega),Int.toNat_natCast,List.set_getElem_self]
    exact hr _ rfl
  · subst hx
    simp only [zdv,Bool.false_eq_true,if_false]
    rw [show zaY 1000 s.Queues=some s.Queues from zcX (by omega),Option.bind_some]
    refine lpS s.Queues.length (fun i x=>x=((i:Int),s.Queues)) (fun i x f hi hx hr=>?_) (fun x f hx=>?_) rfl (by omega)
    · subst hx
      have hp:=hs.queue _ (List.getElem_mem hi)
      simp only [zdw hi,if_true,zam hi,Option.bind_some,wr1 (show i<1000000 by omega),clone_ints (show s.Queues[i].Users.length≤1000000 by omega),Int.toNat_natCast,List.set_getElem_self]
      exact hr _ (Prod.ext rfl (List.set_getElem_self hi))
    · subst hx
      simp only [zdv,Bool.false_eq_true,if_false,zae]
theorem share_new {n:Int} (h:1≤n∧n≤8):share_New 1000 n=some (List.replicate n.toNat 0):=by
  simp only [share_New,zdZ]
  rw [if_neg (by simp; omega),if_neg (by simp; omega)]
  simp only [Option.bind_some,mk?]
  rw [if_pos (by omega)]
  rfl
theorem table_new {n:Int} (h:1≤n∧n≤256):table_New_of79d 1000 n=some (.inr n):=by
  simp only [table_New_of79d]
  rw [if_neg (by simp; omega)]
theorem new_ok {s:zad} (hs:FewS s) (k:SpecOk s):zcW 1000 s=some (.inr (List.replicate s.Queues.length 0,[],s.Nodes,s.Parts,s.Queues,s.Users,s.Weights.Age,s.Weights.Size,s.Weights.Qos,s.Weights.Share,s.Decay,s.Mode,s.Jobs,s.Ids,s.Versions,s.Linger,s.Keep,s.In,s.Out,s.Cache,0,1,1,List.replicate s.Users.toNat 0,0,s.Jobs,s.Nodes)):=by
  have h3:=hs.queues
  unfold zcW
  rw [spec_true hs k,Option.bind_some,if_neg (by simp),table_new k.jobs,Option.bind_some]
  dsimp only
  rw [new_ledger hs k,Option.bind_some]
  dsimp only
  rw [copy_ok hs,Option.bind_some,share_new k.users,Option.bind_some]
  unfold mk?
  rw [if_pos (by omega),Option.bind_some]
  rw [Int.toNat_natCast]
theorem own_job {j:zac} (h:j.After.length≤1000000):zdy 1000 j=some j:=by
  unfold zdy
  rw [show za3 1000 j.After=some j.After from zcX h]
  rfl
theorem all_jobs {l:List zac} (hl:l.length≤300) (ha:∀j∈l,j.After.length≤10):zbx 1000 l=some l:=by
  unfold zbx
  rw [show zaS 1000 l=some l from zcX (by omega),Option.bind_some]
  refine Ret.eq (lpS l.length (fun i x=>x=((i:Int),l)) (fun i x f hi hx hr=>?_) (fun x f hx=>?_) rfl (by omega))
  · subst hx
    have hp:=ha _ (List.getElem_mem hi)
    simp only [zdw hi,if_true,zam hi,Option.bind_some,wr1 (show i<1000000 by omega),own_job (show l[i].After.length≤1000000 by omega),Int.toNat_natCast,List.set_getElem_self]
    exact hr _ rfl
  · subst hx
    simp only [zdv,Bool.false_eq_true,if_false,zae]
def mapA (A:List zab):List (Int×zab):=A.map fun a=>(a.Job,a)
def AscA (A:List zab):Prop:=(A.map (·.Job)).Pairwise (·<·)
theorem mapA_get {A:List zab} (h:AscA A):∀i (hi:i<A.length),mget (mapA A) A[i].Job=some A[i]:=by
  induction A with
  | nil=>intro i hi; simp at hi
  | cons a A ih =>
    unfold AscA at h
    rw [List.map_cons,List.pairwise_cons] at h
    intro i hi
    match i,hi with
    | 0,hi=>simp [mapA,mget]
    | i + 1, hi =>
      have hi':i<A.length:=by simpa using hi
      have:=h.1 A[i].Job (List.mem_map.2 ⟨_,List.getElem_mem hi',rfl⟩)
      have e:mget (mapA (a::A)) A[i].Job=mget (mapA A) A[i].Job:=by
        simp only [mapA,List.map_cons,mget]
        rw [if_neg (by omega)]
      rw [List.getElem_cons_succ,e]
      exact ih h.2 i hi'
theorem mapA_none {A:List zab} {q:Int} (h:∀a∈A,a.Job≠q):mget (mapA A) q=none:=by
  induction A with
  | nil=>rfl
  | cons a A ih =>
    simp only [mapA,List.map_cons,mget]
    rw [if_neg (h a (List.mem_cons_self ..))]
    exact ih fun b hb=>h b (List.mem_cons_of_mem _ hb)
theorem mapA_set {A:List zab} {a:zab} (h:∀b∈A,b.Job≠a.Job):mset (mapA A) a.Job a=mapA (A++[a]):=by
  induction A with
  | nil=>rfl
  | cons b A ih =>
    have:=ih fun c hc=>h c (List.mem_cons_of_mem _ hc)
    simp only [mapA,List.cons_append,List.map_cons,mset] at this ⊢
    rw [if_neg (h b (List.mem_cons_self ..)),this]
theorem i64wf {n:Int} (h:0≤n∧n≤1048576):(Lit.int .i64 n).wf=true:=by
  have e1:IntKind.i64.min=-9223372036854775808:=by decide
  have e2:IntKind.i64.max=9223372036854775807:=by decide
  simp only [Lit.wf,Bool.and_eq_true,decide_eq_true_eq,e1,e2]
  omega
theorem keys_ok {A:List zab} (hl:A.length≤300) (h:AscA A) (hj:∀a∈A,0≤a.Job∧a.Job≤1048576):keysI (fun k=>k) (mapA A)=some (A.map (·.Job)):=by
  have e:(mapA A).map Prod.fst=A.map (·.Job):=by simp [mapA]
  unfold keysI
  have wf:∀p∈mapA A,(Lit.int .i64 p.1).wf=true:=fun p hp=>by
    obtain ⟨a,ha,rfl⟩:=List.mem_map.1 hp
    exact i64wf (hj a ha)
  have nd:(A.map (·.Job)).Nodup:=h.imp fun h=>by omega
  have ln:(mapA A).length≤1000000:=by simp [mapA]; omega
  rw [e,if_pos ⟨ln,nd,wf⟩,List.mergeSort_of_pairwise (h.imp fun h=>by simp; omega)]
  simp
theorem all_allocs {A:List zab} (hl:A.length≤300) (h:AscA A) (hj:∀a∈A,0≤a.Job∧a.Job≤1048576) (hs:∀a∈A,a.Shares.length≤300):zaK 1000 (mapA A)=some A:=by
  unfold zaK
  rw [keys_ok hl h hj,Option.bind_some]
  refine Ret.eq (lpS (A.map (·.Job)).length (fun i x=>x=((i:Int),A.take i)) (fun i x f hi hx hr=>?_) (fun x f hx=>?_) (by simp) (by simp; omega))
  · subst hx
    have hi':i<A.length:=by simpa using hi
    have e:=mapA_get h i hi'
    have es:=hs _ (List.getElem_mem hi')
    simp only [zdw hi,if_true,zam hi,Option.bind_some,wr1 (show i<1000000 by omega),List.getElem_map,e,oel,own_alloc (show A[i].Shares.length≤1000000 by omega)]
    rw [app_ok (by rw [List.length_take]; simp; omega),Option.bind_some]
    exact hr _ (by rw [List.take_succ_eq_append_getElem hi'])
  · subst hx
    simp only [zdv,Bool.false_eq_true,if_false,zae,List.length_map,List.take_length]
theorem clone_books {l:List zai} (h:l.length≤1000000):zau 1000 l=some l:=by
  unfold zau
  exact zcX h
theorem beq_dep (a:api_Dep):api_Dep.beq a a=true:=by simp [api_Dep.beq]
theorem beq_share (a:zaj):zaj.beq a a=true:=by simp [zaj.beq]
theorem beq_book (a:zai):zai.beq a a=true:=by simp [zai.beq]
theorem beq_res' (a:zaa):zaa.beq a a=true:=beq_res.2 rfl
theorem lpT {α:Type} {b:(Int→Option Bool)→Int→Option Bool} (l:List α) (hs:∀(i:Nat) (f:Int→Option Bool) (h:i<l.length),b f (i:Int)=f ((i+1:Nat):Int)) (he:∀f,b f (l.length:Int)=some true) {N:Nat} (hN:l.length<N):lpX b N 0=some true:=
  Ret.eq (lpA l (fun _ _=>True) (fun i f h _ hr=>by rw [hs i f h]; exact hr trivial) (fun f _=>by rw [he]; exact ⟨_,rfl,rfl⟩) hN)
theorem same_ints (l:List Int) (hl:l.length≤300):zbF 1000 l l=some true:=by
  unfold zbF
  rw [if_neg (by simp)]
  refine lpT l (fun i f h=>?_) (fun f=>?_) (by omega)
  · simp only [zdw h,if_true,zam h,Option.bind_some,wr1 (show i<1000000 by omega),bne_self_eq_false,Bool.false_eq_true,if_false]
  · simp only [zdv,Bool.false_eq_true,if_false]
theorem same_job (j:zac) (hl:j.After.length≤300):zdi 1000 j j=some true:=by
  unfold zdi
  rw [if_neg (by simp)]
  refine lpT j.After (fun i f h=>?_) (fun f=>?_) (by omega)
  · simp only [zdw h,if_true,zam h,Option.bind_some,wr1 (show i<1000000 by omega),beq_dep,Bool.not_true,Bool.false_eq_true,if_false]
  · simp only [zdv,Bool.false_eq_true,if_false,beq_self_eq_true,beq_res',Bool.and_self]
theorem same_jobs (l:List zac) (hl:l.length≤300) (ha:∀j∈l,j.After.length≤10):zdj 1000 l l=some true:=by
  unfold zdj
  rw [if_neg (by simp)]
  refine lpT l (fun i f h=>?_) (fun f=>?_) (by omega)
  · have:=ha _ (List.getElem_mem h)
    simp only [zdw h,if_true,zam h,Option.bind_some,wr1 (show i<1000000 by omega),same_job l[i] (by omega),Bool.not_true,Bool.false_eq_true,if_false]
  · simp only [zdv,Bool.false_eq_true,if_false]
theorem same_shares (l:List zaj) (hl:l.length≤300):zdg 1000 l l=some true:=by
  unfold zdg
  rw [if_neg (by simp)]
  refine lpT l (fun i f h=>?_) (fun f=>?_) (by omega)
  · simp only [zdw h,if_true,zam h,Option.bind_some,wr1 (show i<1000000 by omega),beq_share,Bool.not_true,Bool.false_eq_true,if_false]
  · simp only [zdv,Bool.false_eq_true,if_false]
theorem same_allocs (l:List zab) (hl:l.length≤300) (ha:∀a∈l,a.Shares.length≤300):zdn 1000 l l=some true:=by
  unfold zdn
  rw [if_neg (by simp)]
  refine lpT l (fun i f h=>?_) (fun f=>?_) (by omega)
  · have:=ha _ (List.getElem_mem h)
    simp only [zbn,zdw h,if_true,zam h,Option.bind_some,wr1 (show i<1000000 by omega),bne_self_eq_false,beq_res',same_shares l[i].Shares this,Bool.not_true,Bool.false_eq_true,if_false]
  · simp only [zdv,Bool.false_eq_true,if_false]
theorem same_books (l:List zai) (hl:l.length≤300):zdh 1000 l l=some true:=by
  unfold zdh
  rw [if_neg (by simp)]
  refine lpT l (fun i f h=>?_) (fun f=>?_) (by omega)
  · simp only [zdw h,if_true,zam h,Option.bind_some,wr1 (show i<1000000 by omega),beq_book,Bool.not_true,Bool.false_eq_true,if_false]
  · simp only [zdv,Bool.false_eq_true,if_false]
theorem same_state {s:zad} {st:zag} (hw:FewW s st):zaV 1000 st st=some true:=by
  have h1:=hw.jobs; have h2:=hw.use; have h3:=hw.stamps; have h4:=hw.books
  unfold zaV
  rw [if_pos (by simp),same_jobs _ (by omega) hw.after,Option.bind_some,if_pos rfl,same_allocs _ hw.allocs hw.sh,Option.bind_some,if_pos rfl,same_books _ (by omega),Option.bind_some,if_pos rfl,same_ints _ (by omega),Option.bind_some,if_pos rfl,same_ints _ (by omega),Option.bind_some]
  simp
end Go.Plain
end
section
namespace Go.Plain
open Go.Abs
theorem sorted_take {l:List zac} (h:SortedJ l) (n:Nat):SortedJ (l.take n):=fun i hi=>by
  rw [List.length_take] at hi
  rw [List.getElem_take,List.getElem_take]
  exact h i (by omega)
theorem find_end {l:List zac} (hl:l.length≤300) (hs:SortedJ l) {id:Int} (h:∀j∈l,j.Id<id):zas 1000 l id=some ((l.length:Int),false):=by
  unfold zas
  have e:(lpX (fun f2 (x1:Int×Int)=>
      if (decide (x1.1<x1.2))=true then
        (
          (at? l (IntKind.i64.wrap (Int.fdiv (IntKind.u64.wrap (IntKind.i64.wrap (x1.1+x1.2))) (2 ^ 1)))).bind fun a3=>
          some (decide (a3.Id≥id))).bind fun x4=>
        if (!x4)=true then
          f2 ((IntKind.i64.wrap ((IntKind.i64.wrap (Int.fdiv (IntKind.u64.wrap (IntKind.i64.wrap (x1.1+x1.2))) (2 ^ 1)))+1)),x1.2)
        else
          f2 (x1.1,(IntKind.i64.wrap (Int.fdiv (IntKind.u64.wrap (IntKind.i64.wrap (x1.1+x1.2))) (2 ^ 1))))
      else
        some x1.1) 1000 (0,(l.length:Int)))=some (l.length:Int):=by
    refine Ret.eq (half hl hs id (fun j=>some (decide (j.Id<id))) (fun j hj=>rfl) (fun i=>some i) (fun i hi h1 h2=>?_) _ (fun f x=>?_))
    · rw [zae]
      rcases Nat.lt_or_eq_of_le hi with q | q
      · have:=h2 i q (Nat.le_refl _)
        have:=h _ (List.getElem_mem q)
        omega
      · rw [q]
    · split
      · cases at? l (IntKind.i64.wrap (Int.fdiv (IntKind.u64.wrap (IntKind.i64.wrap (x.1+x.2))) (2 ^ 1))) with
        | none=>rfl
        | some a =>
          simp only [Option.bind_some,Bool.not_eq_true',decide_eq_false_iff_not,decide_eq_true_eq]
          by_cases hc:a.Id<id
          · rw [if_pos hc,if_pos (by omega)]
          · rw [if_neg hc,if_neg (by omega)]
      · rfl
  rw [e,Option.bind_some,zdv,if_neg (by simp)]
theorem put_ok {l:List zac} {n:Nat} (hn:n<l.length) (hl:l.length≤300) (hs:SortedJ l) {m:Int} (hm:(l.length:Int)≤m) (hj:JobOk l[n]):zbW 1000 (l.take n) l[n] m=some (l.take (n+1),0):=by
  obtain ⟨r,e,h⟩:=job_right l[n]
  have hr:=h.2 hj
  subst hr
  have ha:=hj.afterN
  have ll:(l.take n).length=n:=by rw [List.length_take]; omega
  unfold zbW
  rw [e,Option.bind_some,if_neg (by simp),find_end (by omega) (sorted_take hs n) (fun j hj=>?_),Option.bind_some]
  · rw [if_neg (by simp),if_neg (by rw [ll]; simp; omega),own_job (by omega),Option.bind_some]
    unfold zaG
    have sl:slice? (l.take n) ((l.take n).length:Int) ((l.take n).length:Int)=some []:=by
      unfold slice?
      rw [if_pos ⟨by omega,by omega,by omega⟩]
      simp
    rw [sl,Option.bind_some,if_neg (by simp),if_pos (by simp),app_ok (by rw [ll]; simp; omega),Option.bind_some,Option.bind_some,List.take_succ_eq_append_getElem hn]
  · obtain ⟨i,hi,rfl⟩:=List.getElem_of_mem hj
    rw [List.getElem_take]
    exact hs.lt (by omega) hn
def leftL (F:List zaa) (l:List zab):List zaa:=l.foldl takeA F
structure TInv (s:zad) (st:zag) (i:Nat) (x:Int×(List zaa)×List (Int×zab)):Prop where
  ix:x.1=(i:Int)
  h:∃H,AllocsH s st H (st.Allocs.drop i) x.2.1
  len:x.2.1.length=s.Nodes.length
  vec:∀r∈x.2.1,VecOk r
  m:x.2.2=mapA (st.Allocs.take i)
  fr:x.2.1=leftL s.Nodes (st.Allocs.take i)
theorem asc_of {s:zad} {st:zag} (q:zdO s st):AscA st.Allocs:=by
  have h:=(allocsH_fwd q.allocs q.spec.nodes.ok).1
  unfold AscA
  rw [h]
  exact jobs_pw q.jobs
theorem alloc_ids {s:zad} {st:zag} (q:zdO s st):∀a∈st.Allocs,0≤a.Job∧a.Job≤1048576:=fun a ha=>by
  obtain ⟨j,hj,P⟩:=q.allocs.mem a ha
  have:=(q.jobs.each j hj).ok.id
  have:=P.job
  omega
theorem of_ok {s:zad} {st:zag} (hw:FewW s st) (q:zdO s st):zcA 1000 s st=some (.inr (st.Stamps.Queues,st.Jobs,(st.Allocs.map fun a=>(a.Job,a)),s.Nodes,s.Parts,s.Queues,s.Users,s.Weights.Age,s.Weights.Size,s.Weights.Qos,s.Weights.Share,s.Decay,s.Mode,s.Jobs,s.Ids,s.Versions,s.Linger,s.Keep,s.In,s.Out,s.Cache,st.Now,st.Next,st.Book,st.Books,st.Use,st.Stamps.Nodes,s.Jobs,leftL s.Nodes st.Allocs)):=by
  have hl:=hw.jobs; have hal:=hw.allocs; have hn:=hw.spec.nodes; have hb:=hw.books; have hu:=hw.use; have hs:=hw.stamps
  obtain ⟨r,e,h⟩:=sound_ok hw
  have hr:=h.2 q
  subst hr
  have jl:=q.jobs.len
  have asc:=asc_of q
  unfold zcA
  rw [e,Option.bind_some,if_neg (by simp),new_ok hw.spec q.spec,Option.bind_some]
  dsimp only
  refine Ret.eq ?_
  refine lpS st.Jobs.length (fun i x=>x=((i:Int),st.Jobs.take i)) (fun i x f hi hx hr=>?_) (fun x f hx=>?_) rfl (by omega)
  · subst hx
    simp only [zdw hi,if_true,zam hi,Option.bind_some,wr1 (show i<1000000 by omega),put_ok hi hl q.jobs.sorted jl (q.jobs.each _ (List.getElem_mem hi)).ok,bne_self_eq_false,Bool.false_eq_true,if_false]
    exact hr _ rfl
  · subst hx
    simp only [zdv,Bool.false_eq_true,if_false]
    refine lpS st.Allocs.length (TInv s st) (fun i x f hi hx hr=>?_) (fun x f hx=>?_) ⟨rfl,⟨_,by rw [List.drop_zero]; exact q.allocs⟩,rfl,q.spec.nodes.ok,rfl,rfl⟩ (by omega)
    · obtain ⟨x1,F,M⟩:=x
      obtain ⟨h1,h2,h3,h4,h5,h6⟩:=hx
      dsimp only at h1 h2 h3 h4 h5 h6
      subst h1
      have hm:=List.getElem_mem hi
      have hsh:=hw.sh _ hm
      obtain ⟨H,hH⟩:=h2
      rw [List.drop_eq_getElem_cons hi] at hH
      obtain ⟨j,hj,P⟩:=q.allocs.mem _ hm
      have jo:=(q.jobs.each j hj).ok
      have fit:FitsA F st.Allocs[i]∧∃H',AllocsH s st H' (st.Allocs.drop (i+1)) (takeA F st.Allocs[i]):=by
        cases H with
        | nil=>cases (show st.Allocs[i]::st.Allocs.drop (i+1)=[] from hH)
        | cons j' H' =>
          obtain ⟨a',A',e',-,hf,hr⟩:=hH
          cases e'
          exact ⟨hf,H',hr⟩
      have free:∀b∈st.Allocs.take i,b.Job≠st.Allocs[i].Job:=fun b hb=>by
        obtain ⟨m,hm2,rfl⟩:=List.getElem_of_mem hb
        rw [List.length_take] at hm2
        rw [List.getElem_take]
        have:=List.pairwise_iff_getElem.1 asc m i (by simp; omega) (by simpa using hi) (by omega)
        rw [List.getElem_map,List.getElem_map] at this
        omega
      have T:TakeOk M F st.Allocs[i]:=⟨by have:=jo.id; have:=P.job; omega,tot_pos (by have:=jo.many; have:=P.suits.tot; omega),by rw [h3]; exact P.suits.shares,by rw [P.need]; exact jo.need,by rw [h5]; exact mapA_none free,fit.1⟩
      simp only [zdw hi,if_true,zam hi,Option.bind_some,wr1 (show i<1000000 by omega)]
      refine (take_ok (M:=M) (a:=st.Allocs[i]) (F:=F) (by omega) hsh h4).bind fun r hr1=>?_
      have z:=hr1.1.2 T
      obtain ⟨eM,bh⟩:=hr1.2 z
      rw [z]
      simp only [bne_self_eq_false,Bool.false_eq_true,if_false]
      refine hr _ ⟨rfl,?_,?_,?_,?_,?_⟩
      · dsimp only
        rw [bh.eq]
        exact fit.2
      · dsimp only
        rw [bh.eq,takeA_len,h3]
      · dsimp only
        rw [bh.eq]
        exact takeA_ok fit.1
      · dsimp only
        rw [eM,h5,mapA_set free,List.take_succ_eq_append_getElem hi]
      · dsimp only
        rw [bh.eq,h6,List.take_succ_eq_append_getElem hi,leftL,leftL,List.foldl_append]
        rfl
    · obtain ⟨x1,F,M⟩:=x
      obtain ⟨h1,h2,h3,h4,h5,h6⟩:=hx
      dsimp only at h1 h2 h3 h4 h5 h6
      subst h1
      simp only [zdv,Bool.false_eq_true,if_false]
      rw [show zan 1000 st.Books=some st.Books from zcX (by omega),Option.bind_some,show zaC 1000 st.Use=some st.Use from zcX (by omega),Option.bind_some,show zaC 1000 st.Stamps.Queues=some st.Stamps.Queues from zcX (by omega),Option.bind_some,zae]
      rw [h5,h6,List.take_length,List.take_length]
      rfl
theorem of_no {s:zad} {st:zag} (hw:FewW s st) (q:¬zdO s st):zcA 1000 s st=some (.inl 2):=by
  obtain ⟨r,e,h⟩:=sound_ok hw
  have:r=false:=by
    cases r with
    | false=>rfl
    | true=>exact absurd (h.1 rfl) q
  unfold zcA
  rw [e,this]
  rfl
theorem shown {s:zad} {st:zag} (hw:FewW s st) (q:zdO s st) :
    zap 1000 st.Stamps.Queues st.Jobs (st.Allocs.map fun a=>(a.Job,a)) st.Now st.Next st.Book st.Books st.Use st.Stamps.Nodes=some st:=by
  have hl:=hw.jobs; have hb:=hw.books; have hu:=hw.use; have hs:=hw.stamps
  unfold zap
  rw [all_jobs (by omega) hw.after,Option.bind_some,show zaK 1000 (st.Allocs.map fun a=>(a.Job,a))=some st.Allocs from all_allocs hw.allocs (asc_of q) (alloc_ids q) hw.sh,Option.bind_some,clone_books (by omega),Option.bind_some,clone_ints (by omega),Option.bind_some,show zaE 1000 st.Stamps.Queues=some st.Stamps.Queues from zcX (by omega),Option.bind_some]
theorem law_of_ok {s:zad} {st:zag} (hw:FewW s st) (q:zdO s st):za7 1000 s st=some (.inr (st.Stamps.Queues,st.Jobs,(st.Allocs.map fun a=>(a.Job,a)),true,s.Nodes,s.Parts,s.Queues,s.Users,s.Weights.Age,s.Weights.Size,s.Weights.Qos,s.Weights.Share,s.Decay,s.Mode,s.Jobs,s.Ids,s.Versions,s.Linger,s.Keep,s.In,s.Out,s.Cache,st.Now,st.Next,st.Book,st.Books,st.Use,st.Stamps.Nodes,s.Jobs,leftL s.Nodes st.Allocs)):=by
  obtain ⟨r,e2,h⟩:=ref_sound hw
  have hr:=h.2 q
  subst hr
  unfold za7
  rw [of_ok hw q,Option.bind_some]
  dsimp only
  rw [e2,Option.bind_some,if_neg (by simp),shown hw q,Option.bind_some,same_state hw,Option.bind_some]
theorem law_of_no {s:zad} {st:zag} (hw:FewW s st) (q:¬zdO s st):za7 1000 s st=some (.inl true):=by
  obtain ⟨r,e2,h⟩:=ref_sound hw
  have:r=false:=by
    cases r with
    | false=>rfl
    | true=>exact absurd (h.1 rfl) q
  unfold za7
  rw [of_no hw q,Option.bind_some]
  dsimp only
  rw [e2,this]
  rfl
theorem spec_shown {s:zad} (hs:FewS s) :
    zat 1000 s.Nodes s.Parts s.Queues s.Users s.Weights.Age s.Weights.Size s.Weights.Qos s.Weights.Share s.Decay s.Mode s.Jobs s.Ids s.Versions s.Linger s.Keep s.In s.Out s.Cache=some s:=by
  unfold zat
  rw [show zcy 1000 _=some s from copy_ok hs]
  rfl
end Go.Plain
end
section
namespace Go.Plain
open Go.Abs
end Go.Plain
end
section
namespace Go.Plain
open Go.Abs
def zeroJ:zac:={ Id:=0,User:=0,Queue:=0,Many:=0,Need:={ Cpu:=0,Mem:=0,Gpu:=0,Lic:=0 },Wall:=0,After:=[],State:=0,Ok:=false,Kill:=false,Version:=0,Born:=0,Start:=0,End:=0,Array:=0 }
theorem find_row {l:List zac} (hl:l.length≤300) (hs:SortedJ l) (id:Int):Ret (zas 1000 l id) fun r=>(r.2=true↔∃j∈l,j.Id=id)∧(r.2=true→At l id r.1):=by
  unfold zas
  rw [ret_bind]
  refine half hl hs id (fun j=>some (decide (j.Id<id))) (fun j hj=>rfl) (fun i=>some i) (fun i hi h1 h2=>?_) _ (fun f x=>?_)
  · rw [zae,zaf]
    refine ⟨fun h=>?_,fun h=>?_⟩
    · simp only [decide_eq_true_eq] at h
      have hi':i<l.length:=by omega
      rw [zam hi',Option.bind_some,zae]
      simp only [beq_iff_eq]
      refine ⟨⟨fun e=>⟨_,List.getElem_mem hi',e⟩,fun ⟨j,hm,e⟩=>?_⟩,fun e=>⟨by omega,by simpa using hi',by simpa using e⟩⟩
      obtain ⟨k,hk,rfl⟩:=List.getElem_of_mem hm
      rcases Nat.lt_trichotomy k i with q | q | q
      · have:=h1 k hk q; omega
      · subst q; exact e
      · have:=hs.lt q hk; have:=h2 i hi' (by omega); omega
    · simp only [decide_eq_true_eq] at h
      simp only [zae,Bool.false_eq_true,false_iff,false_implies,and_true]
      rintro ⟨j,hm,e⟩
      obtain ⟨k,hk,rfl⟩:=List.getElem_of_mem hm
      have:=h1 k hk (by omega)
      omega
  · split
    · cases at? l (IntKind.i64.wrap (Int.fdiv (IntKind.u64.wrap (IntKind.i64.wrap (x.1+x.2))) (2 ^ 1))) with
      | none=>rfl
      | some a =>
        simp only [Option.bind_some,Bool.not_eq_true',decide_eq_false_iff_not,decide_eq_true_eq]
        by_cases hc:a.Id<id
        · rw [if_pos hc,if_pos (by omega)]
        · rw [if_neg hc,if_neg (by omega)]
    · rfl
section
variable {l:List zac}
theorem job_em (l:List zac) (id:Int):(∃k,∃h:k<l.length,l[k].Id=id)∨∀j∈l,j.Id≠id:=by
  by_cases h:∃j∈l,j.Id=id
  · obtain ⟨j,hj,e⟩:=h
    obtain ⟨k,hk,rfl⟩:=List.getElem_of_mem hj
    exact .inl ⟨k,hk,e⟩
  · exact .inr fun j hj e=>h ⟨j,hj,e⟩
theorem find_some (hl:l.length≤300) (hs:SortedJ l) {k:Nat} (hk:k<l.length):zas 1000 l l[k].Id=some ((k:Int),true):=by
  obtain ⟨⟨r,b⟩,e,h1,h2⟩:=find_row hl hs l[k].Id
  have hb:b=true:=h1.2 ⟨_,List.getElem_mem hk,rfl⟩
  subst hb
  have a:At l l[k].Id r:=h2 rfl
  have:=hs.inj a.hi hk a.is
  have:=a.lo
  rw [e,show r=(k:Int) by omega]
theorem find_none (hl:l.length≤300) (hs:SortedJ l) {id:Int} (h:∀j∈l,j.Id≠id):∃r,zas 1000 l id=some (r,false):=by
  obtain ⟨⟨r,b⟩,e,h1,h2⟩:=find_row hl hs id
  have hb:b=false:=by
    cases b with
    | false=>rfl
    | true=>obtain ⟨j,hj,e⟩:=h1.1 rfl; exact absurd e (h j hj)
  exact ⟨r,by rw [e,hb]⟩
theorem get_some (hl:l.length≤300) (hs:SortedJ l) {k:Nat} (hk:k<l.length) (ha:l[k].After.length≤1000):zaz 1000 l l[k].Id=some (l[k],true):=by
  unfold zaz
  rw [find_some hl hs hk,Option.bind_some]
  simp only [Bool.not_true,Bool.false_eq_true,if_false]
  rw [zam hk,Option.bind_some,own_job (by omega),Option.bind_some]
theorem get_none (hl:l.length≤300) (hs:SortedJ l) {id:Int} (h:∀j∈l,j.Id≠id):zaz 1000 l id=some (zeroJ,false):=by
  unfold zaz
  obtain ⟨r,e⟩:=find_none hl hs h
  rw [e,Option.bind_some]
  rfl
theorem job_some (hl:l.length≤300) (hs:SortedJ l) {k:Nat} (hk:k<l.length) (ha:l[k].After.length≤1000):zah 1000 l l[k].Id=some (l[k],true):=by
  unfold zah
  rw [get_some hl hs hk ha,Option.bind_some]
theorem job_none (hl:l.length≤300) (hs:SortedJ l) {id:Int} (h:∀j∈l,j.Id≠id):zah 1000 l id=some (zeroJ,false):=by
  unfold zah
  rw [get_none hl hs h,Option.bind_some]
theorem job_right_t {j:zac} (h:JobOk j):zda 1000 j=some true:=by
  obtain ⟨r,e,q⟩:=job_right j
  rw [e,q.2 h]
theorem set_ok (hl:l.length≤300) (hs:SortedJ l) {k:Nat} (hk:k<l.length) {j:zac} (hj:JobOk j) (he:j.Id=l[k].Id):zb1 1000 l j=some (l.set k j,0):=by
  have:=hj.afterN
  unfold zb1
  rw [job_right_t hj,Option.bind_some,if_neg (by simp),he,find_some hl hs hk,Option.bind_some]
  dsimp only
  rw [if_neg (by simp),own_job (by omega),Option.bind_some,zam hk,Option.bind_some,Int.toNat_natCast]
theorem sorted_set (hs:SortedJ l) {k:Nat} (hk:k<l.length) {j:zac} (he:j.Id=l[k].Id):SortedJ (l.set k j):=by
  have key:∀i (h:i<l.length),((l.set k j)[i]'(by simpa using h)).Id=l[i].Id:=fun i h=>by
    rw [List.getElem_set]
    split
    · rename_i e; subst e; exact he
    · rfl
  intro i hi
  have hi':i+1<l.length:=by simpa using hi
  rw [key i (by omega),key (i+1) hi']
  exact hs i hi'
end
def aftV (x:Int):Int:=if x≥281474976710656 then 0 else x+1
theorem after_ok {x:Int} (h:0≤x):zdS 1000 x=some (aftV x):=by
  unfold zdS aftV
  simp only [decide_eq_true_eq]
  split
  · rfl
  · rw [wr (by omega) (by omega)]
def stampL (Q:List Int) (q:Int):List Int:=if 0≤q∧q<Q.length then Q.set q.toNat (aftV (Q[q.toNat]?.getD 0)) else Q
theorem stampL_len (Q:List Int) (q:Int):(stampL Q q).length=Q.length:=by unfold stampL; split <;> simp
def StampsIn (Q:List Int):Prop:=∀x∈Q,0≤x∧x≤281474976710656
theorem aftV_bd {x:Int} (h:0≤x∧x≤281474976710656):0≤aftV x∧aftV x≤281474976710656:=by unfold aftV; split <;> omega
theorem stampL_in {Q:List Int} (h:StampsIn Q) (q:Int):StampsIn (stampL Q q):=by
  unfold stampL
  split
  · rename_i hq
    have hl:q.toNat<Q.length:=by omega
    intro x hx
    rcases List.mem_or_eq_of_mem_set hx with e | e
    · exact h x e
    · subst e
      rw [List.getElem?_eq_getElem hl]
      exact aftV_bd (h _ (List.getElem_mem hl))
  · exact h
theorem stamp_ok {Q:List Int} (h:StampsIn Q) (q:Int):zaJ 1000 Q q=some (stampL Q q):=by
  unfold zaJ stampL
  by_cases hq:0≤q∧q<Q.length
  · rw [if_pos (by simp; omega),if_pos hq]
    obtain ⟨hx,e⟩:=at_int (l:=Q) hq.1 hq.2
    rw [e,Option.bind_some,after_ok (h _ (List.getElem_mem hx)).1,Option.bind_some,Option.bind_some,List.getElem?_eq_getElem hx]
    rfl
  · rw [if_neg (by simp; omega),if_neg hq]
def changeQ (Q:List Int) (a b:Int):List Int:=if b=a then stampL Q a else stampL (stampL Q a) b
theorem changeQ_len (Q:List Int) (a b:Int):(changeQ Q a b).length=Q.length:=by unfold changeQ; split <;> simp [stampL_len]
theorem changeQ_in {Q:List Int} (h:StampsIn Q) (a b:Int):StampsIn (changeQ Q a b):=by
  unfold changeQ
  split
  · exact stampL_in h a
  · exact stampL_in (stampL_in h a) b
section
variable {l:List zac}
theorem change_set (hl:l.length≤300) (hs:SortedJ l) {k:Nat} (hk:k<l.length) {j:zac} (hj:JobOk j) (he:j.Id=l[k].Id) {Q:List Int} (hQ:StampsIn Q) :
    zav 1000 Q l l[k] j=some (l.set k j,changeQ Q l[k].Queue j.Queue,0):=by
  unfold zav
  rw [set_ok hl hs hk hj he,Option.bind_some]
  dsimp only
  rw [if_neg (by simp),stamp_ok hQ,Option.bind_some]
  dsimp only [zbn]
  unfold changeQ
  by_cases h:j.Queue=l[k].Queue
  · rw [if_neg (by simp [h]),if_pos h]
  · rw [if_pos (by simpa using h),if_neg h,stamp_ok (stampL_in hQ _),Option.bind_some]
def WaitS (x:Int):Prop:=x=1∨x=2
instance (x:Int):Decidable (WaitS x):=by unfold WaitS; infer_instance
theorem life_waits (x:Int):zbR 1000 x=some (decide (WaitS x)):=by
  unfold zbR
  congr 1
  rw [Bool.eq_iff_iff]
  rw [decide_eq_true_eq]
  simp only [Bool.or_eq_true,beq_iff_eq,WaitS]
theorem edit_done (hl:l.length≤300) (hs:SortedJ l) {k:Nat} (hk:k<l.length) (ha:l[k].After.length≤1000) {j:zac} (hj:JobOk j) (he:j.Id=l[k].Id) (hw:WaitS l[k].State) (hw2:WaitS j.State) {Q:List Int} (hQ:StampsIn Q) :
    za0 1000 Q l j=some (changeQ Q l[k].Queue j.Queue,l.set k j,0):=by
  unfold za0
  rw [he,get_some hl hs hk ha,Option.bind_some]
  dsimp only
  rw [if_neg (by simp),job_right_t hj,Option.bind_some,if_neg (by simp)]
  dsimp only [zbn]
  rw [life_waits,Option.bind_some,if_neg (by simpa using hw),life_waits,Option.bind_some,if_neg (by simpa using hw2),change_set hl hs hk hj he hQ,Option.bind_some]
end
structure Shows (st:zag):Prop where
  jobs:st.Jobs.length≤300
  after:∀j∈st.Jobs,j.After.length≤10
  allocs:st.Allocs.length≤300
  asc:AscA st.Allocs
  ids:∀a∈st.Allocs,0≤a.Job∧a.Job≤1048576
  sh:∀a∈st.Allocs,a.Shares.length≤300
  books:st.Books.length≤20
  use:st.Use.length≤20
  stamps:st.Stamps.Queues.length≤20
theorem shows_of {s:zad} {st:zag} (hw:FewW s st) (q:zdO s st):Shows st:=
  ⟨hw.jobs,hw.after,hw.allocs,asc_of q,alloc_ids q,hw.sh,hw.books,hw.use,hw.stamps⟩
theorem shown_of {st:zag} (h:Shows st) :
    zap 1000 st.Stamps.Queues st.Jobs (st.Allocs.map fun a=>(a.Job,a)) st.Now st.Next st.Book st.Books st.Use st.Stamps.Nodes=some st:=by
  have hl:=h.jobs; have hb:=h.books; have hu:=h.use; have hs:=h.stamps
  unfold zap
  rw [all_jobs (by omega) h.after,Option.bind_some,show zaK 1000 (st.Allocs.map fun a=>(a.Job,a))=some st.Allocs from all_allocs h.allocs h.asc h.ids h.sh,Option.bind_some,clone_books (by omega),Option.bind_some,clone_ints (by omega),Option.bind_some,show zaE 1000 st.Stamps.Queues=some st.Stamps.Queues from zcX (by omega),Option.bind_some]
theorem same_shows {st:zag} (h:Shows st):zaV 1000 st st=some true:=by
  have h1:=h.jobs; have h2:=h.use; have h3:=h.stamps; have h4:=h.books
  unfold zaV
  rw [if_pos (by simp),same_jobs _ (by omega) h.after,Option.bind_some,if_pos rfl,same_allocs _ h.allocs h.sh,Option.bind_some,if_pos rfl,same_books _ (by omega),Option.bind_some,if_pos rfl,same_ints _ (by omega),Option.bind_some,if_pos rfl,same_ints _ (by omega),Option.bind_some]
  simp
def waitN (l:List zac) (q:Int):Int:=(l.map fun j=>if j.Queue=q∧WaitS j.State then (1:Int) else 0).sum
theorem sum_take {α:Type} {f:α→Int} {l:List α} {i:Nat} (h:i<l.length):((l.take (i+1)).map f).sum=((l.take i).map f).sum+f l[i]:=by
  rw [List.take_succ_eq_append_getElem h,List.map_append,List.sum_append]
  simp
theorem cnt_bd01 {α:Type} {f:α→Int} (hf:∀x,0≤f x∧f x≤1) (l:List α):0≤(l.map f).sum∧(l.map f).sum≤l.length:=by
  induction l with
  | nil=>simp
  | cons a l ih=>have:=hf a; simp only [List.map_cons,List.sum_cons,List.length_cons]; omega
theorem waiting_count {l:List zac} (hl:l.length≤300) (q:Int):quota_Waiting 1000 l q=some (waitN l q):=by
  unfold quota_Waiting
  have key:Ret (lpX (fun f2 (x1:Int×Int)=>
      if (decide (x1.2<(l.length:Int)))=true then
        jn (fun (x3:Int)=>
          f2 (x3,(IntKind.i64.wrap (x1.2+1)))) fun j4=>
        (at? l x1.2).bind fun a5=>
        (
          if (a5.Queue == q)=true then
          (zbR 1000 a5.State).bind fun r6=>
          some r6
          else
          some false).bind fun x7=>
        if x7=true then
          j4 (IntKind.i64.wrap (x1.1+1))
        else
          j4 x1.1
      else
        some x1.1) 1000 (0,0)) fun r=>r=waitN l q:=by
    refine lpS l.length (fun i x=>x=(waitN (l.take i) q,(i:Int))) (fun i x f hi hx hr=>?_) (fun x f hx=>?_) (by simp [waitN]) (by omega)
    · subst hx
      have bd:=cnt_bd01 (f:=fun j:zac=>if j.Queue=q∧WaitS j.State then (1:Int) else 0) (fun x=>by split <;> omega) (l.take i)
      rw [List.length_take] at bd
      have nx:waitN (l.take (i+1)) q=waitN (l.take i) q+(if l[i].Queue=q∧WaitS l[i].State then (1:Int) else 0):=sum_take hi
      simp only [zdw hi,if_true,zam hi,Option.bind_some,wr1 (show i<1000000 by omega),life_waits,zbn]
      by_cases h1:l[i].Queue=q
      · rw [if_pos (by simpa using h1),Option.bind_some]
        by_cases h2:WaitS l[i].State
        · rw [if_pos (by simpa using h2)]
          rw [if_pos ⟨h1,h2⟩] at nx
          change 0≤waitN _ q∧waitN _ q≤_ at bd
          rw [wr (by omega) (by omega)]
          exact hr _ (by rw [nx])
        · rw [if_neg (by simpa using h2)]
          rw [if_neg (fun h=>h2 h.2)] at nx
          exact hr _ (by rw [nx,Int.add_zero])
      · rw [if_neg (by simpa using h1),Option.bind_some,if_neg (by simp)]
        rw [if_neg (fun h=>h1 h.1)] at nx
        exact hr _ (by rw [nx,Int.add_zero])
    · subst hx
      simp only [zdv,Bool.false_eq_true,if_false,zae,List.take_length]
  rw [key.eq,Option.bind_some]
theorem waitN_bd (l:List zac) (q:Int):0≤waitN l q∧waitN l q≤l.length:=cnt_bd01 (fun x=>by split <;> omega) l
theorem spec_right_t {s:zad} (hs:FewS s) (k:SpecOk s):zbS 1000 s=some true:=by
  obtain ⟨r,e,h⟩:=spec_right s hs
  rw [e,h.2 k]
theorem queue_at {s:zad} {q:Int} (h:0≤q∧q<s.Queues.length):∃h':q.toNat<s.Queues.length,at? s.Queues q=some (s.Queues[q.toNat]'h'):=at_int h.1 h.2
theorem room_ok {s:zad} (hs:FewS s) (k:SpecOk s) {l:List zac} (hl:l.length≤300) {q m:Int} (hm:0≤m∧m≤256) :
    za8 (quota_Room 1000 s l q m) (∃h:0≤q∧q.toNat<s.Queues.length,waitN l q+m≤(s.Queues[q.toNat]'h.2).MaxJobs):=by
  have b:=waitN_bd l q
  unfold quota_Room quota_known
  by_cases hq:0≤q∧q<s.Queues.length
  · obtain ⟨h',e⟩:=queue_at hq
    rw [if_pos (by simp; omega),spec_right_t hs k,Option.bind_some,Option.bind_some,if_neg (by simp; omega),waiting_count hl,Option.bind_some,e,Option.bind_some,wr (by omega) (by omega),za8,zae,decide_eq_true_eq]
    exact ⟨fun h=>⟨⟨hq.1,h'⟩,h⟩,fun ⟨_,h⟩=>h⟩
  · rw [if_neg (by simp; omega),Option.bind_some,if_pos (by simp)]
    exact no_f fun ⟨h,_⟩=>hq (by omega)
theorem allowed_ret {s:zad} (hs:FewS s) (k:SpecOk s) (q u:Int):∃b,spec_Allowed 1000 s q u=some b:=by
  unfold spec_Allowed
  rw [spec_right_t hs k,Option.bind_some]
  split
  · exact ⟨_,rfl⟩
  · rename_i h
    simp only [Bool.or_eq_true,decide_eq_true_eq,not_or,Bool.not_true,Bool.false_eq_true] at h
    obtain ⟨h',e⟩:=queue_at (s:=s) (q:=q) (by omega)
    rw [e,Option.bind_some]
    split
    · exact ⟨_,rfl⟩
    · have hu:=hs.queue _ (List.getElem_mem h')
      obtain ⟨b,e,_⟩:=contains_ok _ (Nat.le_trans hu (by decide)) u
      rw [e]
      exact ⟨_,rfl⟩
end Go.Plain
end
section
namespace Go.Plain
open Go.Abs
structure JS (st:zag):Prop where
  shows:Shows st
  sorted:SortedJ st.Jobs
  ok:∀j∈st.Jobs,JobOk j
  stamps:StampsIn st.Stamps.Queues
theorem js_of {s:zad} {st:zag} (hw:FewW s st) (q:zdO s st):JS st:=
  ⟨shows_of hw q,q.jobs.sorted,fun j hj=>(q.jobs.each j hj).ok,q.use.stamps⟩
theorem JS.set {st:zag} (h:JS st) {k:Nat} (hk:k<st.Jobs.length) {j:zac} (he:j.Id=st.Jobs[k].Id) (hj:JobOk j) {Q:List Int} (hQ:StampsIn Q) (hl:Q.length=st.Stamps.Queues.length) {n:Int}:JS { st with Jobs:=st.Jobs.set k j,Stamps:={ Queues:=Q,Nodes:=n } }:=by
  have m:∀x∈st.Jobs.set k j,x∈st.Jobs∨x=j:=fun x hx=>List.mem_or_eq_of_mem_set hx
  refine ⟨⟨by simpa using h.shows.jobs,fun x hx=>?_,h.shows.allocs,h.shows.asc,h.shows.ids,h.shows.sh,h.shows.books,h.shows.use,by rw [hl]; exact h.shows.stamps⟩,sorted_set h.sorted hk he,fun x hx=>?_,hQ⟩
  · rcases m x hx with e | e
    · exact h.shows.after x e
    · subst e; have:=hj.afterN; omega
  · rcases m x hx with e | e
    · exact h.ok x e
    · subst e; exact hj
abbrev shiftCheck (s:zad) (st:zag) (u:Int) (rq:zaB):Option Int:=
  zdd 1000 st.Stamps.Queues st.Jobs (st.Allocs.map fun a=>(a.Job,a)) u rq s.Nodes s.Parts s.Queues s.Users s.Weights.Age s.Weights.Size s.Weights.Qos s.Weights.Share s.Decay s.Mode s.Jobs s.Ids s.Versions s.Linger s.Keep s.In s.Out s.Cache st.Now st.Next st.Book st.Books st.Use st.Stamps.Nodes
abbrev shiftDo (s:zad) (st:zag) (F:List zaa) (u:Int) (rq:zaB):=
  zb9 1000 st.Stamps.Queues st.Jobs (st.Allocs.map fun a=>(a.Job,a)) u rq s.Nodes s.Parts s.Queues s.Users s.Weights.Age s.Weights.Size s.Weights.Qos s.Weights.Share s.Decay s.Mode s.Jobs s.Ids s.Versions s.Linger s.Keep s.In s.Out s.Cache st.Now st.Next st.Book st.Books st.Use st.Stamps.Nodes F
structure MoveIn (s:zad) (rq:zaB) (j:zac):Prop where
  version:rq.Version=0∨rq.Version=j.Version
  waits:WaitS j.State
  queue:0≤rq.Queue∧rq.Queue<s.Queues.length
  fits:spec_Fits 1000 s rq.Queue j.Many j.Need=some true
theorem check_move {s:zad} {st:zag} (hs:FewS s) (k:SpecOk s) (h:JS st) (rq:zaB) (hk:rq.Kind=7) :
    Ret (shiftCheck s st 0 rq) fun e=>(e=0→∃i,∃hi:i<st.Jobs.length,st.Jobs[i].Id=rq.Job∧MoveIn s rq st.Jobs[i]∧st.Jobs[i].Version<s.Versions) ∧
      (∀i,∀hi:i<st.Jobs.length,st.Jobs[i].Id=rq.Job→MoveIn s rq st.Jobs[i]→e=0∨e=33∨e=34∨e=41):=by
  have hu:=k.users
  have hl:=h.shows.jobs
  unfold shiftCheck zdd
  rw [spec_shown hs,Option.bind_some,hk]
  simp only [show (((7:Int) == 7)=true)=True from by simp,if_true,Option.bind_some]
  rw [if_neg (by simp; omega)]
  rcases job_em st.Jobs rq.Job with ⟨i,hi,e⟩ | hn
  · have hm:=List.getElem_mem hi
    have jo:=h.ok _ hm
    have ha:=jo.afterN
    have uniq:∀i',∀hi':i'<st.Jobs.length,st.Jobs[i'].Id=rq.Job→i'=i:=fun i' hi' e'=>h.sorted.inj hi' hi (by rw [e',e])
    rw [←e,job_some hl h.sorted hi (by omega),Option.bind_some]
    dsimp only
    have bad:∀x:Int,x≠0→(MoveIn s rq st.Jobs[i]→x=33∨x=34∨x=41)→Ret (some x) fun e=>(e=0→∃i',∃hi:i'<st.Jobs.length,st.Jobs[i'].Id=st.Jobs[i].Id∧MoveIn s rq st.Jobs[i']∧st.Jobs[i'].Version<s.Versions)∧(∀i',∀hi:i'<st.Jobs.length,st.Jobs[i'].Id=st.Jobs[i].Id→MoveIn s rq st.Jobs[i']→e=0∨e=33∨e=34∨e=41):=fun x hx hc=>by
      rw [zae]
      refine ⟨fun h0=>absurd h0 hx,fun i' hi' e' m=>.inr ?_⟩
      have:=h.sorted.inj hi' hi e'
      subst this
      exact hc m
    rw [if_neg (by simp),if_neg (by simp),zaf]
    refine ⟨fun hv=>bad 32 (by simp) fun m=>?_,fun hv=>?_⟩
    · simp only [Bool.and_eq_true,bne_iff_ne,ne_eq] at hv
      have:=m.version
      omega
    · simp only [Bool.and_eq_true,bne_iff_ne,ne_eq,not_and,Decidable.not_not] at hv
      have hv2:rq.Version=0∨rq.Version=st.Jobs[i].Version:=by
        by_cases h0:rq.Version=0
        · exact .inl h0
        · exact .inr (hv h0)
      unfold zcV
      rw [spec_shown hs,Option.bind_some,life_waits,Option.bind_some,ret_bind]
      have pass:∀x:Int,x≠0→(MoveIn s rq st.Jobs[i]→x=33∨x=34∨x=41)→Ret (some x) fun x6=>Ret (if (x6 != 0)=true then some x6 else if decide (st.Jobs[i].Version≥s.Versions)=true then some 41 else some 0) fun e=>(e=0→∃i',∃hi:i'<st.Jobs.length,st.Jobs[i'].Id=st.Jobs[i].Id∧MoveIn s rq st.Jobs[i']∧st.Jobs[i'].Version<s.Versions)∧(∀i',∀hi:i'<st.Jobs.length,st.Jobs[i'].Id=st.Jobs[i].Id→MoveIn s rq st.Jobs[i']→e=0∨e=33∨e=34∨e=41):=fun x hx hc=>by
        rw [zae,if_pos (by simpa using hx)]
        exact bad x hx hc
      rw [zaf]
      refine ⟨fun hw=>pass 31 (by simp) fun m=>?_,fun hw=>?_⟩
      · simp at hw; exact absurd m.waits hw
      · simp only [Bool.not_eq_true',decide_eq_false_iff_not,Decidable.not_not] at hw
        rw [zaf]
        refine ⟨fun hq=>pass 30 (by simp) fun m=>?_,fun hq=>?_⟩
        · simp only [Bool.or_eq_true,decide_eq_true_eq] at hq
          have:=m.queue
          omega
        · simp only [Bool.or_eq_true,decide_eq_true_eq,not_or] at hq
          obtain ⟨b,eb⟩:=allowed_ret hs k rq.Queue st.Jobs[i].User
          rw [eb,Option.bind_some,zaf]
          refine ⟨fun _=>pass 33 (by simp) fun _=>.inl rfl,fun _=>?_⟩
          obtain ⟨c,e1,e2⟩:=fits_eq hs k (q:=rq.Queue) (m:=st.Jobs[i].Many) jo.need jo.needz
          rw [e1,Option.bind_some,zaf]
          refine ⟨fun hc=>pass 37 (by simp) fun m=>?_,fun hc=>?_⟩
          · have:=m.fits
            rw [e1] at this
            simp at this hc
            rw [this] at hc
            cases hc
          · simp only [Bool.not_eq_true',Bool.not_eq_false] at hc
            subst hc
            have M:MoveIn s rq st.Jobs[i]:=⟨hv2,hw,by omega,e1⟩
            have fin:Ret (some (0:Int)) fun x6=>Ret (if (x6 != 0)=true then some x6 else if decide (st.Jobs[i].Version≥s.Versions)=true then some 41 else some 0) fun e=>(e=0→∃i',∃hi:i'<st.Jobs.length,st.Jobs[i'].Id=st.Jobs[i].Id∧MoveIn s rq st.Jobs[i']∧st.Jobs[i'].Version<s.Versions)∧(∀i',∀hi:i'<st.Jobs.length,st.Jobs[i'].Id=st.Jobs[i].Id→MoveIn s rq st.Jobs[i']→e=0∨e=33∨e=34∨e=41):=by
              rw [zae,if_neg (by simp),zaf]
              refine ⟨fun hV=>bad 41 (by simp) fun _=>.inr (.inr rfl),fun hV=>?_⟩
              simp only [decide_eq_true_eq] at hV
              rw [zae]
              exact ⟨fun _=>⟨i,hi,rfl,M,by omega⟩,fun _ _ _ _=>.inl rfl⟩
            dsimp only [zbn]
            rw [zaf]
            refine ⟨fun _=>?_,fun _=>?_⟩
            · rw [shown_of h.shows,Option.bind_some]
              refine (room_ok hs k hl (by omega)).bind fun b hb=>?_
              rw [zaf]
              exact ⟨fun _=>pass 34 (by simp) fun _=>.inr (.inl rfl),fun _=>fin⟩
            · rw [if_neg (by simp)]
              exact fin
  · rw [job_none hl h.sorted hn,Option.bind_some]
    dsimp only
    rw [if_pos (by simp),zae]
    exact ⟨fun h0=>by simp at h0,fun i hi e=>absurd e (hn _ (List.getElem_mem hi))⟩
def zcM (j:zac) (q:Int):zac:={ j with Queue:=q,Version:=j.Version+1 }
theorem moved_ok {j:zac} {q:Int} (h:JobOk j) (hq:0≤q∧q≤7) (hv:j.Version<281474976710656):JobOk (zcM j q):=
  ⟨h.id,h.user,hq,h.many,h.need,h.needz,h.wall,h.afterN,h.after,by have:=h.version; simp only [zcM]; omega,h.born,h.start,h.fin,h.arr,⟨h.state.st,h.state.start,h.state.fin,h.state.ok,h.state.kill⟩⟩
def refusal (key e:Int):zbm:={ Key:=key,Err:=e,Job:=0,Version:=0,Nums:=[] }
theorem reply_refusal (key e:Int):zba 1000 key e=some (refusal key e):=rfl
theorem do_move {s:zad} {st:zag} (hs:FewS s) (k:SpecOk s) (h:JS st) (rq:zaB) (hk:rq.Kind=7) (F:List zaa) :
    Ret (shiftDo s st F 0 rq) fun r=>(∃e,e≠0∧r=(st.Stamps.Queues,st.Jobs,st.Allocs.map (fun a=>(a.Job,a)),refusal rq.Key e,st.Stamps.Nodes,F)∧(∀i,∀hi:i<st.Jobs.length,st.Jobs[i].Id=rq.Job→MoveIn s rq st.Jobs[i]→e=33∨e=34∨e=41)) ∨
      (∃i,∃hi:i<st.Jobs.length,st.Jobs[i].Id=rq.Job∧MoveIn s rq st.Jobs[i]∧st.Jobs[i].Version<s.Versions ∧
        r=(changeQ st.Stamps.Queues st.Jobs[i].Queue rq.Queue,st.Jobs.set i (zcM st.Jobs[i] rq.Queue),st.Allocs.map (fun a=>(a.Job,a)),{ Key:=rq.Key,Err:=0,Job:=st.Jobs[i].Id,Version:=st.Jobs[i].Version+1,Nums:=[] },st.Stamps.Nodes,F)):=by
  have hl:=h.shows.jobs
  unfold shiftDo zb9
  refine (check_move hs k h rq hk).bind fun e he=>?_
  rw [zaf]
  refine ⟨fun h0=>?_,fun h0=>?_⟩
  · simp only [bne_iff_ne,ne_eq] at h0
    rw [reply_refusal,Option.bind_some,zae]
    refine .inl ⟨e,h0,rfl,fun i hi e1 m=>?_⟩
    rcases he.2 i hi e1 m with q | q
    · exact absurd q h0
    · exact q
  · simp only [bne_iff_ne,ne_eq,Decidable.not_not] at h0
    obtain ⟨i,hi,e1,m,hv⟩:=he.1 h0
    have hm:=List.getElem_mem hi
    have jo:=h.ok _ hm
    have ha:=jo.afterN
    have kv:=k.versions
    have kq:=k.queues.hi
    have hq:=m.queue
    have hver:=jo.version
    rw [hk]
    simp only [show (((7:Int) == 7)=true)=True from by simp,if_true,Option.bind_some]
    rw [←e1,job_some hl h.sorted hi (by omega),Option.bind_some]
    dsimp only
    have mo:JobOk (zcM st.Jobs[i] rq.Queue):=moved_ok jo (by omega) (by omega)
    have ed:=edit_done hl h.sorted hi (by omega) mo (k:=i) rfl m.waits (show WaitS (zcM st.Jobs[i] rq.Queue).State from m.waits) h.stamps
    unfold zcx
    rw [wr (x:=st.Jobs[i].Version+1) (by omega) (by omega)]
    change Ret (((za0 1000 st.Stamps.Queues st.Jobs (zcM st.Jobs[i] rq.Queue)).bind _).bind _) _
    rw [ed,Option.bind_some,Option.bind_some]
    dsimp only
    rw [if_neg (by simp),zae]
    exact .inr ⟨i,hi,rfl,m,hv,rfl⟩
end Go.Plain
end
section
namespace Go.Plain
open Go.Abs
theorem shown_rows {st:zag} (h:Shows st) :
    zbe 1000 st.Stamps.Queues st.Jobs (st.Allocs.map fun a=>(a.Job,a)) st.Now st.Next st.Book st.Books st.Use st.Stamps.Nodes=some (st.Jobs,st.Allocs,st.Books,st.Use,st.Stamps.Queues,st.Now,st.Next,st.Book,st.Stamps.Nodes):=by
  have hl:=h.jobs; have hb:=h.books; have hu:=h.use; have hs:=h.stamps
  unfold zbe
  rw [show zcY 1000 st.Jobs=some st.Jobs from all_jobs (by omega) h.after,Option.bind_some,show zcu 1000 (st.Allocs.map fun a=>(a.Job,a))=some st.Allocs from all_allocs h.allocs h.asc h.ids h.sh,Option.bind_some,show zan 1000 st.Books=some st.Books from zcX (by omega),Option.bind_some,show zaC 1000 st.Use=some st.Use from zcX (by omega),Option.bind_some,show zaE 1000 st.Stamps.Queues=some st.Stamps.Queues from zcX (by omega),Option.bind_some]
theorem ref_find_at {l:List zac} (hl:l.length≤300) (hs:SortedJ l) {i:Nat} (hi:i<l.length):zaN 1000 l l[i].Id=some (i:Int):=by
  obtain ⟨r,e,h1,h2,_⟩:=ref_find hl l[i].Id
  have h0:0≤r:=h1.2 ⟨_,List.getElem_mem hi,rfl⟩
  have a:=h2 h0
  have:=hs.inj a.hi hi a.is
  rw [e]
  congr 1
  omega
theorem awake26xok:drayagelaw26xawake 1000=some true:=by kernel_rfl
def rqMove (id q v:Int):zaB:={ Kind:=7,Key:=0,Job:=id,Version:=v,Queue:=q,Many:=0,Need:={ Cpu:=0,Mem:=0,Gpu:=0,Lic:=0 },Wall:=0,Tasks:=0,After:=[],Node:=0,From:=0,To:=0,Id:=0 }
theorem shiftBack (w:zcI) (id queue:Int):zcB 1000 w id queue=some true:=by
  unfold zcB
  rw [awake26xok,Option.bind_some,if_neg (by simp)]
  obtain ⟨r,e,h⟩:=few23 w.S w.St
  rw [e,Option.bind_some]
  cases r with
  | false=>rfl
  | true =>
    have hw:=h rfl
    rw [if_neg (by simp)]
    by_cases q:zdO w.S w.St
    · rw [law_of_ok hw q,Option.bind_some]
      have js:=js_of hw q
      have hs:=hw.spec
      have k:=q.spec
      generalize w.S=s at *
      generalize w.St=st at *
      have hl:=js.shows.jobs
      dsimp only
      rw [if_neg (by simp)]
      have main:=do_move hs k js (rqMove id queue 0) rfl (leftL s.Nodes st.Allocs)
      obtain ⟨r1,e1,h1⟩:=main
      have st_same:∀e:Int,e≠0→r1=(st.Stamps.Queues,st.Jobs,st.Allocs.map (fun a=>(a.Job,a)),refusal 0 e,st.Stamps.Nodes,leftL s.Nodes st.Allocs) →
          ∀o:Option Bool,(if (r1.2.2.2.1.Err != 0)=true then (zap 1000 r1.1 r1.2.1 r1.2.2.1 st.Now st.Next st.Book st.Books st.Use r1.2.2.2.2.1).bind fun x8=>(zaV 1000 x8 st).bind fun r9=>some r9 else o)=some true:=fun e he er o=>by
        subst er
        rw [if_pos (by simpa [refusal] using he)]
        dsimp only
        rw [shown_of js.shows,Option.bind_some,same_shows js.shows,Option.bind_some]
      rcases job_em st.Jobs id with ⟨i,hi,ei⟩ | hn
      · have hm:=List.getElem_mem hi
        have jo:=js.ok _ hm
        have ha:=jo.afterN
        subst ei
        rw [job_some hl js.sorted hi (by omega),Option.bind_some]
        change (shiftDo s st (leftL s.Nodes st.Allocs) 0 (rqMove st.Jobs[i].Id queue 0)).bind _=_
        rw [e1,Option.bind_some]
        rcases h1 with ⟨e,he,er,_⟩ | ⟨i',hi',ei',m,hv,er⟩
        · exact st_same e he er _
        · have:=js.sorted.inj hi' hi ei'
          subst this
          have kq:=k.queues.hi
          have kv:=k.versions
          have mq:=m.queue
          have hver:=jo.version
          have mo:JobOk (zcM st.Jobs[i'] queue):=moved_ok jo (by change 0≤queue∧queue<_ at mq; omega) (by omega)
          subst er
          dsimp only
          rw [if_neg (by simp)]
          -- the store behind the first move
          have js1:=js.set hi' (j:=zcM st.Jobs[i'] queue) rfl mo (changeQ_in js.stamps st.Jobs[i'].Queue queue) (changeQ_len _ _ _) (n:=st.Stamps.Nodes)
          generalize hst1:({ st with Jobs:=st.Jobs.set i' (zcM st.Jobs[i'] queue),Stamps:={ Queues:=changeQ st.Stamps.Queues st.Jobs[i'].Queue queue,Nodes:=st.Stamps.Nodes } }:zag)=st1 at js1
          have j1:st1.Jobs=st.Jobs.set i' (zcM st.Jobs[i'] queue):=by rw [←hst1]
          have hi1:i'<st1.Jobs.length:=by rw [j1]; simpa using hi'
          have g1:st1.Jobs[i']=zcM st.Jobs[i'] queue:=by simp [j1]
          have hl1:=js1.shows.jobs
          have job1:=job_some hl1 js1.sorted hi1 (by have:=mo.afterN; rw [g1]; omega)
          rw [g1] at job1
          rw [show zah 1000 (st.Jobs.set i' (zcM st.Jobs[i'] (rqMove st.Jobs[i'].Id queue 0).Queue)) st.Jobs[i'].Id=some (zcM st.Jobs[i'] queue,true) from by rw [←job1,j1]; rfl,Option.bind_some]
          have two:=do_move hs k js1 (rqMove st.Jobs[i'].Id st.Jobs[i'].Queue (st.Jobs[i'].Version+1)) rfl (leftL s.Nodes st.Allocs)
          obtain ⟨r2,e2,h2⟩:=two
          have same2:shiftDo s st1 (leftL s.Nodes st.Allocs) 0 (rqMove st.Jobs[i'].Id st.Jobs[i'].Queue (st.Jobs[i'].Version+1))=zb9 1000 (changeQ st.Stamps.Queues st.Jobs[i'].Queue queue) (st.Jobs.set i' (zcM st.Jobs[i'] queue)) (st.Allocs.map fun a=>(a.Job,a)) 0 (rqMove st.Jobs[i'].Id st.Jobs[i'].Queue (st.Jobs[i'].Version+1)) s.Nodes s.Parts s.Queues s.Users s.Weights.Age s.Weights.Size s.Weights.Qos s.Weights.Share s.Decay s.Mode s.Jobs s.Ids s.Versions s.Linger s.Keep s.In s.Out s.Cache st.Now st.Next st.Book st.Books st.Use st.Stamps.Nodes (leftL s.Nodes st.Allocs):=by rw [←hst1]
          rw [same2] at e2
          change (zb9 1000 (changeQ st.Stamps.Queues st.Jobs[i'].Queue queue) (st.Jobs.set i' (zcM st.Jobs[i'] queue)) (st.Allocs.map fun a=>(a.Job,a)) 0 (rqMove st.Jobs[i'].Id st.Jobs[i'].Queue (st.Jobs[i'].Version+1)) s.Nodes s.Parts s.Queues s.Users s.Weights.Age s.Weights.Size s.Weights.Qos s.Weights.Share s.Decay s.Mode s.Jobs s.Ids s.Versions s.Linger s.Keep s.In s.Out s.Cache st.Now st.Next st.Book st.Books st.Use st.Stamps.Nodes (leftL s.Nodes st.Allocs)).bind _=_
          rw [e2,Option.bind_some,wr (x:=st.Jobs[i'].Version+1) (by omega) (by omega),if_neg (by simp [zcM])]
          have jin:=q.jobs.each _ hm
          rcases h2 with ⟨e,he,er,hc⟩ | ⟨i2,hi2,ei2,m2,hv2,er⟩
          · subst er
            dsimp only
            rw [if_pos (by simpa [refusal] using he)]
            have c:=hc i' hi1 (by rw [g1]; rfl) ?_
            · rcases c with c | c | c <;> subst c <;> rfl
            · have wt:=m.waits
              refine ⟨.inr (by rw [g1]; rfl),by rw [g1]; exact wt,⟨jo.queue.1,jin.queue⟩,?_⟩
              rw [g1]
              exact (q.waits _ hm (by rcases wt with wt | wt <;> omega)).fits
          · have:i2=i':=js1.sorted.inj hi2 hi1 (by rw [ei2,g1]; rfl)
            subst this
            subst er
            dsimp only
            rw [if_neg (by simp)]
            have m2o:JobOk (zcM st1.Jobs[i2] st.Jobs[i2].Queue):=by
              refine moved_ok (js1.ok _ (List.getElem_mem _)) jo.queue ?_
              omega
            have js2:=js1.set hi1 (j:=zcM st1.Jobs[i2] st.Jobs[i2].Queue) rfl m2o (changeQ_in js1.stamps st1.Jobs[i2].Queue st.Jobs[i2].Queue) (changeQ_len _ _ _) (n:=st1.Stamps.Nodes)
            generalize hst2:({ st1 with Jobs:=st1.Jobs.set i2 (zcM st1.Jobs[i2] st.Jobs[i2].Queue),Stamps:={ Queues:=changeQ st1.Stamps.Queues st1.Jobs[i2].Queue st.Jobs[i2].Queue,Nodes:=st1.Stamps.Nodes } }:zag)=st2 at js2
            have sr:=shown_rows js2.shows
            have j2:st2.Jobs=st1.Jobs.set i2 (zcM st1.Jobs[i2] st.Jobs[i2].Queue):=by rw [←hst2]
            have hi2':i2<st2.Jobs.length:=by rw [j2]; simpa using hi1
            have g2:st2.Jobs[i2]=zcM st1.Jobs[i2] st.Jobs[i2].Queue:=by simp [j2]
            have fr:=ref_find_at js2.shows.jobs js2.sorted hi2'
            rw [show st2.Jobs[i2].Id=st.Jobs[i2].Id from by rw [g2,g1]; rfl] at fr
            have sr2:zbe 1000 (changeQ st1.Stamps.Queues st1.Jobs[i2].Queue (rqMove st.Jobs[i2].Id st.Jobs[i2].Queue (st.Jobs[i2].Version+1)).Queue) (st1.Jobs.set i2 (zcM st1.Jobs[i2] (rqMove st.Jobs[i2].Id st.Jobs[i2].Queue (st.Jobs[i2].Version+1)).Queue)) (st1.Allocs.map fun a=>(a.Job,a)) st.Now st.Next st.Book st.Books st.Use st1.Stamps.Nodes=some (st2.Jobs,st2.Allocs,st2.Books,st2.Use,st2.Stamps.Queues,st2.Now,st2.Next,st2.Book,st2.Stamps.Nodes):=by
              rw [←sr]
              subst hst2
              subst hst1
              rfl
            rw [sr2,Option.bind_some]
            dsimp only [zbn]
            rw [fr,Option.bind_some,if_neg (by simp),zam hi2',Option.bind_some,wr (x:=st.Jobs[i2].Version+2) (by omega) (by omega),if_neg (by rw [g2,g1]; simp [zcM]; omega),Option.bind_some]
            have fin:({ Now:=st2.Now,Next:=st2.Next,Book:=st2.Book,Jobs:=st2.Jobs.set (i2:Int).toNat { Id:=st2.Jobs[i2].Id,User:=st2.Jobs[i2].User,Queue:=st2.Jobs[i2].Queue,Many:=st2.Jobs[i2].Many,Need:=st2.Jobs[i2].Need,Wall:=st2.Jobs[i2].Wall,After:=st2.Jobs[i2].After,State:=st2.Jobs[i2].State,Ok:=st2.Jobs[i2].Ok,Kill:=st2.Jobs[i2].Kill,Version:=st.Jobs[i2].Version,Born:=st2.Jobs[i2].Born,Start:=st2.Jobs[i2].Start,End:=st2.Jobs[i2].End,Array:=st2.Jobs[i2].Array },Allocs:=st2.Allocs,Books:=st2.Books,Use:=st2.Use,Stamps:=st.Stamps }:zag)=st:=by
              have e0:st.Jobs.set i2 st.Jobs[i2]=st.Jobs:=List.set_getElem_self hi'
              subst hst2
              subst hst1
              simp only [List.getElem_set_self,Int.toNat_natCast,List.set_set,zcM]
              generalize hl':st.Jobs.set i2 _=l'
              rw [show l'=st.Jobs from by rw [←hl']; exact e0]
            rw [fin,same_shows js.shows,Option.bind_some]
      · rw [job_none hl js.sorted hn,Option.bind_some]
        change (shiftDo s st (leftL s.Nodes st.Allocs) 0 (rqMove id queue 0)).bind _=_
        rw [e1,Option.bind_some]
        rcases h1 with ⟨e,he,er,_⟩ | ⟨i',hi',ei',_⟩
        · exact st_same e he er _
        · exact absurd ei' (hn _ (List.getElem_mem hi'))
    · rw [law_of_no hw q,Option.bind_some]
end Go.Plain
end
