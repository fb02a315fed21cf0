/- TyPA, TyPB, TyPC, TyPD, TyS1, TySA, TyU1, TyU2 -/
import Derived.Test.YtgneliafoejmeaaGreatLawA
import Derived.KernelRfl
set_option linter.all false
section
namespace Go.Plain
open Go.Abs
def usedC (A:List zag) (i:Int) (c:Nat):Int:=(A.map fun a=>onV a.Shares i * cmp c a.Need).sum
theorem usedC_cons {a:zag} {A:List zag} {i:Int} {c:Nat}:usedC (a::A) i c=onV a.Shares i * cmp c a.Need+usedC A i c:=by simp [usedC]
theorem usedC_take {A:List zag} {k:Nat} (h:k<A.length) (i:Int) (c:Nat):usedC (A.take (k+1)) i c=usedC (A.take k) i c+onV A[k].Shares i * cmp c A[k].Need:=by
  rw [List.take_succ_eq_append_getElem h]
  simp only [usedC,List.map_append,List.map_cons,List.map_nil,List.sum_append,List.sum_cons,List.sum_nil]
  omega
def GoodA (n:Int) (A:List zag):Prop:=∀a∈A,SharesOk a.Shares n∧VecOk a.Need
theorem one_bd {n:Int} {a:zag} (h:SharesOk a.Shares n∧VecOk a.Need) (i:Int) (c:Nat):0≤onV a.Shares i * cmp c a.Need∧onV a.Shares i * cmp c a.Need≤67108864:=
  mul_bd (onV_one h.1 i) (vec_iff.1 h.2 c)
theorem used_bd {n:Int} {A:List zag} (h:GoodA n A) (i:Int) (c:Nat):0≤usedC A i c∧usedC A i c≤67108864 * A.length:=by
  induction A with
  | nil=>simp [usedC]
  | cons a A ih =>
    have h1:=ih fun b hb=>h b (List.mem_cons_of_mem _ hb)
    have h2:=one_bd (h a (List.mem_cons_self ..)) i c
    rw [usedC_cons,List.length_cons]
    omega
def TotFit (F:List zaa) (A:List zag):Prop:=∀i (h:i<F.length) c,usedC A i c≤cmp c F[i]
theorem ref_times {a:zaa} {n:Int} (ha:VecOk a) (hn:0≤n∧n≤64):zcK 1000 a n=some (mulR n a):=by
  obtain ⟨m,rfl⟩:∃m:Nat,n=(m:Int):=⟨n.toNat,by omega⟩
  unfold zcK
  refine Ret.eq (lpS m (fun k x=>x=((k:Int),(k:Int) * a.Cpu,(k:Int) * a.Mem,(k:Int) * a.Gpu,(k:Int) * a.Lic)) (fun k x f hk hx hr=>?_) (fun x f hx=>?_) (by simp) (by omega))
  · subst hx
    have b1:=mul_bd (n:=((k+1:Nat):Int)) (by omega) ha.cpu
    have b2:=mul_bd (n:=((k+1:Nat):Int)) (by omega) ha.mem
    have b3:=mul_bd (n:=((k+1:Nat):Int)) (by omega) ha.gpu
    have b4:=mul_bd (n:=((k+1:Nat):Int)) (by omega) ha.lic
    have e:∀x:Int,((k+1:Nat):Int) * x=(k:Int) * x+x:=fun x=>by rw [Int.natCast_add,Int.add_mul]; simp
    rw [e] at b1 b2 b3 b4
    simp only [zcQ hk,if_true,zbz,Option.bind_some,wr1 (show k<1000000 by omega)]
    refine hr _ ?_
    rw [wr (x:=(k:Int) * a.Cpu+a.Cpu) (by omega) (by omega),wr (x:=(k:Int) * a.Mem+a.Mem) (by omega) (by omega),wr (x:=(k:Int) * a.Gpu+a.Gpu) (by omega) (by omega),wr (x:=(k:Int) * a.Lic+a.Lic) (by omega) (by omega),e,e,e,e]
  · subst hx
    simp only [zcO,Bool.false_eq_true,if_false,zab]
    rfl
theorem fits_cmp (a b:zaa):za7 (zau 1000 a b) (∀c,cmp c a≤cmp c b):=by
  simp only [zau,za7,zab,Bool.and_eq_true,decide_eq_true_eq]
  constructor
  · intro h c
    match c with
    | 0=>exact h.1.1.1
    | 1=>exact h.1.1.2
    | 2=>exact h.1.2
    | _+3=>exact h.2
  · intro h
    exact ⟨⟨⟨h 0,h 1⟩,h 2⟩,h 3⟩
theorem ref_left {F:List zaa} {A:List zag} (hF:F.length≤300) (hA:A.length≤300) (hs:∀a∈A,a.Shares.length≤300) {n:Int} (h:GoodA n A):Ret (zc8 1000 F A) fun r=>r.2=true↔TotFit F A:=by
  unfold zc8
  refine lpS F.length (fun i x=>(x.1=true↔∀m (h:m<F.length),m<i→∀c,usedC A m c≤cmp c F[m])∧x.2.1=(i:Int)∧x.2.2.length=i) (fun i x f hi hx hr=>?_) (fun x f hx=>?_) ⟨⟨fun _ m h h'=>by omega,fun _=>rfl⟩,rfl,rfl⟩ (by omega)
  · obtain ⟨x1,x2,x3⟩:=x
    obtain ⟨h1,h2,h3⟩:=hx
    dsimp only at h1 h2 h3
    subst h2
    simp only [zcQ hi,if_true]
    refine lpS A.length (fun k y=>y=((k:Int),usedC (A.take k) i 0,usedC (A.take k) i 1,usedC (A.take k) i 2,usedC (A.take k) i 3)) (fun k y g hk hy hg=>?_) (fun y g hy=>?_) (by simp [usedC]) (by omega)
    · subst hy
      have ak:=h _ (List.getElem_mem hk)
      have gk:GoodA n (A.take (k+1)):=fun a ha=>h a (List.mem_of_mem_take ha)
      have lk:((A.take (k+1)).length:Int)≤300:=by rw [List.length_take]; omega
      have b0:=used_bd gk i 0; have b1:=used_bd gk i 1; have b2:=used_bd gk i 2; have b3:=used_bd gk i 3
      rw [usedC_take hk] at b0 b1 b2 b3
      simp only [zcQ hk,if_true,zao hk,Option.bind_some,ref_on (hs _ (List.getElem_mem hk)) ak.1,ref_times ak.2 (onV_one ak.1 i),zbz,wr1 (show k<1000000 by omega)]
      refine hg _ ?_
      rw [usedC_take hk,usedC_take hk,usedC_take hk,usedC_take hk]
      have e0:(mulR (onV A[k].Shares i) A[k].Need).Cpu=onV A[k].Shares i * cmp 0 A[k].Need:=rfl
      have e1:(mulR (onV A[k].Shares i) A[k].Need).Mem=onV A[k].Shares i * cmp 1 A[k].Need:=rfl
      have e2:(mulR (onV A[k].Shares i) A[k].Need).Gpu=onV A[k].Shares i * cmp 2 A[k].Need:=rfl
      have e3:(mulR (onV A[k].Shares i) A[k].Need).Lic=onV A[k].Shares i * cmp 3 A[k].Need:=rfl
      rw [e0,e1,e2,e3,wr (x:=_+onV A[k].Shares i * cmp 0 A[k].Need) (by omega) (by omega),wr (x:=_+onV A[k].Shares i * cmp 1 A[k].Need) (by omega) (by omega),wr (x:=_+onV A[k].Shares i * cmp 2 A[k].Need) (by omega) (by omega),wr (x:=_+onV A[k].Shares i * cmp 3 A[k].Need) (by omega) (by omega)]
    · subst hy
      have ap:∀z:zaa,app? x3 [z]=some (x3++[z]):=fun z=>app_ok (by simp only [List.length_singleton]; omega)
      simp only [zcO,Bool.false_eq_true,if_false,zbq,zao hi,Option.bind_some,drayageref02xSub,ap,wr1 (show i<1000000 by omega),List.take_length]
      rw [zad]
      refine ⟨fun hx1=>?_,fun hx1=>?_⟩
      · refine (fits_cmp _ _).bind fun r hr1=>?_
        refine hr _ ⟨?_,rfl,by simp only [List.length_append,List.length_singleton]; omega⟩
        dsimp only
        rw [hr1]
        have ec:∀c,cmp c ({ Cpu:=usedC A i 0,Mem:=usedC A i 1,Gpu:=usedC A i 2,Lic:=usedC A i 3 }:zaa)=usedC A i (min c 3):=fun c=>by
          match c with
          | 0=>rfl
          | 1=>rfl
          | 2=>rfl
          | c+3=>rw [Nat.min_eq_right (by omega)]; rfl
        have eu:∀c,usedC A i (min c 3)=usedC A i c:=fun c=>by
          match c with
          | 0=>rfl
          | 1=>rfl
          | 2=>rfl
          | c+3=>rw [Nat.min_eq_right (by omega)]; rfl
        constructor
        · intro hc m hm hmi c
          rcases Nat.lt_or_eq_of_le (Nat.lt_succ_iff.1 hmi) with h' | h'
          · exact h1.1 hx1 m hm h' c
          · subst h'
            have:=hc c
            rwa [ec,eu] at this
        · intro hc c
          rw [ec,eu]
          exact hc i hi (by omega) c
      · refine hr _ ⟨?_,rfl,by simp only [List.length_append,List.length_singleton]; omega⟩
        dsimp only
        simp only [Bool.false_eq_true,false_iff]
        intro hc
        exact hx1 (h1.2 fun m hm hmi=>hc m hm (by omega))
  · obtain ⟨x1,x2,x3⟩:=x
    obtain ⟨h1,h2,h3⟩:=hx
    dsimp only at h1 h2 h3
    subst h2
    simp only [zcO,Bool.false_eq_true,if_false,zab]
    rw [h1]
    exact ⟨fun q i hi c=>q i hi hi c,fun q i hi _ c=>q i hi c⟩
structure AllocIn (s:zac) (st:zaf) (i:Nat) (a:zag):Prop where
  up:∀m (h:m<st.Allocs.length),m+1=i→st.Allocs[m].Job<a.Job
  job:∃j∈st.Jobs,j.Id=a.Job
  shares:SharesOk a.Shares s.Nodes.length
  need:VecOk a.Need
structure zcU (s:zac) (st:zaf):Prop where
  each:∀i (h:i<st.Allocs.length),AllocIn s st i st.Allocs[i]
  fit:TotFit s.Nodes st.Allocs
theorem zcU.good {s:zac} {st:zaf} (h:zcU s st):GoodA s.Nodes.length st.Allocs:=fun a ha=>by
  obtain ⟨i,hi,rfl⟩:=List.getElem_of_mem ha
  exact ⟨(h.each i hi).shares,(h.each i hi).need⟩
theorem ref_allocs {s:zac} {st:zaf} (hw:FewW s st):za7 (zco 1000 s st) (zcU s st):=by
  have hl:=hw.jobs; have hal:=hw.allocs; have hn:=hw.spec.nodes
  unfold zco
  refine lpA st.Allocs (fun i a=>AllocIn s st i a) (fun i f hi hA hr=>?_) (fun f hA=>?_) (by omega)
  · have hd:decide ((i:Int) > 0)=decide (0<i):=by simp
    have hsh:=hw.shares _ (List.getElem_mem hi)
    have fin:(∀m (h:m<st.Allocs.length),m+1=i→st.Allocs[m].Job<st.Allocs[i].Job)→Ret ((za5 1000 st.Jobs st.Allocs[i].Job).bind fun r=>
        if decide (r<0)=true then some false else (zbe 1000 st.Allocs[i].Shares (s.Nodes.length:Int)).bind fun r'=>
        if (!r')=true then some false else (zaA 1000 st.Allocs[i].Need).bind fun r''=>if (!r'')=true then some false else f ((i+1:Nat):Int)) (fun b=>b=true↔zcU s st):=fun hup=>by
      refine (ref_find (by omega) st.Allocs[i].Job).bind fun r hr1=>?_
      rw [zad]
      refine ⟨fun h=>no_f fun q=>?_,fun h=>?_⟩
      · have:=hr1.1.2 (q.each i hi).job
        simp only [decide_eq_true_eq] at h
        omega
      · simp only [decide_eq_true_eq] at h
        refine (ref_place _ _ (Nat.le_trans hsh (by decide))).bind fun r' hr2=>?_
        rw [zad]
        refine ⟨fun h=>no_f fun q=>?_,fun h2=>?_⟩
        · have:=hr2.2 (q.each i hi).shares
          rw [this] at h
          simp at h
        · simp only [Bool.not_eq_true',Bool.not_eq_false] at h2
          refine (ref_vec _).bind fun r'' hr3=>?_
          rw [zad]
          refine ⟨fun h=>no_f fun q=>?_,fun h3=>?_⟩
          · have:=hr3.2 (q.each i hi).need
            rw [this] at h
            simp at h
          · simp only [Bool.not_eq_true',Bool.not_eq_false] at h3
            exact hr ⟨hup,hr1.1.1 (by omega),hr2.1 h2,hr3.1 h3⟩
    simp only [zbq,zcQ hi,if_true,zao hi,Option.bind_some,wr1 (show i<1000000 by omega),hd]
    rw [zad]
    refine ⟨fun h=>?_,fun h=>?_⟩
    · simp only [decide_eq_true_eq] at h
      obtain ⟨m,rfl⟩:∃m,i=m+1:=⟨i-1,by omega⟩
      rw [wp1 (show m+1<1000000 by omega),zao (show m<st.Allocs.length by omega),Option.bind_some,zad]
      refine ⟨fun h2=>no_f fun q=>?_,fun h2=>fin fun m' hm' e=>?_⟩
      · have:=(q.each (m+1) hi).up m (by omega) rfl
        simp only [decide_eq_true_eq] at h2
        omega
      · simp only [decide_eq_true_eq] at h2
        have:m'=m:=by omega
        subst this
        omega
    · simp only [decide_eq_true_eq] at h
      exact fin fun m hm e=>by omega
  · simp only [zcO,Bool.false_eq_true,if_false]
    have G:GoodA s.Nodes.length st.Allocs:=fun a ha=>by
      obtain ⟨j,hj,rfl⟩:=List.getElem_of_mem ha
      exact ⟨(hA j hj).shares,(hA j hj).need⟩
    refine (ref_left (by omega) hal (fun a ha=>Nat.le_trans (hw.shares a ha) (by decide)) G).bind fun r hr=>?_
    rw [zab,hr]
    exact ⟨fun h=>⟨fun i hi=>hA i hi,h⟩,fun h=>h.fit⟩
theorem asc_pw {l:List Int} (h:∀i (h:i+1<l.length),l[i]<l[i+1]):l.Pairwise (·<·):=by
  rw [List.pairwise_iff_getElem]
  intro i j hi hj hij
  induction j with
  | zero=>omega
  | succ j ih =>
    have h1:=h j hj
    rcases Nat.lt_or_eq_of_le (Nat.lt_succ_iff.1 hij) with h2 | h2
    · have:=ih (by omega) h2; omega
    · subst h2; exact h1
theorem asc_eq {l m:List Int} (hl:l.Pairwise (·<·)) (hm:m.Pairwise (·<·)) (h:∀x,x∈l↔x∈m):l=m:=by
  induction l generalizing m with
  | nil =>
    cases m with
    | nil=>rfl
    | cons y m=>exact absurd ((h y).2 (List.mem_cons_self ..)) (by simp)
  | cons x l ih =>
    cases m with
    | nil=>exact absurd ((h x).1 (List.mem_cons_self ..)) (by simp)
    | cons y m =>
      rw [List.pairwise_cons] at hl hm
      have e:x=y:=by
        rcases List.mem_cons.1 ((h x).1 (List.mem_cons_self ..)) with e | h1
        · exact e
        · rcases List.mem_cons.1 ((h y).2 (List.mem_cons_self ..)) with e | h2
          · exact e.symm
          · have:=hl.1 y h2; have:=hm.1 x h1; omega
      subst e
      congr 1
      refine ih hl.2 hm.2 fun z=>⟨fun hz=>?_,fun hz=>?_⟩
      · rcases List.mem_cons.1 ((h z).1 (List.mem_cons_of_mem _ hz)) with e | h1
        · have:=hl.1 z hz; omega
        · exact h1
      · rcases List.mem_cons.1 ((h z).2 (List.mem_cons_of_mem _ hz)) with e | h1
        · have:=hm.1 z hz; omega
        · exact h1
theorem allocsH_fwd {s:zac} {st:zaf} {H:List zae} {A:List zag} {F:List zaa} (h:AllocsH s st H A F) (hF:∀r∈F,VecOk r):A.map (·.Job)=H.map (·.Id)∧TotFit F A:=by
  induction H generalizing A F with
  | nil =>
    rw [show A=[] from h]
    exact ⟨rfl,fun i hi c=>by simp only [usedC,List.map_nil,List.sum_nil]; exact (vec_iff.1 (hF _ (List.getElem_mem hi)) c).1⟩
  | cons j H ih =>
    obtain ⟨a,A',rfl,h1,h2,h3⟩:=h
    obtain ⟨i1,i2⟩:=ih h3 (takeA_ok h2)
    refine ⟨by rw [List.map_cons,List.map_cons,i1,h1.job],fun i hi c=>?_⟩
    have:=i2 i (by rw [takeA_len]; exact hi) c
    rw [takeA_at,leftA,cmp_sub,cmp_mul] at this
    rw [usedC_cons]
    omega
theorem allocsH_bwd {s:zac} {st:zaf} {n:Int} {H:List zae} {A:List zag} {F:List zaa} (he:A.map (·.Job)=H.map (·.Id)) (hF:∀r∈F,VecOk r) (hp:∀a∈A,∀j∈H,a.Job=j.Id→PairOk s st j a) (hg:GoodA n A) (hf:TotFit F A):AllocsH s st H A F:=by
  induction H generalizing A F with
  | nil =>
    cases A with
    | nil=>rfl
    | cons a A=>cases he
  | cons j H ih =>
    cases A with
    | nil=>cases he
    | cons a A =>
      rw [List.map_cons,List.map_cons] at he
      have he1:a.Job=j.Id:=by injection he
      have he2:A.map (·.Job)=H.map (·.Id):=by injection he
      have ga:=hg a (List.mem_cons_self ..)
      have gA:GoodA n A:=fun b hb=>hg b (List.mem_cons_of_mem _ hb)
      have fa:FitsA F a:=fun i hi=>vec_iff.2 fun c=>by
        have h1:=hf i hi c
        have h2:=one_bd ga i c
        have h3:=used_bd gA i c
        have h4:=vec_iff.1 (hF _ (List.getElem_mem hi)) c
        rw [usedC_cons] at h1
        rw [leftA,cmp_sub,cmp_mul]
        omega
      refine ⟨a,A,rfl,hp a (List.mem_cons_self ..) j (List.mem_cons_self ..) he1,fa,ih he2 (takeA_ok fa) (fun b hb k hk=>hp b (List.mem_cons_of_mem _ hb) k (List.mem_cons_of_mem _ hk)) gA fun i hi c=>?_⟩
      have h1:=hf i (by rwa [takeA_len] at hi) c
      rw [takeA_at,leftA,cmp_sub,cmp_mul]
      rw [usedC_cons] at h1
      omega
theorem jobs_pw {s:zac} {st:zaf} (J:JobsOk s st):((st.Jobs.filter hasJ).map (·.Id)).Pairwise (·<·):=by
  have h:(st.Jobs.map (·.Id)).Pairwise (·<·):=asc_pw fun i hi=>by
    rw [List.getElem_map,List.getElem_map]
    exact J.sorted i (by simpa using hi)
  rw [List.pairwise_map] at h ⊢
  exact h.filter _
structure HasIn (s:zac) (st:zaf) (j:zae):Prop where
  has:(∃a∈st.Allocs,a.Job=j.Id)↔hasJ j=true
  mine:∀a∈st.Allocs,a.Job=j.Id→PairOk s st j a
theorem to_ref {s:zac} {st:zaf} (k:SpecOk s) (J:JobsOk s st) (A:AllocsOk s st):zcU s st∧∀j∈st.Jobs,HasIn s st j:=by
  obtain ⟨h1,h2⟩:=allocsH_fwd A k.nodes.ok
  have pw:=jobs_pw J
  rw [←h1] at pw
  have uniq:∀j∈st.Jobs,∀j'∈st.Jobs,j.Id=j'.Id→j=j':=fun j hj j' hj' e=>by
    obtain ⟨m,hm,rfl⟩:=List.getElem_of_mem hj
    obtain ⟨m',hm',rfl⟩:=List.getElem_of_mem hj'
    have:=J.sorted.inj hm hm' e
    subst this
    rfl
  refine ⟨⟨fun i hi=>?_,h2⟩,fun j hj=>⟨⟨fun ⟨a,ha,e⟩=>?_,fun hh=>?_⟩,fun a ha e=>?_⟩⟩
  · obtain ⟨j,hj,P⟩:=A.mem _ (List.getElem_mem hi)
    refine ⟨fun m hm e=>?_,⟨j,hj,P.job.symm⟩,P.suits.shares,by rw [P.need]; exact (J.each j hj).ok.need⟩
    have:=List.pairwise_iff_getElem.1 pw m i (by simpa using hm) (by simpa using hi) (by omega)
    simpa using this
  · have:a.Job∈st.Allocs.map (·.Job):=List.mem_map.2 ⟨a,ha,rfl⟩
    rw [h1] at this
    obtain ⟨j',hj',e'⟩:=List.mem_map.1 this
    obtain ⟨hj1,hj2⟩:=List.mem_filter.1 hj'
    have:j'=j:=uniq _ hj1 _ hj (by rw [e',e])
    subst this
    exact hj2
  · have:j.Id∈(st.Jobs.filter hasJ).map (·.Id):=List.mem_map.2 ⟨j,List.mem_filter.2 ⟨hj,hh⟩,rfl⟩
    rw [←h1] at this
    obtain ⟨a,ha,e⟩:=List.mem_map.1 this
    exact ⟨a,ha,e⟩
  · obtain ⟨j',hj',P⟩:=A.mem a ha
    have:j'=j:=uniq _ hj' _ hj (by rw [←P.job,e])
    subst this
    exact P
theorem of_ref {s:zac} {st:zaf} (k:SpecOk s) (J:JobsOk s st) (R:zcU s st) (h:∀j∈st.Jobs,HasIn s st j):AllocsOk s st:=by
  have pw:(st.Allocs.map (·.Job)).Pairwise (·<·):=asc_pw fun i hi=>by
    rw [List.getElem_map,List.getElem_map]
    exact (R.each (i+1) (by simpa using hi)).up i (by simp at hi; omega) rfl
  refine allocsH_bwd (n:=s.Nodes.length) (asc_eq pw (jobs_pw J) fun x=>⟨fun hx=>?_,fun hx=>?_⟩) k.nodes.ok (fun a ha j hj e=>(h j (List.mem_filter.1 hj).1).mine a ha e) R.good R.fit
  · obtain ⟨a,ha,rfl⟩:=List.mem_map.1 hx
    obtain ⟨i,hi,rfl⟩:=List.getElem_of_mem ha
    obtain ⟨j,hj,e⟩:=(R.each i hi).job
    exact List.mem_map.2 ⟨j,List.mem_filter.2 ⟨hj,(h j hj).has.1 ⟨_,ha,e.symm⟩⟩,e⟩
  · obtain ⟨j,hj,rfl⟩:=List.mem_map.1 hx
    obtain ⟨a,ha,e⟩:=(h j (List.mem_filter.1 hj).1).has.2 (List.mem_filter.1 hj).2
    exact List.mem_map.2 ⟨a,ha,e⟩
end Go.Plain
end
section
namespace Go.Plain
open Go.Abs
theorem jn_ite {X R:Type} {r:X→Option R} {c:Prop} [Decidable c] {a b:X}:jn r (fun j=>if c then j a else j b)=r (if c then a else b):=by
  unfold jn
  split <;> rfl
theorem onV_pos {l:List zaj} {n:Int} (h:SharesOk l n) {i:Int}:onV l i > 0↔∃x∈l,x.Node=i:=by
  have hm:∀x∈l,1≤x.Many:=fun x hx=>(h.mem x hx).2.2.1
  clear h
  induction l with
  | nil=>simp [onV]
  | cons y l ih =>
    have h1:=ih fun x hx=>hm x (List.mem_cons_of_mem _ hx)
    have h2:=hm y (List.mem_cons_self ..)
    have h3:=onV_nn (l:=l) (fun x hx=>by have:=hm x (List.mem_cons_of_mem _ hx); omega) i
    have e:onV (y::l) i=(if y.Node=i then y.Many else 0)+onV l i:=by simp [onV]
    rw [e]
    constructor
    · intro hp
      by_cases hy:y.Node=i
      · exact ⟨y,List.mem_cons_self ..,hy⟩
      · rw [if_neg hy] at hp
        obtain ⟨x,hx,e⟩:=h1.1 (by omega)
        exact ⟨x,List.mem_cons_of_mem _ hx,e⟩
    · rintro ⟨x,hx,e2⟩
      rcases List.mem_cons.1 hx with rfl | hx
      · rw [if_pos e2]; omega
      · have:=h1.2 ⟨x,hx,e2⟩
        split <;> omega
def TakenBy (st:zaf) (node frm:Int) (a:zag):Prop:=∃j∈st.Jobs,j.Id=a.Job∧(∃x∈a.Shares,x.Node=node)∧frm<j.Start+j.Wall
theorem ref_taken {s:zac} {st:zaf} (hw:FewW s st) (R:zcU s st) (node frm:Int):Ret (zcJ 1000 st node frm) fun b=>JobsOk s st→(b=true↔∃a∈st.Allocs,TakenBy st node frm a):=by
  have hl:=hw.jobs; have hal:=hw.allocs
  unfold zcJ
  refine lpA st.Allocs (fun i a=>JobsOk s st→¬TakenBy st node frm a) (fun i f hi hA hr=>?_) (fun f hA=>?_) (by omega)
  · simp only [zbq,zcQ hi,if_true,zao hi,Option.bind_some,wr1 (show i<1000000 by omega)]
    have ha:=List.getElem_mem hi
    refine (ref_find (by omega) st.Allocs[i].Job).bind fun r hr1=>?_
    rw [zad]
    refine ⟨fun h=>?_,fun h=>?_⟩
    · simp only [decide_eq_true_eq] at h
      have at1:=hr1.2.1 h
      have S:=(R.each i hi).shares
      obtain ⟨hx,e⟩:=at_int (l:=st.Jobs) at1.lo (by have:=at1.lo; have:=at1.hi; omega)
      have hj:=List.getElem_mem hx
      have fin:Ret (if decide (IntKind.i64.wrap (st.Jobs[r.toNat].Start+st.Jobs[r.toNat].Wall) > frm)=true then some true else f ((i+1:Nat):Int)) (fun b=>(∃x∈st.Allocs[i].Shares,x.Node=node)→JobsOk s st→(b=true↔∃a∈st.Allocs,TakenBy st node frm a)):=by
        rw [zad]
        refine ⟨fun h2=>?_,fun h2=>?_⟩
        · rw [zab]
          intro hsx J
          have jo:=(J.each _ hj).ok
          have:=jo.start; have:=jo.wall
          rw [wr (by omega) (by omega)] at h2
          simp only [decide_eq_true_eq] at h2
          exact ⟨fun _=>⟨_,ha,_,hj,at1.is,hsx,h2⟩,fun _=>rfl⟩
        · refine (hr fun J tk=>?_).mono fun b hb _=>hb
          obtain ⟨j,hj2,e2,-,h3⟩:=tk
          have:j=st.Jobs[r.toNat]:=by
            obtain ⟨m,hm,rfl⟩:=List.getElem_of_mem hj2
            have:=J.sorted.inj hm hx (by rw [e2,at1.is])
            subst this
            rfl
          subst this
          have jo:=(J.each _ hj).ok
          have:=jo.start; have:=jo.wall
          rw [wr (by omega) (by omega)] at h2
          simp only [decide_eq_true_eq] at h2
          omega
      rw [ref_on (Nat.le_trans (hw.shares _ ha) (by decide)) S,Option.bind_some,e,zad]
      simp only [Option.bind_some]
      refine ⟨fun h2=>?_,fun h2=>?_⟩
      · simp only [decide_eq_true_eq] at h2
        exact fin.mono fun b hb=>hb ((onV_pos S).1 h2)
      · simp only [decide_eq_true_eq] at h2
        rw [if_neg (by simp)]
        exact hr fun J ⟨j,hj2,e2,hx2,h3⟩=>h2 ((onV_pos S).2 hx2)
    · simp only [decide_eq_true_eq] at h
      rw [if_neg (by simp)]
      exact hr fun J ⟨j,hj2,e2,hx2,h3⟩=>by have:=hr1.1.2 ⟨j,hj2,e2⟩; omega
  · simp only [zcO,Bool.false_eq_true,if_false,zab,false_iff]
    rintro J ⟨a,ha,tk⟩
    exact zcb (A:=fun a=>JobsOk s st→¬TakenBy st node frm a) hA a ha J tk
theorem ref_books {s:zac} {st:zaf} (hw:FewW s st) (R:zcU s st):Ret (zcC 1000 s st) fun b=>JobsOk s st→(b=true↔BookedOk s st):=by
  have hl:=hw.books
  unfold zcC
  refine lpA st.Books (fun i b=>(b.Id<st.Book∧st.Now<b.To)∧(JobsOk s st→¬∃a∈st.Allocs,TakenBy st b.Node b.From a)) (fun i f hi hA hr=>?_) (fun f hA=>?_) (by omega)
  · simp only [zbq,zcQ hi,if_true,zao hi,Option.bind_some,wr1 (show i<1000000 by omega)]
    have hb:=List.getElem_mem hi
    rw [zad]
    refine ⟨fun h=>?_,fun h=>?_⟩
    · rw [zab]
      intro J
      simp only [Bool.or_eq_true,decide_eq_true_eq] at h
      simp only [Bool.false_eq_true,false_iff]
      exact fun q=>by have:=q.live _ hb; omega
    · simp only [Bool.or_eq_true,decide_eq_true_eq] at h
      refine (ref_taken hw R _ _).bind fun r hr1=>?_
      rw [zad]
      refine ⟨fun h2=>?_,fun h2=>hr ⟨by omega,fun J=>fun q=>h2 ((hr1 J).2 q)⟩⟩
      rw [zab]
      intro J
      simp only [Bool.false_eq_true,false_iff]
      intro q
      obtain ⟨a,ha,j,hj,e,⟨x,hx,en⟩,hf⟩:=(hr1 J).1 h2
      exact q.clash a ha j hj e x hx _ hb en.symm hf
  · simp only [zcO,Bool.false_eq_true,if_false]
    refine (ref_book _ _ (by omega)).bind fun r hr=>?_
    rw [zab]
    intro J
    rw [hr]
    refine ⟨fun h=>⟨h,fun b hb=>?_,fun a ha j hj e x hx b hb en hf=>?_⟩,fun q=>q.books⟩
    · obtain ⟨m,hm,rfl⟩:=List.getElem_of_mem hb
      exact (hA m hm).1
    · obtain ⟨m,hm,rfl⟩:=List.getElem_of_mem hb
      exact (hA m hm).2 J ⟨a,ha,j,hj,e,⟨x,hx,en.symm⟩,hf⟩
structure AtA (l:List zag) (id:Int) (r:Int):Prop where
  lo:0≤r
  hi:r.toNat<l.length
  is:l[r.toNat].Job=id
theorem ref_findA {l:List zag} (hl:l.length≤300) (id:Int):Ret (zc2 1000 l id) fun r=>(0≤r↔∃a∈l,a.Job=id)∧(0≤r→AtA l id r):=by
  unfold zc2
  refine lpA l (fun _ j=>j.Job≠id) (fun i f h _ hr=>?_) (fun f h=>?_) (by omega)
  · simp only [zcQ h,if_true,zao h,Option.bind_some,wr1 (show i<1000000 by omega),zad,zab,beq_iff_eq]
    exact ⟨fun e=>⟨⟨fun _=>⟨_,List.getElem_mem h,e⟩,fun _=>by omega⟩,fun _=>⟨by omega,by simpa using h,by simpa using e⟩⟩,fun e=>hr e⟩
  · simp only [zcO,Bool.false_eq_true,if_false,zab]
    refine ⟨⟨fun h=>by omega,fun ⟨j,hm,e⟩=>absurd e (zcb (A:=fun j=>j.Job≠id) h j hm)⟩,fun h=>by omega⟩
theorem zcU.uniq {s:zac} {st:zaf} (R:zcU s st) {i j:Nat} (hi:i<st.Allocs.length) (hj:j<st.Allocs.length) (e:st.Allocs[i].Job=st.Allocs[j].Job):i=j:=by
  have pw:(st.Allocs.map (·.Job)).Pairwise (·<·):=asc_pw fun i hi=>by
    rw [List.getElem_map,List.getElem_map]
    exact (R.each (i+1) (by simpa using hi)).up i (by simp at hi; omega) rfl
  rw [List.pairwise_iff_getElem] at pw
  rcases Nat.lt_trichotomy i j with h | h | h
  · have:=pw i j (by simpa using hi) (by simpa using hj) h
    rw [List.getElem_map,List.getElem_map] at this; omega
  · exact h
  · have:=pw j i (by simpa using hj) (by simpa using hi) h
    rw [List.getElem_map,List.getElem_map] at this; omega
structure RefJob (s:zac) (st:zaf) (j:zae):Prop where
  inn:JobIn s st j
  waits:Waits s st j
  has:HasIn s st j
theorem ref_job {s:zac} (k:SpecOk s) {st:zaf} (hw:FewW s st) (R:zcU s st) {j:zae} (hj:j∈st.Jobs):za7 (zdy 1000 s st j) (RefJob s st j):=by
  have kv:=k.versions
  have hl:=hw.jobs; have hal:=hw.allocs
  unfold zdy
  refine (ref_job_right j (hw.after j hj)).bind fun r hr1=>?_
  rw [zad]
  refine ⟨fun h=>no_f fun q=>?_,fun h=>?_⟩
  · have:=hr1.2 q.inn.ok
    rw [this] at h
    simp only [Bool.or_eq_true,decide_eq_true_eq,Bool.not_true,Bool.false_eq_true,false_or] at h
    have:=q.inn.next; have:=q.inn.user; have:=q.inn.queue; have:=q.inn.born; have:=q.inn.start; have:=q.inn.fin
    omega
  · simp only [Bool.or_eq_true,decide_eq_true_eq,not_or,Bool.not_eq_true',Bool.not_eq_false] at h
    have jo:=hr1.1 h.1.1.1.1.1.1
    have hst:=jo.state.st; have hsr:=jo.start; have hwl:=jo.wall
    simp only [jn_ite]
    generalize he:(if decide (j.State≥5)=true then (3:Int) else if (j.State == 4)=true then 2 else if (j.State == 3)=true then 1 else 0)=e
    have ev:e=extraV j.State:=by
      rw [←he]
      simp only [extraV,decide_eq_true_eq,beq_iff_eq,ge_iff_le]
      split
      · split <;> (try split) <;> (try split) <;> omega
      · split
        · split <;> (try split) <;> omega
        · split <;> (try split) <;> (try split) <;> omega
    have eb:=extra_bd j.State
    refine (ref_findA hal j.Id).bind fun r8 hr8=>?_
    simp only [zbq,zdz,Option.bind_some]
    rw [ev,wr (x:=s.Versions+extraV j.State) (by omega) (by omega),zad]
    refine ⟨fun h2=>no_f fun q=>?_,fun h2=>?_⟩
    · have:=q.inn.version
      simp only [decide_eq_true_eq] at h2
      omega
    · simp only [decide_eq_true_eq] at h2
      have I:JobIn s st j:=⟨jo,by omega,by omega,by omega,by omega,by omega,by omega,by omega⟩
      have eh:((j.State == 3) || (j.State == 4))=hasJ j:=rfl
      rw [eh,zad]
      refine ⟨fun h3=>no_f fun q=>?_,fun h3=>?_⟩
      · have:=q.has.has
        rw [←hr8.1] at this
        cases hh:hasJ j with
        | true=>have t:=this.2 hh; simp [hh] at h3; omega
        | false =>
          have t:¬0≤r8:=fun t=>by have:=this.1 t; rw [hh] at this; cases this
          simp [hh] at h3
          omega
      · have hasI:(∃a∈st.Allocs,a.Job=j.Id)↔hasJ j=true:=by
          rw [←hr8.1]
          cases hh:hasJ j with
          | true=>simp [hh] at h3; simp [h3]
          | false=>simp [hh] at h3; simp; omega
        rw [zad]
        refine ⟨fun h4=>yes_t ?_,fun h4=>?_⟩
        · simp only [decide_eq_true_eq] at h4
          refine ⟨I,fun hs=>by omega,hasI,fun a ha e=>?_⟩
          have:=hasJ_lt (hasI.1 ⟨a,ha,e⟩)
          omega
        · simp only [decide_eq_true_eq] at h4
          have ha:=jo.afterN
          refine lpA j.After (fun _ d=>∃i∈st.Jobs,i.Id=d.Job) (fun m g hm hA hr=>?_) (fun g hA=>?_) (by omega)
          · simp only [zcQ hm,if_true,zao hm,Option.bind_some,wr1 (show m<1000000 by omega)]
            refine (ref_find (by omega) j.After[m].Job).bind fun r hr2=>?_
            rw [zad]
            refine ⟨fun h5=>no_f fun q=>?_,fun h5=>hr (hr2.1.1 ?_)⟩
            · have:=hr2.1.2 ((q.waits (by omega)).after _ (List.getElem_mem hm))
              simp only [decide_eq_true_eq] at h5
              omega
            · simp only [decide_eq_true_eq] at h5
              omega
          · simp only [zcO,Bool.false_eq_true,if_false]
            obtain ⟨b,e1,e2⟩:=fits_eq hw.spec k (q:=j.Queue) (m:=j.Many) jo.need jo.needz
            rw [e2,Option.bind_some,zad]
            refine ⟨fun h5=>no_f fun q=>?_,fun h5=>?_⟩
            · have:=(q.waits (by omega)).fits
              rw [e1] at this
              simp only [Option.some.injEq] at this
              subst this
              simp at h5
            · simp only [Bool.not_eq_true',Bool.not_eq_false] at h5
              subst h5
              have W:Waits s st j:=fun _=>⟨e1,zcb hA⟩
              rw [zad]
              refine ⟨fun h6=>yes_t ⟨I,W,hasI,fun a ha e=>?_⟩,fun h6=>?_⟩
              · have:=hasI.1 ⟨a,ha,e⟩
                rw [this] at h6
                simp at h6
              · simp only [Bool.not_eq_true',Bool.not_eq_false] at h6
                have r0:=hr8.1.2 (hasI.2 h6)
                have at8:=hr8.2 r0
                obtain ⟨hx,e3⟩:=at_int (l:=st.Allocs) at8.lo (by have:=at8.lo; have:=at8.hi; omega)
                have hma:=List.getElem_mem hx
                rw [wr (x:=j.Start+j.Wall) (by omega) (by omega),e3,zad]
                simp only [Option.bind_some]
                refine ⟨fun h7=>?_,fun h7=>no_f fun q=>?_⟩
                · simp only [decide_eq_true_eq] at h7
                  rw [zad]
                  refine ⟨fun h8=>?_,fun h8=>no_f fun q=>h8 (beq_res.2 (q.has.mine _ hma at8.is).need)⟩
                  have eN:=beq_res.1 h8
                  refine (ref_mine hw.spec k j _ (Nat.le_trans (hw.shares _ hma) (by decide))).bind fun r hr9=>?_
                  rw [zab,hr9]
                  refine ⟨fun S=>⟨I,W,hasI,fun a ha e=>?_⟩,fun q=>(q.has.mine _ hma at8.is).suits⟩
                  have:a=st.Allocs[r8.toNat]:=by
                    obtain ⟨m,hm,rfl⟩:=List.getElem_of_mem ha
                    have:=R.uniq hm hx (by rw [e,at8.is])
                    subst this
                    rfl
                  subst this
                  exact ⟨e,eN,S,h7⟩
                · have:=(q.has.mine _ hma at8.is).now
                  simp only [decide_eq_true_eq] at h7
                  omega
theorem ref_sound {s:zac} {st:zaf} (hw:FewW s st):za7 (zbW 1000 s st) (SoundOk s st):=by
  have hl:=hw.jobs; have hq:=hw.stamps; have hus:=hw.use
  unfold zbW
  simp only [zbq]
  refine (ref_right s hw.spec).bind fun r hr1=>?_
  rw [zad]
  refine ⟨fun h=>?_,fun h=>?_⟩
  · rw [if_pos trivial]
    refine no_f fun q=>?_
    have:=hr1.2 q.spec
    rw [this] at h
    have k1:=q.spec.ids; have:=q.nums.now; have:=q.nums.next; have:=q.nums.book
    rw [wr (x:=s.Ids+1) (by omega) (by omega)] at h
    simp only [Bool.or_eq_true,decide_eq_true_eq,Bool.not_true,Bool.false_eq_true,false_or] at h
    omega
  · simp only [Bool.or_eq_true,decide_eq_true_eq,not_or,Bool.not_eq_true',Bool.not_eq_false] at h
    have k:=hr1.1 h.1.1.1.1.1
    have k1:=k.ids
    rw [wr (x:=s.Ids+1) (by omega) (by omega)] at h
    refine (ref_uid st.Book).bind fun r2 hr2=>?_
    rw [zad]
    refine ⟨fun h2=>no_f fun q=>?_,fun h2=>?_⟩
    · have:=hr2.2 (by have:=q.nums.book; omega)
      rw [this] at h2
      simp at h2
    · simp only [Bool.not_eq_true',Bool.not_eq_false] at h2
      have u2:=hr2.1 h2
      have NO:NumsOk s st:=⟨by omega,by omega,by omega⟩
      rw [zad]
      refine ⟨fun h3=>?_,fun h3=>?_⟩
      · rw [if_pos trivial]
        refine no_f fun q=>?_
        have:=q.jobs.len
        simp only [decide_eq_true_eq] at h3
        omega
      · simp only [decide_eq_true_eq] at h3
        refine (ref_allocs hw).bind fun r4 hr4=>?_
        rw [zad]
        refine ⟨fun h4=>?_,fun h4=>?_⟩
        · rw [if_pos trivial]
          refine no_f fun q=>?_
          have:=hr4.2 (to_ref k q.jobs q.allocs).1
          rw [this] at h4
          simp at h4
        · simp only [Bool.not_eq_true',Bool.not_eq_false] at h4
          have R:=hr4.1 h4
          refine (ref_books hw R).bind fun r5 hr5=>?_
          rw [zad]
          refine ⟨fun h5=>?_,fun h5=>?_⟩
          · rw [if_pos trivial]
            refine no_f fun q=>?_
            have:=(hr5 q.jobs).2 q.booked
            rw [this] at h5
            simp at h5
          · simp only [Bool.not_eq_true',Bool.not_eq_false] at h5
            refine (ref_use st.Use s.Users (by omega)).bind fun r6 hr6=>?_
            rw [zad]
            refine ⟨fun h6=>?_,fun h6=>?_⟩
            · rw [if_pos trivial]
              refine no_f fun q=>?_
              have:=hr6.2 ⟨q.use.len,q.use.use⟩
              rw [this] at h6
              have:=q.use.qlen
              simp only [Bool.or_eq_true,bne_iff_ne,ne_eq,Bool.not_true,Bool.false_eq_true,false_or] at h6
              omega
            · simp only [Bool.or_eq_true,bne_iff_ne,ne_eq,not_or,Decidable.not_not,Bool.not_eq_true',Bool.not_eq_false] at h6
              have u6:=hr6.1 h6.1
              refine (ref_uid st.Stamps.Nodes).bind fun r7 hr7=>?_
              rw [zad]
              refine ⟨fun h7=>no_f fun q=>?_,fun h7=>?_⟩
              · have:=hr7.2 q.use.nodes
                rw [this] at h7
                simp at h7
              · simp only [Bool.not_eq_true',Bool.not_eq_false] at h7
                have u7:=hr7.1 h7
                refine lpA st.Stamps.Queues (fun _ x=>0≤x∧x≤281474976710656) (fun i f hi _ hr=>?_) (fun f hS=>?_) (by omega)
                · simp only [zcQ hi,if_true,zao hi,Option.bind_some,wr1 (show i<1000000 by omega)]
                  refine (ref_uid _).bind fun r8 hr8=>?_
                  rw [zad]
                  refine ⟨fun h8=>no_f fun q=>?_,fun h8=>hr (hr8.1 (by simpa using h8))⟩
                  have:=hr8.2 (q.use.stamps _ (List.getElem_mem hi))
                  rw [this] at h8
                  simp at h8
                · simp only [zcO,Bool.false_eq_true,if_false]
                  have U:UseOk s st:=⟨u6.1,u6.2,by omega,u7,zcb hS⟩
                  refine lpA st.Jobs (fun i j=>RefJob s st j∧prvI st.Jobs i<j.Id) (fun i f hi _ hr=>?_) (fun f hJ=>?_) (by omega)
                  · have hd:decide ((i:Int) > 0)=decide (0<i):=by simp
                    have hj:=List.getElem_mem hi
                    simp only [zcQ hi,if_true,zao hi,Option.bind_some,wr1 (show i<1000000 by omega),hd]
                    refine (ref_job k hw R hj).bind fun r9 hr9=>?_
                    rw [zad]
                    refine ⟨fun h9=>no_f fun q=>?_,fun h9=>?_⟩
                    · have:=hr9.2 ⟨q.jobs.each _ hj,q.waits _ hj,(to_ref k q.jobs q.allocs).2 _ hj⟩
                      rw [this] at h9
                      simp at h9
                    · simp only [Bool.not_eq_true',Bool.not_eq_false] at h9
                      have J9:=hr9.1 h9
                      rw [zad]
                      refine ⟨fun h10=>?_,fun h10=>?_⟩
                      · simp only [decide_eq_true_eq] at h10
                        obtain ⟨m,rfl⟩:∃m,i=m+1:=⟨i-1,by omega⟩
                        rw [wp1 (show m+1<1000000 by omega),zao (show m<st.Jobs.length by omega),Option.bind_some,zad]
                        refine ⟨fun h11=>no_f fun q=>?_,fun h11=>hr ⟨J9,?_⟩⟩
                        · have:=q.jobs.sorted m hi
                          simp only [decide_eq_true_eq] at h11
                          omega
                        · rw [prvI_succ (by omega)]
                          simp only [decide_eq_true_eq] at h11
                          omega
                      · simp only [decide_eq_true_eq] at h10
                        have:i=0:=by omega
                        subst this
                        refine hr ⟨J9,?_⟩
                        have:=J9.inn.ok.id
                        simp only [prvI]
                        omega
                  · simp only [zcO,Bool.false_eq_true,if_false]
                    have JO:JobsOk s st:=jobs_of (by omega) fun i hi=>⟨(hJ i hi).1.inn,(hJ i hi).2⟩
                    have all:∀j∈st.Jobs,RefJob s st j:=fun j hj=>by
                      obtain ⟨m,hm,rfl⟩:=List.getElem_of_mem hj
                      exact (hJ m hm).1
                    exact yes_t ⟨k,NO,JO,fun j hj=>(all j hj).waits,of_ref k JO R fun j hj=>(all j hj).has,(hr5 JO).1 h5,U⟩
end Go.Plain
end
section
namespace Go.Plain
open Go.Abs
theorem clone_ints {l:List Int} (h:l.length≤1000000):zaB 1000 l=some l:=by
  unfold zaB
  exact zdE h
theorem copy_ok {s:zac} (hs:FewS s):zcy 1000 s=some s:=by
  have h1:=hs.nodes; have h2:=hs.parts; have h3:=hs.queues
  unfold zcy
  rw [clone_res (by omega),Option.bind_some,show zbL 1000 s.Parts=some s.Parts from zdE (by omega),Option.bind_some]
  refine Ret.eq (lpS s.Parts.length (fun i x=>x=((i:Int),s.Parts)) (fun i x f hi hx hr=>?_) (fun x f hx=>?_) rfl (by omega))
  · subst hx
    have hp:=hs.part _ (List.getElem_mem hi)
    simp only [zcQ hi,if_true,zao hi,Option.bind_some,wr1 (show i<1000000 by omega),clone_ints (show s.Parts[i].length≤1000000 by omega),Int.toNat_natCast,List.set_getElem_self]
    exact hr _ rfl
  · subst hx
    simp only [zcO,Bool.false_eq_true,if_false]
    rw [show zaW 1000 s.Queues=some s.Queues from zdE (by omega),Option.bind_some]
    refine lpS s.Queues.length (fun i x=>x=((i:Int),s.Queues)) (fun i x f hi hx hr=>?_) (fun x f hx=>?_) rfl (by omega)
    · subst hx
      have hp:=hs.queue _ (List.getElem_mem hi)
      simp only [zcQ hi,if_true,zao hi,Option.bind_some,wr1 (show i<1000000 by omega),clone_ints (show s.Queues[i].Users.length≤1000000 by omega),Int.toNat_natCast,List.set_getElem_self]
      exact hr _ (Prod.ext rfl (List.set_getElem_self hi))
    · subst hx
      simp only [zcO,Bool.false_eq_true,if_false,zab]
theorem share_new {n:Int} (h:1≤n∧n≤8):share_New 1000 n=some (List.replicate n.toNat 0):=by
  simp only [share_New,zdG]
  rw [if_neg (by simp; omega),if_neg (by simp; omega)]
  simp only [Option.bind_some,mk?]
  rw [if_pos (by omega)]
  rfl
theorem table_new {n:Int} (h:1≤n∧n≤256):table_New_of79d 1000 n=some (.inr n):=by
  simp only [table_New_of79d]
  rw [if_neg (by simp; omega)]
theorem new_ok {s:zac} (hs:FewS s) (k:SpecOk s):zc0 1000 s=some (.inr (List.replicate s.Queues.length 0,[],s.Nodes,s.Parts,s.Queues,s.Users,s.Weights.Age,s.Weights.Size,s.Weights.Qos,s.Weights.Share,s.Decay,s.Mode,s.Jobs,s.Ids,s.Versions,s.Linger,s.Keep,s.In,s.Out,s.Cache,0,1,1,List.replicate s.Users.toNat 0,0,s.Jobs,s.Nodes)):=by
  have h3:=hs.queues
  unfold zc0
  rw [spec_true hs k,Option.bind_some,if_neg (by simp),table_new k.jobs,Option.bind_some]
  dsimp only
  rw [new_ledger hs k,Option.bind_some]
  dsimp only
  rw [copy_ok hs,Option.bind_some,share_new k.users,Option.bind_some]
  unfold mk?
  rw [if_pos (by omega),Option.bind_some]
  rw [Int.toNat_natCast]
theorem own_job {j:zae} (h:j.After.length≤1000000):table_own 1000 j=some j:=by
  unfold table_own
  rw [show zaD 1000 j.After=some j.After from zdE h]
  rfl
theorem all_jobs {l:List zae} (hl:l.length≤300) (ha:∀j∈l,j.After.length≤10):zbt 1000 l=some l:=by
  unfold zbt
  rw [show zbj 1000 l=some l from zdE (by omega),Option.bind_some]
  refine Ret.eq (lpS l.length (fun i x=>x=((i:Int),l)) (fun i x f hi hx hr=>?_) (fun x f hx=>?_) rfl (by omega))
  · subst hx
    have hp:=ha _ (List.getElem_mem hi)
    simp only [zcQ hi,if_true,zao hi,Option.bind_some,wr1 (show i<1000000 by omega),own_job (show l[i].After.length≤1000000 by omega),Int.toNat_natCast,List.set_getElem_self]
    exact hr _ rfl
  · subst hx
    simp only [zcO,Bool.false_eq_true,if_false,zab]
def mapA (A:List zag):List (Int×zag):=A.map fun a=>(a.Job,a)
def AscA (A:List zag):Prop:=(A.map (·.Job)).Pairwise (·<·)
theorem mapA_get {A:List zag} (h:AscA A):∀i (hi:i<A.length),mget (mapA A) A[i].Job=some A[i]:=by
  induction A with
  | nil=>intro i hi; simp at hi
  | cons a A ih =>
    unfold AscA at h
    rw [List.map_cons,List.pairwise_cons] at h
    intro i hi
    match i,hi with
    | 0,hi=>simp [mapA,mget]
    | i + 1, hi =>
      have hi':i<A.length:=by simpa using hi
      have:=h.1 A[i].Job (List.mem_map.2 ⟨_,List.getElem_mem hi',rfl⟩)
      have e:mget (mapA (a::A)) A[i].Job=mget (mapA A) A[i].Job:=by
        simp only [mapA,List.map_cons,mget]
        rw [if_neg (by omega)]
      rw [List.getElem_cons_succ,e]
      exact ih h.2 i hi'
theorem mapA_none {A:List zag} {q:Int} (h:∀a∈A,a.Job≠q):mget (mapA A) q=none:=by
  induction A with
  | nil=>rfl
  | cons a A ih =>
    simp only [mapA,List.map_cons,mget]
    rw [if_neg (h a (List.mem_cons_self ..))]
    exact ih fun b hb=>h b (List.mem_cons_of_mem _ hb)
theorem mapA_set {A:List zag} {a:zag} (h:∀b∈A,b.Job≠a.Job):mset (mapA A) a.Job a=mapA (A++[a]):=by
  induction A with
  | nil=>rfl
  | cons b A ih =>
    have:=ih fun c hc=>h c (List.mem_cons_of_mem _ hc)
    simp only [mapA,List.cons_append,List.map_cons,mset] at this ⊢
    rw [if_neg (h b (List.mem_cons_self ..)),this]
theorem i64wf {n:Int} (h:0≤n∧n≤1048576):(Lit.int .i64 n).wf=true:=by
  have e1:IntKind.i64.min=-9223372036854775808:=by decide
  have e2:IntKind.i64.max=9223372036854775807:=by decide
  simp only [Lit.wf,Bool.and_eq_true,decide_eq_true_eq,e1,e2]
  omega
theorem keys_ok {A:List zag} (hl:A.length≤300) (h:AscA A) (hj:∀a∈A,0≤a.Job∧a.Job≤1048576):keysI (fun k=>k) (mapA A)=some (A.map (·.Job)):=by
  have e:(mapA A).map Prod.fst=A.map (·.Job):=by simp [mapA]
  unfold keysI
  have wf:∀p∈mapA A,(Lit.int .i64 p.1).wf=true:=fun p hp=>by
    obtain ⟨a,ha,rfl⟩:=List.mem_map.1 hp
    exact i64wf (hj a ha)
  have nd:(A.map (·.Job)).Nodup:=h.imp fun h=>by omega
  have ln:(mapA A).length≤1000000:=by simp [mapA]; omega
  rw [e,if_pos ⟨ln,nd,wf⟩,List.mergeSort_of_pairwise (h.imp fun h=>by simp; omega)]
  simp
theorem all_allocs {A:List zag} (hl:A.length≤300) (h:AscA A) (hj:∀a∈A,0≤a.Job∧a.Job≤1048576) (hs:∀a∈A,a.Shares.length≤300):zax 1000 (mapA A)=some A:=by
  unfold zax
  rw [keys_ok hl h hj,Option.bind_some]
  refine Ret.eq (lpS (A.map (·.Job)).length (fun i x=>x=((i:Int),A.take i)) (fun i x f hi hx hr=>?_) (fun x f hx=>?_) (by simp) (by simp; omega))
  · subst hx
    have hi':i<A.length:=by simpa using hi
    have e:=mapA_get h i hi'
    have es:=hs _ (List.getElem_mem hi')
    simp only [zcQ hi,if_true,zao hi,Option.bind_some,wr1 (show i<1000000 by omega),List.getElem_map,e,oel,own_alloc (show A[i].Shares.length≤1000000 by omega)]
    rw [app_ok (by rw [List.length_take]; simp; omega),Option.bind_some]
    exact hr _ (by rw [List.take_succ_eq_append_getElem hi'])
  · subst hx
    simp only [zcO,Bool.false_eq_true,if_false,zab,List.length_map,List.take_length]
theorem clone_books {l:List zai} (h:l.length≤1000000):zap 1000 l=some l:=by
  unfold zap
  exact zdE h
theorem beq_dep (a:zcS):zcS.beq a a=true:=by simp [zcS.beq]
theorem beq_share (a:zaj):zaj.beq a a=true:=by simp [zaj.beq]
theorem beq_book (a:zai):zai.beq a a=true:=by simp [zai.beq]
theorem beq_res' (a:zaa):zaa.beq a a=true:=beq_res.2 rfl
theorem lpT {α:Type} {b:(Int→Option Bool)→Int→Option Bool} (l:List α) (hs:∀(i:Nat) (f:Int→Option Bool) (h:i<l.length),b f (i:Int)=f ((i+1:Nat):Int)) (he:∀f,b f (l.length:Int)=some true) {N:Nat} (hN:l.length<N):lpX b N 0=some true:=
  Ret.eq (lpA l (fun _ _=>True) (fun i f h _ hr=>by rw [hs i f h]; exact hr trivial) (fun f _=>by rw [he]; exact ⟨_,rfl,rfl⟩) hN)
theorem same_ints (l:List Int) (hl:l.length≤300):zbG 1000 l l=some true:=by
  unfold zbG
  rw [if_neg (by simp)]
  refine lpT l (fun i f h=>?_) (fun f=>?_) (by omega)
  · simp only [zcQ h,if_true,zao h,Option.bind_some,wr1 (show i<1000000 by omega),bne_self_eq_false,Bool.false_eq_true,if_false]
  · simp only [zcO,Bool.false_eq_true,if_false]
theorem same_job (j:zae) (hl:j.After.length≤300):zcc 1000 j j=some true:=by
  unfold zcc
  rw [if_neg (by simp)]
  refine lpT j.After (fun i f h=>?_) (fun f=>?_) (by omega)
  · simp only [zcQ h,if_true,zao h,Option.bind_some,wr1 (show i<1000000 by omega),beq_dep,Bool.not_true,Bool.false_eq_true,if_false]
  · simp only [zcO,Bool.false_eq_true,if_false,beq_self_eq_true,beq_res',Bool.and_self]
theorem same_jobs (l:List zae) (hl:l.length≤300) (ha:∀j∈l,j.After.length≤10):zda 1000 l l=some true:=by
  unfold zda
  rw [if_neg (by simp)]
  refine lpT l (fun i f h=>?_) (fun f=>?_) (by omega)
  · have:=ha _ (List.getElem_mem h)
    simp only [zcQ h,if_true,zao h,Option.bind_some,wr1 (show i<1000000 by omega),same_job l[i] (by omega),Bool.not_true,Bool.false_eq_true,if_false]
  · simp only [zcO,Bool.false_eq_true,if_false]
theorem same_shares (l:List zaj) (hl:l.length≤300):zc9 1000 l l=some true:=by
  unfold zc9
  rw [if_neg (by simp)]
  refine lpT l (fun i f h=>?_) (fun f=>?_) (by omega)
  · simp only [zcQ h,if_true,zao h,Option.bind_some,wr1 (show i<1000000 by omega),beq_share,Bool.not_true,Bool.false_eq_true,if_false]
  · simp only [zcO,Bool.false_eq_true,if_false]
theorem same_allocs (l:List zag) (hl:l.length≤300) (ha:∀a∈l,a.Shares.length≤300):zc4 1000 l l=some true:=by
  unfold zc4
  rw [if_neg (by simp)]
  refine lpT l (fun i f h=>?_) (fun f=>?_) (by omega)
  · have:=ha _ (List.getElem_mem h)
    simp only [zbq,zcQ h,if_true,zao h,Option.bind_some,wr1 (show i<1000000 by omega),bne_self_eq_false,beq_res',same_shares l[i].Shares this,Bool.not_true,Bool.false_eq_true,if_false]
  · simp only [zcO,Bool.false_eq_true,if_false]
theorem same_books (l:List zai) (hl:l.length≤300):zdb 1000 l l=some true:=by
  unfold zdb
  rw [if_neg (by simp)]
  refine lpT l (fun i f h=>?_) (fun f=>?_) (by omega)
  · simp only [zcQ h,if_true,zao h,Option.bind_some,wr1 (show i<1000000 by omega),beq_book,Bool.not_true,Bool.false_eq_true,if_false]
  · simp only [zcO,Bool.false_eq_true,if_false]
theorem same_state {s:zac} {st:zaf} (hw:FewW s st):zbp 1000 st st=some true:=by
  have h1:=hw.jobs; have h2:=hw.use; have h3:=hw.stamps; have h4:=hw.books
  unfold zbp
  rw [if_pos (by simp),same_jobs _ (by omega) hw.after,Option.bind_some,if_pos rfl,same_allocs _ hw.allocs hw.sh,Option.bind_some,if_pos rfl,same_books _ (by omega),Option.bind_some,if_pos rfl,same_ints _ (by omega),Option.bind_some,if_pos rfl,same_ints _ (by omega),Option.bind_some]
  simp
end Go.Plain
end
section
namespace Go.Plain
open Go.Abs
theorem sorted_take {l:List zae} (h:SortedJ l) (n:Nat):SortedJ (l.take n):=fun i hi=>by
  rw [List.length_take] at hi
  rw [List.getElem_take,List.getElem_take]
  exact h i (by omega)
theorem find_end {l:List zae} (hl:l.length≤300) (hs:SortedJ l) {id:Int} (h:∀j∈l,j.Id<id):zaY 1000 l id=some ((l.length:Int),false):=by
  unfold zaY
  have e:(lpX (fun f2 (x1:Int×Int)=>
      if (decide (x1.1<x1.2))=true then
        (
          (at? l (IntKind.i64.wrap (Int.fdiv (IntKind.u64.wrap (IntKind.i64.wrap (x1.1+x1.2))) (2 ^ 1)))).bind fun a3=>
          some (decide (a3.Id≥id))).bind fun x4=>
        if (!x4)=true then
          f2 ((IntKind.i64.wrap ((IntKind.i64.wrap (Int.fdiv (IntKind.u64.wrap (IntKind.i64.wrap (x1.1+x1.2))) (2 ^ 1)))+1)),x1.2)
        else
          f2 (x1.1,(IntKind.i64.wrap (Int.fdiv (IntKind.u64.wrap (IntKind.i64.wrap (x1.1+x1.2))) (2 ^ 1))))
      else
        some x1.1) 1000 (0,(l.length:Int)))=some (l.length:Int):=by
    refine Ret.eq (half hl hs id (fun j=>some (decide (j.Id<id))) (fun j hj=>rfl) (fun i=>some i) (fun i hi h1 h2=>?_) _ (fun f x=>?_))
    · rw [zab]
      rcases Nat.lt_or_eq_of_le hi with q | q
      · have:=h2 i q (Nat.le_refl _)
        have:=h _ (List.getElem_mem q)
        omega
      · rw [q]
    · split
      · cases at? l (IntKind.i64.wrap (Int.fdiv (IntKind.u64.wrap (IntKind.i64.wrap (x.1+x.2))) (2 ^ 1))) with
        | none=>rfl
        | some a =>
          simp only [Option.bind_some,Bool.not_eq_true',decide_eq_false_iff_not,decide_eq_true_eq]
          by_cases hc:a.Id<id
          · rw [if_pos hc,if_pos (by omega)]
          · rw [if_neg hc,if_neg (by omega)]
      · rfl
  rw [e,Option.bind_some,zcO,if_neg (by simp)]
theorem put_ok {l:List zae} {n:Nat} (hn:n<l.length) (hl:l.length≤300) (hs:SortedJ l) {m:Int} (hm:(l.length:Int)≤m) (hj:JobOk l[n]):zaO 1000 (l.take n) l[n] m=some (l.take (n+1),0):=by
  obtain ⟨r,e,h⟩:=job_right l[n]
  have hr:=h.2 hj
  subst hr
  have ha:=hj.afterN
  have ll:(l.take n).length=n:=by rw [List.length_take]; omega
  unfold zaO
  rw [e,Option.bind_some,if_neg (by simp),find_end (by omega) (sorted_take hs n) (fun j hj=>?_),Option.bind_some]
  · rw [if_neg (by simp),if_neg (by rw [ll]; simp; omega),own_job (by omega),Option.bind_some]
    unfold zaz
    have sl:slice? (l.take n) ((l.take n).length:Int) ((l.take n).length:Int)=some []:=by
      unfold slice?
      rw [if_pos ⟨by omega,by omega,by omega⟩]
      simp
    rw [sl,Option.bind_some,if_neg (by simp),if_pos (by simp),app_ok (by rw [ll]; simp; omega),Option.bind_some,Option.bind_some,List.take_succ_eq_append_getElem hn]
  · obtain ⟨i,hi,rfl⟩:=List.getElem_of_mem hj
    rw [List.getElem_take]
    exact hs.lt (by omega) hn
def leftL (F:List zaa) (l:List zag):List zaa:=l.foldl takeA F
structure TInv (s:zac) (st:zaf) (i:Nat) (x:Int×(List zaa)×List (Int×zag)):Prop where
  ix:x.1=(i:Int)
  h:∃H,AllocsH s st H (st.Allocs.drop i) x.2.1
  len:x.2.1.length=s.Nodes.length
  vec:∀r∈x.2.1,VecOk r
  m:x.2.2=mapA (st.Allocs.take i)
  fr:x.2.1=leftL s.Nodes (st.Allocs.take i)
theorem asc_of {s:zac} {st:zaf} (q:SoundOk s st):AscA st.Allocs:=by
  have h:=(allocsH_fwd q.allocs q.spec.nodes.ok).1
  unfold AscA
  rw [h]
  exact jobs_pw q.jobs
theorem alloc_ids {s:zac} {st:zaf} (q:SoundOk s st):∀a∈st.Allocs,0≤a.Job∧a.Job≤1048576:=fun a ha=>by
  obtain ⟨j,hj,P⟩:=q.allocs.mem a ha
  have:=(q.jobs.each j hj).ok.id
  have:=P.job
  omega
theorem of_ok {s:zac} {st:zaf} (hw:FewW s st) (q:SoundOk s st):zcw 1000 s st=some (.inr (st.Stamps.Queues,st.Jobs,(st.Allocs.map fun a=>(a.Job,a)),s.Nodes,s.Parts,s.Queues,s.Users,s.Weights.Age,s.Weights.Size,s.Weights.Qos,s.Weights.Share,s.Decay,s.Mode,s.Jobs,s.Ids,s.Versions,s.Linger,s.Keep,s.In,s.Out,s.Cache,st.Now,st.Next,st.Book,st.Books,st.Use,st.Stamps.Nodes,s.Jobs,leftL s.Nodes st.Allocs)):=by
  have hl:=hw.jobs; have hal:=hw.allocs; have hn:=hw.spec.nodes; have hb:=hw.books; have hu:=hw.use; have hs:=hw.stamps
  obtain ⟨r,e,h⟩:=sound_ok hw
  have hr:=h.2 q
  subst hr
  have jl:=q.jobs.len
  have asc:=asc_of q
  unfold zcw
  rw [e,Option.bind_some,if_neg (by simp),new_ok hw.spec q.spec,Option.bind_some]
  dsimp only
  refine Ret.eq ?_
  refine lpS st.Jobs.length (fun i x=>x=((i:Int),st.Jobs.take i)) (fun i x f hi hx hr=>?_) (fun x f hx=>?_) rfl (by omega)
  · subst hx
    simp only [zcQ hi,if_true,zao hi,Option.bind_some,wr1 (show i<1000000 by omega),put_ok hi hl q.jobs.sorted jl (q.jobs.each _ (List.getElem_mem hi)).ok,bne_self_eq_false,Bool.false_eq_true,if_false]
    exact hr _ rfl
  · subst hx
    simp only [zcO,Bool.false_eq_true,if_false]
    refine lpS st.Allocs.length (TInv s st) (fun i x f hi hx hr=>?_) (fun x f hx=>?_) ⟨rfl,⟨_,by rw [List.drop_zero]; exact q.allocs⟩,rfl,q.spec.nodes.ok,rfl,rfl⟩ (by omega)
    · obtain ⟨x1,F,M⟩:=x
      obtain ⟨h1,h2,h3,h4,h5,h6⟩:=hx
      dsimp only at h1 h2 h3 h4 h5 h6
      subst h1
      have hm:=List.getElem_mem hi
      have hsh:=hw.sh _ hm
      obtain ⟨H,hH⟩:=h2
      rw [List.drop_eq_getElem_cons hi] at hH
      obtain ⟨j,hj,P⟩:=q.allocs.mem _ hm
      have jo:=(q.jobs.each j hj).ok
      have fit:FitsA F st.Allocs[i]∧∃H',AllocsH s st H' (st.Allocs.drop (i+1)) (takeA F st.Allocs[i]):=by
        cases H with
        | nil=>cases (show st.Allocs[i]::st.Allocs.drop (i+1)=[] from hH)
        | cons j' H' =>
          obtain ⟨a',A',e',-,hf,hr⟩:=hH
          cases e'
          exact ⟨hf,H',hr⟩
      have free:∀b∈st.Allocs.take i,b.Job≠st.Allocs[i].Job:=fun b hb=>by
        obtain ⟨m,hm2,rfl⟩:=List.getElem_of_mem hb
        rw [List.length_take] at hm2
        rw [List.getElem_take]
        have:=List.pairwise_iff_getElem.1 asc m i (by simp; omega) (by simpa using hi) (by omega)
        rw [List.getElem_map,List.getElem_map] at this
        omega
      have T:TakeOk M F st.Allocs[i]:=⟨by have:=jo.id; have:=P.job; omega,tot_pos (by have:=jo.many; have:=P.suits.tot; omega),by rw [h3]; exact P.suits.shares,by rw [P.need]; exact jo.need,by rw [h5]; exact mapA_none free,fit.1⟩
      simp only [zcQ hi,if_true,zao hi,Option.bind_some,wr1 (show i<1000000 by omega)]
      refine (take_ok (M:=M) (a:=st.Allocs[i]) (F:=F) (by omega) hsh h4).bind fun r hr1=>?_
      have z:=hr1.1.2 T
      obtain ⟨eM,bh⟩:=hr1.2 z
      rw [z]
      simp only [bne_self_eq_false,Bool.false_eq_true,if_false]
      refine hr _ ⟨rfl,?_,?_,?_,?_,?_⟩
      · dsimp only
        rw [bh.eq]
        exact fit.2
      · dsimp only
        rw [bh.eq,takeA_len,h3]
      · dsimp only
        rw [bh.eq]
        exact takeA_ok fit.1
      · dsimp only
        rw [eM,h5,mapA_set free,List.take_succ_eq_append_getElem hi]
      · dsimp only
        rw [bh.eq,h6,List.take_succ_eq_append_getElem hi,leftL,leftL,List.foldl_append]
        rfl
    · obtain ⟨x1,F,M⟩:=x
      obtain ⟨h1,h2,h3,h4,h5,h6⟩:=hx
      dsimp only at h1 h2 h3 h4 h5 h6
      subst h1
      simp only [zcO,Bool.false_eq_true,if_false]
      rw [show zaE 1000 st.Books=some st.Books from zdE (by omega),Option.bind_some,show za0 1000 st.Use=some st.Use from zdE (by omega),Option.bind_some,show za0 1000 st.Stamps.Queues=some st.Stamps.Queues from zdE (by omega),Option.bind_some,zab]
      rw [h5,h6,List.take_length,List.take_length]
      rfl
theorem of_no {s:zac} {st:zaf} (hw:FewW s st) (q:¬SoundOk s st):zcw 1000 s st=some (.inl 2):=by
  obtain ⟨r,e,h⟩:=sound_ok hw
  have:r=false:=by
    cases r with
    | false=>rfl
    | true=>exact absurd (h.1 rfl) q
  unfold zcw
  rw [e,this]
  rfl
theorem shown {s:zac} {st:zaf} (hw:FewW s st) (q:SoundOk s st) :
    zar 1000 st.Stamps.Queues st.Jobs (st.Allocs.map fun a=>(a.Job,a)) st.Now st.Next st.Book st.Books st.Use st.Stamps.Nodes=some st:=by
  have hl:=hw.jobs; have hb:=hw.books; have hu:=hw.use; have hs:=hw.stamps
  unfold zar
  rw [all_jobs (by omega) hw.after,Option.bind_some,show zax 1000 (st.Allocs.map fun a=>(a.Job,a))=some st.Allocs from all_allocs hw.allocs (asc_of q) (alloc_ids q) hw.sh,Option.bind_some,clone_books (by omega),Option.bind_some,clone_ints (by omega),Option.bind_some,show zaJ 1000 st.Stamps.Queues=some st.Stamps.Queues from zdE (by omega),Option.bind_some]
theorem law_of_ok {s:zac} {st:zaf} (hw:FewW s st) (q:SoundOk s st):za6 1000 s st=some (.inr (st.Stamps.Queues,st.Jobs,(st.Allocs.map fun a=>(a.Job,a)),true,s.Nodes,s.Parts,s.Queues,s.Users,s.Weights.Age,s.Weights.Size,s.Weights.Qos,s.Weights.Share,s.Decay,s.Mode,s.Jobs,s.Ids,s.Versions,s.Linger,s.Keep,s.In,s.Out,s.Cache,st.Now,st.Next,st.Book,st.Books,st.Use,st.Stamps.Nodes,s.Jobs,leftL s.Nodes st.Allocs)):=by
  obtain ⟨r,e2,h⟩:=ref_sound hw
  have hr:=h.2 q
  subst hr
  unfold za6
  rw [of_ok hw q,Option.bind_some]
  dsimp only
  rw [e2,Option.bind_some,if_neg (by simp),shown hw q,Option.bind_some,same_state hw,Option.bind_some]
theorem law_of_no {s:zac} {st:zaf} (hw:FewW s st) (q:¬SoundOk s st):za6 1000 s st=some (.inl true):=by
  obtain ⟨r,e2,h⟩:=ref_sound hw
  have:r=false:=by
    cases r with
    | false=>rfl
    | true=>exact absurd (h.1 rfl) q
  unfold za6
  rw [of_no hw q,Option.bind_some]
  dsimp only
  rw [e2,this]
  rfl
theorem spec_shown {s:zac} (hs:FewS s) :
    zay 1000 s.Nodes s.Parts s.Queues s.Users s.Weights.Age s.Weights.Size s.Weights.Qos s.Weights.Share s.Decay s.Mode s.Jobs s.Ids s.Versions s.Linger s.Keep s.In s.Out s.Cache=some s:=by
  unfold zay
  rw [show zcy 1000 _=some s from copy_ok hs]
  rfl
end Go.Plain
end
section
namespace Go.Plain
open Go.Abs
end Go.Plain
end
section
namespace Go.Plain
open Go.Abs
theorem find_row {l:List zae} (hl:l.length≤300) (hs:SortedJ l) (id:Int):Ret (zaY 1000 l id) fun r=>(r.2=true↔∃j∈l,j.Id=id)∧(r.2=true→At l id r.1):=by
  unfold zaY
  rw [ret_bind]
  refine half hl hs id (fun j=>some (decide (j.Id<id))) (fun j hj=>rfl) (fun i=>some i) (fun i hi h1 h2=>?_) _ (fun f x=>?_)
  · rw [zab,zad]
    refine ⟨fun h=>?_,fun h=>?_⟩
    · simp only [decide_eq_true_eq] at h
      have hi':i<l.length:=by omega
      rw [zao hi',Option.bind_some,zab]
      simp only [beq_iff_eq]
      refine ⟨⟨fun e=>⟨_,List.getElem_mem hi',e⟩,fun ⟨j,hm,e⟩=>?_⟩,fun e=>⟨by omega,by simpa using hi',by simpa using e⟩⟩
      obtain ⟨k,hk,rfl⟩:=List.getElem_of_mem hm
      rcases Nat.lt_trichotomy k i with q | q | q
      · have:=h1 k hk q; omega
      · subst q; exact e
      · have:=hs.lt q hk; have:=h2 i hi' (by omega); omega
    · simp only [decide_eq_true_eq] at h
      simp only [zab,Bool.false_eq_true,false_iff,false_implies,and_true]
      rintro ⟨j,hm,e⟩
      obtain ⟨k,hk,rfl⟩:=List.getElem_of_mem hm
      have:=h1 k hk (by omega)
      omega
  · split
    · cases at? l (IntKind.i64.wrap (Int.fdiv (IntKind.u64.wrap (IntKind.i64.wrap (x.1+x.2))) (2 ^ 1))) with
      | none=>rfl
      | some a =>
        simp only [Option.bind_some,Bool.not_eq_true',decide_eq_false_iff_not,decide_eq_true_eq]
        by_cases hc:a.Id<id
        · rw [if_pos hc,if_pos (by omega)]
        · rw [if_neg hc,if_neg (by omega)]
    · rfl
section
variable {l:List zae}
theorem job_right_t {j:zae} (h:JobOk j):job_Right 1000 j=some true:=by
  obtain ⟨r,e,q⟩:=job_right j
  rw [e,q.2 h]
end
def aftV (x:Int):Int:=if x≥281474976710656 then 0 else x+1
theorem after_ok {x:Int} (h:0≤x):store_after 1000 x=some (aftV x):=by
  unfold store_after aftV
  simp only [decide_eq_true_eq]
  split
  · rfl
  · rw [wr (by omega) (by omega)]
def stampL (Q:List Int) (q:Int):List Int:=if 0≤q∧q<Q.length then Q.set q.toNat (aftV (Q[q.toNat]?.getD 0)) else Q
theorem stampL_len (Q:List Int) (q:Int):(stampL Q q).length=Q.length:=by unfold stampL; split <;> simp
def StampsIn (Q:List Int):Prop:=∀x∈Q,0≤x∧x≤281474976710656
theorem aftV_bd {x:Int} (h:0≤x∧x≤281474976710656):0≤aftV x∧aftV x≤281474976710656:=by unfold aftV; split <;> omega
theorem stampL_in {Q:List Int} (h:StampsIn Q) (q:Int):StampsIn (stampL Q q):=by
  unfold stampL
  split
  · rename_i hq
    have hl:q.toNat<Q.length:=by omega
    intro x hx
    rcases List.mem_or_eq_of_mem_set hx with e | e
    · exact h x e
    · subst e
      rw [List.getElem?_eq_getElem hl]
      exact aftV_bd (h _ (List.getElem_mem hl))
  · exact h
theorem stamp_ok {Q:List Int} (h:StampsIn Q) (q:Int):za9 1000 Q q=some (stampL Q q):=by
  unfold za9 stampL
  by_cases hq:0≤q∧q<Q.length
  · rw [if_pos (by simp; omega),if_pos hq]
    obtain ⟨hx,e⟩:=at_int (l:=Q) hq.1 hq.2
    rw [e,Option.bind_some,after_ok (h _ (List.getElem_mem hx)).1,Option.bind_some,Option.bind_some,List.getElem?_eq_getElem hx]
    rfl
  · rw [if_neg (by simp; omega),if_neg hq]
section
variable {l:List zae}
def WaitS (x:Int):Prop:=x=1∨x=2
instance (x:Int):Decidable (WaitS x):=by unfold WaitS; infer_instance
theorem life_waits (x:Int):life_Waits 1000 x=some (decide (WaitS x)):=by
  unfold life_Waits
  congr 1
  rw [Bool.eq_iff_iff]
  rw [decide_eq_true_eq]
  simp only [Bool.or_eq_true,beq_iff_eq,WaitS]
end
structure Shows (st:zaf):Prop where
  jobs:st.Jobs.length≤300
  after:∀j∈st.Jobs,j.After.length≤10
  allocs:st.Allocs.length≤300
  asc:AscA st.Allocs
  ids:∀a∈st.Allocs,0≤a.Job∧a.Job≤1048576
  sh:∀a∈st.Allocs,a.Shares.length≤300
  books:st.Books.length≤20
  use:st.Use.length≤20
  stamps:st.Stamps.Queues.length≤20
theorem shows_of {s:zac} {st:zaf} (hw:FewW s st) (q:SoundOk s st):Shows st:=
  ⟨hw.jobs,hw.after,hw.allocs,asc_of q,alloc_ids q,hw.sh,hw.books,hw.use,hw.stamps⟩
theorem shown_of {st:zaf} (h:Shows st) :
    zar 1000 st.Stamps.Queues st.Jobs (st.Allocs.map fun a=>(a.Job,a)) st.Now st.Next st.Book st.Books st.Use st.Stamps.Nodes=some st:=by
  have hl:=h.jobs; have hb:=h.books; have hu:=h.use; have hs:=h.stamps
  unfold zar
  rw [all_jobs (by omega) h.after,Option.bind_some,show zax 1000 (st.Allocs.map fun a=>(a.Job,a))=some st.Allocs from all_allocs h.allocs h.asc h.ids h.sh,Option.bind_some,clone_books (by omega),Option.bind_some,clone_ints (by omega),Option.bind_some,show zaJ 1000 st.Stamps.Queues=some st.Stamps.Queues from zdE (by omega),Option.bind_some]
theorem same_shows {st:zaf} (h:Shows st):zbp 1000 st st=some true:=by
  have h1:=h.jobs; have h2:=h.use; have h3:=h.stamps; have h4:=h.books
  unfold zbp
  rw [if_pos (by simp),same_jobs _ (by omega) h.after,Option.bind_some,if_pos rfl,same_allocs _ h.allocs h.sh,Option.bind_some,if_pos rfl,same_books _ (by omega),Option.bind_some,if_pos rfl,same_ints _ (by omega),Option.bind_some,if_pos rfl,same_ints _ (by omega),Option.bind_some]
  simp
def waitN (l:List zae) (q:Int):Int:=(l.map fun j=>if j.Queue=q∧WaitS j.State then (1:Int) else 0).sum
theorem sum_take {α:Type} {f:α→Int} {l:List α} {i:Nat} (h:i<l.length):((l.take (i+1)).map f).sum=((l.take i).map f).sum+f l[i]:=by
  rw [List.take_succ_eq_append_getElem h,List.map_append,List.sum_append]
  simp
theorem cnt_bd01 {α:Type} {f:α→Int} (hf:∀x,0≤f x∧f x≤1) (l:List α):0≤(l.map f).sum∧(l.map f).sum≤l.length:=by
  induction l with
  | nil=>simp
  | cons a l ih=>have:=hf a; simp only [List.map_cons,List.sum_cons,List.length_cons]; omega
theorem waiting_count {l:List zae} (hl:l.length≤300) (q:Int):quota_Waiting 1000 l q=some (waitN l q):=by
  unfold quota_Waiting
  have key:Ret (lpX (fun f2 (x1:Int×Int)=>
      if (decide (x1.2<(l.length:Int)))=true then
        jn (fun (x3:Int)=>
          f2 (x3,(IntKind.i64.wrap (x1.2+1)))) fun j4=>
        (at? l x1.2).bind fun a5=>
        (
          if (a5.Queue == q)=true then
          (life_Waits 1000 a5.State).bind fun r6=>
          some r6
          else
          some false).bind fun x7=>
        if x7=true then
          j4 (IntKind.i64.wrap (x1.1+1))
        else
          j4 x1.1
      else
        some x1.1) 1000 (0,0)) fun r=>r=waitN l q:=by
    refine lpS l.length (fun i x=>x=(waitN (l.take i) q,(i:Int))) (fun i x f hi hx hr=>?_) (fun x f hx=>?_) (by simp [waitN]) (by omega)
    · subst hx
      have bd:=cnt_bd01 (f:=fun j:zae=>if j.Queue=q∧WaitS j.State then (1:Int) else 0) (fun x=>by split <;> omega) (l.take i)
      rw [List.length_take] at bd
      have nx:waitN (l.take (i+1)) q=waitN (l.take i) q+(if l[i].Queue=q∧WaitS l[i].State then (1:Int) else 0):=sum_take hi
      simp only [zcQ hi,if_true,zao hi,Option.bind_some,wr1 (show i<1000000 by omega),life_waits,zbq]
      by_cases h1:l[i].Queue=q
      · rw [if_pos (by simpa using h1),Option.bind_some]
        by_cases h2:WaitS l[i].State
        · rw [if_pos (by simpa using h2)]
          rw [if_pos ⟨h1,h2⟩] at nx
          change 0≤waitN _ q∧waitN _ q≤_ at bd
          rw [wr (by omega) (by omega)]
          exact hr _ (by rw [nx])
        · rw [if_neg (by simpa using h2)]
          rw [if_neg (fun h=>h2 h.2)] at nx
          exact hr _ (by rw [nx,Int.add_zero])
      · rw [if_neg (by simpa using h1),Option.bind_some,if_neg (by simp)]
        rw [if_neg (fun h=>h1 h.1)] at nx
        exact hr _ (by rw [nx,Int.add_zero])
    · subst hx
      simp only [zcO,Bool.false_eq_true,if_false,zab,List.take_length]
  rw [key.eq,Option.bind_some]
theorem waitN_bd (l:List zae) (q:Int):0≤waitN l q∧waitN l q≤l.length:=cnt_bd01 (fun x=>by split <;> omega) l
theorem spec_right_t {s:zac} (hs:FewS s) (k:SpecOk s):zbU 1000 s=some true:=by
  obtain ⟨r,e,h⟩:=spec_right s hs
  rw [e,h.2 k]
theorem queue_at {s:zac} {q:Int} (h:0≤q∧q<s.Queues.length):∃h':q.toNat<s.Queues.length,at? s.Queues q=some (s.Queues[q.toNat]'h'):=at_int h.1 h.2
theorem room_ok {s:zac} (hs:FewS s) (k:SpecOk s) {l:List zae} (hl:l.length≤300) {q m:Int} (hm:0≤m∧m≤256) :
    za7 (quota_Room 1000 s l q m) (∃h:0≤q∧q.toNat<s.Queues.length,waitN l q+m≤(s.Queues[q.toNat]'h.2).MaxJobs):=by
  have b:=waitN_bd l q
  unfold quota_Room quota_known
  by_cases hq:0≤q∧q<s.Queues.length
  · obtain ⟨h',e⟩:=queue_at hq
    rw [if_pos (by simp; omega),spec_right_t hs k,Option.bind_some,Option.bind_some,if_neg (by simp; omega),waiting_count hl,Option.bind_some,e,Option.bind_some,wr (by omega) (by omega),za7,zab,decide_eq_true_eq]
    exact ⟨fun h=>⟨⟨hq.1,h'⟩,h⟩,fun ⟨_,h⟩=>h⟩
  · rw [if_neg (by simp; omega),Option.bind_some,if_pos (by simp)]
    exact no_f fun ⟨h,_⟩=>hq (by omega)
theorem allowed_ret {s:zac} (hs:FewS s) (k:SpecOk s) (q u:Int):∃b,spec_Allowed 1000 s q u=some b:=by
  unfold spec_Allowed
  rw [spec_right_t hs k,Option.bind_some]
  split
  · exact ⟨_,rfl⟩
  · rename_i h
    simp only [Bool.or_eq_true,decide_eq_true_eq,not_or,Bool.not_true,Bool.false_eq_true] at h
    obtain ⟨h',e⟩:=queue_at (s:=s) (q:=q) (by omega)
    rw [e,Option.bind_some]
    split
    · exact ⟨_,rfl⟩
    · have hu:=hs.queue _ (List.getElem_mem h')
      obtain ⟨b,e,_⟩:=contains_ok _ (Nat.le_trans hu (by decide)) u
      rw [e]
      exact ⟨_,rfl⟩
end Go.Plain
end
section
namespace Go.Plain
open Go.Abs
theorem chk {o g:Option Int} {P Q:Int→Prop} (h:Ret o P) (hq:∀e,e≠0→Q e) (h2:P 0→Ret g Q):Ret (o.bind fun x=>if (x != 0)=true then some x else g) Q:=by
  refine h.bind fun r hr=>?_
  rw [zad]
  refine ⟨fun hx=>zab.2 (hq r (by simpa using hx)),fun hx=>?_⟩
  have e:r=0:=by simpa using hx
  subst e
  exact h2 hr
theorem sender_ret (a b c:Int):Ret (zaI 1000 a b c) fun _=>True:=by
  unfold zaI
  split <;> exact ⟨_,rfl,trivial⟩
theorem queue_ret {s:zac} (hs:FewS s) (k:SpecOk s) (u q:Int):Ret (zbb 1000 s.Nodes s.Parts s.Queues s.Users s.Weights.Age s.Weights.Size s.Weights.Qos s.Weights.Share s.Decay s.Mode s.Jobs s.Ids s.Versions s.Linger s.Keep s.In s.Out s.Cache u q) fun _=>True:=by
  obtain ⟨b,e⟩:=allowed_ret hs k q u
  show Ret (if ((decide (q<0)) || (decide (q≥(s.Queues.length:Int))))=true then some 30 else (spec_Allowed 1000 s q u).bind fun r1=>if (!r1)=true then some 33 else some 0) _
  rw [e,Option.bind_some]
  split
  · exact ⟨_,rfl,trivial⟩
  · split <;> exact ⟨_,rfl,trivial⟩
theorem demand_ret (rq:zal):Ret (submit_Demand 1000 rq) fun e=>e=0→(1≤rq.Many∧rq.Many≤64)∧VecOk rq.Need∧rq.Need≠zeroR:=by
  unfold submit_Demand
  dsimp only [zbq]
  rw [zad]
  refine ⟨fun _=>by rw [if_pos rfl,zab]; simp,fun hm=>?_⟩
  simp only [Bool.or_eq_true,decide_eq_true_eq,not_or] at hm
  refine (zdj rq.Need).bind fun r hr=>?_
  rw [zad]
  refine ⟨fun _=>by rw [zab]; simp,fun hn=>?_⟩
  simp only [Bool.or_eq_true,Bool.not_eq_true',not_or,Bool.not_eq_false,Bool.not_eq_true] at hn
  obtain ⟨h1,h2⟩:=hn
  have hv:=hr.1 h1
  have hz:rq.Need≠zeroR:=fun e=>by
    have:=beq_res.2 e
    rw [show (zaa.beq rq.Need { Cpu:=0,Mem:=0,Gpu:=0,Lic:=0 })=true from this] at h2
    cases h2
  rw [zad]
  refine ⟨fun _=>by rw [zab]; simp,fun _=>?_⟩
  refine (times_ok hv (n:=rq.Many) (by omega)).bind fun r _=>?_
  rw [zab]
  exact fun _=>⟨by omega,hv,hz⟩
theorem size_ret (n:Int) (l:List zcS):Ret (zaZ 1000 n l) fun e=>e=0→1≤n∧n≤16:=by
  unfold zaZ
  rw [zad]
  refine ⟨fun _=>by rw [zab]; simp,fun h=>?_⟩
  simp only [Bool.or_eq_true,decide_eq_true_eq,not_or] at h
  rw [zab]
  exact fun _=>by omega
theorem after_ret {l:List zae} (hl:l.length≤300) {a:List zcS} (ha:a.length≤20):Ret (zaT 1000 l a) fun _=>True:=by
  unfold zaT
  refine lpS a.length (fun i x=>x=(i:Int)) (fun i x f hi hx hr=>?_) (fun x f hx=>?_) rfl (by omega)
  · subst hx
    simp only [zcQ hi,if_true,zao hi,Option.bind_some]
    refine lpS l.length (fun i x=>x.2=(i:Int)) (fun j x g hj hx hr2=>?_) (fun x g hx=>?_) rfl (by omega)
    · rw [hx]
      simp only [zcQ hj,if_true,zao hj,Option.bind_some]
      exact hr2 _ (wr1 (by omega))
    · rw [hx]
      simp only [zcO,Bool.false_eq_true,if_false]
      rw [zad]
      exact ⟨fun _=>⟨_,rfl,trivial⟩,fun _=>hr _ (wr1 (by omega))⟩
  · subst hx
    simp only [zcO,Bool.false_eq_true,if_false]
    exact ⟨_,rfl,trivial⟩
theorem room_ret {s:zac} (hs:FewS s) (k:SpecOk s) {l:List zae} (hl:l.length≤300) {q m n:Int} {r:zaa} (hn:VecOk r) (hz:r≠zeroR) (hm:0≤n∧n≤256) :
    Ret (zbm 1000 s.Nodes s.Parts s.Queues s.Users s.Weights.Age s.Weights.Size s.Weights.Qos s.Weights.Share s.Decay s.Mode s.Jobs s.Ids s.Versions s.Linger s.Keep s.In s.Out s.Cache l q m r.Cpu r.Mem r.Gpu r.Lic n) fun _=>True:=by
  obtain ⟨b,e,_⟩:=fits_eq hs k (q:=q) (m:=m) hn hz
  show Ret ((spec_Fits 1000 s q m r).bind fun r1=>if (!r1)=true then some 37 else (quota_Room 1000 s l q n).bind fun r2=>if (!r2)=true then some 34 else some 0) _
  rw [e,Option.bind_some]
  split
  · exact ⟨_,rfl,trivial⟩
  · refine (room_ok hs k hl hm).bind fun r _=>?_
    split <;> exact ⟨_,rfl,trivial⟩
structure SubIn (s:zac) (st:zaf) (rq:zal):Prop where
  tasks:1≤rq.Tasks∧rq.Tasks≤16
  room:(st.Jobs.length:Int)+rq.Tasks≤s.Jobs
  ids:st.Next+rq.Tasks-1≤s.Ids
abbrev subCheck (s:zac) (st:zaf) (u:Int) (rq:zal):Option Int:=
  zcz 1000 st.Stamps.Queues st.Jobs (st.Allocs.map fun a=>(a.Job,a)) u rq s.Nodes s.Parts s.Queues s.Users s.Weights.Age s.Weights.Size s.Weights.Qos s.Weights.Share s.Decay s.Mode s.Jobs s.Ids s.Versions s.Linger s.Keep s.In s.Out s.Cache st.Now st.Next st.Book st.Books st.Use st.Stamps.Nodes
abbrev subDo (s:zac) (st:zaf) (u:Int) (rq:zal):=
  submit_Do_oca03 1000 st.Stamps.Queues st.Jobs (st.Allocs.map fun a=>(a.Job,a)) u rq s.Nodes s.Parts s.Queues s.Users s.Weights.Age s.Weights.Size s.Weights.Qos s.Weights.Share s.Decay s.Mode s.Jobs s.Ids s.Versions s.Linger s.Keep s.In s.Out s.Cache st.Now st.Next st.Book st.Books st.Use st.Stamps.Nodes s.Jobs
theorem check_submit {s:zac} {st:zaf} (hs:FewS s) (k:SpecOk s) (h:Shows st) (nx:1≤st.Next∧st.Next≤s.Ids+1) (u:Int) (rq:zal) (ha:rq.After.length≤20) :
    Ret (subCheck s st u rq) fun e=>e=0→SubIn s st rq:=by
  have hl:=h.jobs
  have ki:=k.ids
  unfold subCheck zcz
  rw [spec_shown hs,Option.bind_some,shown_of h,Option.bind_some]
  have bad:∀e:Int,e≠0→(e=0→SubIn s st rq):=fun e he h0=>absurd h0 he
  refine chk (sender_ret _ _ _) bad fun _=>chk (queue_ret hs k _ _) bad fun _=>?_
  refine chk (P:=fun e=>e=0→(1≤rq.Many∧rq.Many≤64)∧VecOk rq.Need∧rq.Need≠zeroR) ?_ bad fun hd=>?_
  · show Ret ((submit_Demand 1000 rq).bind fun r1=>some r1) _
    refine (demand_ret rq).bind fun r hr=>?_
    rw [zab]
    exact hr
  · obtain ⟨_,hv,hz⟩:=hd rfl
    refine chk (size_ret _ _) bad fun hsz=>?_
    have hsz:=hsz rfl
    refine chk (after_ret hl ha) bad fun _=>chk (room_ret hs k hl hv hz (by omega)) bad fun _=>?_
    refine chk (P:=fun e=>e=0→SubIn s st rq) ?_ bad fun hc=>?_
    · unfold zaU
      rw [wr (x:=(st.Jobs.length:Int)+rq.Tasks) (by omega) (by omega),wr (x:=st.Next+rq.Tasks) (by omega) (by omega),wr (x:=st.Next+rq.Tasks-1) (by omega) (by omega)]
      rw [zad]
      refine ⟨fun _=>by rw [zab]; simp,fun h1=>?_⟩
      rw [zad]
      refine ⟨fun _=>by rw [zab]; simp,fun h2=>?_⟩
      simp only [decide_eq_true_eq] at h1 h2
      rw [zab]
      exact fun _=>⟨hsz,by omega,by omega⟩
    · rw [zab]
      exact hc
theorem put_end {l:List zae} {j:zae} (hl:l.length≤299) (hs:SortedJ l) (hlt:∀x∈l,x.Id<j.Id) {m:Int} (hm:(l.length:Int)<m) (hj:JobOk j):zaO 1000 l j m=some (l++[j],0):=by
  have ha:=hj.afterN
  unfold zaO
  rw [job_right_t hj,Option.bind_some,if_neg (by simp),find_end (by omega) hs hlt,Option.bind_some]
  rw [if_neg (by simp),if_neg (by simp; omega),own_job (by omega),Option.bind_some]
  unfold zaz
  have sl:slice? l (l.length:Int) (l.length:Int)=some []:=by
    unfold slice?
    rw [if_pos ⟨by omega,by omega,by omega⟩]
    simp
  rw [sl,Option.bind_some,if_neg (by simp),if_pos (by simp),app_ok (by simp; omega),Option.bind_some,Option.bind_some]
theorem sorted_app {l:List zae} {j:zae} (hs:SortedJ l) (hlt:∀x∈l,x.Id<j.Id):SortedJ (l++[j]):=fun i hi=>by
  rw [List.length_append] at hi
  simp only [List.length_cons,List.length_nil,Nat.zero_add] at hi
  rcases Nat.lt_or_ge (i+1) l.length with h | h
  · rw [List.getElem_append_left (by omega),List.getElem_append_left h]
    exact hs i h
  · have e:i+1=l.length:=by omega
    rw [List.getElem_append_left (by omega),List.getElem_append_right h]
    simp only [e,Nat.sub_self,List.getElem_cons_zero]
    exact hlt _ (List.getElem_mem _)
structure NewJ (st:zaf) (u:Int) (rq:zal) (m:Nat) (j:zae):Prop where
  ok:JobOk j
  id:j.Id=st.Next+m
  state:j.State=1
  user:j.User=u
  need:j.Need=rq.Need
  version:j.Version=1
theorem store_put {l:List zae} {j:zae} {Q:List Int} {ids next m:Int} (hl:l.length≤299) (hs:SortedJ l) (hlt:∀x∈l,x.Id<j.Id) (hm:(l.length:Int)<m) (hj:JobOk j) (h1:j.State=1) (h2:j.Id=next) (h3:j.Version=1) (h4:next≤ids) (hQ:StampsIn Q) :
    zaP 1000 Q l j ids next m=some (l++[j],stampL Q j.Queue,0,next+1):=by
  have hi:=hj.id
  unfold zaP
  rw [job_right_t hj,Option.bind_some,if_neg (by simp [h1,h2,h3]),if_neg (by simp; omega),put_end hl hs hlt hm hj,Option.bind_some]
  dsimp only
  rw [if_neg (by simp),stamp_ok hQ,Option.bind_some,wr (by omega) (by omega)]
def rqJ (st:zaf) (u:Int) (rq:zal) (m:Nat) (a:Int):zae:={ Id:=st.Next+m,User:=u,Queue:=rq.Queue,Many:=rq.Many,Need:=rq.Need,Wall:=rq.Wall,After:=rq.After,State:=1,Ok:=false,Kill:=false,Version:=1,Born:=st.Now,Start:=0,End:=0,Array:=a }
theorem job_new (st:zaf) (u:Int) (rq:zal) (m:Nat) (ha:rq.After.length≤20):Ret (job_New 1000 (st.Next+m) u st.Now rq) fun r=>r.2≠0∨(JobOk (rqJ st u rq m 0)∧r=(rqJ st u rq m 0,0)):=by
  unfold job_New
  refine (job_right (rqJ st u rq m 0)).bind fun r hr=>?_
  rw [zad]
  refine ⟨fun _=>by rw [zab]; exact .inl (by simp),fun h=>?_⟩
  have hj:=hr.1 (by simpa using h)
  rw [show zaD 1000 rq.After=some rq.After from zdE (by omega),Option.bind_some,zab]
  exact .inr ⟨hj,rfl⟩
theorem rqJ_arr {st:zaf} {u:Int} {rq:zal} {m:Nat} {a:Int} (h:JobOk (rqJ st u rq m 0)) (ha:0≤a∧a≤st.Next+m):JobOk (rqJ st u rq m a):=
  ⟨h.id,h.user,h.queue,h.many,h.need,h.needz,h.wall,h.afterN,h.after,h.version,h.born,h.start,h.fin,ha,⟨h.state.st,h.state.start,h.state.fin,h.state.ok,h.state.kill⟩⟩
theorem do_submit {s:zac} {st:zaf} (hs:FewS s) (k:SpecOk s) (h:Shows st) (hso:SortedJ st.Jobs) (hst:StampsIn st.Stamps.Queues) (nx:1≤st.Next∧st.Next≤s.Ids+1) (hid:∀j∈st.Jobs,j.Id<st.Next) (u:Int) (rq:zal) (ha:rq.After.length≤20) :
    Ret (subDo s st u rq) fun r=>(r.2.2.1.Err≠0∧r=(st.Stamps.Queues,st.Jobs,r.2.2.1,st.Next)) ∨
      (∃L Q,SubIn s st rq∧(L.length:Int)=rq.Tasks∧(∀m (hm:m<L.length),NewJ st u rq m L[m])∧Q.length=st.Stamps.Queues.length ∧
        r=(Q,st.Jobs++L,{ Key:=rq.Key,Err:=0,Job:=st.Next,Version:=1,Nums:=[rq.Tasks] },st.Next+rq.Tasks)):=by
  have hl:=h.jobs
  have ki:=k.ids
  have kj:=k.jobs
  unfold subDo submit_Do_oca03
  refine (check_submit hs k h nx u rq ha).bind fun e he=>?_
  rw [zad]
  refine ⟨fun hx=>?_,fun hx=>?_⟩
  · show Ret (some _) _
    rw [zab]
    exact .inl ⟨by simpa using hx,rfl⟩
  · have I:=he (by simpa using hx)
    have it:=I.tasks; have ir:=I.room; have ii:=I.ids
    rw [shown_of h,Option.bind_some]
    unfold mk0?
    rw [if_pos (by omega),Option.bind_some]
    obtain ⟨T,hT⟩:∃T:Nat,rq.Tasks=(T:Int):=⟨rq.Tasks.toNat,by omega⟩
    refine lpS T (fun i x=>x.1=(i:Int)∧x.2.length=i∧∀m (hm:m<x.2.length),NewJ st u rq m x.2[m]) (fun i x f hi hx2 hr=>?_) (fun x f hx2=>?_) ⟨rfl,rfl,fun m hm=>by simp at hm⟩ (by omega)
    · obtain ⟨i',L⟩:=x
      obtain ⟨rfl,h2,h3⟩:=hx2
      dsimp only at h2 h3 ⊢
      rw [show decide ((i:Int)<rq.Tasks)=true from by rw [hT]; exact zcQ hi,if_pos rfl]
      rw [wr (x:=st.Next+(i:Int)) (by omega) (by omega)]
      refine (job_new st u rq i ha).bind fun r hj=>?_
      rw [zad]
      refine ⟨fun hb=>?_,fun hb=>?_⟩
      · show Ret (some _) _
        rw [zab]
        exact .inl ⟨by simpa using hb,rfl⟩
      · rcases hj with hj | ⟨hj,rfl⟩
        · simp at hb; exact absurd hb hj
        · dsimp only [zbq]
          have go:∀a:Int,0≤a∧a≤st.Next+i→Ret ((app? L [rqJ st u rq i a]).bind fun z=>f (IntKind.i64.wrap ((i:Int)+1),z)) fun r=>(r.2.2.1.Err≠0∧r=(st.Stamps.Queues,st.Jobs,r.2.2.1,st.Next)) ∨
              (∃L Q,SubIn s st rq∧(L.length:Int)=rq.Tasks∧(∀m (hm:m<L.length),NewJ st u rq m L[m])∧Q.length=st.Stamps.Queues.length ∧
                r=(Q,st.Jobs++L,{ Key:=rq.Key,Err:=0,Job:=st.Next,Version:=1,Nums:=[rq.Tasks] },st.Next+rq.Tasks)):=fun a haa=>by
            rw [app_ok (by simp; omega),Option.bind_some,wr1 (by omega)]
            refine hr (((i+1:Nat):Int),L++[rqJ st u rq i a]) ⟨rfl,by simp [h2],fun m hm=>?_⟩
            dsimp only at hm ⊢
            rw [List.length_append] at hm
            simp only [List.length_cons,List.length_nil] at hm
            rcases Nat.lt_or_ge m L.length with q | q
            · rw [List.getElem_append_left q]; exact h3 m q
            · have:m=i:=by omega
              subst this
              rw [List.getElem_append_right q]
              simp only [h2,Nat.sub_self,List.getElem_cons_zero]
              exact ⟨rqJ_arr hj haa,rfl,rfl,rfl,rfl,rfl⟩
          split
          · exact go st.Next ⟨by omega,by omega⟩
          · exact go 0 ⟨by omega,by omega⟩
    · obtain ⟨i',L⟩:=x
      obtain ⟨rfl,h2,h3⟩:=hx2
      dsimp only at h2 h3 ⊢
      rw [show decide ((T:Int)<rq.Tasks)=false from by rw [hT]; exact zcO,if_neg (by simp)]
      refine lpS T (fun i x=>x.1=(i:Int)∧x.2.1=st.Next+i∧StampsIn x.2.2.1∧x.2.2.1.length=st.Stamps.Queues.length∧x.2.2.2=st.Jobs++L.take i∧SortedJ x.2.2.2∧∀j∈x.2.2.2,j.Id<st.Next+i) (fun i x f hi hx2 hr=>?_) (fun x f hx2=>?_) ⟨rfl,by simp,hst,rfl,by simp,hso,by simpa using hid⟩ (by omega)
      · obtain ⟨i',n',Q',J⟩:=x
        obtain ⟨rfl,rfl,g3,g4,g5,g6,g7⟩:=hx2
        dsimp only at g3 g4 g5 g6 g7 ⊢
        have hiL:i<L.length:=by omega
        rw [h2]
        simp only [zcQ hi,if_true,zao hiL,Option.bind_some]
        have nj:=h3 i hiL
        have hJl:J.length=st.Jobs.length+i:=by rw [g5,List.length_append,List.length_take]; omega
        rw [store_put (by omega) g6 (fun x hx=>by rw [nj.id]; exact g7 x hx) (by omega) nj.ok nj.state nj.id nj.version (by omega) g3,Option.bind_some]
        dsimp only
        rw [if_neg (by simp),wr1 (by omega)]
        refine hr _ ⟨rfl,by dsimp only; omega,stampL_in g3 _,by dsimp only; rw [stampL_len,g4],?_,sorted_app g6 (fun x hx=>by rw [nj.id]; exact g7 x hx),fun j hj=>?_⟩
        · dsimp only
          rw [g5,List.append_assoc,List.take_succ_eq_append_getElem hiL]
        · dsimp only at hj
          rcases List.mem_append.1 hj with q | q
          · have:=g7 j q; omega
          · simp only [List.mem_cons,List.not_mem_nil,or_false] at q
            subst q
            have:=nj.id
            omega
      · obtain ⟨i',n',Q',J⟩:=x
        obtain ⟨rfl,rfl,g3,g4,g5,g6,g7⟩:=hx2
        dsimp only at g3 g4 g5 g6 g7 ⊢
        rw [h2]
        simp only [zcO,Bool.false_eq_true,if_false,zab]
        refine .inr ⟨L,Q',I,by omega,h3,g4,?_⟩
        rw [g5,List.take_of_length_le (by omega),←hT]
end Go.Plain
end
section
namespace Go.Plain
open Go.Abs
theorem awake24xok:drayagelaw24xawake 1000=some true:=by kernel_rfl
theorem few24 (c:api_Call):Ret (zdt 1000 [c]) fun r=>r=true→c.Request.After.length≤20:=by
  unfold zdt
  rw [if_neg (by simp)]
  refine lpA [c] (fun _ x=>x.Request.After.length≤20) (fun i f hi _ hr=>?_) (fun f h=>?_) (by simp)
  · simp only [zcQ hi,if_true,zao hi,Option.bind_some]
    rw [zad]
    refine ⟨fun _=>by rw [zab]; simp,fun h=>?_⟩
    rw [wr1 (by simp at hi; omega)]
    refine hr ?_
    simp only [decide_eq_true_eq] at h
    exact Int.ofNat_le.mp (Int.not_lt.mp h)
  · simp only [zcO,Bool.false_eq_true,if_false]
    rw [zab]
    exact fun _=>h 0 (by simp)
theorem submitKeeps (w:zcI) (c:api_Call):zcd 1000 w c=some true:=by
  unfold zcd
  rw [awake24xok,Option.bind_some,if_neg (by simp)]
  dsimp only [zbq]
  obtain ⟨r,e,h⟩:=few23 w.S w.St
  rw [e,Option.bind_some]
  cases r with
  | false=>rfl
  | true =>
    have hw:=h rfl
    rw [if_neg (by simp)]
    obtain ⟨r2,e2,h2⟩:=few24 c
    rw [e2,Option.bind_some]
    cases r2 with
    | false=>rfl
    | true =>
      have ha:=h2 rfl
      rw [if_neg (by simp)]
      by_cases q:SoundOk w.S w.St
      · rw [law_of_ok hw q,Option.bind_some]
        have sh:=shows_of hw q
        have hs:=hw.spec
        have k:=q.spec
        generalize w.S=s at *
        generalize w.St=st at *
        have hl:=sh.jobs
        have ki:=k.ids; have kj:=k.jobs
        dsimp only
        rw [if_neg (by simp)]
        have nx:=q.nums.next
        obtain ⟨r1,e1,h1⟩:=do_submit hs k sh q.jobs.sorted q.use.stamps nx (fun j hj=>(q.jobs.each j hj).next) c.User c.Request ha
        change (subDo s st c.User c.Request).bind _=_
        rw [e1,Option.bind_some]
        rcases h1 with ⟨he,hr⟩ | ⟨L,Q,I,hL,hN,hQ,hr⟩
        · rw [hr]
          dsimp only
          rw [shown_of sh,Option.bind_some,if_pos (by simpa using he),same_shows sh,Option.bind_some]
        · subst hr
          dsimp only
          have it:=I.tasks; have ir:=I.room; have ii:=I.ids
          have sh2:Shows { st with Jobs:=st.Jobs++L,Next:=st.Next+c.Request.Tasks,Stamps:={ Queues:=Q,Nodes:=st.Stamps.Nodes } }:=by
            refine ⟨by simp; omega,fun j hj=>?_,sh.allocs,sh.asc,sh.ids,sh.sh,sh.books,sh.use,by simp [hQ]; exact sh.stamps⟩
            rcases List.mem_append.1 hj with p | p
            · exact sh.after j p
            · obtain ⟨m,hm,rfl⟩:=List.getElem_of_mem p
              have:=(hN m hm).ok.afterN
              omega
          rw [show zar 1000 Q (st.Jobs++L) (st.Allocs.map fun a=>(a.Job,a)) st.Now (st.Next+c.Request.Tasks) st.Book st.Books st.Use st.Stamps.Nodes=some _ from shown_of sh2,Option.bind_some,if_neg (by simp)]
          dsimp only
          rw [wr (x:=(st.Jobs.length:Int)+c.Request.Tasks) (by omega) (by omega),wr (x:=st.Next+c.Request.Tasks) (by omega) (by omega),if_neg (by simp [hL]; omega)]
          refine lpT (st.Jobs++L) (fun i f hi=>?_) (fun f=>?_) (by simp; omega)
          · simp only [zcQ hi,if_true,zao hi,Option.bind_some]
            by_cases hil:i<st.Jobs.length
            · rw [if_pos (by simpa using hil),zao hil,Option.bind_some,List.getElem_append_left hil,same_job _ (by have:=sh.after _ (List.getElem_mem hil); omega),Option.bind_some,if_neg (by simp),wr1 (by omega)]
            · have hm:i-st.Jobs.length<L.length:=by simp at hi; omega
              have nj:=hN _ hm
              rw [if_neg (by simp; omega),List.getElem_append_right (by omega)]
              rw [wr (x:=st.Next+(i:Int)) (by omega) (by omega),wr (x:=st.Next+(i:Int)-(st.Jobs.length:Int)) (by omega) (by omega)]
              rw [if_neg (by simp [nj.id]; omega),if_neg (by simp [nj.state]),if_neg (by simp [nj.user]),if_neg (by rw [nj.need]; simp [beq_res']),wr1 (by omega)]
          · simp only [zcO,Bool.false_eq_true,if_false]
      · rw [law_of_no hw q,Option.bind_some]
end Go.Plain
end
