/- TyPA, TyPB, TyPC, TyPD, TyR1, TyR2, TyR3 -/
import Derived.Test.YtimofblenjdkmaaGreatLawA
set_option linter.all false
section
namespace Go.Plain
open Go.Abs
def usedC (A:List zaf) (i:Int) (c:Nat):Int:=(A.map fun a=>onV a.Shares i * cmp c a.Need).sum
theorem usedC_cons {a:zaf} {A:List zaf} {i:Int} {c:Nat}:usedC (a::A) i c=onV a.Shares i * cmp c a.Need+usedC A i c:=by simp [usedC]
theorem usedC_take {A:List zaf} {k:Nat} (h:k<A.length) (i:Int) (c:Nat):usedC (A.take (k+1)) i c=usedC (A.take k) i c+onV A[k].Shares i * cmp c A[k].Need:=by
  rw [List.take_succ_eq_append_getElem h]
  simp only [usedC,List.map_append,List.map_cons,List.map_nil,List.sum_append,List.sum_cons,List.sum_nil]
  omega
def GoodA (n:Int) (A:List zaf):Prop:=∀a∈A,SharesOk a.Shares n∧VecOk a.Need
theorem one_bd {n:Int} {a:zaf} (h:SharesOk a.Shares n∧VecOk a.Need) (i:Int) (c:Nat):0≤onV a.Shares i * cmp c a.Need∧onV a.Shares i * cmp c a.Need≤67108864:=
  mul_bd (onV_one h.1 i) (vec_iff.1 h.2 c)
theorem used_bd {n:Int} {A:List zaf} (h:GoodA n A) (i:Int) (c:Nat):0≤usedC A i c∧usedC A i c≤67108864 * A.length:=by
  induction A with
  | nil=>simp [usedC]
  | cons a A ih =>
    have h1:=ih fun b hb=>h b (List.mem_cons_of_mem _ hb)
    have h2:=one_bd (h a (List.mem_cons_self ..)) i c
    rw [usedC_cons,List.length_cons]
    omega
def TotFit (F:List zaa) (A:List zaf):Prop:=∀i (h:i<F.length) c,usedC A i c≤cmp c F[i]
theorem ref_times {a:zaa} {n:Int} (ha:VecOk a) (hn:0≤n∧n≤64):zci 100 a n=some (mulR n a):=by
  obtain ⟨m,rfl⟩:∃m:Nat,n=(m:Int):=⟨n.toNat,by omega⟩
  unfold zci
  refine Ret.eq (lpS m (fun k x=>x=((k:Int),(k:Int) * a.Cpu,(k:Int) * a.Mem,(k:Int) * a.Gpu,(k:Int) * a.Lic)) (fun k x f hk hx hr=>?_) (fun x f hx=>?_) (by simp) (by omega))
  · subst hx
    have b1:=mul_bd (n:=((k+1:Nat):Int)) (by omega) ha.cpu
    have b2:=mul_bd (n:=((k+1:Nat):Int)) (by omega) ha.mem
    have b3:=mul_bd (n:=((k+1:Nat):Int)) (by omega) ha.gpu
    have b4:=mul_bd (n:=((k+1:Nat):Int)) (by omega) ha.lic
    have e:∀x:Int,((k+1:Nat):Int) * x=(k:Int) * x+x:=fun x=>by rw [Int.natCast_add,Int.add_mul]; simp
    rw [e] at b1 b2 b3 b4
    simp only [zcG hk,if_true,zbo,Option.bind_some,wr1 (show k<1000000 by omega)]
    refine hr _ ?_
    rw [wr (x:=(k:Int) * a.Cpu+a.Cpu) (by omega) (by omega),wr (x:=(k:Int) * a.Mem+a.Mem) (by omega) (by omega),wr (x:=(k:Int) * a.Gpu+a.Gpu) (by omega) (by omega),wr (x:=(k:Int) * a.Lic+a.Lic) (by omega) (by omega),e,e,e,e]
  · subst hx
    simp only [zcT,Bool.false_eq_true,if_false,zab]
    rfl
theorem fits_cmp (a b:zaa):zaU (zau 100 a b) (∀c,cmp c a≤cmp c b):=by
  simp only [zau,zaU,zab,Bool.and_eq_true,decide_eq_true_eq]
  constructor
  · intro h c
    match c with
    | 0=>exact h.1.1.1
    | 1=>exact h.1.1.2
    | 2=>exact h.1.2
    | _+3=>exact h.2
  · intro h
    exact ⟨⟨⟨h 0,h 1⟩,h 2⟩,h 3⟩
theorem ref_left {F:List zaa} {A:List zaf} (hF:F.length≤40) (hA:A.length≤40) (hs:∀a∈A,a.Shares.length≤40) {n:Int} (h:GoodA n A):Ret (zcR 100 F A) fun r=>r.2=true↔TotFit F A:=by
  unfold zcR
  refine lpS F.length (fun i x=>(x.1=true↔∀m (h:m<F.length),m<i→∀c,usedC A m c≤cmp c F[m])∧x.2.1=(i:Int)∧x.2.2.length=i) (fun i x f hi hx hr=>?_) (fun x f hx=>?_) ⟨⟨fun _ m h h'=>by omega,fun _=>rfl⟩,rfl,rfl⟩ (by omega)
  · obtain ⟨x1,x2,x3⟩:=x
    obtain ⟨h1,h2,h3⟩:=hx
    dsimp only at h1 h2 h3
    subst h2
    simp only [zcG hi,if_true]
    refine lpS A.length (fun k y=>y=((k:Int),usedC (A.take k) i 0,usedC (A.take k) i 1,usedC (A.take k) i 2,usedC (A.take k) i 3)) (fun k y g hk hy hg=>?_) (fun y g hy=>?_) (by simp [usedC]) (by omega)
    · subst hy
      have ak:=h _ (List.getElem_mem hk)
      have gk:GoodA n (A.take (k+1)):=fun a ha=>h a (List.mem_of_mem_take ha)
      have lk:((A.take (k+1)).length:Int)≤40:=by rw [List.length_take]; omega
      have b0:=used_bd gk i 0; have b1:=used_bd gk i 1; have b2:=used_bd gk i 2; have b3:=used_bd gk i 3
      rw [usedC_take hk] at b0 b1 b2 b3
      simp only [zcG hk,if_true,zam hk,Option.bind_some,ref_on (hs _ (List.getElem_mem hk)) ak.1,ref_times ak.2 (onV_one ak.1 i),zbo,wr1 (show k<1000000 by omega)]
      refine hg _ ?_
      rw [usedC_take hk,usedC_take hk,usedC_take hk,usedC_take hk]
      have e0:(mulR (onV A[k].Shares i) A[k].Need).Cpu=onV A[k].Shares i * cmp 0 A[k].Need:=rfl
      have e1:(mulR (onV A[k].Shares i) A[k].Need).Mem=onV A[k].Shares i * cmp 1 A[k].Need:=rfl
      have e2:(mulR (onV A[k].Shares i) A[k].Need).Gpu=onV A[k].Shares i * cmp 2 A[k].Need:=rfl
      have e3:(mulR (onV A[k].Shares i) A[k].Need).Lic=onV A[k].Shares i * cmp 3 A[k].Need:=rfl
      rw [e0,e1,e2,e3,wr (x:=_+onV A[k].Shares i * cmp 0 A[k].Need) (by omega) (by omega),wr (x:=_+onV A[k].Shares i * cmp 1 A[k].Need) (by omega) (by omega),wr (x:=_+onV A[k].Shares i * cmp 2 A[k].Need) (by omega) (by omega),wr (x:=_+onV A[k].Shares i * cmp 3 A[k].Need) (by omega) (by omega)]
    · subst hy
      have ap:∀z:zaa,app? x3 [z]=some (x3++[z]):=fun z=>app_ok (by simp only [List.length_singleton]; omega)
      simp only [zcT,Bool.false_eq_true,if_false,zaW,zam hi,Option.bind_some,drayageref02xSub,ap,wr1 (show i<1000000 by omega),List.take_length]
      rw [zae]
      refine ⟨fun hx1=>?_,fun hx1=>?_⟩
      · refine (fits_cmp _ _).bind fun r hr1=>?_
        refine hr _ ⟨?_,rfl,by simp only [List.length_append,List.length_singleton]; omega⟩
        dsimp only
        rw [hr1]
        have ec:∀c,cmp c ({ Cpu:=usedC A i 0,Mem:=usedC A i 1,Gpu:=usedC A i 2,Lic:=usedC A i 3 }:zaa)=usedC A i (min c 3):=fun c=>by
          match c with
          | 0=>rfl
          | 1=>rfl
          | 2=>rfl
          | c+3=>rw [Nat.min_eq_right (by omega)]; rfl
        have eu:∀c,usedC A i (min c 3)=usedC A i c:=fun c=>by
          match c with
          | 0=>rfl
          | 1=>rfl
          | 2=>rfl
          | c+3=>rw [Nat.min_eq_right (by omega)]; rfl
        constructor
        · intro hc m hm hmi c
          rcases Nat.lt_or_eq_of_le (Nat.lt_succ_iff.1 hmi) with h' | h'
          · exact h1.1 hx1 m hm h' c
          · subst h'
            have:=hc c
            rwa [ec,eu] at this
        · intro hc c
          rw [ec,eu]
          exact hc i hi (by omega) c
      · refine hr _ ⟨?_,rfl,by simp only [List.length_append,List.length_singleton]; omega⟩
        dsimp only
        simp only [Bool.false_eq_true,false_iff]
        intro hc
        exact hx1 (h1.2 fun m hm hmi=>hc m hm (by omega))
  · obtain ⟨x1,x2,x3⟩:=x
    obtain ⟨h1,h2,h3⟩:=hx
    dsimp only at h1 h2 h3
    subst h2
    simp only [zcT,Bool.false_eq_true,if_false,zab]
    rw [h1]
    exact ⟨fun q i hi c=>q i hi hi c,fun q i hi _ c=>q i hi c⟩
structure AllocIn (s:zad) (st:zag) (i:Nat) (a:zaf):Prop where
  up:∀m (h:m<st.Allocs.length),m+1=i→st.Allocs[m].Job<a.Job
  job:∃j∈st.Jobs,j.Id=a.Job
  shares:SharesOk a.Shares s.Nodes.length
  need:VecOk a.Need
structure zcb (s:zad) (st:zag):Prop where
  each:∀i (h:i<st.Allocs.length),AllocIn s st i st.Allocs[i]
  fit:TotFit s.Nodes st.Allocs
theorem zcb.good {s:zad} {st:zag} (h:zcb s st):GoodA s.Nodes.length st.Allocs:=fun a ha=>by
  obtain ⟨i,hi,rfl⟩:=List.getElem_of_mem ha
  exact ⟨(h.each i hi).shares,(h.each i hi).need⟩
theorem ref_allocs {s:zad} {st:zag} (hw:FewW s st):zaU (zb8 100 s st) (zcb s st):=by
  have hl:=hw.jobs; have hal:=hw.allocs; have hn:=hw.spec.nodes
  unfold zb8
  refine lpA st.Allocs (fun i a=>AllocIn s st i a) (fun i f hi hA hr=>?_) (fun f hA=>?_) (by omega)
  · have hd:decide ((i:Int) > 0)=decide (0<i):=by simp
    have hsh:=hw.shares _ (List.getElem_mem hi)
    have fin:(∀m (h:m<st.Allocs.length),m+1=i→st.Allocs[m].Job<st.Allocs[i].Job)→Ret ((zaR 100 st.Jobs st.Allocs[i].Job).bind fun r=>
        if decide (r<0)=true then some false else (za2 100 st.Allocs[i].Shares (s.Nodes.length:Int)).bind fun r'=>
        if (!r')=true then some false else (zay 100 st.Allocs[i].Need).bind fun r''=>if (!r'')=true then some false else f ((i+1:Nat):Int)) (fun b=>b=true↔zcb s st):=fun hup=>by
      refine (ref_find (by omega) st.Allocs[i].Job).bind fun r hr1=>?_
      rw [zae]
      refine ⟨fun h=>no_f fun q=>?_,fun h=>?_⟩
      · have:=hr1.1.2 (q.each i hi).job
        simp only [decide_eq_true_eq] at h
        omega
      · simp only [decide_eq_true_eq] at h
        refine (ref_place _ _ hsh).bind fun r' hr2=>?_
        rw [zae]
        refine ⟨fun h=>no_f fun q=>?_,fun h2=>?_⟩
        · have:=hr2.2 (q.each i hi).shares
          rw [this] at h
          simp at h
        · simp only [Bool.not_eq_true',Bool.not_eq_false] at h2
          refine (ref_vec _).bind fun r'' hr3=>?_
          rw [zae]
          refine ⟨fun h=>no_f fun q=>?_,fun h3=>?_⟩
          · have:=hr3.2 (q.each i hi).need
            rw [this] at h
            simp at h
          · simp only [Bool.not_eq_true',Bool.not_eq_false] at h3
            exact hr ⟨hup,hr1.1.1 (by omega),hr2.1 h2,hr3.1 h3⟩
    simp only [zaW,zcG hi,if_true,zam hi,Option.bind_some,wr1 (show i<1000000 by omega),hd]
    rw [zae]
    refine ⟨fun h=>?_,fun h=>?_⟩
    · simp only [decide_eq_true_eq] at h
      obtain ⟨m,rfl⟩:∃m,i=m+1:=⟨i-1,by omega⟩
      rw [wp1 (show m+1<1000000 by omega),zam (show m<st.Allocs.length by omega),Option.bind_some,zae]
      refine ⟨fun h2=>no_f fun q=>?_,fun h2=>fin fun m' hm' e=>?_⟩
      · have:=(q.each (m+1) hi).up m (by omega) rfl
        simp only [decide_eq_true_eq] at h2
        omega
      · simp only [decide_eq_true_eq] at h2
        have:m'=m:=by omega
        subst this
        omega
    · simp only [decide_eq_true_eq] at h
      exact fin fun m hm e=>by omega
  · simp only [zcT,Bool.false_eq_true,if_false]
    have G:GoodA s.Nodes.length st.Allocs:=fun a ha=>by
      obtain ⟨j,hj,rfl⟩:=List.getElem_of_mem ha
      exact ⟨(hA j hj).shares,(hA j hj).need⟩
    refine (ref_left (by omega) hal hw.shares G).bind fun r hr=>?_
    rw [zab,hr]
    exact ⟨fun h=>⟨fun i hi=>hA i hi,h⟩,fun h=>h.fit⟩
theorem asc_pw {l:List Int} (h:∀i (h:i+1<l.length),l[i]<l[i+1]):l.Pairwise (·<·):=by
  rw [List.pairwise_iff_getElem]
  intro i j hi hj hij
  induction j with
  | zero=>omega
  | succ j ih =>
    have h1:=h j hj
    rcases Nat.lt_or_eq_of_le (Nat.lt_succ_iff.1 hij) with h2 | h2
    · have:=ih (by omega) h2; omega
    · subst h2; exact h1
theorem asc_eq {l m:List Int} (hl:l.Pairwise (·<·)) (hm:m.Pairwise (·<·)) (h:∀x,x∈l↔x∈m):l=m:=by
  induction l generalizing m with
  | nil =>
    cases m with
    | nil=>rfl
    | cons y m=>exact absurd ((h y).2 (List.mem_cons_self ..)) (by simp)
  | cons x l ih =>
    cases m with
    | nil=>exact absurd ((h x).1 (List.mem_cons_self ..)) (by simp)
    | cons y m =>
      rw [List.pairwise_cons] at hl hm
      have e:x=y:=by
        rcases List.mem_cons.1 ((h x).1 (List.mem_cons_self ..)) with e | h1
        · exact e
        · rcases List.mem_cons.1 ((h y).2 (List.mem_cons_self ..)) with e | h2
          · exact e.symm
          · have:=hl.1 y h2; have:=hm.1 x h1; omega
      subst e
      congr 1
      refine ih hl.2 hm.2 fun z=>⟨fun hz=>?_,fun hz=>?_⟩
      · rcases List.mem_cons.1 ((h z).1 (List.mem_cons_of_mem _ hz)) with e | h1
        · have:=hl.1 z hz; omega
        · exact h1
      · rcases List.mem_cons.1 ((h z).2 (List.mem_cons_of_mem _ hz)) with e | h1
        · have:=hm.1 z hz; omega
        · exact h1
theorem allocsH_fwd {s:zad} {st:zag} {H:List zah} {A:List zaf} {F:List zaa} (h:AllocsH s st H A F) (hF:∀r∈F,VecOk r):A.map (·.Job)=H.map (·.Id)∧TotFit F A:=by
  induction H generalizing A F with
  | nil =>
    rw [show A=[] from h]
    exact ⟨rfl,fun i hi c=>by simp only [usedC,List.map_nil,List.sum_nil]; exact (vec_iff.1 (hF _ (List.getElem_mem hi)) c).1⟩
  | cons j H ih =>
    obtain ⟨a,A',rfl,h1,h2,h3⟩:=h
    obtain ⟨i1,i2⟩:=ih h3 (takeA_ok h2)
    refine ⟨by rw [List.map_cons,List.map_cons,i1,h1.job],fun i hi c=>?_⟩
    have:=i2 i (by rw [takeA_len]; exact hi) c
    rw [takeA_at,leftA,cmp_sub,cmp_mul] at this
    rw [usedC_cons]
    omega
theorem allocsH_bwd {s:zad} {st:zag} {n:Int} {H:List zah} {A:List zaf} {F:List zaa} (he:A.map (·.Job)=H.map (·.Id)) (hF:∀r∈F,VecOk r) (hp:∀a∈A,∀j∈H,a.Job=j.Id→PairOk s st j a) (hg:GoodA n A) (hf:TotFit F A):AllocsH s st H A F:=by
  induction H generalizing A F with
  | nil =>
    cases A with
    | nil=>rfl
    | cons a A=>cases he
  | cons j H ih =>
    cases A with
    | nil=>cases he
    | cons a A =>
      rw [List.map_cons,List.map_cons] at he
      have he1:a.Job=j.Id:=by injection he
      have he2:A.map (·.Job)=H.map (·.Id):=by injection he
      have ga:=hg a (List.mem_cons_self ..)
      have gA:GoodA n A:=fun b hb=>hg b (List.mem_cons_of_mem _ hb)
      have fa:FitsA F a:=fun i hi=>vec_iff.2 fun c=>by
        have h1:=hf i hi c
        have h2:=one_bd ga i c
        have h3:=used_bd gA i c
        have h4:=vec_iff.1 (hF _ (List.getElem_mem hi)) c
        rw [usedC_cons] at h1
        rw [leftA,cmp_sub,cmp_mul]
        omega
      refine ⟨a,A,rfl,hp a (List.mem_cons_self ..) j (List.mem_cons_self ..) he1,fa,ih he2 (takeA_ok fa) (fun b hb k hk=>hp b (List.mem_cons_of_mem _ hb) k (List.mem_cons_of_mem _ hk)) gA fun i hi c=>?_⟩
      have h1:=hf i (by rwa [takeA_len] at hi) c
      rw [takeA_at,leftA,cmp_sub,cmp_mul]
      rw [usedC_cons] at h1
      omega
theorem jobs_pw {s:zad} {st:zag} (J:JobsOk s st):((st.Jobs.filter hasJ).map (·.Id)).Pairwise (·<·):=by
  have h:(st.Jobs.map (·.Id)).Pairwise (·<·):=asc_pw fun i hi=>by
    rw [List.getElem_map,List.getElem_map]
    exact J.sorted i (by simpa using hi)
  rw [List.pairwise_map] at h ⊢
  exact h.filter _
structure HasIn (s:zad) (st:zag) (j:zah):Prop where
  has:(∃a∈st.Allocs,a.Job=j.Id)↔hasJ j=true
  mine:∀a∈st.Allocs,a.Job=j.Id→PairOk s st j a
theorem to_ref {s:zad} {st:zag} (k:SpecOk s) (J:JobsOk s st) (A:AllocsOk s st):zcb s st∧∀j∈st.Jobs,HasIn s st j:=by
  obtain ⟨h1,h2⟩:=allocsH_fwd A k.nodes.ok
  have pw:=jobs_pw J
  rw [←h1] at pw
  have uniq:∀j∈st.Jobs,∀j'∈st.Jobs,j.Id=j'.Id→j=j':=fun j hj j' hj' e=>by
    obtain ⟨m,hm,rfl⟩:=List.getElem_of_mem hj
    obtain ⟨m',hm',rfl⟩:=List.getElem_of_mem hj'
    have:=J.sorted.inj hm hm' e
    subst this
    rfl
  refine ⟨⟨fun i hi=>?_,h2⟩,fun j hj=>⟨⟨fun ⟨a,ha,e⟩=>?_,fun hh=>?_⟩,fun a ha e=>?_⟩⟩
  · obtain ⟨j,hj,P⟩:=A.mem _ (List.getElem_mem hi)
    refine ⟨fun m hm e=>?_,⟨j,hj,P.job.symm⟩,P.suits.shares,by rw [P.need]; exact (J.each j hj).ok.need⟩
    have:=List.pairwise_iff_getElem.1 pw m i (by simpa using hm) (by simpa using hi) (by omega)
    simpa using this
  · have:a.Job∈st.Allocs.map (·.Job):=List.mem_map.2 ⟨a,ha,rfl⟩
    rw [h1] at this
    obtain ⟨j',hj',e'⟩:=List.mem_map.1 this
    obtain ⟨hj1,hj2⟩:=List.mem_filter.1 hj'
    have:j'=j:=uniq _ hj1 _ hj (by rw [e',e])
    subst this
    exact hj2
  · have:j.Id∈(st.Jobs.filter hasJ).map (·.Id):=List.mem_map.2 ⟨j,List.mem_filter.2 ⟨hj,hh⟩,rfl⟩
    rw [←h1] at this
    obtain ⟨a,ha,e⟩:=List.mem_map.1 this
    exact ⟨a,ha,e⟩
  · obtain ⟨j',hj',P⟩:=A.mem a ha
    have:j'=j:=uniq _ hj' _ hj (by rw [←P.job,e])
    subst this
    exact P
theorem of_ref {s:zad} {st:zag} (k:SpecOk s) (J:JobsOk s st) (R:zcb s st) (h:∀j∈st.Jobs,HasIn s st j):AllocsOk s st:=by
  have pw:(st.Allocs.map (·.Job)).Pairwise (·<·):=asc_pw fun i hi=>by
    rw [List.getElem_map,List.getElem_map]
    exact (R.each (i+1) (by simpa using hi)).up i (by simp at hi; omega) rfl
  refine allocsH_bwd (n:=s.Nodes.length) (asc_eq pw (jobs_pw J) fun x=>⟨fun hx=>?_,fun hx=>?_⟩) k.nodes.ok (fun a ha j hj e=>(h j (List.mem_filter.1 hj).1).mine a ha e) R.good R.fit
  · obtain ⟨a,ha,rfl⟩:=List.mem_map.1 hx
    obtain ⟨i,hi,rfl⟩:=List.getElem_of_mem ha
    obtain ⟨j,hj,e⟩:=(R.each i hi).job
    exact List.mem_map.2 ⟨j,List.mem_filter.2 ⟨hj,(h j hj).has.1 ⟨_,ha,e.symm⟩⟩,e⟩
  · obtain ⟨j,hj,rfl⟩:=List.mem_map.1 hx
    obtain ⟨a,ha,e⟩:=(h j (List.mem_filter.1 hj).1).has.2 (List.mem_filter.1 hj).2
    exact List.mem_map.2 ⟨a,ha,e⟩
end Go.Plain
end
section
namespace Go.Plain
open Go.Abs
theorem jn_ite {X R:Type} {r:X→Option R} {c:Prop} [Decidable c] {a b:X}:jn r (fun j=>if c then j a else j b)=r (if c then a else b):=by
  unfold jn
  split <;> rfl
theorem onV_pos {l:List zak} {n:Int} (h:SharesOk l n) {i:Int}:onV l i > 0↔∃x∈l,x.Node=i:=by
  have hm:∀x∈l,1≤x.Many:=fun x hx=>(h.mem x hx).2.2.1
  clear h
  induction l with
  | nil=>simp [onV]
  | cons y l ih =>
    have h1:=ih fun x hx=>hm x (List.mem_cons_of_mem _ hx)
    have h2:=hm y (List.mem_cons_self ..)
    have h3:=onV_nn (l:=l) (fun x hx=>by have:=hm x (List.mem_cons_of_mem _ hx); omega) i
    have e:onV (y::l) i=(if y.Node=i then y.Many else 0)+onV l i:=by simp [onV]
    rw [e]
    constructor
    · intro hp
      by_cases hy:y.Node=i
      · exact ⟨y,List.mem_cons_self ..,hy⟩
      · rw [if_neg hy] at hp
        obtain ⟨x,hx,e⟩:=h1.1 (by omega)
        exact ⟨x,List.mem_cons_of_mem _ hx,e⟩
    · rintro ⟨x,hx,e2⟩
      rcases List.mem_cons.1 hx with rfl | hx
      · rw [if_pos e2]; omega
      · have:=h1.2 ⟨x,hx,e2⟩
        split <;> omega
def TakenBy (st:zag) (node frm:Int) (a:zaf):Prop:=∃j∈st.Jobs,j.Id=a.Job∧(∃x∈a.Shares,x.Node=node)∧frm<j.Start+j.Wall
theorem ref_taken {s:zad} {st:zag} (hw:FewW s st) (R:zcb s st) (node frm:Int):Ret (zaX 100 st node frm) fun b=>JobsOk s st→(b=true↔∃a∈st.Allocs,TakenBy st node frm a):=by
  have hl:=hw.jobs; have hal:=hw.allocs
  unfold zaX
  refine lpA st.Allocs (fun i a=>JobsOk s st→¬TakenBy st node frm a) (fun i f hi hA hr=>?_) (fun f hA=>?_) (by omega)
  · simp only [zaW,zcG hi,if_true,zam hi,Option.bind_some,wr1 (show i<1000000 by omega)]
    have ha:=List.getElem_mem hi
    refine (ref_find (by omega) st.Allocs[i].Job).bind fun r hr1=>?_
    rw [zae]
    refine ⟨fun h=>?_,fun h=>?_⟩
    · simp only [decide_eq_true_eq] at h
      have at1:=hr1.2.1 h
      have S:=(R.each i hi).shares
      obtain ⟨hx,e⟩:=at_int (l:=st.Jobs) at1.lo (by have:=at1.lo; have:=at1.hi; omega)
      have hj:=List.getElem_mem hx
      have fin:Ret (if decide (IntKind.i64.wrap (st.Jobs[r.toNat].Start+st.Jobs[r.toNat].Wall) > frm)=true then some true else f ((i+1:Nat):Int)) (fun b=>(∃x∈st.Allocs[i].Shares,x.Node=node)→JobsOk s st→(b=true↔∃a∈st.Allocs,TakenBy st node frm a)):=by
        rw [zae]
        refine ⟨fun h2=>?_,fun h2=>?_⟩
        · rw [zab]
          intro hsx J
          have jo:=(J.each _ hj).ok
          have:=jo.start; have:=jo.wall
          rw [wr (by omega) (by omega)] at h2
          simp only [decide_eq_true_eq] at h2
          exact ⟨fun _=>⟨_,ha,_,hj,at1.is,hsx,h2⟩,fun _=>rfl⟩
        · refine (hr fun J tk=>?_).mono fun b hb _=>hb
          obtain ⟨j,hj2,e2,-,h3⟩:=tk
          have:j=st.Jobs[r.toNat]:=by
            obtain ⟨m,hm,rfl⟩:=List.getElem_of_mem hj2
            have:=J.sorted.inj hm hx (by rw [e2,at1.is])
            subst this
            rfl
          subst this
          have jo:=(J.each _ hj).ok
          have:=jo.start; have:=jo.wall
          rw [wr (by omega) (by omega)] at h2
          simp only [decide_eq_true_eq] at h2
          omega
      rw [ref_on (hw.shares _ ha) S,Option.bind_some,e,zae]
      simp only [Option.bind_some]
      refine ⟨fun h2=>?_,fun h2=>?_⟩
      · simp only [decide_eq_true_eq] at h2
        exact fin.mono fun b hb=>hb ((onV_pos S).1 h2)
      · simp only [decide_eq_true_eq] at h2
        rw [if_neg (by simp)]
        exact hr fun J ⟨j,hj2,e2,hx2,h3⟩=>h2 ((onV_pos S).2 hx2)
    · simp only [decide_eq_true_eq] at h
      rw [if_neg (by simp)]
      exact hr fun J ⟨j,hj2,e2,hx2,h3⟩=>by have:=hr1.1.2 ⟨j,hj2,e2⟩; omega
  · simp only [zcT,Bool.false_eq_true,if_false,zab,false_iff]
    rintro J ⟨a,ha,tk⟩
    exact zbF (A:=fun a=>JobsOk s st→¬TakenBy st node frm a) hA a ha J tk
theorem ref_books {s:zad} {st:zag} (hw:FewW s st) (R:zcb s st):Ret (zcp 100 s st) fun b=>JobsOk s st→(b=true↔BookedOk s st):=by
  have hl:=hw.books
  unfold zcp
  refine lpA st.Books (fun i b=>(b.Id<st.Book∧st.Now<b.To)∧(JobsOk s st→¬∃a∈st.Allocs,TakenBy st b.Node b.From a)) (fun i f hi hA hr=>?_) (fun f hA=>?_) (by omega)
  · simp only [zaW,zcG hi,if_true,zam hi,Option.bind_some,wr1 (show i<1000000 by omega)]
    have hb:=List.getElem_mem hi
    rw [zae]
    refine ⟨fun h=>?_,fun h=>?_⟩
    · rw [zab]
      intro J
      simp only [Bool.or_eq_true,decide_eq_true_eq] at h
      simp only [Bool.false_eq_true,false_iff]
      exact fun q=>by have:=q.live _ hb; omega
    · simp only [Bool.or_eq_true,decide_eq_true_eq] at h
      refine (ref_taken hw R _ _).bind fun r hr1=>?_
      rw [zae]
      refine ⟨fun h2=>?_,fun h2=>hr ⟨by omega,fun J=>fun q=>h2 ((hr1 J).2 q)⟩⟩
      rw [zab]
      intro J
      simp only [Bool.false_eq_true,false_iff]
      intro q
      obtain ⟨a,ha,j,hj,e,⟨x,hx,en⟩,hf⟩:=(hr1 J).1 h2
      exact q.clash a ha j hj e x hx _ hb en.symm hf
  · simp only [zcT,Bool.false_eq_true,if_false]
    refine (ref_book _ _ (by omega)).bind fun r hr=>?_
    rw [zab]
    intro J
    rw [hr]
    refine ⟨fun h=>⟨h,fun b hb=>?_,fun a ha j hj e x hx b hb en hf=>?_⟩,fun q=>q.books⟩
    · obtain ⟨m,hm,rfl⟩:=List.getElem_of_mem hb
      exact (hA m hm).1
    · obtain ⟨m,hm,rfl⟩:=List.getElem_of_mem hb
      exact (hA m hm).2 J ⟨a,ha,j,hj,e,⟨x,hx,en.symm⟩,hf⟩
structure AtA (l:List zaf) (id:Int) (r:Int):Prop where
  lo:0≤r
  hi:r.toNat<l.length
  is:l[r.toNat].Job=id
theorem ref_findA {l:List zaf} (hl:l.length≤40) (id:Int):Ret (zcQ 100 l id) fun r=>(0≤r↔∃a∈l,a.Job=id)∧(0≤r→AtA l id r):=by
  unfold zcQ
  refine lpA l (fun _ j=>j.Job≠id) (fun i f h _ hr=>?_) (fun f h=>?_) (by omega)
  · simp only [zcG h,if_true,zam h,Option.bind_some,wr1 (show i<1000000 by omega),zae,zab,beq_iff_eq]
    exact ⟨fun e=>⟨⟨fun _=>⟨_,List.getElem_mem h,e⟩,fun _=>by omega⟩,fun _=>⟨by omega,by simpa using h,by simpa using e⟩⟩,fun e=>hr e⟩
  · simp only [zcT,Bool.false_eq_true,if_false,zab]
    refine ⟨⟨fun h=>by omega,fun ⟨j,hm,e⟩=>absurd e (zbF (A:=fun j=>j.Job≠id) h j hm)⟩,fun h=>by omega⟩
theorem zcb.uniq {s:zad} {st:zag} (R:zcb s st) {i j:Nat} (hi:i<st.Allocs.length) (hj:j<st.Allocs.length) (e:st.Allocs[i].Job=st.Allocs[j].Job):i=j:=by
  have pw:(st.Allocs.map (·.Job)).Pairwise (·<·):=asc_pw fun i hi=>by
    rw [List.getElem_map,List.getElem_map]
    exact (R.each (i+1) (by simpa using hi)).up i (by simp at hi; omega) rfl
  rw [List.pairwise_iff_getElem] at pw
  rcases Nat.lt_trichotomy i j with h | h | h
  · have:=pw i j (by simpa using hi) (by simpa using hj) h
    rw [List.getElem_map,List.getElem_map] at this; omega
  · exact h
  · have:=pw j i (by simpa using hj) (by simpa using hi) h
    rw [List.getElem_map,List.getElem_map] at this; omega
structure RefJob (s:zad) (st:zag) (j:zah):Prop where
  inn:JobIn s st j
  waits:Waits s st j
  has:HasIn s st j
theorem ref_job {s:zad} (k:SpecOk s) {st:zag} (hw:FewW s st) (R:zcb s st) {j:zah} (hj:j∈st.Jobs):zaU (zdi 100 s st j) (RefJob s st j):=by
  have kv:=k.versions
  have hl:=hw.jobs; have hal:=hw.allocs
  unfold zdi
  refine (ref_job_right j (hw.after j hj)).bind fun r hr1=>?_
  rw [zae]
  refine ⟨fun h=>no_f fun q=>?_,fun h=>?_⟩
  · have:=hr1.2 q.inn.ok
    rw [this] at h
    simp only [Bool.or_eq_true,decide_eq_true_eq,Bool.not_true,Bool.false_eq_true,false_or] at h
    have:=q.inn.next; have:=q.inn.user; have:=q.inn.queue; have:=q.inn.born; have:=q.inn.start; have:=q.inn.fin
    omega
  · simp only [Bool.or_eq_true,decide_eq_true_eq,not_or,Bool.not_eq_true',Bool.not_eq_false] at h
    have jo:=hr1.1 h.1.1.1.1.1.1
    have hst:=jo.state.st; have hsr:=jo.start; have hwl:=jo.wall
    simp only [jn_ite]
    generalize he:(if decide (j.State≥5)=true then (3:Int) else if (j.State == 4)=true then 2 else if (j.State == 3)=true then 1 else 0)=e
    have ev:e=extraV j.State:=by
      rw [←he]
      simp only [extraV,decide_eq_true_eq,beq_iff_eq,ge_iff_le]
      split
      · split <;> (try split) <;> (try split) <;> omega
      · split
        · split <;> (try split) <;> omega
        · split <;> (try split) <;> (try split) <;> omega
    have eb:=extra_bd j.State
    refine (ref_findA hal j.Id).bind fun r8 hr8=>?_
    simp only [zaW,zdk,Option.bind_some]
    rw [ev,wr (x:=s.Versions+extraV j.State) (by omega) (by omega),zae]
    refine ⟨fun h2=>no_f fun q=>?_,fun h2=>?_⟩
    · have:=q.inn.version
      simp only [decide_eq_true_eq] at h2
      omega
    · simp only [decide_eq_true_eq] at h2
      have I:JobIn s st j:=⟨jo,by omega,by omega,by omega,by omega,by omega,by omega,by omega⟩
      have eh:((j.State == 3) || (j.State == 4))=hasJ j:=rfl
      rw [eh,zae]
      refine ⟨fun h3=>no_f fun q=>?_,fun h3=>?_⟩
      · have:=q.has.has
        rw [←hr8.1] at this
        cases hh:hasJ j with
        | true=>have t:=this.2 hh; simp [hh] at h3; omega
        | false =>
          have t:¬0≤r8:=fun t=>by have:=this.1 t; rw [hh] at this; cases this
          simp [hh] at h3
          omega
      · have hasI:(∃a∈st.Allocs,a.Job=j.Id)↔hasJ j=true:=by
          rw [←hr8.1]
          cases hh:hasJ j with
          | true=>simp [hh] at h3; simp [h3]
          | false=>simp [hh] at h3; simp; omega
        rw [zae]
        refine ⟨fun h4=>yes_t ?_,fun h4=>?_⟩
        · simp only [decide_eq_true_eq] at h4
          refine ⟨I,fun hs=>by omega,hasI,fun a ha e=>?_⟩
          have:=hasJ_lt (hasI.1 ⟨a,ha,e⟩)
          omega
        · simp only [decide_eq_true_eq] at h4
          have ha:=jo.afterN
          refine lpA j.After (fun _ d=>∃i∈st.Jobs,i.Id=d.Job) (fun m g hm hA hr=>?_) (fun g hA=>?_) (by omega)
          · simp only [zcG hm,if_true,zam hm,Option.bind_some,wr1 (show m<1000000 by omega)]
            refine (ref_find (by omega) j.After[m].Job).bind fun r hr2=>?_
            rw [zae]
            refine ⟨fun h5=>no_f fun q=>?_,fun h5=>hr (hr2.1.1 ?_)⟩
            · have:=hr2.1.2 ((q.waits (by omega)).after _ (List.getElem_mem hm))
              simp only [decide_eq_true_eq] at h5
              omega
            · simp only [decide_eq_true_eq] at h5
              omega
          · simp only [zcT,Bool.false_eq_true,if_false]
            obtain ⟨b,e1,e2⟩:=fits_eq hw.spec k (q:=j.Queue) (m:=j.Many) jo.need jo.needz
            rw [e2,Option.bind_some,zae]
            refine ⟨fun h5=>no_f fun q=>?_,fun h5=>?_⟩
            · have:=(q.waits (by omega)).fits
              rw [e1] at this
              simp only [Option.some.injEq] at this
              subst this
              simp at h5
            · simp only [Bool.not_eq_true',Bool.not_eq_false] at h5
              subst h5
              have W:Waits s st j:=fun _=>⟨e1,zbF hA⟩
              rw [zae]
              refine ⟨fun h6=>yes_t ⟨I,W,hasI,fun a ha e=>?_⟩,fun h6=>?_⟩
              · have:=hasI.1 ⟨a,ha,e⟩
                rw [this] at h6
                simp at h6
              · simp only [Bool.not_eq_true',Bool.not_eq_false] at h6
                have r0:=hr8.1.2 (hasI.2 h6)
                have at8:=hr8.2 r0
                obtain ⟨hx,e3⟩:=at_int (l:=st.Allocs) at8.lo (by have:=at8.lo; have:=at8.hi; omega)
                have hma:=List.getElem_mem hx
                rw [wr (x:=j.Start+j.Wall) (by omega) (by omega),e3,zae]
                simp only [Option.bind_some]
                refine ⟨fun h7=>?_,fun h7=>no_f fun q=>?_⟩
                · simp only [decide_eq_true_eq] at h7
                  rw [zae]
                  refine ⟨fun h8=>?_,fun h8=>no_f fun q=>h8 (beq_res.2 (q.has.mine _ hma at8.is).need)⟩
                  have eN:=beq_res.1 h8
                  refine (ref_mine hw.spec k j _ (hw.shares _ hma)).bind fun r hr9=>?_
                  rw [zab,hr9]
                  refine ⟨fun S=>⟨I,W,hasI,fun a ha e=>?_⟩,fun q=>(q.has.mine _ hma at8.is).suits⟩
                  have:a=st.Allocs[r8.toNat]:=by
                    obtain ⟨m,hm,rfl⟩:=List.getElem_of_mem ha
                    have:=R.uniq hm hx (by rw [e,at8.is])
                    subst this
                    rfl
                  subst this
                  exact ⟨e,eN,S,h7⟩
                · have:=(q.has.mine _ hma at8.is).now
                  simp only [decide_eq_true_eq] at h7
                  omega
theorem ref_sound {s:zad} {st:zag} (hw:FewW s st):zaU (zbN 100 s st) (zb0 s st):=by
  have hl:=hw.jobs; have hq:=hw.stamps; have hus:=hw.use
  unfold zbN
  simp only [zaW]
  refine (ref_right s hw.spec).bind fun r hr1=>?_
  rw [zae]
  refine ⟨fun h=>?_,fun h=>?_⟩
  · rw [if_pos trivial]
    refine no_f fun q=>?_
    have:=hr1.2 q.spec
    rw [this] at h
    have k1:=q.spec.ids; have:=q.nums.now; have:=q.nums.next; have:=q.nums.book
    rw [wr (x:=s.Ids+1) (by omega) (by omega)] at h
    simp only [Bool.or_eq_true,decide_eq_true_eq,Bool.not_true,Bool.false_eq_true,false_or] at h
    omega
  · simp only [Bool.or_eq_true,decide_eq_true_eq,not_or,Bool.not_eq_true',Bool.not_eq_false] at h
    have k:=hr1.1 h.1.1.1.1.1
    have k1:=k.ids
    rw [wr (x:=s.Ids+1) (by omega) (by omega)] at h
    refine (ref_uid st.Book).bind fun r2 hr2=>?_
    rw [zae]
    refine ⟨fun h2=>no_f fun q=>?_,fun h2=>?_⟩
    · have:=hr2.2 (by have:=q.nums.book; omega)
      rw [this] at h2
      simp at h2
    · simp only [Bool.not_eq_true',Bool.not_eq_false] at h2
      have u2:=hr2.1 h2
      have NO:NumsOk s st:=⟨by omega,by omega,by omega⟩
      rw [zae]
      refine ⟨fun h3=>?_,fun h3=>?_⟩
      · rw [if_pos trivial]
        refine no_f fun q=>?_
        have:=q.jobs.len
        simp only [decide_eq_true_eq] at h3
        omega
      · simp only [decide_eq_true_eq] at h3
        refine (ref_allocs hw).bind fun r4 hr4=>?_
        rw [zae]
        refine ⟨fun h4=>?_,fun h4=>?_⟩
        · rw [if_pos trivial]
          refine no_f fun q=>?_
          have:=hr4.2 (to_ref k q.jobs q.allocs).1
          rw [this] at h4
          simp at h4
        · simp only [Bool.not_eq_true',Bool.not_eq_false] at h4
          have R:=hr4.1 h4
          refine (ref_books hw R).bind fun r5 hr5=>?_
          rw [zae]
          refine ⟨fun h5=>?_,fun h5=>?_⟩
          · rw [if_pos trivial]
            refine no_f fun q=>?_
            have:=(hr5 q.jobs).2 q.booked
            rw [this] at h5
            simp at h5
          · simp only [Bool.not_eq_true',Bool.not_eq_false] at h5
            refine (ref_use st.Use s.Users (by omega)).bind fun r6 hr6=>?_
            rw [zae]
            refine ⟨fun h6=>?_,fun h6=>?_⟩
            · rw [if_pos trivial]
              refine no_f fun q=>?_
              have:=hr6.2 ⟨q.use.len,q.use.use⟩
              rw [this] at h6
              have:=q.use.qlen
              simp only [Bool.or_eq_true,bne_iff_ne,ne_eq,Bool.not_true,Bool.false_eq_true,false_or] at h6
              omega
            · simp only [Bool.or_eq_true,bne_iff_ne,ne_eq,not_or,Decidable.not_not,Bool.not_eq_true',Bool.not_eq_false] at h6
              have u6:=hr6.1 h6.1
              refine (ref_uid st.Stamps.Nodes).bind fun r7 hr7=>?_
              rw [zae]
              refine ⟨fun h7=>no_f fun q=>?_,fun h7=>?_⟩
              · have:=hr7.2 q.use.nodes
                rw [this] at h7
                simp at h7
              · simp only [Bool.not_eq_true',Bool.not_eq_false] at h7
                have u7:=hr7.1 h7
                refine lpA st.Stamps.Queues (fun _ x=>0≤x∧x≤281474976710656) (fun i f hi _ hr=>?_) (fun f hS=>?_) (by omega)
                · simp only [zcG hi,if_true,zam hi,Option.bind_some,wr1 (show i<1000000 by omega)]
                  refine (ref_uid _).bind fun r8 hr8=>?_
                  rw [zae]
                  refine ⟨fun h8=>no_f fun q=>?_,fun h8=>hr (hr8.1 (by simpa using h8))⟩
                  have:=hr8.2 (q.use.stamps _ (List.getElem_mem hi))
                  rw [this] at h8
                  simp at h8
                · simp only [zcT,Bool.false_eq_true,if_false]
                  have U:UseOk s st:=⟨u6.1,u6.2,by omega,u7,zbF hS⟩
                  refine lpA st.Jobs (fun i j=>RefJob s st j∧prvI st.Jobs i<j.Id) (fun i f hi _ hr=>?_) (fun f hJ=>?_) (by omega)
                  · have hd:decide ((i:Int) > 0)=decide (0<i):=by simp
                    have hj:=List.getElem_mem hi
                    simp only [zcG hi,if_true,zam hi,Option.bind_some,wr1 (show i<1000000 by omega),hd]
                    refine (ref_job k hw R hj).bind fun r9 hr9=>?_
                    rw [zae]
                    refine ⟨fun h9=>no_f fun q=>?_,fun h9=>?_⟩
                    · have:=hr9.2 ⟨q.jobs.each _ hj,q.waits _ hj,(to_ref k q.jobs q.allocs).2 _ hj⟩
                      rw [this] at h9
                      simp at h9
                    · simp only [Bool.not_eq_true',Bool.not_eq_false] at h9
                      have J9:=hr9.1 h9
                      rw [zae]
                      refine ⟨fun h10=>?_,fun h10=>?_⟩
                      · simp only [decide_eq_true_eq] at h10
                        obtain ⟨m,rfl⟩:∃m,i=m+1:=⟨i-1,by omega⟩
                        rw [wp1 (show m+1<1000000 by omega),zam (show m<st.Jobs.length by omega),Option.bind_some,zae]
                        refine ⟨fun h11=>no_f fun q=>?_,fun h11=>hr ⟨J9,?_⟩⟩
                        · have:=q.jobs.sorted m hi
                          simp only [decide_eq_true_eq] at h11
                          omega
                        · rw [prvI_succ (by omega)]
                          simp only [decide_eq_true_eq] at h11
                          omega
                      · simp only [decide_eq_true_eq] at h10
                        have:i=0:=by omega
                        subst this
                        refine hr ⟨J9,?_⟩
                        have:=J9.inn.ok.id
                        simp only [prvI]
                        omega
                  · simp only [zcT,Bool.false_eq_true,if_false]
                    have JO:JobsOk s st:=jobs_of (by omega) fun i hi=>⟨(hJ i hi).1.inn,(hJ i hi).2⟩
                    have all:∀j∈st.Jobs,RefJob s st j:=fun j hj=>by
                      obtain ⟨m,hm,rfl⟩:=List.getElem_of_mem hj
                      exact (hJ m hm).1
                    exact yes_t ⟨k,NO,JO,fun j hj=>(all j hj).waits,of_ref k JO R fun j hj=>(all j hj).has,(hr5 JO).1 h5,U⟩
end Go.Plain
end
section
namespace Go.Plain
open Go.Abs
theorem zdp {l:List Int} (h:l.length≤1000000):zax 100 l=some l:=by
  unfold zax
  exact app_nil h
theorem copy_ok {s:zad} (hs:FewS s):zbR 100 s=some s:=by
  have h1:=hs.nodes; have h2:=hs.parts; have h3:=hs.queues
  unfold zbR
  rw [clone_res (by omega),Option.bind_some,show zby 100 s.Parts=some s.Parts from app_nil (by omega),Option.bind_some]
  refine Ret.eq (lpS s.Parts.length (fun i x=>x=((i:Int),s.Parts)) (fun i x f hi hx hr=>?_) (fun x f hx=>?_) rfl (by omega))
  · subst hx
    have hp:=hs.part _ (List.getElem_mem hi)
    simp only [zcG hi,if_true,zam hi,Option.bind_some,wr1 (show i<1000000 by omega),zdp (show s.Parts[i].length≤1000000 by omega),Int.toNat_natCast,List.set_getElem_self]
    exact hr _ rfl
  · subst hx
    simp only [zcT,Bool.false_eq_true,if_false]
    rw [show zaJ 100 s.Queues=some s.Queues from app_nil (by omega),Option.bind_some]
    refine lpS s.Queues.length (fun i x=>x=((i:Int),s.Queues)) (fun i x f hi hx hr=>?_) (fun x f hx=>?_) rfl (by omega)
    · subst hx
      have hp:=hs.queue _ (List.getElem_mem hi)
      simp only [zcG hi,if_true,zam hi,Option.bind_some,wr1 (show i<1000000 by omega),zdp (show s.Queues[i].Users.length≤1000000 by omega),Int.toNat_natCast,List.set_getElem_self]
      exact hr _ (Prod.ext rfl (List.set_getElem_self hi))
    · subst hx
      simp only [zcT,Bool.false_eq_true,if_false,zab]
theorem share_new {n:Int} (h:1≤n∧n≤8):share_New 100 n=some (List.replicate n.toNat 0):=by
  simp only [share_New,zdr]
  rw [if_neg (by simp; omega),if_neg (by simp; omega)]
  simp only [Option.bind_some,mk?]
  rw [if_pos (by omega)]
  rfl
theorem table_new {n:Int} (h:1≤n∧n≤256):table_New_o7369 100 n=some (.inr n):=by
  simp only [table_New_o7369]
  rw [if_neg (by simp; omega)]
theorem new_ok {s:zad} (hs:FewS s) (k:SpecOk s):zbB 100 s=some (.inr ([],s.Nodes,s.Parts,s.Queues,s.Users,s.Weights.Age,s.Weights.Size,s.Weights.Qos,s.Weights.Share,s.Decay,s.Mode,s.Jobs,s.Ids,s.Versions,s.Linger,s.Keep,s.In,s.Out,s.Cache,0,1,1,List.replicate s.Users.toNat 0,List.replicate s.Queues.length 0,0,s.Jobs,s.Nodes)):=by
  have h3:=hs.queues
  unfold zbB
  rw [spec_true hs k,Option.bind_some,if_neg (by simp),table_new k.jobs,Option.bind_some]
  dsimp only
  rw [new_ledger hs k,Option.bind_some]
  dsimp only
  rw [copy_ok hs,Option.bind_some,share_new k.users,Option.bind_some]
  unfold mk?
  rw [if_pos (by omega),Option.bind_some]
  rw [Int.toNat_natCast]
theorem new_no {s:zad} (hs:FewS s) (k:¬SpecOk s):zbB 100 s=some (.inl ()):=by
  obtain ⟨r,e,h⟩:=spec_right s hs
  have:r=false:=by
    cases r with
    | false=>rfl
    | true=>exact absurd (h.1 rfl) k
  unfold zbB
  rw [e,this]
  rfl
theorem own_job {j:zah} (h:j.After.length≤1000000):table_own 100 j=some j:=by
  unfold table_own
  rw [show zbn 100 j.After=some j.After from app_nil h]
  rfl
theorem all_jobs {l:List zah} (hl:l.length≤40) (ha:∀j∈l,j.After.length≤10) (n:Int):zbQ 100 n l=some l:=by
  unfold zbQ
  rw [show za0 100 l=some l from app_nil (by omega),Option.bind_some]
  refine Ret.eq (lpS l.length (fun i x=>x=((i:Int),l)) (fun i x f hi hx hr=>?_) (fun x f hx=>?_) rfl (by omega))
  · subst hx
    have hp:=ha _ (List.getElem_mem hi)
    simp only [zcG hi,if_true,zam hi,Option.bind_some,wr1 (show i<1000000 by omega),own_job (show l[i].After.length≤1000000 by omega),Int.toNat_natCast,List.set_getElem_self]
    exact hr _ rfl
  · subst hx
    simp only [zcT,Bool.false_eq_true,if_false,zab]
def mapA (A:List zaf):List (Int×zaf):=A.map fun a=>(a.Job,a)
def AscA (A:List zaf):Prop:=(A.map (·.Job)).Pairwise (·<·)
theorem mapA_get {A:List zaf} (h:AscA A):∀i (hi:i<A.length),mget (mapA A) A[i].Job=some A[i]:=by
  induction A with
  | nil=>intro i hi; simp at hi
  | cons a A ih =>
    unfold AscA at h
    rw [List.map_cons,List.pairwise_cons] at h
    intro i hi
    match i,hi with
    | 0,hi=>simp [mapA,mget]
    | i + 1, hi =>
      have hi':i<A.length:=by simpa using hi
      have:=h.1 A[i].Job (List.mem_map.2 ⟨_,List.getElem_mem hi',rfl⟩)
      have e:mget (mapA (a::A)) A[i].Job=mget (mapA A) A[i].Job:=by
        simp only [mapA,List.map_cons,mget]
        rw [if_neg (by omega)]
      rw [List.getElem_cons_succ,e]
      exact ih h.2 i hi'
theorem mapA_none {A:List zaf} {q:Int} (h:∀a∈A,a.Job≠q):mget (mapA A) q=none:=by
  induction A with
  | nil=>rfl
  | cons a A ih =>
    simp only [mapA,List.map_cons,mget]
    rw [if_neg (h a (List.mem_cons_self ..))]
    exact ih fun b hb=>h b (List.mem_cons_of_mem _ hb)
theorem mapA_set {A:List zaf} {a:zaf} (h:∀b∈A,b.Job≠a.Job):mset (mapA A) a.Job a=mapA (A++[a]):=by
  induction A with
  | nil=>rfl
  | cons b A ih =>
    have:=ih fun c hc=>h c (List.mem_cons_of_mem _ hc)
    simp only [mapA,List.cons_append,List.map_cons,mset] at this ⊢
    rw [if_neg (h b (List.mem_cons_self ..)),this]
theorem i64wf {n:Int} (h:0≤n∧n≤1048576):(Lit.int .i64 n).wf=true:=by
  have e1:IntKind.i64.min=-9223372036854775808:=by decide
  have e2:IntKind.i64.max=9223372036854775807:=by decide
  simp only [Lit.wf,Bool.and_eq_true,decide_eq_true_eq,e1,e2]
  omega
theorem keys_ok {A:List zaf} (hl:A.length≤40) (h:AscA A) (hj:∀a∈A,0≤a.Job∧a.Job≤1048576):keysI (fun k=>k) (mapA A)=some (A.map (·.Job)):=by
  have e:(mapA A).map Prod.fst=A.map (·.Job):=by simp [mapA]
  unfold keysI
  have wf:∀p∈mapA A,(Lit.int .i64 p.1).wf=true:=fun p hp=>by
    obtain ⟨a,ha,rfl⟩:=List.mem_map.1 hp
    exact i64wf (hj a ha)
  have nd:(A.map (·.Job)).Nodup:=h.imp fun h=>by omega
  have ln:(mapA A).length≤1000000:=by simp [mapA]; omega
  rw [e,if_pos ⟨ln,nd,wf⟩,List.mergeSort_of_pairwise (h.imp fun h=>by simp; omega)]
  simp
theorem all_allocs {A:List zaf} (hl:A.length≤40) (h:AscA A) (hj:∀a∈A,0≤a.Job∧a.Job≤1048576) (hs:∀a∈A,a.Shares.length≤40) (F:List zaa):zas 100 (mapA A) F=some A:=by
  unfold zas
  rw [keys_ok hl h hj,Option.bind_some]
  refine Ret.eq (lpS (A.map (·.Job)).length (fun i x=>x=((i:Int),A.take i)) (fun i x f hi hx hr=>?_) (fun x f hx=>?_) (by simp) (by simp; omega))
  · subst hx
    have hi':i<A.length:=by simpa using hi
    have e:=mapA_get h i hi'
    have es:=hs _ (List.getElem_mem hi')
    simp only [zcG hi,if_true,zam hi,Option.bind_some,wr1 (show i<1000000 by omega),List.getElem_map,e,oel,own_alloc (show A[i].Shares.length≤1000000 by omega)]
    rw [app_ok (by rw [List.length_take]; simp; omega),Option.bind_some]
    exact hr _ (by rw [List.take_succ_eq_append_getElem hi'])
  · subst hx
    simp only [zcT,Bool.false_eq_true,if_false,zab,List.length_map,List.take_length]
theorem clone_books {l:List zac} (h:l.length≤1000000):zaq 100 l=some l:=by
  unfold zaq
  exact app_nil h
theorem beq_dep (a:zbS):zbS.beq a a=true:=by simp [zbS.beq]
theorem beq_share (a:zak):zak.beq a a=true:=by simp [zak.beq]
theorem beq_book (a:zac):zac.beq a a=true:=by simp [zac.beq]
theorem beq_weights (a:zaI):zaI.beq a a=true:=by simp [zaI.beq]
theorem beq_res' (a:zaa):zaa.beq a a=true:=beq_res.2 rfl
theorem lpT {α:Type} {b:(Int→Option Bool)→Int→Option Bool} (l:List α) (hs:∀(i:Nat) (f:Int→Option Bool) (h:i<l.length),b f (i:Int)=f ((i+1:Nat):Int)) (he:∀f,b f (l.length:Int)=some true) {N:Nat} (hN:l.length<N):lpX b N 0=some true:=
  Ret.eq (lpA l (fun _ _=>True) (fun i f h _ hr=>by rw [hs i f h]; exact hr trivial) (fun f _=>by rw [he]; exact ⟨_,rfl,rfl⟩) hN)
theorem same_ints (l:List Int) (hl:l.length≤40):zbv 100 l l=some true:=by
  unfold zbv
  rw [if_neg (by simp)]
  refine lpT l (fun i f h=>?_) (fun f=>?_) (by omega)
  · simp only [zcG h,if_true,zam h,Option.bind_some,wr1 (show i<1000000 by omega),bne_self_eq_false,Bool.false_eq_true,if_false]
  · simp only [zcT,Bool.false_eq_true,if_false]
theorem same_job (j:zah) (hl:j.After.length≤40):zcJ 100 j j=some true:=by
  unfold zcJ
  rw [if_neg (by simp)]
  refine lpT j.After (fun i f h=>?_) (fun f=>?_) (by omega)
  · simp only [zcG h,if_true,zam h,Option.bind_some,wr1 (show i<1000000 by omega),beq_dep,Bool.not_true,Bool.false_eq_true,if_false]
  · simp only [zcT,Bool.false_eq_true,if_false,beq_self_eq_true,beq_res',Bool.and_self]
theorem same_jobs (l:List zah) (hl:l.length≤40) (ha:∀j∈l,j.After.length≤10):zcI 100 l l=some true:=by
  unfold zcI
  rw [if_neg (by simp)]
  refine lpT l (fun i f h=>?_) (fun f=>?_) (by omega)
  · have:=ha _ (List.getElem_mem h)
    simp only [zcG h,if_true,zam h,Option.bind_some,wr1 (show i<1000000 by omega),same_job l[i] (by omega),Bool.not_true,Bool.false_eq_true,if_false]
  · simp only [zcT,Bool.false_eq_true,if_false]
theorem same_shares (l:List zak) (hl:l.length≤40):zcU 100 l l=some true:=by
  unfold zcU
  rw [if_neg (by simp)]
  refine lpT l (fun i f h=>?_) (fun f=>?_) (by omega)
  · simp only [zcG h,if_true,zam h,Option.bind_some,wr1 (show i<1000000 by omega),beq_share,Bool.not_true,Bool.false_eq_true,if_false]
  · simp only [zcT,Bool.false_eq_true,if_false]
theorem same_allocs (l:List zaf) (hl:l.length≤40) (ha:∀a∈l,a.Shares.length≤40):zcV 100 l l=some true:=by
  unfold zcV
  rw [if_neg (by simp)]
  refine lpT l (fun i f h=>?_) (fun f=>?_) (by omega)
  · have:=ha _ (List.getElem_mem h)
    simp only [zaW,zcG h,if_true,zam h,Option.bind_some,wr1 (show i<1000000 by omega),bne_self_eq_false,beq_res',same_shares l[i].Shares this,Bool.not_true,Bool.false_eq_true,if_false]
  · simp only [zcT,Bool.false_eq_true,if_false]
theorem same_books (l:List zac) (hl:l.length≤40):zcP 100 l l=some true:=by
  unfold zcP
  rw [if_neg (by simp)]
  refine lpT l (fun i f h=>?_) (fun f=>?_) (by omega)
  · simp only [zcG h,if_true,zam h,Option.bind_some,wr1 (show i<1000000 by omega),beq_book,Bool.not_true,Bool.false_eq_true,if_false]
  · simp only [zcT,Bool.false_eq_true,if_false]
theorem same_state {s:zad} {st:zag} (hw:FewW s st):zaQ 100 st st=some true:=by
  have h1:=hw.jobs; have h2:=hw.use; have h3:=hw.stamps; have h4:=hw.books
  unfold zaQ
  rw [if_pos (by simp),same_jobs _ (by omega) hw.after,Option.bind_some,if_pos rfl,same_allocs _ hw.allocs hw.shares,Option.bind_some,if_pos rfl,same_books _ (by omega),Option.bind_some,if_pos rfl,same_ints _ (by omega),Option.bind_some,if_pos rfl,same_ints _ (by omega),Option.bind_some]
  simp
end Go.Plain
end
section
namespace Go.Plain
open Go.Abs
theorem sorted_take {l:List zah} (h:SortedJ l) (n:Nat):SortedJ (l.take n):=fun i hi=>by
  rw [List.length_take] at hi
  rw [List.getElem_take,List.getElem_take]
  exact h i (by omega)
theorem find_end {l:List zah} (hl:l.length≤40) (hs:SortedJ l) {id:Int} (h:∀j∈l,j.Id<id) (n:Int):zbb 100 l id n=some ((l.length:Int),false):=by
  unfold zbb
  have e:(lpX (fun f2 (x1:Int×Int)=>
      if (decide (x1.1<x1.2))=true then
        (
          (at? l (IntKind.i64.wrap (Int.fdiv (IntKind.u64.wrap (IntKind.i64.wrap (x1.1+x1.2))) (2 ^ 1)))).bind fun a3=>
          some (decide (a3.Id≥id))).bind fun x4=>
        if (!x4)=true then
          f2 ((IntKind.i64.wrap ((IntKind.i64.wrap (Int.fdiv (IntKind.u64.wrap (IntKind.i64.wrap (x1.1+x1.2))) (2 ^ 1)))+1)),x1.2)
        else
          f2 (x1.1,(IntKind.i64.wrap (Int.fdiv (IntKind.u64.wrap (IntKind.i64.wrap (x1.1+x1.2))) (2 ^ 1))))
      else
        some x1.1) 100 (0,(l.length:Int)))=some (l.length:Int):=by
    refine Ret.eq (half hl hs id (fun j=>some (decide (j.Id<id))) (fun j hj=>rfl) (fun i=>some i) (fun i hi h1 h2=>?_) _ (fun f x=>?_))
    · rw [zab]
      rcases Nat.lt_or_eq_of_le hi with q | q
      · have:=h2 i q (Nat.le_refl _)
        have:=h _ (List.getElem_mem q)
        omega
      · rw [q]
    · split
      · cases at? l (IntKind.i64.wrap (Int.fdiv (IntKind.u64.wrap (IntKind.i64.wrap (x.1+x.2))) (2 ^ 1))) with
        | none=>rfl
        | some a =>
          simp only [Option.bind_some,Bool.not_eq_true',decide_eq_false_iff_not,decide_eq_true_eq]
          by_cases hc:a.Id<id
          · rw [if_pos hc,if_pos (by omega)]
          · rw [if_neg hc,if_neg (by omega)]
      · rfl
  rw [e,Option.bind_some,zcT,if_neg (by simp)]
theorem put_ok {l:List zah} {n:Nat} (hn:n<l.length) (hl:l.length≤30) (hs:SortedJ l) {m:Int} (hm:(l.length:Int)≤m) (hj:JobOk l[n]):zbG 100 (l.take n) l[n] m=some (l.take (n+1),0):=by
  obtain ⟨r,e,h⟩:=job_right l[n]
  have hr:=h.2 hj
  subst hr
  have ha:=hj.afterN
  have ll:(l.take n).length=n:=by rw [List.length_take]; omega
  unfold zbG
  rw [e,Option.bind_some,if_neg (by simp),find_end (by omega) (sorted_take hs n) (fun j hj=>?_),Option.bind_some]
  · rw [if_neg (by simp),if_neg (by rw [ll]; simp; omega),own_job (by omega),Option.bind_some]
    unfold zaM
    have sl:slice? (l.take n) ((l.take n).length:Int) ((l.take n).length:Int)=some []:=by
      unfold slice?
      rw [if_pos ⟨by omega,by omega,by omega⟩]
      simp
    rw [sl,Option.bind_some,if_neg (by simp),if_pos (by simp),app_ok (by rw [ll]; simp; omega),Option.bind_some,Option.bind_some,List.take_succ_eq_append_getElem hn]
  · obtain ⟨i,hi,rfl⟩:=List.getElem_of_mem hj
    rw [List.getElem_take]
    exact hs.lt (by omega) hn
structure TInv (s:zad) (st:zag) (i:Nat) (x:Int×(List zaa)×List (Int×zaf)):Prop where
  ix:x.1=(i:Int)
  h:∃H,AllocsH s st H (st.Allocs.drop i) x.2.1
  len:x.2.1.length=s.Nodes.length
  vec:∀r∈x.2.1,VecOk r
  m:x.2.2=mapA (st.Allocs.take i)
theorem asc_of {s:zad} {st:zag} (q:zb0 s st):AscA st.Allocs:=by
  have h:=(allocsH_fwd q.allocs q.spec.nodes.ok).1
  unfold AscA
  rw [h]
  exact jobs_pw q.jobs
theorem alloc_ids {s:zad} {st:zag} (q:zb0 s st):∀a∈st.Allocs,0≤a.Job∧a.Job≤1048576:=fun a ha=>by
  obtain ⟨j,hj,P⟩:=q.allocs.mem a ha
  have:=(q.jobs.each j hj).ok.id
  have:=P.job
  omega
theorem of_ok {s:zad} {st:zag} (hw:FewW s st) (q:zb0 s st):∃F,zcg 100 s st=some (.inr ((st.Allocs.map fun a=>(a.Job,a)),s.Nodes,s.Parts,s.Queues,s.Users,s.Weights.Age,s.Weights.Size,s.Weights.Qos,s.Weights.Share,s.Decay,s.Mode,s.Jobs,s.Ids,s.Versions,s.Linger,s.Keep,s.In,s.Out,s.Cache,st.Now,st.Next,st.Book,st.Books,st.Use,st.Stamps.Queues,st.Stamps.Nodes,s.Jobs,st.Jobs,F)):=by
  have hl:=hw.jobs; have hal:=hw.allocs; have hn:=hw.spec.nodes; have hb:=hw.books; have hu:=hw.use; have hs:=hw.stamps
  obtain ⟨r,e,h⟩:=sound_ok hw
  have hr:=h.2 q
  subst hr
  have jl:=q.jobs.len
  have asc:=asc_of q
  unfold zcg
  rw [e,Option.bind_some,if_neg (by simp),new_ok hw.spec q.spec,Option.bind_some]
  dsimp only
  have goal:∀o:Option ((Int) ⊕ (List (Int×zaf)×(List zaa)×(List (List Int))×(List zao)×Int×Int×Int×Int×Int×Int×Int×Int×Int×Int×Int×Int×Int×Int×Int×Int×Int×Int×(List zac)×(List Int)×(List Int)×Int×Int×(List zah)×(List zaa))),(Ret o fun x=>∃F,x=.inr ((st.Allocs.map fun a=>(a.Job,a)),s.Nodes,s.Parts,s.Queues,s.Users,s.Weights.Age,s.Weights.Size,s.Weights.Qos,s.Weights.Share,s.Decay,s.Mode,s.Jobs,s.Ids,s.Versions,s.Linger,s.Keep,s.In,s.Out,s.Cache,st.Now,st.Next,st.Book,st.Books,st.Use,st.Stamps.Queues,st.Stamps.Nodes,s.Jobs,st.Jobs,F))→∃F,o=some (.inr ((st.Allocs.map fun a=>(a.Job,a)),s.Nodes,s.Parts,s.Queues,s.Users,s.Weights.Age,s.Weights.Size,s.Weights.Qos,s.Weights.Share,s.Decay,s.Mode,s.Jobs,s.Ids,s.Versions,s.Linger,s.Keep,s.In,s.Out,s.Cache,st.Now,st.Next,st.Book,st.Books,st.Use,st.Stamps.Queues,st.Stamps.Nodes,s.Jobs,st.Jobs,F)):=fun o ⟨x,h1,F,h2⟩=>⟨F,by rw [h1,h2]⟩
  apply goal
  refine lpS st.Jobs.length (fun i x=>x=((i:Int),st.Jobs.take i)) (fun i x f hi hx hr=>?_) (fun x f hx=>?_) rfl (by omega)
  · subst hx
    simp only [zcG hi,if_true,zam hi,Option.bind_some,wr1 (show i<1000000 by omega),put_ok hi hl q.jobs.sorted jl (q.jobs.each _ (List.getElem_mem hi)).ok,bne_self_eq_false,Bool.false_eq_true,if_false]
    exact hr _ rfl
  · subst hx
    simp only [zcT,Bool.false_eq_true,if_false]
    refine lpS st.Allocs.length (TInv s st) (fun i x f hi hx hr=>?_) (fun x f hx=>?_) ⟨rfl,⟨_,by rw [List.drop_zero]; exact q.allocs⟩,rfl,q.spec.nodes.ok,rfl⟩ (by omega)
    · obtain ⟨x1,F,M⟩:=x
      obtain ⟨h1,h2,h3,h4,h5⟩:=hx
      dsimp only at h1 h2 h3 h4 h5
      subst h1
      have hm:=List.getElem_mem hi
      have hsh:=hw.shares _ hm
      obtain ⟨H,hH⟩:=h2
      rw [List.drop_eq_getElem_cons hi] at hH
      obtain ⟨j,hj,P⟩:=q.allocs.mem _ hm
      have jo:=(q.jobs.each j hj).ok
      have fit:FitsA F st.Allocs[i]∧∃H',AllocsH s st H' (st.Allocs.drop (i+1)) (takeA F st.Allocs[i]):=by
        cases H with
        | nil=>cases (show st.Allocs[i]::st.Allocs.drop (i+1)=[] from hH)
        | cons j' H' =>
          obtain ⟨a',A',e',-,hf,hr⟩:=hH
          cases e'
          exact ⟨hf,H',hr⟩
      have free:∀b∈st.Allocs.take i,b.Job≠st.Allocs[i].Job:=fun b hb=>by
        obtain ⟨m,hm2,rfl⟩:=List.getElem_of_mem hb
        rw [List.length_take] at hm2
        rw [List.getElem_take]
        have:=List.pairwise_iff_getElem.1 asc m i (by simp; omega) (by simpa using hi) (by omega)
        rw [List.getElem_map,List.getElem_map] at this
        omega
      have T:TakeOk M F st.Allocs[i]:=⟨by have:=jo.id; have:=P.job; omega,tot_pos (by have:=jo.many; have:=P.suits.tot; omega),by rw [h3]; exact P.suits.shares,by rw [P.need]; exact jo.need,by rw [h5]; exact mapA_none free,fit.1⟩
      simp only [zcG hi,if_true,zam hi,Option.bind_some,wr1 (show i<1000000 by omega)]
      refine (take_ok (M:=M) (a:=st.Allocs[i]) (F:=F) (by omega) hsh h4).bind fun r hr1=>?_
      have z:=hr1.1.2 T
      obtain ⟨eM,bh⟩:=hr1.2 z
      rw [z]
      simp only [bne_self_eq_false,Bool.false_eq_true,if_false]
      refine hr _ ⟨rfl,?_,?_,?_,?_⟩
      · dsimp only
        rw [bh.eq]
        exact fit.2
      · dsimp only
        rw [bh.eq,takeA_len,h3]
      · dsimp only
        rw [bh.eq]
        exact takeA_ok fit.1
      · dsimp only
        rw [eM,h5,mapA_set free,List.take_succ_eq_append_getElem hi]
    · obtain ⟨x1,F,M⟩:=x
      obtain ⟨h1,h2,h3,h4,h5⟩:=hx
      dsimp only at h1 h2 h3 h4 h5
      subst h1
      simp only [zcT,Bool.false_eq_true,if_false]
      rw [clone_books (by omega),Option.bind_some,zdp (by omega),Option.bind_some,zdp (by omega),Option.bind_some,zab]
      refine ⟨F,?_⟩
      rw [h5,List.take_length,List.take_length]
      rfl
theorem of_no {s:zad} {st:zag} (hw:FewW s st) (q:¬zb0 s st):zcg 100 s st=some (.inl 2):=by
  obtain ⟨r,e,h⟩:=sound_ok hw
  have:r=false:=by
    cases r with
    | false=>rfl
    | true=>exact absurd (h.1 rfl) q
  unfold zcg
  rw [e,this]
  rfl
theorem shown {s:zad} {st:zag} (hw:FewW s st) (q:zb0 s st) {a1 a2 a3 a4 a5 a6 a7 a8 a9 a10 a11 a12 a13 a14 a15 a16 a17 a18 a26 F} :
    zaw 100 (st.Allocs.map fun a=>(a.Job,a)) a1 a2 a3 a4 a5 a6 a7 a8 a9 a10 a11 a12 a13 a14 a15 a16 a17 a18 st.Now st.Next st.Book st.Books st.Use st.Stamps.Queues st.Stamps.Nodes a26 st.Jobs F=some st:=by
  have hl:=hw.jobs; have hb:=hw.books; have hu:=hw.use; have hs:=hw.stamps
  unfold zaw
  rw [all_jobs (by omega) hw.after,Option.bind_some,show zas 100 (st.Allocs.map fun a=>(a.Job,a)) F=some st.Allocs from all_allocs hw.allocs (asc_of q) (alloc_ids q) hw.shares F,Option.bind_some,clone_books (by omega),Option.bind_some,zdp (by omega),Option.bind_some,zdp (by omega),Option.bind_some]
theorem law_of_ok {s:zad} {st:zag} (hw:FewW s st) (q:zb0 s st):∃F,zaS 100 s st=some (.inr ((st.Allocs.map fun a=>(a.Job,a)),true,s.Nodes,s.Parts,s.Queues,s.Users,s.Weights.Age,s.Weights.Size,s.Weights.Qos,s.Weights.Share,s.Decay,s.Mode,s.Jobs,s.Ids,s.Versions,s.Linger,s.Keep,s.In,s.Out,s.Cache,st.Now,st.Next,st.Book,st.Books,st.Use,st.Stamps.Queues,st.Stamps.Nodes,s.Jobs,st.Jobs,F)):=by
  obtain ⟨F,e⟩:=of_ok hw q
  obtain ⟨r,e2,h⟩:=ref_sound hw
  have hr:=h.2 q
  subst hr
  refine ⟨F,?_⟩
  unfold zaS
  rw [e,Option.bind_some]
  dsimp only
  rw [e2,Option.bind_some,if_neg (by simp),shown hw q,Option.bind_some,same_state hw,Option.bind_some]
theorem law_of_no {s:zad} {st:zag} (hw:FewW s st) (q:¬zb0 s st):zaS 100 s st=some (.inl true):=by
  obtain ⟨r,e2,h⟩:=ref_sound hw
  have:r=false:=by
    cases r with
    | false=>rfl
    | true=>exact absurd (h.1 rfl) q
  unfold zaS
  rw [of_no hw q,Option.bind_some]
  dsimp only
  rw [e2,this]
  rfl
theorem spec_shown {s:zad} (hs:FewS s) {M F b1 b2 b3 b4 b5 b6 b7 b8 b9} :
    zba 100 M s.Nodes s.Parts s.Queues s.Users s.Weights.Age s.Weights.Size s.Weights.Qos s.Weights.Share s.Decay s.Mode s.Jobs s.Ids s.Versions s.Linger s.Keep s.In s.Out s.Cache b1 b2 b3 b4 b5 b6 b7 b8 b9 F=some s:=by
  unfold zba
  rw [show zbR 100 _=some s from copy_ok hs]
  rfl
end Go.Plain
end
section
namespace Go.Plain
open Go.Abs
theorem cpL_all {α:Type} {l m:List α} {z:α} (h:l.length=m.length+1):(cpL l m 0 l.length)=m++[l[m.length]'(by omega)]:=by
  have h1:m.take l.length=m:=List.take_of_length_le (by omega)
  simp only [cpL,h1,List.take_zero,List.nil_append,Nat.zero_add]
  congr 1
  rw [List.drop_eq_getElem_cons (by omega),List.drop_eq_nil_of_le (by omega)]
theorem cpL_same {α:Type} {l m:List α} (h:l.length=m.length):(cpL l m 0 l.length)=m:=by
  have h1:m.take l.length=m:=List.take_of_length_le (by omega)
  simp only [cpL,h1,List.take_zero,List.nil_append,Nat.zero_add]
  rw [List.drop_eq_nil_of_le (by omega),List.append_nil]
theorem cpL_nil {α:Type} {l:List α} {k n:Nat}:cpL l [] k n=l:=by
  simp only [cpL,List.take_nil,List.length_nil,Nat.add_zero,List.append_nil,List.take_append_drop]
theorem book_add {l:List zac} {n:Int} {b:zac} (hl:l.length<16) (hb:BooksOk l n) (ho:OneB n b) (hid:∀x∈l,x.Id<b.Id) (hm:¬∃x∈l,MeetsB x b.Node b.From b.To):book_Add 100 l n b=some (l++[b],0):=by
  unfold book_Add
  simp only [zaW]
  obtain ⟨r1,e1,h1⟩:=book_right l n (by omega)
  have t1:=h1.2 hb
  subst t1
  obtain ⟨r2,e2,h2⟩:=book_one b n
  have t2:=h2.2 ho
  subst t2
  obtain ⟨r3,e3,h3⟩:=book_meets l b.Node b.From b.To (by omega)
  have t3:r3=false:=by
    cases r3 with
    | false=>rfl
    | true=>exact absurd (h3.1 rfl) hm
  subst t3
  have w:IntKind.i64.wrap ((l.length:Int)+1)=((l.length+1:Nat):Int):=wr1 (by omega)
  have fin:(mk? ({ Id:=0,Node:=0,From:=0,To:=0 }:zac) ((l.length+1:Nat):Int) ((l.length+1:Nat):Int)).bind (fun z6=>(at? (cpL z6 l 0 z6.length) (l.length:Int)).bind fun a7=>some (((cpL z6 l 0 z6.length).set (l.length:Int).toNat b),(0:Int)))=some (l++[b],0):=by
    unfold mk?
    rw [if_pos (by omega),Option.bind_some,cpL_all (z:=b) (by simp),zam (by simp),Option.bind_some]
    simp
  rw [e1,Option.bind_some,if_neg (by simp),e2,Option.bind_some,if_neg (by simp),if_neg (by simp; omega)]
  rw [e3,w]
  simp only [Option.bind_some,Bool.false_eq_true,if_false,fin]
  split
  · rename_i h
    simp only [decide_eq_true_eq] at h
    obtain ⟨m,hm⟩:∃m,l.length=m+1:=⟨l.length-1,by omega⟩
    have w2:IntKind.i64.wrap ((l.length:Int)-1)=(m:Int):=by rw [hm]; exact wp1 (by omega)
    rw [w2,zam (show m<l.length by omega),Option.bind_some,if_neg]
    have:=hid _ (List.getElem_mem (show m<l.length by omega))
    simp only [decide_eq_true_eq]
    omega
  · rfl
theorem book_drop {l:List zac} {b:zac} (hl:l.length<17) (hid:∀x∈l,x.Id<b.Id):book_Drop 100 (l++[b]) b.Id=some (l,0):=by
  unfold book_Drop
  have hl2:(l++[b]).length=l.length+1:=by simp
  refine Ret.eq (lpS l.length (fun i x=>x=(i:Int)) (fun i x f hi hx hr=>?_) (fun x f hx=>?_) rfl (by omega))
  · subst hx
    have hi2:i<(l++[b]).length:=by omega
    have e:(l++[b])[i]=l[i]:=List.getElem_append_left hi
    have:=hid _ (List.getElem_mem hi)
    simp only [zcG hi2,if_true,zam hi2,Option.bind_some,e]
    rw [if_neg (by simp; omega),wr1 (by omega)]
    exact hr _ rfl
  · subst hx
    have hi2:l.length<(l++[b]).length:=by omega
    have e:(l++[b])[l.length]=b:=by simp
    have w1:IntKind.i64.wrap (((l++[b]).length:Int)-1)=(l.length:Int):=by rw [hl2]; exact wp1 (by omega)
    have w2:IntKind.i64.wrap ((l.length:Int)+1)=((l++[b]).length:Int):=by rw [hl2]; exact wr1 (by omega)
    have s1:slice? (l++[b]) 0 (l.length:Int)=some l:=by rw [slice_take (by omega)]; simp
    have s2:∀q:List zac,slice? q (q.length:Int) (q.length:Int)=some []:=fun q=>by
      unfold slice?
      rw [if_pos ⟨by omega,by omega,by omega⟩]
      simp
    have hc:cpL (List.replicate l.length ({ Id:=0,Node:=0,From:=0,To:=0 }:zac)) l 0 (List.replicate l.length ({ Id:=0,Node:=0,From:=0,To:=0 }:zac)).length=l:=cpL_same (by simp)
    simp only [zcG hi2,if_true,zam hi2,Option.bind_some,e,beq_self_eq_true,w1,w2,mk?]
    rw [if_pos (by omega),Option.bind_some,s1,Option.bind_some,Int.toNat_natCast,hc,s2,Option.bind_some,s2,Option.bind_some,cpL_nil]
    exact ⟨_,rfl,rfl⟩
theorem find_data {l:List zah} (hl:l.length≤40) (hs:SortedJ l) (id:Int) (n:Int):Ret (zbC 100 id n l) fun r=>(r.2=true↔∃j∈l,j.Id=id)∧(r.2=true→At l id r.1):=by
  unfold zbC
  rw [ret_bind]
  refine half hl hs id (fun j=>some (decide (j.Id<id))) (fun j hj=>rfl) (fun i=>some i) (fun i hi h1 h2=>?_) _ (fun f x=>?_)
  · rw [zab,zae]
    refine ⟨fun h=>?_,fun h=>?_⟩
    · simp only [decide_eq_true_eq] at h
      have hi':i<l.length:=by omega
      rw [zam hi',Option.bind_some,zab]
      simp only [beq_iff_eq]
      refine ⟨⟨fun e=>⟨_,List.getElem_mem hi',e⟩,fun ⟨j,hm,e⟩=>?_⟩,fun e=>⟨by omega,by simpa using hi',by simpa using e⟩⟩
      obtain ⟨k,hk,rfl⟩:=List.getElem_of_mem hm
      rcases Nat.lt_trichotomy k i with q | q | q
      · have:=h1 k hk q; omega
      · subst q; exact e
      · have:=hs.lt q hk; have:=h2 i hi' (by omega); omega
    · simp only [decide_eq_true_eq] at h
      simp only [zab,Bool.false_eq_true,false_iff,false_implies,and_true]
      rintro ⟨j,hm,e⟩
      obtain ⟨k,hk,rfl⟩:=List.getElem_of_mem hm
      have:=h1 k hk (by omega)
      omega
  · split
    · cases at? l (IntKind.i64.wrap (Int.fdiv (IntKind.u64.wrap (IntKind.i64.wrap (x.1+x.2))) (2 ^ 1))) with
      | none=>rfl
      | some a =>
        simp only [Option.bind_some,Bool.not_eq_true',decide_eq_false_iff_not,decide_eq_true_eq]
        by_cases hc:a.Id<id
        · rw [if_pos hc,if_pos (by omega)]
        · rw [if_neg hc,if_neg (by omega)]
    · rfl
theorem get_data {l:List zah} (hl:l.length≤40) (ha:∀j∈l,j.After.length≤10) (hs:SortedJ l) (id:Int) (n:Int):Ret (zbJ 100 id n l) fun r=>(r.2=true↔∃j∈l,j.Id=id)∧(r.2=true→r.1∈l∧r.1.Id=id):=by
  unfold zbJ
  refine (find_data hl hs id n).bind fun r hr=>?_
  rw [zae]
  refine ⟨fun h=>?_,fun h=>?_⟩
  · rw [zab]
    simp only [Bool.not_eq_true'] at h
    have:=hr.1
    rw [h] at this
    exact ⟨this,fun h=>by cases h⟩
  · simp only [Bool.not_eq_true',Bool.not_eq_false] at h
    have a:=hr.2 h
    obtain ⟨hx,e⟩:=at_int (l:=l) a.lo (by have:=a.lo; have:=a.hi; omega)
    have hm:=List.getElem_mem hx
    rw [e,Option.bind_some,own_job (by have:=ha _ hm; omega),Option.bind_some,zab]
    exact ⟨⟨fun _=>⟨_,hm,a.is⟩,fun _=>rfl⟩,fun _=>⟨hm,a.is⟩⟩
end Go.Plain
end
section
namespace Go.Plain
open Go.Abs
theorem job_uniq {s:zad} {st:zag} (J:JobsOk s st) {j k:zah} (hj:j∈st.Jobs) (hk:k∈st.Jobs) (e:j.Id=k.Id):j=k:=by
  obtain ⟨m,hm,rfl⟩:=List.getElem_of_mem hj
  obtain ⟨m',hm',rfl⟩:=List.getElem_of_mem hk
  have:=J.sorted.inj hm hm' e
  subst this
  rfl
theorem taken_ok {s:zad} {st:zag} (hw:FewW s st) (q:zb0 s st) (node frm:Int) {F a3 a4 a5 a6 a7 a8 a9 a10 a11 a12 a13 a14 a15 a16 a17 a18 a19 a20 a21 a22 a23 a24 a25 a26 a27 a28} :
    zaU (zbq 100 (st.Allocs.map fun a=>(a.Job,a)) node frm a3 a4 a5 a6 a7 a8 a9 a10 a11 a12 a13 a14 a15 a16 a17 a18 a19 a20 a21 a22 a23 a24 a25 a26 a27 a28 st.Jobs F) (∃a∈st.Allocs,TakenBy st node frm a):=by
  have hl:=hw.jobs; have hal:=hw.allocs
  unfold zbq
  rw [show zas 100 (st.Allocs.map fun a=>(a.Job,a)) F=some st.Allocs from all_allocs hw.allocs (asc_of q) (alloc_ids q) hw.shares F,Option.bind_some]
  refine lpA st.Allocs (fun _ a=>¬TakenBy st node frm a) (fun i f hi _ hr=>?_) (fun f h=>?_) (by omega)
  · have ha:=List.getElem_mem hi
    have hsh:=hw.shares _ ha
    simp only [zaW,zcG hi,if_true,zam hi,Option.bind_some,wr1 (show i<1000000 by omega)]
    refine (get_data (by omega) hw.after q.jobs.sorted st.Allocs[i].Job _).bind fun r hr1=>?_
    rw [zae]
    refine ⟨fun h=>hr fun ⟨j,hj,e,_,hlt⟩=>?_,fun h=>?_⟩
    · have h2:=hr1.1.2 ⟨j,hj,e⟩
      obtain ⟨h3,h4⟩:=hr1.2 h2
      have:r.1=j:=job_uniq q.jobs h3 hj (by rw [h4,e])
      have jo:=(q.jobs.each j hj).ok
      have:=jo.start; have:=jo.wall
      simp only [h2,Bool.not_true,Bool.false_or,decide_eq_true_eq] at h
      rw [‹r.1=j›,wr (by omega) (by omega)] at h
      omega
    · simp only [Bool.or_eq_true,decide_eq_true_eq,not_or,Bool.not_eq_true',Bool.not_eq_false] at h
      obtain ⟨h3,h4⟩:=hr1.2 h.1
      have jo:=(q.jobs.each r.1 h3).ok
      have:=jo.start; have:=jo.wall
      have hlt:=h.2
      rw [wr (by omega) (by omega)] at hlt
      have has:zaU ((lpX (fun f9 (x8:Int)=>
              if (decide (x8<(st.Allocs[i].Shares.length:Int)))=true then
                (at? st.Allocs[i].Shares x8).bind fun a10=>
                if (a10.Node == node)=true then
                  some x8
                else
                  f9 (IntKind.i64.wrap (x8+1))
              else
                some (-1)) 100 0).bind fun x12=>some (decide (x12≥0))) (∃x∈st.Allocs[i].Shares,x.Node=node):=by
        rw [zaU,ret_bind]
        refine lpA st.Allocs[i].Shares (fun _ x=>x.Node≠node) (fun m g hm _ hg=>?_) (fun g hg=>?_) (by omega)
        · simp only [zcG hm,if_true,zam hm,Option.bind_some,wr1 (show m<1000000 by omega),zae,beq_iff_eq,zab,decide_eq_true_eq]
          exact ⟨fun e=>⟨fun _=>⟨_,List.getElem_mem hm,e⟩,fun _=>by omega⟩,fun e=>(hg e).mono fun b hb=>by simpa only [zab,decide_eq_true_eq] using hb⟩
        · simp only [zcT,Bool.false_eq_true,if_false,zab,decide_eq_true_eq]
          exact ⟨fun h=>by omega,fun ⟨x,hx,e⟩=>absurd e (zbF (A:=fun x=>x.Node≠node) hg x hx)⟩
      refine has.bind fun r3 hr3=>?_
      rw [zae]
      refine ⟨fun h5=>yes_t ⟨_,ha,r.1,h3,h4,hr3.1 h5,by omega⟩,fun h5=>hr fun ⟨j,hj,e,hx,_⟩=>h5 (hr3.2 hx)⟩
  · simp only [zcT,Bool.false_eq_true,if_false]
    exact no_f fun ⟨a,ha,t⟩=>zbF (A:=fun a=>¬TakenBy st node frm a) h a ha t
theorem admit_ok {s:zad} (hs:FewS s) (k:SpecOk s) (u:Int) (rq:zaG) (hk:rq.Kind=11∨rq.Kind=12) {M F b1 b2 b3 b4 b5 b6 b7 b8 b9} :
    Ret (zbg 100 M 0 u rq.Kind rq.Key rq.Job rq.Version rq.Queue rq.Many rq.Need.Cpu rq.Need.Mem rq.Need.Gpu rq.Need.Lic rq.Wall rq.Tasks rq.After rq.Node rq.From rq.To rq.Id 0 s.Nodes s.Parts s.Queues s.Users s.Weights.Age s.Weights.Size s.Weights.Qos s.Weights.Share s.Decay s.Mode s.Jobs s.Ids s.Versions s.Linger s.Keep s.In s.Out s.Cache b1 b2 b3 b4 b5 b6 b7 b8 b9 F) fun r=>r=0↔u=0:=by
  have hu:=k.users
  unfold zbg
  simp only [zaW,zaj]
  rw [if_neg (by simp; omega)]
  rw [spec_shown hs,Option.bind_some]
  by_cases h1:u<0
  · rw [if_pos (by simpa using h1)]
    simp only [if_true,beq_self_eq_true,Option.bind_some]
    rw [if_pos (by simp; omega)]
    simp [zab]
    omega
  · rw [if_neg (by simpa using h1)]
    by_cases h2:u≥s.Users
    · rw [if_pos (by simpa using h2)]
      simp only [if_true,beq_self_eq_true,Option.bind_some]
      rw [if_pos (by simp; omega)]
      simp [zab]
      omega
    · rw [if_neg (by simpa using h2)]
      by_cases h3:u=0
      · subst h3
        simp [zab]
      · rw [if_pos (by simpa using h3)]
        simp [zab,h3]
def bk (st:zag) (rq:zaG):zac:={ Id:=st.Book,Node:=rq.Node,From:=rq.From,To:=rq.To }
structure DoneR (s:zad) (st:zag) (u:Int) (rq:zaG):Prop where
  user:u=0
  one:OneB s.Nodes.length (bk st rq)
  free:¬∃x∈st.Books,MeetsB x rq.Node rq.From rq.To
  mine:¬∃a∈st.Allocs,TakenBy st rq.Node rq.From a
  room:st.Books.length<16
  low:st.Book<281474976710656
  now:st.Now≤rq.From
theorem store_reserve {s:zad} {st:zag} (hw:FewW s st) (q:zb0 s st) (rq:zaG) {F} :
    Ret (zaN 100 (st.Allocs.map fun a=>(a.Job,a)) rq.Node rq.From rq.To s.Nodes s.Parts s.Queues s.Users s.Weights.Age s.Weights.Size s.Weights.Qos s.Weights.Share s.Decay s.Mode s.Jobs s.Ids s.Versions s.Linger s.Keep s.In s.Out s.Cache st.Now st.Next st.Book st.Books st.Use st.Stamps.Queues st.Stamps.Nodes s.Jobs st.Jobs F) fun r=>(r.2.1≠0∧r.2.2=(st.Book,st.Books))∨(r=(st.Book,0,st.Book+1,st.Books++[bk st rq])∧DoneR s st 0 rq):=by
  have hn:=q.nums.now; have hb:=q.nums.book
  unfold zaN
  simp only [zaW]
  rw [zae]
  refine ⟨fun h=>by rw [zab]; exact .inl ⟨by simp,rfl⟩,fun h=>?_⟩
  simp only [Bool.or_eq_true,decide_eq_true_eq,not_or] at h
  rw [zae]
  refine ⟨fun h=>by rw [zab]; exact .inl ⟨by simp,rfl⟩,fun h2=>?_⟩
  simp only [Bool.or_eq_true,decide_eq_true_eq,not_or] at h2
  refine (book_meets st.Books rq.Node rq.From rq.To (by omega)).bind fun r1 hr1=>?_
  rw [zae]
  refine ⟨fun h=>by simp only [if_true]; rw [zab]; exact .inl ⟨by simp,rfl⟩,fun h3=>?_⟩
  refine (taken_ok hw q rq.Node rq.From).bind fun r2 hr2=>?_
  rw [zae]
  refine ⟨fun h=>by rw [zab]; exact .inl ⟨by simp,rfl⟩,fun h4=>?_⟩
  have one:OneB s.Nodes.length (bk st rq):=⟨⟨hb.1,hb.2⟩,⟨by simp only [bk]; omega,by simp only [bk]; omega⟩,by simp only [bk]; omega,by simp only [bk]; omega,by simp only [bk]; omega⟩
  have D:DoneR s st 0 rq:=⟨rfl,one,fun m=>h3 (hr1.2 m),fun t=>h4 (hr2.2 t),by omega,by omega,by omega⟩
  rw [show book_Add 100 st.Books (s.Nodes.length:Int) ({ Id:=st.Book,Node:=rq.Node,From:=rq.From,To:=rq.To }:zac)=some (st.Books++[bk st rq],0) from book_add (b:=bk st rq) (by omega) q.booked.books one (fun x hx=>(q.booked.live x hx).1) D.free,Option.bind_some,if_neg (by simp),zab,wr (by omega) (by omega)]
  exact .inr ⟨rfl,D⟩
theorem order_reserve {s:zad} {st:zag} (hw:FewW s st) (q:zb0 s st) (u:Int) (rq:zaG) {F} :
    Ret (zaZ 100 (st.Allocs.map fun a=>(a.Job,a)) 0 u rq.Kind rq.Key rq.Job rq.Version rq.Queue rq.Many rq.Need.Cpu rq.Need.Mem rq.Need.Gpu rq.Need.Lic rq.Wall rq.Tasks rq.After rq.Node rq.From rq.To rq.Id 0 s.Nodes s.Parts s.Queues s.Users s.Weights.Age s.Weights.Size s.Weights.Qos s.Weights.Share s.Decay s.Mode s.Jobs s.Ids s.Versions s.Linger s.Keep s.In s.Out s.Cache st.Now st.Next st.Book st.Books st.Use st.Stamps.Queues st.Stamps.Nodes s.Jobs st.Jobs F) fun x=>(x.1≠0∧x.2.2=(st.Book,st.Books))∨(x=(0,st.Book,st.Book+1,st.Books++[bk st rq])∧DoneR s st 0 rq):=by
  unfold zaZ
  simp only [zaW,zaj,beq_self_eq_true,if_true,Option.bind_some]
  rw [spec_shown hw.spec,Option.bind_some]
  have last:Ret (if (decide (rq.To > 1099511627776))=true then some ((38:Int),(0:Int),st.Book,st.Books) else (zaN 100 (st.Allocs.map fun a=>(a.Job,a)) rq.Node rq.From rq.To s.Nodes s.Parts s.Queues s.Users s.Weights.Age s.Weights.Size s.Weights.Qos s.Weights.Share s.Decay s.Mode s.Jobs s.Ids s.Versions s.Linger s.Keep s.In s.Out s.Cache st.Now st.Next st.Book st.Books st.Use st.Stamps.Queues st.Stamps.Nodes s.Jobs st.Jobs F).bind fun x5=>some (x5.2.1,x5.1,x5.2.2.1,x5.2.2.2)) fun x=>(x.1≠0∧x.2.2=(st.Book,st.Books))∨(x=(0,st.Book,st.Book+1,st.Books++[bk st rq])∧DoneR s st 0 rq):=by
    rw [zae]
    refine ⟨fun h=>by rw [zab]; exact .inl ⟨by simp,rfl⟩,fun h=>?_⟩
    refine (store_reserve hw q rq).bind fun x hx=>?_
    rw [zab]
    rcases hx with ⟨h1,h2⟩ | ⟨rfl,D⟩
    · exact .inl ⟨h1,h2⟩
    · exact .inr ⟨rfl,D⟩
  rw [zae]
  refine ⟨fun h=>by rw [zab]; exact .inl ⟨by simp,rfl⟩,fun h=>?_⟩
  rw [zae]
  exact ⟨fun h=>by rw [zab]; exact .inl ⟨by simp,rfl⟩,fun h=>last⟩
theorem do_reserve {s:zad} {st:zag} (hw:FewW s st) (q:zb0 s st) (u:Int) (rq:zaG) (hk:rq.Kind=11) {F} :
    Ret (za3 100 (st.Allocs.map fun a=>(a.Job,a)) u rq s.Nodes s.Parts s.Queues s.Users s.Weights.Age s.Weights.Size s.Weights.Qos s.Weights.Share s.Decay s.Mode s.Jobs s.Ids s.Versions s.Linger s.Keep s.In s.Out s.Cache st.Now st.Next st.Book st.Books st.Use st.Stamps.Queues st.Stamps.Nodes s.Jobs st.Jobs F) fun r=>(r.1.Err≠0∧r.2=(st.Book,st.Books))∨(r=(({ Key:=rq.Key,Err:=0,Job:=st.Book,Version:=0,Nums:=[] }:za9),st.Book+1,st.Books++[bk st rq])∧DoneR s st u rq):=by
  unfold za3
  refine (admit_ok hw.spec q.spec u rq (.inl hk)).bind fun r hr=>?_
  simp only [zaW,zcO,Option.bind_some]
  rw [zae]
  refine ⟨fun h=>?_,fun h=>?_⟩
  · simp only [beq_iff_eq] at h
    have u0:=hr.1 h
    rw [if_pos (by simp [hk]),h]
    refine (order_reserve hw q u rq).bind fun x hx=>?_
    rcases hx with ⟨h1,h2⟩ | ⟨rfl,D⟩
    · rw [if_pos (by simpa using h1),zab]
      exact .inl ⟨h1,h2⟩
    · rw [if_neg (by simp),zab]
      exact .inr ⟨rfl,by rw [u0]; exact D⟩
  · simp only [beq_iff_eq] at h
    rw [if_pos (by simpa using h),zab]
    exact .inl ⟨h,rfl⟩
theorem do_unreserve {s:zad} {st:zag} (hw:FewW s st) (q:zb0 s st) (rq:zaG) (hk:rq.Kind=12) {b:zac} (hb:b.Id=st.Book) (hid:rq.Id=st.Book) (n:Int) {F} :
    za3 100 (st.Allocs.map fun a=>(a.Job,a)) 0 rq s.Nodes s.Parts s.Queues s.Users s.Weights.Age s.Weights.Size s.Weights.Qos s.Weights.Share s.Decay s.Mode s.Jobs s.Ids s.Versions s.Linger s.Keep s.In s.Out s.Cache st.Now st.Next n (st.Books++[b]) st.Use st.Stamps.Queues st.Stamps.Nodes s.Jobs st.Jobs F=some (({ Key:=rq.Key,Err:=0,Job:=st.Book,Version:=0,Nums:=[] }:za9),n,st.Books):=by
  unfold za3
  refine Ret.eq ((admit_ok hw.spec q.spec 0 rq (.inr hk)).bind fun r hr=>?_)
  have h:=hr.2 rfl
  subst h
  simp only [zaW,zcO,Option.bind_some,beq_self_eq_true,if_true]
  rw [if_neg (by simp [hk]),if_pos (by simp [hk])]
  unfold zbp zbw
  have:=book_drop (l:=st.Books) (b:=b) (by have:=hw.books; have:=q.booked.books.len; omega) (fun x hx=>by rw [hb]; exact (q.booked.live x hx).1)
  rw [hid,←hb,this]
  simp [zaj,zab]
end Go.Plain
end
section
namespace Go.Plain
open Go.Abs
def withB (st:zag) (n:Int) (l:List zac):zag:={ Now:=st.Now,Next:=st.Next,Book:=n,Jobs:=st.Jobs,Allocs:=st.Allocs,Books:=l,Use:=st.Use,Stamps:=st.Stamps }
theorem shown2 {s:zad} {st:zag} (hw:FewW s st) (q:zb0 s st) {n:Int} {l:List zac} (hl2:l.length≤40) {a1 a2 a3 a4 a5 a6 a7 a8 a9 a10 a11 a12 a13 a14 a15 a16 a17 a18 a26 F} :
    zaw 100 (st.Allocs.map fun a=>(a.Job,a)) a1 a2 a3 a4 a5 a6 a7 a8 a9 a10 a11 a12 a13 a14 a15 a16 a17 a18 st.Now st.Next n l st.Use st.Stamps.Queues st.Stamps.Nodes a26 st.Jobs F=some (withB st n l):=by
  have hl:=hw.jobs; have hu:=hw.use; have hs:=hw.stamps
  unfold zaw
  rw [all_jobs (by omega) hw.after,Option.bind_some,show zas 100 (st.Allocs.map fun a=>(a.Job,a)) F=some st.Allocs from all_allocs hw.allocs (asc_of q) (alloc_ids q) hw.shares F,Option.bind_some,clone_books (by omega),Option.bind_some,zdp (by omega),Option.bind_some,zdp (by omega),Option.bind_some]
  rfl
theorem few24 (c:api_Call):Ret (zdm 100 [c]) fun _=>True:=by
  unfold zdm
  rw [if_neg (by simp)]
  refine lpA [c] (fun _ _=>True) (fun i f h _ hr=>?_) (fun f h=>?_) (by simp)
  · simp only [zcG h,if_true,zam h,Option.bind_some,wr1 (show i<1000000 by simp at h; omega),zae,zab]
    exact ⟨fun _=>trivial,fun _=>hr trivial⟩
  · simp only [zcT,Bool.false_eq_true,if_false,zab]
theorem same_reply (k j:Int):zbs 100 ({ Key:=k,Err:=0,Job:=j,Version:=0,Nums:=[] }:za9) ({ Key:=k,Err:=0,Job:=j,Version:=0,Nums:=[] }:za9)=some true:=by
  unfold zbs
  rw [if_pos (by simp),same_ints [] (by simp),Option.bind_some]
theorem awake28:drayagelaw28xawake 100=some true:=by kernel_rfl
theorem taken_after {s:zad} {st:zag} (hw:FewW s st) (q:zb0 s st) {n:Int} {l:List zac} (hl:l.length≤20) {node frm:Int} (h:¬∃a∈st.Allocs,TakenBy st node frm a):zaX 100 (withB st n l) node frm=some false:=by
  have R:=(to_ref q.spec q.jobs q.allocs).1
  have hw2:FewW s (withB st n l):=⟨hw.spec,hw.jobs,hw.after,hw.allocs,hl,hw.use,hw.stamps,hw.shares⟩
  have R2:zcb s (withB st n l):=⟨fun i hi=>⟨(R.each i hi).up,(R.each i hi).job,(R.each i hi).shares,(R.each i hi).need⟩,R.fit⟩
  have J2:JobsOk s (withB st n l):=⟨q.jobs.len,fun j hj=>let p:=q.jobs.each j hj; ⟨p.ok,p.next,p.user,p.queue,p.born,p.start,p.fin,p.version⟩,q.jobs.sorted⟩
  obtain ⟨r,e,hr⟩:=ref_taken hw2 R2 node frm
  have:r=false:=by
    cases r with
    | false=>rfl
    | true=>exact absurd ((hr J2).1 rfl) h
  rw [e,this]
theorem meets_no {l:List zac} (hl:l.length≤40) {node p q:Int} (h:¬∃x∈l,MeetsB x node p q):zaz 100 l node p q=some false:=by
  obtain ⟨r,e,hr⟩:=ref_meets l node p q hl
  have:r=false:=by
    cases r with
    | false=>rfl
    | true=>exact absurd (hr.1 rfl) h
  rw [e,this]
theorem meets_yes {l:List zac} (hl:l.length≤40) {node p q:Int} (h:∃x∈l,MeetsB x node p q):zaz 100 l node p q=some true:=by
  obtain ⟨r,e,hr⟩:=ref_meets l node p q hl
  rw [e,hr.2 h]
theorem reserveFree (w:zcr) (c:api_Call):zbX 100 w c=some true:=by
  unfold zbX
  rw [awake28,Option.bind_some,if_neg (by simp)]
  obtain ⟨s,st⟩:=w
  dsimp only [zaW]
  obtain ⟨r,e,h⟩:=few23 s st
  rw [e,Option.bind_some]
  cases r with
  | false=>rfl
  | true =>
    have hw:=h rfl
    obtain ⟨r2,e2,_⟩:=few24 c
    rw [if_neg (by simp),e2,Option.bind_some]
    by_cases hc:(!r2 || c.Request.Kind != 11)=true
    · rw [if_pos hc]
    rw [if_neg hc]
    simp only [Bool.or_eq_true,bne_iff_ne,ne_eq,not_or,Decidable.not_not] at hc
    by_cases q:zb0 s st
    · obtain ⟨F,eo⟩:=law_of_ok hw q
      rw [eo,Option.bind_some]
      dsimp only
      rw [if_neg (by simp)]
      obtain ⟨x,ex,hx⟩:=do_reserve hw q c.User c.Request hc.2 (F:=F)
      rw [ex,Option.bind_some]
      have hbk:=q.booked.books.len
      rcases hx with ⟨h1,h2⟩ | ⟨rfl,D⟩
      · rw [h2]
        dsimp only
        rw [shown2 hw q (by omega),Option.bind_some,if_pos (by simpa using h1)]
        rw [show withB st st.Book st.Books=st from rfl,same_state hw]
        rfl
      · dsimp only
        have u0:=D.user
        have roo:=D.room
        have hl2:(st.Books++[bk st c.Request]).length≤20:=by simp; omega
        rw [shown2 hw q (by omega),Option.bind_some,if_neg (by simp),if_neg (by simp [u0]),taken_after hw q hl2 D.mine,Option.bind_some,if_neg (by simp),meets_no (by omega) D.free,Option.bind_some,if_neg (by simp)]
        rw [show (withB st (st.Book+1) (st.Books++[bk st c.Request])).Books=st.Books++[bk st c.Request] from rfl,meets_yes (l:=st.Books++[bk st c.Request]) (node:=c.Request.Node) (p:=c.Request.From) (q:=c.Request.To) (by omega) ⟨bk st c.Request,by simp,⟨rfl,D.one.span,D.one.span,D.one.span,D.one.span⟩⟩,Option.bind_some,if_neg (by simp)]
        rw [do_unreserve hw q _ rfl (b:=bk st c.Request) rfl rfl,Option.bind_some]
        dsimp only
        rw [shown2 hw q (by omega),Option.bind_some,same_reply,Option.bind_some,if_pos rfl]
        rw [show ({ Now:=(withB st (st.Book+1) st.Books).Now,Next:=(withB st (st.Book+1) st.Books).Next,Book:=st.Book,Jobs:=(withB st (st.Book+1) st.Books).Jobs,Allocs:=(withB st (st.Book+1) st.Books).Allocs,Books:=(withB st (st.Book+1) st.Books).Books,Use:=(withB st (st.Book+1) st.Books).Use,Stamps:=(withB st (st.Book+1) st.Books).Stamps }:zag)=st from rfl,same_state hw]
        rfl
    · rw [law_of_no hw q,Option.bind_some]
      rfl
end Go.Plain
end
