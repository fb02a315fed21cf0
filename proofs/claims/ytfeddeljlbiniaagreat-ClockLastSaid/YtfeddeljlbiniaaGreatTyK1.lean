/- Usage at a tick; steps of a store told exactly. -/
import Derived.Test.YtfeddeljlbiniaaGreatTyQA
set_option linter.all false
namespace Go.Plain
open Go.Abs
theorem hold_ret (x:Int) {a b:Int} (h:a≤b):Ret (zbr 1000 x a b) fun r=>a≤r∧r≤b:=by
 unfold zbr
 simp only [zaf,zad,decide_eq_true_eq]
 exact ⟨fun _=>by omega,fun _=>⟨fun _=>by omega,fun _=>by omega⟩⟩
theorem charge_ret (j:zab):Ret (job_Charge 1000 j) fun _=>True:=by
 unfold job_Charge
 simp only [zaQ]
 refine (job_right j).bind fun r _=>?_
 rw [zaf]
 refine ⟨fun _=>by simp only [if_true]; exact zad.2 trivial,fun _=>?_⟩
 rw [life_has,Option.bind_some,zaf]
 exact ⟨fun _=>zad.2 trivial,fun _=>zad.2 trivial⟩
theorem charges_ret {J:List zab} (hl:J.length≤300) (u:Int):Ret (share_Charges 1000 J u) fun r=>r.length≤8:=by
 unfold share_Charges share_New_o710e
 rw [ret_bind,ret_bind]
 refine (hold_ret u (a:=0) (b:=8) (by omega)).mono fun r hr=>?_
 unfold mk?
 rw [if_pos (by omega),Option.bind_some,zad]
 refine lpS J.length (fun i x=>x.1=(i:Int)∧x.2.length≤8) (fun i x f hi hx hr=>?_) (fun x f hx=>?_) ⟨rfl,by simp; omega⟩ (by omega)
 ·obtain ⟨x1,x2⟩:=x
  obtain ⟨rfl,h2⟩:=hx
  dsimp only at h2 ⊢
  simp only [zaQ,zcs hi,if_true,zal hi,Option.bind_some,wr1 (show i<1000000 by omega)]
  rw [zaf]
  refine ⟨fun hc=>?_,fun _=>hr _ ⟨rfl,h2⟩⟩
  simp only [Bool.and_eq_true,decide_eq_true_eq] at hc
  obtain ⟨h',e⟩:=at_int (l:=x2) hc.1 hc.2
  rw [e,Option.bind_some]
  refine (charge_ret _).bind fun c _=>?_
  rw [Option.bind_some]
  exact hr _ ⟨rfl,by simpa using h2⟩
 ·obtain ⟨x1,x2⟩:=x
  obtain ⟨rfl,h2⟩:=hx
  dsimp only at h2 ⊢
  simp only [zcr,Bool.false_eq_true,if_false,zad]
  exact h2
def UseR (U:List Int):Prop:=∀x∈U,0≤x∧x≤1099511627776
theorem utick_ok {U C:List Int} (hU:U.length≤20) (d:Int):Ret (share_Tick 1000 U C d) fun r=>r.length=U.length∧UseR r:=by
 unfold share_Tick
 refine (hold_ret d (a:=1) (b:=16) (by omega)).bind fun k hk=>?_
 unfold mk?
 rw [if_pos (by omega),Option.bind_some]
 refine lpS U.length (fun i (x:Int×List Int)=>x.1=(i:Int)∧x.2.length=U.length∧∀m (h:m<x.2.length),m<i→0≤x.2[m]∧x.2[m]≤1099511627776) (fun i x f hi hx hr=>?_) (fun x f hx=>?_) ⟨rfl,by simp,fun m h hm=>by omega⟩ (by omega)
 ·obtain ⟨x1,x2⟩:=x
  obtain ⟨rfl,h2,h3⟩:=hx
  dsimp only at h2 h3 ⊢
  simp only [zaQ,zcs hi,if_true,zal hi,Option.bind_some,wr1 (show i<1000000 by omega)]
  refine (hold_ret U[i] (a:=0) (b:=1099511627776) (by omega)).bind fun a ha=>?_
  unfold shr?
  rw [if_neg (by omega),Option.bind_some]
  have hp:(0:Int)<2 ^ min k.toNat IntKind.i64.bits:=Int.pow_pos (by omega)
  have e:=Int.fdiv_eq_ediv_of_nonneg a (Int.le_of_lt hp)
  have q1:0≤a.fdiv (2 ^ min k.toNat IntKind.i64.bits):=by rw [e]; exact Int.ediv_nonneg ha.1 (Int.le_of_lt hp)
  have q2:a.fdiv (2 ^ min k.toNat IntKind.i64.bits)≤a:=by rw [e]; exact Int.ediv_le_self _ ha.1
  generalize a.fdiv (2 ^ min k.toNat IntKind.i64.bits)=q at q1 q2 ⊢
  rw [wr (x:=a-q) (by omega) (by omega)]
  have go:∀n:Int,0≤n→Ret ((at? x2 (i:Int)).bind fun a10=>f (((i+1:Nat):Int),(x2.set (i:Int).toNat (if 1099511627776<n then 1099511627776 else n)))) fun r=>r.length=U.length∧UseR r:=fun n hn=>by
   rw [zal (by omega),Option.bind_some]
   refine hr _ ⟨rfl,by simpa using h2,fun m h hm=>?_⟩
   dsimp only at h ⊢
   simp only [Int.toNat_natCast,List.getElem_set]
   by_cases em:i=m
   ·simp only [em,if_true]
    split <;> omega
   ·simp only [em,if_false]
    exact h3 m (by simpa using h) (by omega)
  rw [zaf]
  refine ⟨fun hc=>?_,fun _=>go _ (by omega)⟩
  simp only [decide_eq_true_eq] at hc
  obtain ⟨h',e⟩:=at_int (l:=C) (x:=(i:Int)) (by omega) hc
  rw [e,Option.bind_some]
  refine (hold_ret _ (a:=0) (b:=1099511627776) (by omega)).bind fun c hc=>?_
  rw [wr (x:=a-q+c) (by omega) (by omega)]
  exact go _ (by omega)
 ·obtain ⟨x1,x2⟩:=x
  obtain ⟨rfl,h2,h3⟩:=hx
  dsimp only at h2 h3 ⊢
  simp only [zcr,Bool.false_eq_true,if_false,zad]
  refine ⟨h2,fun y hy=>?_⟩
  obtain ⟨m,hm,rfl⟩:=List.getElem_of_mem hy
  exact h3 m hm (by omega)
section
variable {s:zae} {n:Nat} {now next book:Int} {B:List zag} {U:List Int} {nd:Int} {F:List zaa} {Q:List Int} {L:List (Int×zac)} {J:List zab}
theorem step_exact (k:SpecOk s) (h:QI s n now next book B U nd F Q L J) {i:Nat} (hi:i<J.length) {what:Int} (h3:what≠3) {ns:Int} (hns:nextS J[i].State what=some ns) (hv:J[i].Version<281474976710656) (ok:Bool) :
  ∃L' nd' F',zaH 1000 Q J L J[i].Id what ok now nd F=some (stampL Q J[i].Queue,J.set i (stepR J[i] what now ok ns),L',0,nd',F')∧QI s n now next book B U nd' F' (stampL Q J[i].Queue) L' (J.set i (stepR J[i] what now ok ns)):=by
 have hl:=h.jl' k
 have hfl:=h.fl
 have hm:=List.getElem_mem hi
 have jo:=h.ok _ hm
 have ha:=jo.afterN
 have jo':=step_jobok jo h.now ok hns hv
 have hQ:(stepR J[i] what now ok ns).Queue=J[i].Queue:=rfl
 have base:∀{nd':Int} {F':List zaa} {L':List (Int×zac)},0≤nd'→F'.length=F.length→(∀r∈F',VecOk r)→LedOk n F'.length L'→QI s n now next book B U nd' F' (stampL Q J[i].Queue) L' (J.set i (stepR J[i] what now ok ns)):=fun {nd' F' L'} b1 b2 b3 b4=>h.set hi (j:=stepR J[i] what now ok ns) rfl jo' b1 b2 b3 b4
 have eQ:changeQ Q J[i].Queue (stepR J[i] what now ok ns).Queue=stampL Q J[i].Queue:=if_pos rfl
 have nope:=base h.nd rfl h.fv h.led
 unfold zaH
 rw [get_some (by omega) h.srt hi (by omega),Option.bind_some]
 dsimp only
 rw [if_neg (by simp),if_neg (by simpa using h3)]
 obtain ⟨r,er,hr⟩:=job_step jo h.now ok (what:=what)
 rcases hr with ⟨q,hc⟩ | ⟨ns',hns',_,rfl⟩
 ·rcases hc with hc | hc
  ·rw [hns] at hc; cases hc
  ·omega
 rw [hns] at hns'
 injection hns' with e
 subst e
 rw [er,Option.bind_some]
 dsimp only
 rw [if_neg (by simp),change_set (by omega) h.srt hi jo' (j:=stepR J[i] what now ok ns) rfl h.qin,Option.bind_some]
 dsimp only [zaQ]
 rw [if_neg (by simp),life_has,Option.bind_some,eQ]
 by_cases c1:HasS J[i].State
 ·rw [if_pos (by simpa using c1),life_has,Option.bind_some]
  by_cases c2:HasS (stepR J[i] what now ok ns).State
  ·rw [if_neg (by simpa using c2)]
   exact ⟨_,_,_,rfl,nope⟩
  ·rw [if_pos (by simpa using c2)]
   obtain ⟨g,eg,g1,g2,g3⟩:=give_gen h.led (by omega) h.fv J[i].Id
   rw [eg,Option.bind_some,after_ok h.nd,Option.bind_some]
   exact ⟨_,_,_,rfl,base (nd':=aftV nd) (by have:=h.nd; unfold aftV; split <;> omega) g2 g3 g1⟩
 ·rw [if_neg (by simpa using c1),if_neg (by simp)]
  exact ⟨_,_,_,rfl,nope⟩
def NotAw (id:Int) (J:List zab):Prop:=∀j∈J,¬OverS j.State→∀d∈j.After,d.Job≠id
theorem awaited_no (id:Int) {J:List zab} (hl:J.length≤300) (ha:∀j∈J,j.After.length≤10):Ret (deps_Awaited 1000 id J) fun b=>b=false→NotAw id J:=by
 unfold deps_Awaited
 refine lpA J (fun _ j=>¬OverS j.State→∀d∈j.After,d.Job≠id) (fun i f hi _ hr=>?_) (fun f h=>?_) (by omega)
 ·have hj:=ha _ (List.getElem_mem hi)
  simp only [zaQ,zcs hi,if_true,zal hi,Option.bind_some,wr1 (show i<1000000 by omega),life_over]
  rw [zaf]
  refine ⟨fun ho=>hr fun h=>absurd (by simpa using ho) h,fun _=>?_⟩
  refine lpA J[i].After (fun _ d=>d.Job≠id) (fun m g hm _ hg=>?_) (fun g hg=>?_) (by omega)
  ·simp only [zcs hm,if_true,zal hm,Option.bind_some,wr1 (show m<1000000 by omega)]
   rw [zaf]
   exact ⟨fun _=>zad.2 (by simp),fun e=>hg (by simpa using e)⟩
  ·simp only [zcr,Bool.false_eq_true,if_false]
   exact hr fun _=>zbX (A:=fun d:api_Dep=>d.Job≠id) hg
 ·simp only [zcr,Bool.false_eq_true,if_false,zad]
  exact fun _=>zbX (A:=fun j:zab=>¬OverS j.State→∀d∈j.After,d.Job≠id) h
theorem drop_exact (k:SpecOk s) (h:QI s n now next book B U nd F Q L J) (id:Int):Ret (zb0 1000 J id) fun r=>match r with | .inl x=>x.1=J | .inr x=>∃i,∃hi:i<J.length,J[i].Id=id∧OverS J[i].State∧NotAw id J∧x.2=J.take i++J.drop (i+1)∧QI s n now next book B U nd F Q L x.2:=by
 have hl:=h.jl' k
 have haf:∀j∈J,j.After.length≤10:=fun j hj=>by have:=(h.ok j hj).afterN; omega
 unfold zb0
 rcases job_em J id with ⟨i,hi,e⟩ | hno
 ·subst e
  have hm:=List.getElem_mem hi
  have jo:=h.ok _ hm
  have ha:=jo.afterN; have hv:=jo.version
  rw [get_some (by omega) h.srt hi (by omega),Option.bind_some]
  dsimp only [zaQ]
  rw [if_neg (by simp),life_over,Option.bind_some,zaf]
  refine ⟨fun _=>by rw [if_pos rfl,zad],fun ho=>?_⟩
  simp only [Bool.not_eq_true',decide_eq_false_iff_not,Decidable.not_not] at ho
  rw [all_jobs (by omega) haf,Option.bind_some]
  refine (awaited_no J[i].Id (by omega) haf).bind fun r hr=>?_
  rw [zaf]
  refine ⟨fun _=>by rw [zad],fun hb=>?_⟩
  have hnw:=hr (by simpa using hb)
  unfold zcL
  rw [find_some (by omega) h.srt hi,Option.bind_some]
  dsimp only
  rw [if_neg (by simp),wr1 (by omega)]
  unfold zbl del?
  rw [if_pos ⟨by omega,by omega,by omega,by omega⟩,Option.bind_some,Option.bind_some,zad]
  dsimp only
  rw [Int.toNat_natCast,Int.toNat_natCast]
  exact ⟨i,hi,rfl,ho,hnw,rfl,{ h with jl:=by have:=h.jl; simp; omega,srt:=sorted_del h.srt hi,ok:=fun x hx=>h.ok x (del_mem hx),ids:=fun x hx=>h.ids x (del_mem hx) }⟩
 ·rw [get_none (by omega) h.srt hno,Option.bind_some]
  dsimp only
  rw [if_pos (by simp),zad]
theorem lost_ret {j:zab} {J:List zab} (hl:J.length≤300) (ha:j.After.length≤10):Ret (deps_Lost 1000 j J) fun b=>b=true→j.After≠[]:=by
 unfold deps_Lost
 refine lpS j.After.length (fun i x=>x=(i:Int)) (fun i x f hi hx hr=>?_) (fun x f hx=>?_) rfl (by omega)
 ·subst hx
  have hne:j.After≠[]:=fun e=>by rw [e] at hi; simp at hi
  simp only [zaQ,zcs hi,if_true,zal hi,Option.bind_some,wr1 (show i<1000000 by omega)]
  have find:Ret (deps_find 1000 j.After[i].Job J) fun _=>True:=by
   unfold deps_find
   refine lpS J.length (fun i x=>x=(i:Int)) (fun m x g hm hx hg=>?_) (fun x g hx=>?_) rfl (by omega)
   ·subst hx
    simp only [zcs hm,if_true,zal hm,Option.bind_some,wr1 (show m<1000000 by omega)]
    rw [zaf]
    exact ⟨fun _=>zad.2 trivial,fun _=>hg _ rfl⟩
   ·subst hx
    simp only [zcr,Bool.false_eq_true,if_false,zad]
  refine find.bind fun r _=>?_
  have fin:∀c:Bool,Ret (if c=true then some true else f ((i+1:Nat):Int)) fun b=>b=true→j.After≠[]:=fun c=>by
   rw [zaf]
   exact ⟨fun _=>zad.2 fun _=>hne,fun _=>hr _ rfl⟩
  rw [zaf]
  refine ⟨fun _=>?_,fun _=>fin false⟩
  rw [life_over,Option.bind_some,zaf]
  refine ⟨fun _=>?_,fun _=>fin false⟩
  unfold deps_met
  rw [life_over,Option.bind_some]
  have met:∃b,(if decide (OverS r.1.State)=true then if (!j.After[i].Ok)=true then some true else some ((r.1.State == 5)&&r.1.Ok) else some false)=some b:=by
   by_cases c1:decide (OverS r.1.State)=true
   ·rw [if_pos c1]
    by_cases c2:(!j.After[i].Ok)=true
    ·exact ⟨_,if_pos c2⟩
    ·exact ⟨_,if_neg c2⟩
   ·exact ⟨_,if_neg c1⟩
  obtain ⟨b,e⟩:=met
  rw [e,Option.bind_some]
  exact fin _
 ·subst hx
  simp only [zcr,Bool.false_eq_true,if_false,zad]
  simp
end
end Go.Plain
