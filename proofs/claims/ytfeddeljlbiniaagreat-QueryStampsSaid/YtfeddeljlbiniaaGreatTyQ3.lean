/- Each step of a store: it goes on, and what it changes. -/
import Derived.Test.YtfeddeljlbiniaaGreatTyQ2
set_option linter.all false
namespace Go.Plain
open Go.Abs
section
variable {s:zaf} {n:Nat} {now next book:Int} {B:List zag} {U:List Int} {nd:Int} {F:List zaa} {Q:List Int} {L:List (Int×zad)} {J:List zac}
theorem QI.mono (h:QI s n now next book B U nd F Q L J):QI s (n+1) now next book B U nd F Q L J:={ h with led:=h.led.mono }
theorem QI.set (h:QI s n now next book B U nd F Q L J) {i:Nat} (hi:i<J.length) {j:zac} (he:j.Id=J[i].Id) (jo:JobOk j) {q:Int} {m:Nat} {nd':Int} {F':List zaa} {L':List (Int×zad)} (b1:0≤nd') (b2:F'.length=F.length) (b3:∀r∈F',VecOk r) (b4:LedOk m F'.length L'):QI s m now next book B U nd' F' (stampL Q q) L' (J.set i j):={
 jl:=by simpa using h.jl
 srt:=sorted_set h.srt hi he
 ok:=fun x hx=>by
  rcases List.mem_or_eq_of_mem_set hx with q | q
  ·exact h.ok x q
  ·subst q; exact jo
 ids:=fun x hx=>by
  rcases List.mem_or_eq_of_mem_set hx with q | q
  ·exact h.ids x q
  ·subst q; rw [he]; exact h.ids _ (List.getElem_mem hi)
 nx:=h.nx
 qin:=stampL_in h.qin _
 ql:=by rw [stampL_len]; exact h.ql
 nd:=b1
 now:=h.now
 bk:=h.bk
 bl:=h.bl
 us:=h.us
 fl:=by rw [b2]; exact h.fl
 fv:=b3
 led:=b4 }
theorem put_step (k:SpecOk s) (h:QI s n now next book B U nd F Q L J) (d:zac):Ret (zca 1000 Q J d s.Ids next s.Jobs) fun r=>QI s (n+1) now r.2.2.2 book B U nd F r.2.1 L r.1∧Chg J Q nd F r.1 r.2.1 nd F:=by
 have hl:=h.jl' k; have nx:=h.nx; have ki:=k.ids; have hjl:=h.jl
 have same:∀e:Int,Ret (some (J,Q,e,next)) fun r=>QI s (n+1) now r.2.2.2 book B U nd F r.2.1 L r.1∧Chg J Q nd F r.1 r.2.1 nd F:=fun e=>by
  rw [zab]; exact ⟨h.mono,Chg.same ..⟩
 unfold zca
 refine (job_right d).bind fun r hr=>?_
 rw [zae]
 refine ⟨fun _=>same 2,fun h1=>?_⟩
 simp only [Bool.or_eq_true,Bool.not_eq_true',bne_iff_ne,ne_eq,not_or,Bool.not_eq_false,Decidable.not_not] at h1
 obtain ⟨⟨⟨h1,h2⟩,h3⟩,h4⟩:=h1
 have jo:=hr.1 h1
 rw [zae]
 refine ⟨fun _=>same 36,fun h5=>?_⟩
 simp only [decide_eq_true_eq] at h5
 have hlt:∀x∈J,x.Id<d.Id:=fun x hx=>by have:=h.ids x hx; omega
 by_cases hj:(J.length:Int)<s.Jobs
 ·rw [put_end (by omega) h.srt hlt hj jo,Option.bind_some]
  dsimp only
  rw [if_neg (by simp),stamp_ok h.qin,Option.bind_some,zab,wr (x:=next+1) (by omega) (by omega)]
  refine ⟨{ h.mono with jl:=by simp; omega,srt:=sorted_app h.srt hlt,ok:=fun j hj=>?_,ids:=fun j hj=>?_,nx:=by dsimp only; omega,qin:=stampL_in h.qin _,ql:=by rw [stampL_len]; exact h.ql },chg_app h.srt hlt (by omega) h.qin⟩
  ·rcases List.mem_append.1 hj with q | q
   ·exact h.ok j q
   ·simp at q; subst q; exact jo
  ·rcases List.mem_append.1 hj with q | q
   ·have:=h.ids j q; dsimp only; omega
   ·simp at q; subst q; dsimp only; omega
 ·unfold zaN
  rw [job_right_t jo,Option.bind_some,if_neg (by simp),find_end (by omega) h.srt hlt,Option.bind_some]
  rw [if_neg (by simp),if_pos (by simp; omega),Option.bind_some]
  dsimp only
  rw [if_pos (by simp)]
  exact same 35
theorem step_step (k:SpecOk s) (h:QI s n now next book B U nd F Q L J) (hn:n≤30) (id what:Int) (ok:Bool):Ret (zb0 1000 Q J L id what ok now nd F) fun r=>QI s (n+1) now next book B U r.2.2.2.2.1 r.2.2.2.2.2 r.1 r.2.2.1 r.2.1∧Chg J Q nd F r.2.1 r.1 r.2.2.2.2.1 r.2.2.2.2.2:=by
 have hl:=h.jl' k
 have hfl:=h.fl
 have same:∀e:Int,Ret (some (Q,J,L,e,nd,F)) fun r=>QI s (n+1) now next book B U r.2.2.2.2.1 r.2.2.2.2.2 r.1 r.2.2.1 r.2.1∧Chg J Q nd F r.2.1 r.1 r.2.2.2.2.1 r.2.2.2.2.2:=fun e=>by
  rw [zab]; exact ⟨h.mono,Chg.same ..⟩
 unfold zb0
 rcases job_em J id with ⟨i,hi,e⟩ | hno
 ·subst e
  have hm:=List.getElem_mem hi
  have jo:=h.ok _ hm
  have ha:=jo.afterN
  rw [get_some (by omega) h.srt hi (by omega),Option.bind_some]
  dsimp only
  rw [if_neg (by simp),zae]
  refine ⟨fun _=>same 31,fun h3=>?_⟩
  refine (job_step jo h.now ok).bind fun r hr=>?_
  rw [zae]
  refine ⟨fun _=>same _,fun h0=>?_⟩
  simp only [bne_iff_ne,ne_eq,Decidable.not_not] at h0
  rcases hr with ⟨q,_⟩ | ⟨ns,hns,hv,rfl⟩
  ·exact absurd h0 q
  have jo':=step_jobok jo h.now ok hns hv
  dsimp only
  rw [change_set (by omega) h.srt hi jo' (j:=stepR J[i] what now ok ns) rfl h.qin,Option.bind_some]
  dsimp only [zaR]
  rw [if_neg (by simp),life_has,Option.bind_some]
  have eQ:changeQ Q J[i].Queue (stepR J[i] what now ok ns).Queue=stampL Q J[i].Queue:=if_pos rfl
  rw [eQ]
  have base:∀{nd':Int} {F':List zaa} {L':List (Int×zad)},0≤nd'→F'.length=F.length→(∀r∈F',VecOk r)→LedOk n F'.length L'→(nd'=nd→F'=F)→QI s (n+1) now next book B U nd' F' (stampL Q J[i].Queue) L' (J.set i (stepR J[i] what now ok ns))∧Chg J Q nd F (J.set i (stepR J[i] what now ok ns)) (stampL Q J[i].Queue) nd' F':=fun {nd' F' L'} b1 b2 b3 b4 b5=>
   ⟨(h.set hi (j:=stepR J[i] what now ok ns) rfl jo' b1 b2 b3 b4).mono,chg_set h.srt hi (j:=stepR J[i] what now ok ns) rfl rfl rfl h.qin b5⟩
  have nope:Ret (some (stampL Q J[i].Queue,J.set i (stepR J[i] what now ok ns),L,(0:Int),nd,F)) fun r=>QI s (n+1) now next book B U r.2.2.2.2.1 r.2.2.2.2.2 r.1 r.2.2.1 r.2.1∧Chg J Q nd F r.2.1 r.1 r.2.2.2.2.1 r.2.2.2.2.2:=by
   rw [zab]; exact base h.nd rfl h.fv h.led (fun _=>rfl)
  by_cases c1:HasS J[i].State
  ·rw [if_pos (by simpa using c1),life_has,Option.bind_some]
   by_cases c2:HasS (stepR J[i] what now ok ns).State
   ·rw [if_neg (by simpa using c2)]; exact nope
   ·rw [if_pos (by simpa using c2)]
    refine (give_gen h.led (by omega) h.fv J[i].Id).bind fun g hg=>?_
    obtain ⟨g1,g2,g3⟩:=hg
    rw [after_ok h.nd,Option.bind_some,zab]
    exact base (nd':=aftV nd) (by have:=h.nd; unfold aftV; split <;> omega) g2 g3 g1 (fun q=>absurd q (aftV_ne _ h.nd))
  ·rw [if_neg (by simpa using c1),if_neg (by simp)]; exact nope
 ·rw [get_none (by omega) h.srt hno,Option.bind_some]
  dsimp only
  rw [if_pos (by simp)]
  exact same 30
theorem start_step (hs:FewS s) (k:SpecOk s) (h:QI s n now next book B U nd F Q L J) (id:Int) {sh:List zaj} (hsh:sh.length≤40) :
  Ret (zbO 1000 Q J L id sh s.Nodes s.Parts s.Queues s.Users s.Weights.Age s.Weights.Size s.Weights.Qos s.Weights.Share s.Decay s.Mode s.Jobs s.Ids s.Versions s.Linger s.Keep s.In s.Out s.Cache now nd F) fun r=>QI s (n+1) now next book B U r.2.2.2.2.2 r.2.2.2.2.1 r.2.1 r.1 r.2.2.1∧Chg J Q nd F r.2.2.1 r.2.1 r.2.2.2.2.2 r.2.2.2.2.1:=by
 have hl:=h.jl' k
 have hfl:=h.fl
 have same:∀e:Int,Ret (some (L,Q,J,e,F,nd)) fun r=>QI s (n+1) now next book B U r.2.2.2.2.2 r.2.2.2.2.1 r.2.1 r.1 r.2.2.1∧Chg J Q nd F r.2.2.1 r.2.1 r.2.2.2.2.2 r.2.2.2.2.1:=fun e=>by
  rw [zab]; exact ⟨h.mono,Chg.same ..⟩
 unfold zbO
 rcases job_em J id with ⟨i,hi,e⟩ | hno
 ·subst e
  have hm:=List.getElem_mem hi
  have jo:=h.ok _ hm
  have ha:=jo.afterN
  rw [get_some (by omega) h.srt hi (by omega),Option.bind_some]
  dsimp only
  rw [if_neg (by simp),zae]
  refine ⟨fun _=>same 31,fun h3=>?_⟩
  refine (suits_ok hs k J[i] sh (by omega)).bind fun r0 _=>?_
  rw [zae]
  refine ⟨fun _=>same 2,fun _=>?_⟩
  refine (job_step jo h.now false).bind fun r hr=>?_
  rw [zae]
  refine ⟨fun _=>same _,fun h0=>?_⟩
  simp only [bne_iff_ne,ne_eq,Decidable.not_not] at h0
  rcases hr with ⟨q,_⟩ | ⟨ns,hns,hv,rfl⟩
  ·exact absurd h0 q
  have jo':=step_jobok jo h.now false hns hv
  refine (take_gen h.led (by omega) h.fv (a:={ Job:=J[i].Id,Need:=J[i].Need,Shares:=sh }) (by dsimp only; omega)).bind fun g hg=>?_
  obtain ⟨g1,g2,g3,g4⟩:=hg
  rw [zae]
  refine ⟨fun h5=>?_,fun h5=>?_⟩
  ·simp only [bne_iff_ne,ne_eq] at h5
   obtain ⟨e1,e2⟩:=g4 h5
   rw [e1,e2]
   exact same _
  ·dsimp only
   rw [after_ok h.nd,Option.bind_some,change_set (by omega) h.srt hi jo' (j:=stepR J[i] 3 now false ns) rfl h.qin,Option.bind_some,zab]
   have eQ:changeQ Q J[i].Queue (stepR J[i] 3 now false ns).Queue=stampL Q J[i].Queue:=if_pos rfl
   dsimp only
   rw [eQ]
   exact ⟨h.set hi (j:=stepR J[i] 3 now false ns) rfl jo' (nd':=aftV nd) (by have:=h.nd; unfold aftV; split <;> omega) g2 g3 g1,chg_set h.srt hi (j:=stepR J[i] 3 now false ns) rfl rfl rfl h.qin (fun q=>absurd q (aftV_ne _ h.nd))⟩
 ·rw [get_none (by omega) h.srt hno,Option.bind_some]
  dsimp only
  rw [if_pos (by simp)]
  exact same 30
theorem awaited_ret (id:Int) {J:List zac} (hl:J.length≤300) (ha:∀j∈J,j.After.length≤10):Ret (deps_Awaited 1000 id J) fun _=>True:=by
 unfold deps_Awaited
 refine lpS J.length (fun i x=>x=(i:Int)) (fun i x f hi hx hr=>?_) (fun x f hx=>?_) rfl (by omega)
 ·subst hx
  have hj:=ha _ (List.getElem_mem hi)
  simp only [zaR,zcH hi,if_true,zak hi,Option.bind_some,wr1 (show i<1000000 by omega),life_over]
  rw [zae]
  refine ⟨fun _=>hr _ rfl,fun _=>?_⟩
  refine lpS J[i].After.length (fun i x=>x=(i:Int)) (fun m x g hm hx hg=>?_) (fun x g hx=>?_) rfl (by omega)
  ·subst hx
   simp only [zcH hm,if_true,zak hm,Option.bind_some,wr1 (show m<1000000 by omega)]
   rw [zae]
   exact ⟨fun _=>zab.2 trivial,fun _=>hg _ rfl⟩
  ·subst hx
   simp only [zcB,Bool.false_eq_true,if_false]
   exact hr _ rfl
 ·subst hx
  simp only [zcB,Bool.false_eq_true,if_false,zab]
theorem drop_step (k:SpecOk s) (h:QI s n now next book B U nd F Q L J) (id:Int):Ret (zb1 1000 J id) fun r=>match r with | .inl x=>x.1=J | .inr x=>QI s (n+1) now next book B U nd F Q L x.2∧Chg J Q nd F x.2 Q nd F:=by
 have hl:=h.jl' k
 have haf:∀j∈J,j.After.length≤10:=fun j hj=>by have:=(h.ok j hj).afterN; omega
 unfold zb1
 rcases job_em J id with ⟨i,hi,e⟩ | hno
 ·subst e
  have hm:=List.getElem_mem hi
  have jo:=h.ok _ hm
  have ha:=jo.afterN; have hv:=jo.version
  rw [get_some (by omega) h.srt hi (by omega),Option.bind_some]
  dsimp only [zaR]
  rw [if_neg (by simp),life_over,Option.bind_some,zae]
  refine ⟨fun _=>by rw [if_pos rfl,zab],fun ho=>?_⟩
  simp only [Bool.not_eq_true',decide_eq_false_iff_not,Decidable.not_not] at ho
  rw [all_jobs (by omega) haf,Option.bind_some]
  refine (awaited_ret J[i].Id (by omega) haf).bind fun r _=>?_
  rw [zae]
  refine ⟨fun _=>by rw [zab],fun _=>?_⟩
  unfold zcR
  rw [find_some (by omega) h.srt hi,Option.bind_some]
  dsimp only
  rw [if_neg (by simp),wr1 (by omega)]
  unfold zbq del?
  rw [if_pos ⟨by omega,by omega,by omega,by omega⟩,Option.bind_some,Option.bind_some,zab]
  dsimp only
  rw [Int.toNat_natCast,Int.toNat_natCast]
  refine ⟨{ h.mono with jl:=by have:=h.jl; simp; omega,srt:=sorted_del h.srt hi,ok:=fun x hx=>h.ok x (del_mem hx),ids:=fun x hx=>h.ids x (del_mem hx) },chg_del h.srt hi (by omega) ho⟩
 ·rw [get_none (by omega) h.srt hno,Option.bind_some]
  dsimp only
  rw [if_pos (by simp),zab]
theorem taken_ret (k:SpecOk s) (h:QI s n now next book B U nd F Q L J) (hn:n≤30) (node frm:Int):Ret (zbP 1000 J L node frm) fun _=>True:=by
 have hl:=h.jl' k
 unfold zbP
 refine (all_gen h.led hn).bind fun A hA=>?_
 obtain ⟨hA1,hA2⟩:=hA
 refine lpS A.length (fun i x=>x=(i:Int)) (fun i x f hi hx hr=>?_) (fun x f hx=>?_) rfl (by omega)
 ·subst hx
  have hsh:=hA2 _ (List.getElem_mem hi)
  simp only [zaR,zcH hi,if_true,zak hi,Option.bind_some,wr1 (show i<1000000 by omega)]
  have get:∃r,zas 1000 J A[i].Job=some r:=by
   rcases job_em J A[i].Job with ⟨m,hm,e⟩ | hno
   ·have:=(h.ok _ (List.getElem_mem hm)).afterN
    exact ⟨_,by rw [←e]; exact get_some (by omega) h.srt hm (by omega)⟩
   ·exact ⟨_,get_none (by omega) h.srt hno⟩
  obtain ⟨r,e⟩:=get
  rw [e,Option.bind_some,zae]
  refine ⟨fun _=>hr _ rfl,fun _=>?_⟩
  refine Ret.bind (P:=fun _=>True) ?_ fun b _=>?_
  ·rw [ret_bind]
   refine lpS A[i].Shares.length (fun i x=>x=(i:Int)) (fun m x g hm hx hg=>?_) (fun x g hx=>?_) rfl (by omega)
   ·subst hx
    simp only [zcH hm,if_true,zak hm,Option.bind_some,wr1 (show m<1000000 by omega)]
    rw [zae]
    exact ⟨fun _=>zab.2 (zab.2 trivial),fun _=>hg _ rfl⟩
   ·subst hx
    simp only [zcB,Bool.false_eq_true,if_false,zab]
  ·rw [zae]
   exact ⟨fun _=>zab.2 trivial,fun _=>hr _ rfl⟩
 ·subst hx
  simp only [zcB,Bool.false_eq_true,if_false,zab]
theorem add_ret {l:List zag} (hl:l.length≤16) (m:Int) (b:zag):Ret (book_Add 1000 l m b) fun r=>r.2=0→r.1.length≤16:=by
 unfold book_Add
 simp only [zaR]
 refine (book_right l m (by omega)).bind fun r1 _=>?_
 rw [zae]
 refine ⟨fun _=>by simp only [if_true]; rw [zab]; simp,fun _=>?_⟩
 refine (book_one b m).bind fun r2 _=>?_
 rw [zae]
 refine ⟨fun _=>by rw [zab]; simp,fun _=>?_⟩
 rw [zae]
 refine ⟨fun _=>by rw [zab]; simp,fun h16=>?_⟩
 simp only [beq_iff_eq] at h16
 have fin:∀c:Bool,Ret (if c=true then some (([]:List zag),(31:Int)) else (zcO 1000 l b.Node b.From b.To).bind fun r5=>if r5=true then some ([],39) else (mk? ({ Id:=0,Node:=0,From:=0,To:=0 }:zag) (IntKind.i64.wrap ((l.length:Int)+1)) (IntKind.i64.wrap ((l.length:Int)+1))).bind fun z6=>(at? (cpL z6 l 0 z6.length) (l.length:Int)).bind fun a7=>some (((cpL z6 l 0 z6.length).set (l.length:Int).toNat b),0)) fun r=>r.2=0→r.1.length≤16:=fun c=>by
  rw [zae]
  refine ⟨fun _=>by rw [zab]; simp,fun _=>?_⟩
  refine (book_meets l _ _ _ (by omega)).bind fun r5 _=>?_
  rw [zae]
  refine ⟨fun _=>by rw [zab]; simp,fun _=>?_⟩
  rw [wr1 (by omega)]
  unfold mk?
  rw [if_pos (by omega),Option.bind_some]
  have hc:(cpL (List.replicate ((l.length+1:Nat):Int).toNat ({ Id:=0,Node:=0,From:=0,To:=0 }:zag)) l 0 (List.replicate ((l.length+1:Nat):Int).toNat ({ Id:=0,Node:=0,From:=0,To:=0 }:zag)).length).length=l.length+1:=by
   rw [cpL_len (by omega)]; simp
  rw [zak (by omega),Option.bind_some,zab]
  intro _
  rw [List.length_set,hc]
  omega
 rw [zae]
 refine ⟨fun hp=>?_,fun _=>fin false⟩
 simp only [decide_eq_true_eq] at hp
 obtain ⟨m',hm'⟩:∃m,l.length=m+1:=⟨l.length-1,by omega⟩
 have w2:IntKind.i64.wrap ((l.length:Int)-1)=(m':Int):=by rw [hm']; exact wp1 (by omega)
 rw [w2,zak (show m'<l.length by omega),Option.bind_some]
 exact fin _
theorem drop_ret {l:List zag} (hl:l.length≤16) (id:Int):Ret (book_Drop 1000 l id) fun r=>r.2=0→r.1.length≤16:=by
 unfold book_Drop
 refine lpS l.length (fun i x=>x=(i:Int)) (fun i x f hi hx hr=>?_) (fun x f hx=>?_) rfl (by omega)
 ·subst hx
  simp only [zcH hi,if_true,zak hi,Option.bind_some,wr1 (show i<1000000 by omega)]
  rw [zae]
  refine ⟨fun _=>?_,fun _=>hr _ rfl⟩
  obtain ⟨m,hm⟩:∃m,l.length=m+1:=⟨l.length-1,by omega⟩
  have w1:IntKind.i64.wrap ((l.length:Int)-1)=(m:Int):=by rw [hm]; exact wp1 (by omega)
  rw [w1]
  unfold mk?
  rw [if_pos (by omega),Option.bind_some,slice_take (by omega),Option.bind_some]
  have hc:(cpL (List.replicate ((m:Nat):Int).toNat ({ Id:=0,Node:=0,From:=0,To:=0 }:zag)) (l.take i) 0 (List.replicate ((m:Nat):Int).toNat ({ Id:=0,Node:=0,From:=0,To:=0 }:zag)).length).length=m:=by
   rw [cpL_len (by omega)]; simp
  generalize cpL (List.replicate ((m:Nat):Int).toNat ({ Id:=0,Node:=0,From:=0,To:=0 }:zag)) (l.take i) 0 (List.replicate ((m:Nat):Int).toNat ({ Id:=0,Node:=0,From:=0,To:=0 }:zag)).length=c at hc ⊢
  unfold slice?
  rw [if_pos ⟨by omega,by omega,by omega⟩,Option.bind_some,if_pos ⟨by omega,by omega,by omega⟩,Option.bind_some,zab]
  intro _
  rw [cpL_len (by omega),hc]
  omega
 ·subst hx
  simp only [zcB,Bool.false_eq_true,if_false,zab]
  simp
theorem expire_ret {l:List zag} (hl:l.length≤16) (t:Int):Ret (book_Expire 1000 l t) fun r=>r.length≤16:=by
 unfold book_Expire
 refine lpS l.length (fun i x=>x.1=(i:Int)∧x.2.length≤i) (fun i x f hi hx hr=>?_) (fun x f hx=>?_) ⟨rfl,by simp⟩ (by omega)
 ·obtain ⟨x1,x2⟩:=x
  obtain ⟨rfl,h2⟩:=hx
  dsimp only at h2 ⊢
  simp only [zaR,zcH hi,if_true,zak hi,Option.bind_some,wr1 (show i<1000000 by omega)]
  rw [zae]
  refine ⟨fun _=>?_,fun _=>hr _ ⟨rfl,by dsimp only; omega⟩⟩
  rw [app_ok (by simp; omega),Option.bind_some]
  exact hr _ ⟨rfl,by simp; omega⟩
 ·obtain ⟨x1,x2⟩:=x
  obtain ⟨rfl,h2⟩:=hx
  dsimp only at h2 ⊢
  simp only [zcB,Bool.false_eq_true,if_false,zab]
  omega
theorem reserve_step (k:SpecOk s) (h:QI s n now next book B U nd F Q L J) (hn:n≤30) (node a b:Int):Ret (zbC 1000 J L node a b s.Nodes now book B) fun r=>QI s (n+1) now next r.2.2.1 r.2.2.2 U nd F Q L J:=by
 have hb:=h.bk; have hbl:=h.bl
 have same:∀e:Int,Ret (some ((0:Int),e,book,B)) fun r=>QI s (n+1) now next r.2.2.1 r.2.2.2 U nd F Q L J:=fun e=>by
  rw [zab]; exact h.mono
 unfold zbC
 simp only [zaR]
 rw [zae]
 refine ⟨fun _=>same 2,fun h1=>?_⟩
 rw [zae]
 refine ⟨fun _=>same 3,fun h2=>?_⟩
 simp only [Bool.or_eq_true,decide_eq_true_eq,not_or] at h2
 have fin:∀c:Bool,Ret (if c=true then some ((0:Int),(39:Int),book,B) else (book_Add 1000 B (s.Nodes.length:Int) ({ Id:=book,Node:=node,From:=a,To:=b }:zag)).bind fun r3=>if (r3.2 != 0)=true then some (0,r3.2,book,B) else some (book,0,(IntKind.i64.wrap (book+1)),r3.1)) fun r=>QI s (n+1) now next r.2.2.1 r.2.2.2 U nd F Q L J:=fun c=>by
  rw [zae]
  refine ⟨fun _=>same 39,fun _=>?_⟩
  refine (add_ret hbl _ _).bind fun r3 h3=>?_
  rw [zae]
  refine ⟨fun _=>same _,fun h0=>?_⟩
  simp only [bne_iff_ne,ne_eq,Decidable.not_not] at h0
  rw [zab,wr (by omega) (by omega)]
  exact { h.mono with bk:=by dsimp only; omega,bl:=h3 h0 }
 refine (book_meets B _ _ _ (by omega)).bind fun r1 _=>?_
 rw [zae]
 refine ⟨fun _=>fin true,fun _=>?_⟩
 exact (taken_ret k h hn node a).bind fun r2 _=>fin r2
theorem unreserve_step (h:QI s n now next book B U nd F Q L J) (id:Int):Ret (zbo 1000 id B) fun r=>QI s (n+1) now next book r.2 U nd F Q L J:=by
 unfold zbo
 refine (drop_ret h.bl id).bind fun r hr=>?_
 rw [zae]
 refine ⟨fun _=>by rw [zab]; exact h.mono,fun h0=>?_⟩
 simp only [bne_iff_ne,ne_eq,Decidable.not_not] at h0
 rw [zab]
 exact { h.mono with bl:=hr h0 }
theorem pass_step (h:QI s n now next book B U nd F Q L J) {V:List Int} (hV:V.length≤20) (m:Int):Ret (zb2 1000 V m now B U) fun r=>QI s (n+1) r.2.1 next book r.2.2.1 r.2.2.2 nd F Q L J:=by
 have hnow:=h.now
 have same:∀e:Int,Ret (some (e,now,B,U)) fun r=>QI s (n+1) r.2.1 next book r.2.2.1 r.2.2.2 nd F Q L J:=fun e=>by
  rw [zab]; exact h.mono
 unfold zb2
 simp only [zaR]
 rw [zae]
 refine ⟨fun _=>same 38,fun h1=>?_⟩
 simp only [decide_eq_true_eq] at h1
 have fin:∀c:Bool,Ret (if c=true then some ((2:Int),now,B,U) else (zaG 1000 V).bind fun r3=>(book_Expire 1000 B (IntKind.i64.wrap (now+1))).bind fun r4=>some (0,(IntKind.i64.wrap (now+1)),r4,r3)) fun r=>QI s (n+1) r.2.1 next book r.2.2.1 r.2.2.2 nd F Q L J:=fun c=>by
  rw [zae]
  refine ⟨fun _=>same 2,fun _=>?_⟩
  rw [clone_ints (by omega),Option.bind_some]
  refine (expire_ret h.bl _).bind fun r hr=>?_
  rw [zab,wr (by omega) (by omega)]
  exact { h.mono with now:=by dsimp only; omega,bl:=hr,us:=hV }
 rw [zae]
 refine ⟨fun _=>fin true,fun _=>?_⟩
 exact (share_right V (by omega)).bind fun r _=>fin _
end
end Go.Plain
