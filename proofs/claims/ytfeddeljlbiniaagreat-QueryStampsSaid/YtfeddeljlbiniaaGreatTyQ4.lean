/- QueryStamps: what queries answer, their stamps, and the law in plain Lean. -/
import Derived.Test.YtfeddeljlbiniaaGreatTyQ3
import Derived.KernelRfl
set_option linter.all false
namespace Go.Plain
open Go.Abs
section
variable {s:zaf} {n:Nat} {now next book:Int} {B:List zag} {U:List Int} {nd:Int} {F:List zaa} {Q:List Int} {L:List (Int×zad)} {J:List zac}
theorem state_gen (k:SpecOk s) (h:QI s n now next book B U nd F Q L J) (hn:n≤30):∃A,zaw 1000 Q J L now next book B U nd=some { Now:=now,Next:=next,Book:=book,Jobs:=J,Allocs:=A,Books:=B,Use:=U,Stamps:={ Queues:=Q,Nodes:=nd } }:=by
 have hl:=h.jl' k; have hb:=h.bl; have hu:=h.us; have hs:=h.ql
 obtain ⟨A,e,_⟩:=all_gen h.led hn
 refine ⟨A,?_⟩
 unfold zaw
 rw [all_jobs (by omega) (fun j hj=>by have:=(h.ok j hj).afterN; omega),Option.bind_some,e,Option.bind_some,clone_books (by omega),Option.bind_some,clone_ints (by omega),Option.bind_some,show zbf 1000 Q=some Q from zdz (by omega),Option.bind_some]
theorem cntq_bd (P:Int→Prop) [DecidablePred P] (J:List zac) (q:Int):0≤cnt P J q∧cnt P J q≤J.length:=cnt_bd01 (fun x=>by split <;> omega) J
theorem having_count {l:List zac} (hl:l.length≤300) (q:Int):quota_Having 1000 l q=some (cnt HasS l q):=by
 unfold quota_Having
 have key:Ret (lpX (fun f2 (x1:Int×Int)=>
   if (decide (x1.2<(l.length:Int)))=true then
    jn (fun (x3:Int)=>
     f2 (x3,(IntKind.i64.wrap (x1.2+1)))) fun j4=>
    (at? l x1.2).bind fun a5=>
    (
     if (a5.Queue == q)=true then
     (life_Has 1000 a5.State).bind fun r6=>
     some r6
     else
     some false).bind fun x7=>
    if x7=true then
     j4 (IntKind.i64.wrap (x1.1+1))
    else
     j4 x1.1
   else
    some x1.1) 1000 (0,0)) fun r=>r=cnt HasS l q:=by
  refine lpS l.length (fun i x=>x=(cnt HasS (l.take i) q,(i:Int))) (fun i x f hi hx hr=>?_) (fun x f hx=>?_) (by simp [cnt]) (by omega)
  ·subst hx
   have bd:=cntq_bd HasS (l.take i) q
   rw [List.length_take] at bd
   have nx:cnt HasS (l.take (i+1)) q=cnt HasS (l.take i) q+(if l[i].Queue=q∧HasS l[i].State then (1:Int) else 0):=sum_take hi
   simp only [zcH hi,if_true,zak hi,Option.bind_some,wr1 (show i<1000000 by omega),life_has,zaR]
   by_cases h1:l[i].Queue=q
   ·rw [if_pos (by simpa using h1),Option.bind_some]
    by_cases h2:HasS l[i].State
    ·rw [if_pos (by simpa using h2)]
     rw [if_pos ⟨h1,h2⟩] at nx
     rw [wr (by omega) (by omega)]
     exact hr _ (by rw [nx])
    ·rw [if_neg (by simpa using h2)]
     rw [if_neg (fun h=>h2 h.2)] at nx
     exact hr _ (by rw [nx,Int.add_zero])
   ·rw [if_neg (by simpa using h1),Option.bind_some,if_neg (by simp)]
    rw [if_neg (fun h=>h1 h.1)] at nx
    exact hr _ (by rw [nx,Int.add_zero])
  ·subst hx
   simp only [zcB,Bool.false_eq_true,if_false,zab,List.take_length]
 rw [key.eq,Option.bind_some]
def numR (key:Int) (l:List Int):zap:={ Key:=key,Err:=0,Job:=0,Version:=0,Nums:=l }
def refR (key e:Int):zap:={ Key:=key,Err:=e,Job:=0,Version:=0,Nums:=[] }
def ansV (s:zaf) (r:zaA) (J:List zac) (F:List zaa):zap:=
 if r.Kind=8 then (match jobAt J r.Job with | some j=>{ Key:=r.Key,Err:=0,Job:=j.Id,Version:=j.Version,Nums:=[j.State,j.Queue,j.Start,j.End] } | none=>refR r.Key 30)
 else if r.Kind=9 then (if 0≤r.Queue∧r.Queue<s.Queues.length then numR r.Key [(cnts J r.Queue).1-(cnts J r.Queue).2.1,(cnts J r.Queue).2.1,(cnts J r.Queue).2.2] else refR r.Key 30)
 else if r.Kind=10 then numR r.Key (F.flatMap fun f=>[f.Cpu,f.Mem,f.Gpu,f.Lic])
 else refR r.Key 2
def stampV (r:zaA) (J:List zac) (Q:List Int) (nd:Int):Int:=
 if r.Kind=8 then verOf J r.Job
 else if r.Kind=9 then (if 0≤r.Queue∧r.Queue<Q.length then Q[r.Queue.toNat]?.getD 0 else 0)
 else if r.Kind=10 then nd else 0
theorem four_len (G:List zaa):(G.flatMap fun f=>[f.Cpu,f.Mem,f.Gpu,f.Lic]).length=G.length * 4:=by
 induction G with
 | nil=>rfl
 | cons f G ih=>rw [List.flatMap_cons,List.length_append,ih]; simp; omega
theorem nums_len (h:QI s n now next book B U nd F Q L J) (r:zaA):(ansV s r J F).Nums.length≤300:=by
 have hF:=h.fl
 unfold ansV
 split
 ·split <;> simp [refR]
 ·split
  ·split <;> simp [refR,numR]
  ·split
   ·simp only [numR,four_len]
    omega
   ·simp [refR]
theorem job_query (k:SpecOk s) (h:QI s n now next book B U nd F Q L J) (id:Int):(∃j,jobAt J id=some j∧zaF 1000 J id=some (j,true))∨(jobAt J id=none∧zaF 1000 J id=some (zeroJ,false)):=by
 have hl:=h.jl' k
 rcases job_em J id with ⟨m,hm,rfl⟩ | hno
 ·have:=(h.ok _ (List.getElem_mem hm)).afterN
  exact .inl ⟨_,zcr h.srt hm,job_some (by omega) h.srt hm (by omega)⟩
 ·exact .inr ⟨zdn hno,job_none (by omega) h.srt hno⟩
theorem query_do (hs:FewS s) (k:SpecOk s) (h:QI s n now next book B U nd F Q L J) (hn:n≤30) (r:zaA) :
  zaQ 1000 Q J L r s.Nodes s.Parts s.Queues s.Users s.Weights.Age s.Weights.Size s.Weights.Qos s.Weights.Share s.Decay s.Mode s.Jobs s.Ids s.Versions s.Linger s.Keep s.In s.Out s.Cache now next book B U nd F=some (ansV s r J F):=by
 have hl:=h.jl' k; have hF:=h.fl
 unfold zaQ ask_Query
 rw [Option.bind_some]
 by_cases k8:r.Kind=8
 ·rw [if_neg (by simp [k8]),if_pos (by simp [k8])]
  unfold zdC ansV
  rw [if_pos k8]
  rcases job_query k h r.Job with ⟨j,e1,e2⟩ | ⟨e1,e2⟩
  ·rw [e1,e2,Option.bind_some]
   rfl
  ·rw [e1,e2,Option.bind_some]
   rfl
 by_cases k9:r.Kind=9
 ·rw [if_neg (by simp [k9]),if_neg (by simp [k9]),if_pos (by simp [k9])]
  unfold zcQ ansV
  rw [if_neg k8,if_pos k9]
  dsimp only [zaR]
  by_cases q0:r.Queue<0
  ·rw [if_pos (by simpa using q0),if_neg (show ¬(0≤r.Queue∧r.Queue<s.Queues.length) by omega)]
   rfl
  ·rw [if_neg (by simpa using q0),spec_shown hs,Option.bind_some]
   by_cases q1:r.Queue≥s.Queues.length
   ·rw [if_pos (by simpa using q1),if_neg (show ¬(0≤r.Queue∧r.Queue<s.Queues.length) by omega)]
    rfl
   ·rw [if_neg (by simpa using q1),if_pos (show 0≤r.Queue∧r.Queue<s.Queues.length by omega)]
    obtain ⟨A,e⟩:=state_gen k h hn
    rw [e,Option.bind_some]
    dsimp only
    refine Ret.eq ?_
    rw [ret_bind]
    refine lpS J.length (fun i x=>x=(cnt (fun x=>x=2) (J.take i) r.Queue,(i:Int))) (fun i x f hi hx hr=>?_) (fun x f hx=>?_) (by simp [cnt]) (by omega)
    ·subst hx
     have bd:=cntq_bd (fun x=>x=2) (J.take i) r.Queue
     rw [List.length_take] at bd
     have nx:cnt (fun x=>x=2) (J.take (i+1)) r.Queue=cnt (fun x=>x=2) (J.take i) r.Queue+(if J[i].Queue=r.Queue∧J[i].State=2 then (1:Int) else 0):=sum_take hi
     simp only [zcH hi,if_true,zak hi,Option.bind_some,wr1 (show i<1000000 by omega)]
     by_cases h1:J[i].Queue=r.Queue∧J[i].State=2
     ·rw [if_pos (by simpa using h1)]
      rw [if_pos h1] at nx
      rw [wr (by omega) (by omega)]
      exact hr _ (by rw [nx])
     ·rw [if_neg (by simpa using h1)]
      rw [if_neg h1] at nx
      exact hr _ (by rw [nx,Int.add_zero])
    ·subst hx
     have b1:=waitN_bd J r.Queue
     have b2:=cntq_bd (fun x=>x=2) J r.Queue
     simp only [zcB,Bool.false_eq_true,if_false,List.take_length]
     rw [waiting_count (by omega),Option.bind_some,having_count (by omega),Option.bind_some]
     rw [wr (by omega) (by omega)]
     exact ⟨_,rfl,_,rfl,rfl⟩
 by_cases k10:r.Kind=10
 ·rw [if_neg (by simp [k10]),if_neg (by simp [k10]),if_neg (by simp [k10])]
  unfold zcS ansV
  rw [if_neg k8,if_neg k9,if_pos k10,free_ok (by omega),Option.bind_some]
  refine Ret.eq ?_
  rw [ret_bind]
  refine lpS F.length (fun i x=>x=((i:Int),(F.take i).flatMap fun f=>[f.Cpu,f.Mem,f.Gpu,f.Lic])) (fun i x f hi hx hr=>?_) (fun x f hx=>?_) (by simp) (by omega)
  ·subst hx
   simp only [zcH hi,if_true,zak hi,Option.bind_some,wr1 (show i<1000000 by omega)]
   rw [app_ok (by rw [four_len,List.length_take]; simp; omega),Option.bind_some]
   refine hr _ ?_
   rw [List.take_succ_eq_append_getElem hi,List.flatMap_append]
   simp
  ·subst hx
   simp only [zcB,Bool.false_eq_true,if_false,List.take_length]
   exact ⟨_,rfl,_,rfl,rfl⟩
 rw [if_pos (by simp [k8,k9,k10])]
 unfold ansV
 rw [if_neg k8,if_neg k9,if_neg k10]
 rfl
theorem query_stamp (k:SpecOk s) (h:QI s n now next book B U nd F Q L J) (hn:n≤30) (r:zaA) :
  zaz 1000 Q J L r now next book B U nd=some (stampV r J Q nd):=by
 have hl:=h.jl' k
 unfold zaz
 dsimp only [zaR]
 by_cases k8:r.Kind=8
 ·rw [if_pos (by simp [k8])]
  unfold stampV verOf
  rw [if_pos k8]
  rcases job_query k h r.Job with ⟨j,e1,e2⟩ | ⟨e1,e2⟩
  ·rw [e1,e2,Option.bind_some]
  ·rw [e1,e2,Option.bind_some]
   rfl
 by_cases k9:r.Kind=9
 ·rw [if_neg (by simp [k8]),if_pos (by simp [k9])]
  obtain ⟨A,e⟩:=state_gen k h hn
  rw [e,Option.bind_some]
  unfold stampV
  rw [if_neg k8,if_pos k9]
  dsimp only
  by_cases hq:0≤r.Queue∧r.Queue<Q.length
  ·obtain ⟨h',e⟩:=at_int (l:=Q) hq.1 hq.2
   rw [if_pos (by simp; omega),if_pos hq,e,Option.bind_some,List.getElem?_eq_getElem h']
   rfl
  ·rw [if_neg (by simp; omega),if_neg hq]
 by_cases k10:r.Kind=10
 ·rw [if_neg (by simp [k8]),if_neg (by simp [k9]),if_pos (by simp [k10])]
  obtain ⟨A,e⟩:=state_gen k h hn
  rw [e,Option.bind_some]
  unfold stampV
  rw [if_neg k8,if_neg k9,if_pos k10]
 ·rw [if_neg (by simp [k8]),if_neg (by simp [k9]),if_neg (by simp [k10])]
  unfold stampV
  rw [if_neg k8,if_neg k9,if_neg k10]
theorem ans_same {J':List zac} {Q':List Int} {nd':Int} {F':List zaa} (c:Chg J Q nd F J' Q' nd' F') (hq:Q.length=s.Queues.length) (r:zaA) (e:stampV r J' Q' nd'=stampV r J Q nd):ansV s r J' F'=ansV s r J F:=by
 unfold stampV at e
 unfold ansV
 by_cases k8:r.Kind=8
 ·rw [if_pos k8,if_pos k8] at *
  rw [c.job _ e]
 by_cases k9:r.Kind=9
 ·rw [if_neg k8,if_pos k9,if_neg k8,if_pos k9] at *
  by_cases h:0≤r.Queue∧r.Queue<s.Queues.length
  ·rw [if_pos h,if_pos h]
   rw [if_pos (by rw [c.len]; omega),if_pos (by omega)] at e
   have h1:r.Queue.toNat<Q.length:=by omega
   have h2:r.Queue.toNat<Q'.length:=by rw [c.len]; omega
   have:=c.que r.Queue.toNat h1 (by rw [List.getElem?_eq_getElem h1,List.getElem?_eq_getElem h2] at *; simpa using e)
   rw [show ((r.Queue.toNat:Nat):Int)=r.Queue by omega] at this
   rw [this]
  ·rw [if_neg h,if_neg h]
 by_cases k10:r.Kind=10
 ·rw [if_neg k8,if_neg k9,if_pos k10,if_neg k8,if_neg k9,if_pos k10] at *
  rw [c.nod e]
 ·rw [if_neg k8,if_neg k9,if_neg k10,if_neg k8,if_neg k9,if_neg k10]
end
theorem same_reply (a:zap) (h:a.Nums.length≤300):zay 1000 a a=some true:=by
 unfold zay
 rw [if_pos (by simp),same_ints _ h,Option.bind_some]
theorem awake27xok:drayagelaw27xawake 1000=some true:=by kernel_rfl
theorem tail27 {g:Option Bool} {P:Bool→Prop} {st st':Int} {a a':zap} (h:st'=st→a'=a) (hn:a.Nums.length≤300) (hg:Ret g P):Ret (if (st' == st)=true then (zay 1000 a a').bind fun r=>if (!r)=true then some false else g else if false=true then some false else g) P:=by
 rw [zae]
 refine ⟨fun e=>?_,fun _=>?_⟩
 ·rw [h (by simpa using e),same_reply a hn,Option.bind_some,if_neg (by simp)]
  exact hg
 ·rw [if_neg (by simp)]
  exact hg
def Rnd (s:zaf) (r:zaA) (i:Nat) (x:Int×Int×Int×Int×Int×(List zag)×(List Int)×Int×(List zaa)×Int×Int×Int×Int×(List Int)×List Int×List (Int×zad)×List zac):Prop:=
 ∃ now next book B U nd F Q L J, QI s i now next book B U nd F Q L J ∧ Q.length = s.Queues.length ∧
  x=(stampV r J Q nd,(i:Int),now,next,book,B,U,nd,F,(ansV s r J F).Key,(ansV s r J F).Err,(ansV s r J F).Job,(ansV s r J F).Version,(ansV s r J F).Nums,Q,L,J)
theorem qi_of {s:zaf} {st:zah} (hw:FewW s st) (q:zda s st):QI s 0 st.Now st.Next st.Book st.Books st.Use st.Stamps.Nodes (leftL s.Nodes st.Allocs) st.Stamps.Queues (st.Allocs.map fun a=>(a.Job,a)) st.Jobs:={
 jl:=q.jobs.len
 srt:=q.jobs.sorted
 ok:=fun j hj=>(q.jobs.each j hj).ok
 ids:=fun j hj=>(q.jobs.each j hj).next
 nx:=q.nums.next
 qin:=q.use.stamps
 ql:=hw.stamps
 nd:=q.use.nodes.1
 now:=q.nums.now
 bk:=q.nums.book
 bl:=q.booked.books.len
 us:=hw.use
 fl:=by rw [leftL_len]; exact hw.spec.nodes
 fv:=left_vec q
 led:=by
  have asc:=asc_of q
  refine ⟨?_,?_,fun p hp=>?_⟩
  ·rw [List.map_map]
   unfold AscA at asc
   exact asc.imp (fun {a b} h=>by omega)
  ·have:=(few_of_sound q).allocs
   have h:=(allocsH_fwd q.allocs q.spec.nodes.ok).1
   have h2:=congrArg List.length h
   simp only [List.length_map] at h2
   have h3:(st.Jobs.filter hasJ).length≤st.Jobs.length:=List.length_filter_le _ _
   have:=q.jobs.len; have:=q.spec.jobs
   rw [List.length_map]
   omega
  ·obtain ⟨a,ha,rfl⟩:=List.mem_map.1 hp
   have g:=good_of q a ha
   rw [leftL_len]
   exact ⟨alloc_ids q a ha,hw.sh a ha,g.1,g.2⟩ }
theorem queryStamps (w:zc0) (l:List drayagelaw23xDo) (r:zaA):zcs 1000 w l r=some true:=by
 unfold zcs
 rw [awake27xok,Option.bind_some,if_neg (by simp)]
 obtain ⟨r1,e,h⟩:=few23 w.S w.St
 rw [e,Option.bind_some]
 by_cases hl:(!r1 || decide ((l.length:Int) > 20))=true
 ·rw [if_pos hl]
 rw [if_neg hl]
 simp only [Bool.or_eq_true,Bool.not_eq_true',decide_eq_true_eq,not_or,Bool.not_eq_false] at hl
 have hw:=h hl.1
 have hl20:l.length≤20:=by omega
 by_cases q:zda w.S w.St
 ·rw [law_of_ok hw q,Option.bind_some]
  have I0:=qi_of hw q
  have hql:=q.use.qlen
  have hs:=hw.spec
  have k:=q.spec
  generalize w.S=s at *
  generalize w.St=st at *
  dsimp only
  rw [if_neg (by simp)]
  rw [query_do hs k I0 (by omega) r,Option.bind_some,query_stamp k I0 (by omega) r,Option.bind_some]
  refine Ret.eq ?_
  refine lpS l.length (Rnd s r) (fun i x f hi hx hr=>?_) (fun x f hx=>?_) ⟨_,_,_,_,_,_,_,_,_,_,I0,hql,rfl⟩ (by omega)
  ·obtain ⟨now,next,book,B,U,nd,F,Q,L,J,I,hQ,rfl⟩:=hx
   have hi30:i≤30:=by omega
   have hi31:i+1≤30:=by omega
   have hn:=nums_len I r
   dsimp only
   rw [if_pos (zcH hi),zak hi,Option.bind_some,wr1 (show i<1000000 by omega)]
   generalize l[i]=d
   rw [zae]
   refine ⟨fun _=>zab.2 rfl,fun hd=>?_⟩
   simp only [Bool.or_eq_true,decide_eq_true_eq,not_or] at hd
   have go:∀{now' next' book' B' U' nd' F' Q' L' J'},QI s (i+1) now' next' book' B' U' nd' F' Q' L' J'→Chg J Q nd F J' Q' nd' F' →
     Ret ((zaQ 1000 Q' J' L' r s.Nodes s.Parts s.Queues s.Users s.Weights.Age s.Weights.Size s.Weights.Qos s.Weights.Share s.Decay s.Mode s.Jobs s.Ids s.Versions s.Linger s.Keep s.In s.Out s.Cache now' next' book' B' U' nd' F').bind fun x12=>
      (zaz 1000 Q' J' L' r now' next' book' B' U' nd').bind fun x13=>
      if (x13 == stampV r J Q nd)=true then (zay 1000 ({ Key:=(ansV s r J F).Key,Err:=(ansV s r J F).Err,Job:=(ansV s r J F).Job,Version:=(ansV s r J F).Version,Nums:=(ansV s r J F).Nums }:zap) x12).bind fun r16=>if (!r16)=true then some false else f (x13,((i+1:Nat):Int),now',next',book',B',U',nd',F',x12.Key,x12.Err,x12.Job,x12.Version,x12.Nums,Q',L',J')
      else if false=true then some false else f (x13,((i+1:Nat):Int),now',next',book',B',U',nd',F',x12.Key,x12.Err,x12.Job,x12.Version,x12.Nums,Q',L',J')) fun x=>x=true:=fun {now' next' book' B' U' nd' F' Q' L' J'} I' c=>by
    rw [query_do hs k I' hi31 r,Option.bind_some,query_stamp k I' hi31 r,Option.bind_some]
    exact tail27 (a:=ansV s r J F) (ans_same c hQ r) hn (hr _ ⟨_,_,_,_,_,_,_,_,_,_,I',by rw [c.len]; exact hQ,rfl⟩)
   dsimp only [zaR]
   have same:=Chg.same J Q nd F
   rw [zae]
   refine ⟨fun _=>?_,fun _=>?_⟩
   ·exact (put_step k I d.Job).bind fun x hx=>go hx.1 hx.2
   rw [zae]
   refine ⟨fun _=>?_,fun _=>?_⟩
   ·exact (step_step k I hi30 d.Job.Id d.What d.Ok).bind fun x hx=>go hx.1 hx.2
   rw [zae]
   refine ⟨fun _=>?_,fun _=>?_⟩
   ·exact (start_step hs k I d.Job.Id (sh:=d.Shares) (by omega)).bind fun x hx=>go hx.1 hx.2
   rw [zae]
   refine ⟨fun _=>?_,fun _=>?_⟩
   ·refine (drop_step k I d.Job.Id).bind fun x hx=>?_
    cases x with
    | inl x =>
     dsimp only at hx ⊢
     rw [hx]
     exact go I.mono same
    | inr x=>exact go hx.1 hx.2
   rw [zae]
   refine ⟨fun _=>?_,fun _=>?_⟩
   ·exact (reserve_step k I hi30 d.Times.1 d.Times.2.1 d.Times.2.2).bind fun x hx=>go hx same
   rw [zae]
   refine ⟨fun _=>?_,fun _=>?_⟩
   ·exact (unreserve_step I d.Job.Id).bind fun x hx=>go hx same
   ·exact (pass_step I (V:=d.Use) (by omega) s.Users).bind fun x hx=>go hx same
  ·obtain ⟨now,next,book,B,U,nd,F,Q,L,J,I,hQ,rfl⟩:=hx
   dsimp only
   rw [if_neg (by simp [zcB]),zab]
 ·rw [law_of_no hw q,Option.bind_some]
end Go.Plain
