/- ClockLast: the law in plain Lean. -/
import Derived.Test.YtfeddeljlbiniaaGreatTyK2
import Derived.KernelRfl
set_option linter.all false
namespace Go.Plain
open Go.Abs
section
variable {s:zae} {n:Nat} {now next book:Int} {B:List zag} {U:List Int} {nd:Int} {F:List zaa} {Q:List Int} {L:List (Int×zac)} {J:List zab}
theorem state_same (k:SpecOk s) (h:QI s n now next book B U nd F Q L J) (hn:n≤30):∃A,zah 1000 Q J L now next book B U nd=some { Now:=now,Next:=next,Book:=book,Jobs:=J,Allocs:=A,Books:=B,Use:=U,Stamps:={ Queues:=Q,Nodes:=nd } } ∧
  za8 1000 { Now:=now,Next:=next,Book:=book,Jobs:=J,Allocs:=A,Books:=B,Use:=U,Stamps:={ Queues:=Q,Nodes:=nd } } { Now:=now,Next:=next,Book:=book,Jobs:=J,Allocs:=A,Books:=B,Use:=U,Stamps:={ Queues:=Q,Nodes:=nd } }=some true:=by
 have hl:=h.jl' k; have hb:=h.bl; have hu:=h.us; have hs:=h.ql
 obtain ⟨A,e,a1,a2⟩:=all_gen h.led hn
 have haf:∀j∈J,j.After.length≤10:=fun j hj=>by have:=(h.ok j hj).afterN; omega
 refine ⟨A,?_,?_⟩
 ·unfold zah
  rw [all_jobs (by omega) haf,Option.bind_some,e,Option.bind_some,clone_books (by omega),Option.bind_some,clone_ints (by omega),Option.bind_some,show zaT 1000 Q=some Q from zc5 (by omega),Option.bind_some]
 ·unfold za8
  rw [if_pos (by simp),same_jobs _ (by first | omega | (dsimp only; omega)) haf,Option.bind_some,if_pos rfl,same_allocs _ a1 a2,Option.bind_some,if_pos rfl,same_books _ (by first | omega | (dsimp only; omega)),Option.bind_some,if_pos rfl,same_ints _ (by first | omega | (dsimp only; omega)),Option.bind_some,if_pos rfl,same_ints _ (by first | omega | (dsimp only; omega)),Option.bind_some]
  simp
theorem tick_ok (hs:FewS s) (k:SpecOk s) (h:QI s n now next book B U nd F Q L J) (hn:n≤30) (hU:(U.length:Int)=s.Users) (hv:VerOk s J) :
  Ret (zbs 1000 Q J L s.Nodes s.Parts s.Queues s.Users s.Weights.Age s.Weights.Size s.Weights.Qos s.Weights.Share s.Decay s.Mode s.Jobs s.Ids s.Versions s.Linger s.Keep s.In s.Out s.Cache now next book B U nd F) fun r=>match r with
   | .inl x=>∃e,e≠0∧now=1099511627776∧x=(Q,J,L,e,now,B,U,nd,F)
   | .inr x=>∃B' U' nd' F' Q' L' G J' J2,LoseR (now+1) (J.map (endJ (now+1))) J2∧SortedJ J2∧RemR J2 J'∧VerOk s J'∧U'.length=U.length∧QI s n (now+1) next book B' U' nd' F' Q' L' J'∧x=(Q',G,L',J',0,now+1,B',U',nd',F'):=by
 unfold zbs
 rw [spec_shown hs,Option.bind_some]
 refine (pass_ok k h hn hU s.Users rfl s.Decay).bind fun x2 hx2=>?_
 rcases hx2 with ⟨h0,hnow,e2⟩ | ⟨h0,h1,hUl,I1⟩
 ·obtain ⟨a,b⟩:=x2
  dsimp only at h0 e2 ⊢
  subst e2
  rw [if_pos (by simpa using h0),zad]
  exact ⟨a,h0,hnow,rfl⟩
 ·obtain ⟨a,b,B',U'⟩:=x2
  dsimp only at h0 h1 hUl I1 ⊢
  subst h0 h1
  rw [if_neg (by simp)]
  refine (end_ok k I1 hn hv).bind fun x3 hx3=>?_
  obtain ⟨Q3,J3,L3,e3,nd3,F3⟩:=x3
  obtain ⟨rfl,e3',I3⟩:=hx3
  dsimp only at e3' I3 ⊢
  subst e3'
  rw [if_neg (by simp)]
  have hv3:VerOk s (J.map (endJ (now+1))):=fun j hj=>by
   obtain ⟨y,hy,rfl⟩:=List.mem_map.1 hj
   exact endJ_ver (hv y hy)
  refine (lose_ok k I3 hn hv3).bind fun x4 hx4=>?_
  obtain ⟨Q4,J4,L4,e4,nd4,F4⟩:=x4
  obtain ⟨e4',R4,V4,I4⟩:=hx4
  dsimp only at e4' R4 V4 I4 ⊢
  subst e4'
  rw [if_neg (by simp)]
  refine (remove_ok k I4 hn s.Linger).bind fun x5 hx5=>?_
  obtain ⟨G,J5,e5⟩:=x5
  obtain ⟨e5',R5,I5⟩:=hx5
  dsimp only at e5' R5 I5 ⊢
  subst e5'
  rw [if_neg (by simp),zad]
  exact ⟨_,_,_,_,_,_,_,_,J4,R4,I4.srt,R5,fun j hj=>V4 j (R5.sub j hj),hUl,I5,rfl⟩
theorem fate {J2:List zab} (R:LoseR now (J.map (endJ now)) J2) {m:Nat} (hm:m<J.length):∃h2:m<J2.length,J2[m].Id=J[m].Id∧(WaitS J[m].State→J[m].After=[]→J2[m]=J[m])∧(HasS J2[m].State→J2[m]=J[m]∧HasS J[m].State∧¬J[m].Start+J[m].Wall≤now):=by
 have h1:m<(J.map (endJ now)).length:=by simpa using hm
 have h2:m<J2.length:=by rw [R.len]; exact h1
 refine ⟨h2,?_⟩
 have q:=R.at' m h1 h2
 rw [List.getElem_map] at q
 generalize J2[m]=y at q ⊢
 generalize J[m]=j at q ⊢
 have e:endJ now j=stepR j 8 now false 6∨endJ now j=stepR j 7 now false 5∨(endJ now j=j∧(j.State=3→¬j.Start+j.Wall≤now)∧¬j.State=4):=by
  unfold endJ
  split
  ·exact .inl rfl
  ·split
   ·exact .inr (.inl rfl)
   ·rename_i c
    exact .inr (.inr ⟨rfl,fun h h'=>c (.inr ⟨h,h'⟩),fun h=>c (.inl h)⟩)
 have hid:(endJ now j).Id=j.Id:=by rcases e with e | e | ⟨e,_⟩ <;> rw [e] <;> rfl
 have haf:(endJ now j).After=j.After:=by rcases e with e | e | ⟨e,_⟩ <;> rw [e] <;> rfl
 have wt:WaitS j.State→endJ now j=j:=fun w=>by
  unfold endJ
  have h3:¬j.State=3:=by rcases w with w | w <;> omega
  have h4:¬j.State=4:=by rcases w with w | w <;> omega
  rw [if_neg (fun h=>h4 h.1),if_neg (fun h=>h.elim h4 fun h=>h3 h.1)]
 refine ⟨?_,fun w ha=>?_,fun hh=>?_⟩
 ·rcases q with q | ⟨_,_,q⟩
  ·rw [q,hid]
  ·rw [q]; exact hid
 ·rcases q with q | ⟨_,ne,q⟩
  ·rw [q,wt w]
  ·rw [haf] at ne; exact absurd ha ne
 ·rcases q with q | ⟨_,_,q⟩
  ·rw [q] at hh ⊢
   rcases e with e | e | ⟨e,e1,e2⟩
   ·rw [e] at hh
    have:(6:Int)=3∨(6:Int)=4:=hh
    omega
   ·rw [e] at hh
    have:(5:Int)=3∨(5:Int)=4:=hh
    omega
   ·rw [e] at hh ⊢
    exact ⟨rfl,hh,e1 (hh.resolve_right e2)⟩
  ·rw [q] at hh
   have:(6:Int)=3∨(6:Int)=4:=hh
   omega
theorem find17 {l:List zab} (hl:l.length≤300) (id:Int):Ret (zaA 1000 l id) fun r=>(r<0∧∀j∈l,j.Id≠id)∨∃t:Nat,∃h:t<l.length,r=t∧l[t].Id=id:=by
 unfold zaA
 refine lpA l (fun _ j=>j.Id≠id) (fun i f hi _ hr=>?_) (fun f h=>?_) (by omega)
 ·simp only [zcs hi,if_true,zal hi,Option.bind_some,wr1 (show i<1000000 by omega)]
  rw [zaf]
  exact ⟨fun e=>zad.2 (.inr ⟨i,hi,rfl,by simpa using e⟩),fun e=>hr (by simpa using e)⟩
 ·simp only [zcr,Bool.false_eq_true,if_false,zad]
  exact .inl ⟨by omega,zbX (A:=fun j:zab=>j.Id≠id) h⟩
theorem aw17 {l:List zab} (hl:l.length≤300) (ha:∀j∈l,j.After.length≤10) {id:Int} (h:NotAw id l):zbN 1000 id l=some false:=by
 unfold zbN
 refine Ret.eq (lpS l.length (fun i x=>x=(i:Int)) (fun i x f hi hx hr=>?_) (fun x f hx=>?_) rfl (by omega))
 ·subst hx
  have hm:=List.getElem_mem hi
  have hj:=ha _ hm
  rw [if_pos (zcs hi),wr1 (show i<1000000 by omega)]
  refine lpS l[i].After.length (fun m x=>x=(m:Int)) (fun m x g hm' hx hg=>?_) (fun x g hx=>?_) rfl (by omega)
  ·subst hx
   rw [zal hi,Option.bind_some,if_pos (zcs hm'),wr1 (show m<1000000 by omega)]
   dsimp only [zaQ]
   simp only [zal hi,Option.bind_some]
   have next:=hg _ rfl
   rw [zaf]
   refine ⟨fun c5=>?_,fun _=>by rw [if_neg (by simp)]; exact next⟩
   rw [zaf]
   refine ⟨fun c6=>?_,fun _=>by rw [if_neg (by simp)]; exact next⟩
   rw [zal hm',Option.bind_some,if_neg]
   ·exact next
   ·simp only [bne_iff_ne,ne_eq] at c5 c6
    have:=h _ hm (fun o=>o.elim c5 c6) _ (List.getElem_mem hm')
    simpa using this
  ·subst hx
   rw [zal hi,Option.bind_some,if_neg (by simp [zcr])]
   exact hr _ rfl
 ·subst hx
  rw [if_neg (by simp [zcr]),zad]
end
theorem awake30xok:drayagelaw30xawake 1000=some true:=by kernel_rfl
theorem clockLast (w:zcX) (p:Int):zcN 1000 w p=some true:=by
 unfold zcN
 rw [awake30xok,Option.bind_some,if_neg (by simp)]
 obtain ⟨r1,e,h⟩:=few23 w.S w.St
 rw [e,Option.bind_some]
 cases r1 with
 | false=>rfl
 | true =>
  have hw:=h rfl
  rw [if_neg (by simp)]
  by_cases q:zdf w.S w.St
  ·rw [law_of_ok hw q,Option.bind_some]
   have I0:=qi_of hw q
   have hU0:=q.use.len
   have hV0:VerOk w.S w.St.Jobs:=fun j hj=>(q.jobs.each j hj).version
   have hs:=hw.spec
   have k:=q.spec
   generalize w.S=s at *
   generalize w.St=st at *
   generalize leftL s.Nodes st.Allocs=F0 at *
   generalize (st.Allocs.map fun a=>(a.Job,a))=L0 at *
   dsimp only
   rw [if_neg (by simp)]
   have hrem:rem? (IntKind.i64.wrap p) 20=some ((IntKind.i64.wrap p).tmod 20):=by unfold rem?; rw [if_neg (by decide)]
   have hlt:(IntKind.i64.wrap p).tmod 20<20:=Int.tmod_lt_of_pos _ (by decide)
   generalize (IntKind.i64.wrap p).tmod 20=T at hrem hlt
   refine Ret.eq ?_
   refine lpS T.toNat (fun i x=>∃now B U nd F Q L J,QI s 0 now st.Next st.Book B U nd F Q L J∧(U.length:Int)=s.Users∧VerOk s J∧x=((i:Int),now,B,U,nd,F,Q,L,J)) (fun i x f hi hx hr=>?_) (fun x f hx=>?_) ⟨_,_,_,_,_,_,_,_,I0,hU0,hV0,rfl⟩ (by omega)
   ·obtain ⟨now,B,U,nd,F,Q,L,J,I,hU,hV,rfl⟩:=hx
    have hl:=I.jl' k
    dsimp only
    rw [hrem,Option.bind_some,if_pos (by simp; omega),wr1 (show i<1000000 by omega)]
    obtain ⟨A,eA,sA⟩:=state_same k I (by omega)
    rw [eA,Option.bind_some]
    refine (tick_ok hs k I (by omega) hU hV).bind fun x hx=>?_
    cases x with
    | inl x =>
     obtain ⟨e,he,hnow,rfl⟩:=hx
     dsimp only
     rw [if_pos (by simpa using he),if_pos (by simpa using hnow),eA,Option.bind_some,sA,Option.bind_some,zad]
    | inr x =>
     obtain ⟨B',U',nd',F',Q',L',G,J',J2,R2,S2,R',V',hU',I',rfl⟩:=hx
     have hl':=I'.jl' k
     dsimp only
     rw [if_neg (by simp)]
     obtain ⟨A',eA',_⟩:=state_same k I' (by omega)
     rw [eA',Option.bind_some]
     dsimp only
     refine lpS J.length (fun m x=>x=(m:Int)) (fun m x g hm hx hg=>?_) (fun x g hx=>?_) rfl (by omega)
     ·subst hx
      obtain ⟨h2,f1,f2,f3⟩:=fate R2 hm
      have cont:=hg _ rfl
      rw [if_pos (zcs hm)]
      dsimp only [zaQ]
      rw [zal hm,Option.bind_some,wr1 (show m<1000000 by omega)]
      have jo:=I.ok _ (List.getElem_mem hm)
      have jst:=jo.start; have jwl:=jo.wall
      refine (find17 (l:=J') (by omega) J[m].Id).bind fun r hr1=>?_
      rw [zaf]
      simp only [za0,za6,Option.bind_some]
      refine ⟨fun hneg=>?_,fun hpos=>?_⟩
      ·have hno:∀j∈J',j.Id≠J[m].Id:=by
        rcases hr1 with ⟨_,q⟩ | ⟨t,_,q,_⟩
        ·exact q
        ·simp only [decide_eq_true_eq] at hneg; omega
       have hout:OverS J2[m].State∧NotAw J2[m].Id J':=by
        rcases R'.out _ (List.getElem_mem h2) with q | q
        ·exact absurd f1 (hno _ q)
        ·exact q
       rw [f1] at hout
       rw [if_neg,aw17 (by omega) (fun j hj=>by have:=(I'.ok j hj).afterN; omega) hout.2,Option.bind_some,if_neg (by simp)]
       ·exact cont
       ·intro c
        simp only [Bool.and_eq_true,Bool.or_eq_true,beq_iff_eq] at c
        have w:WaitS J[m].State:=c.1
        have ae:J[m].After=[]:=List.eq_nil_of_length_eq_zero (by omega)
        have:=f2 w ae
        rw [this] at hout
        rcases hout.1 with o | o <;> rcases w with w | w <;> omega
      ·rcases hr1 with ⟨q,_⟩ | ⟨t,ht,rfl,eid⟩
       ·simp only [decide_eq_true_eq] at hpos; omega
       have same:J'[t]=J2[m]:=by
        obtain ⟨v,hv',ev⟩:=List.getElem_of_mem (R'.sub _ (List.getElem_mem ht))
        rw [←ev] at eid ⊢
        have:=S2.inj hv' h2 (by rw [eid,f1])
        subst this
        rfl
       rw [zal ht,Option.bind_some,same]
       have wq:((J[m].State == 1 || J[m].State == 2)&&((J[m].After.length:Int) == 0)&&(J2[m].State != J[m].State))=false:=by
        cases hc:((J[m].State == 1 || J[m].State == 2)&&((J[m].After.length:Int) == 0)) with
        | false=>rfl
        | true =>
         simp only [Bool.and_eq_true,Bool.or_eq_true,beq_iff_eq] at hc
         rw [f2 hc.1 (List.eq_nil_of_length_eq_zero (by omega))]
         simp
       rw [zaf]
       refine ⟨fun hh=>?_,fun _=>by rw [wq,if_neg (by simp)]; exact cont⟩
       simp only [Bool.or_eq_true,beq_iff_eq] at hh
       obtain ⟨e1,e2,e3⟩:=f3 hh
       rw [if_neg,wq,if_neg (by simp)]
       ·exact cont
       ·rw [e1,wr (by omega) (by omega)]
        have hb:(J[m].State == 3 || J[m].State == 4)=true:=by
         have e2:J[m].State=3∨J[m].State=4:=e2
         simpa using e2
        rw [hb]
        simp
        omega
     ·subst hx
      rw [if_neg (by simp [zcr])]
      exact hr _ ⟨_,_,_,_,_,_,_,_,I',by rw [hU']; exact hU,V',rfl⟩
   ·obtain ⟨now,B,U,nd,F,Q,L,J,I,hU,hV,rfl⟩:=hx
    dsimp only
    rw [hrem,Option.bind_some,if_neg (by simp; omega),zad]
  ·rw [law_of_no hw q,Option.bind_some]
end Go.Plain
