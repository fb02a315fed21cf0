/- A tick: what it does to each job. -/
import Derived.Test.YtfeddeljlbiniaaGreatTyK1
set_option linter.all false
namespace Go.Plain
open Go.Abs
section
variable {α:Type}
def upto (f:α→α) (l:List α) (i:Nat):List α:=(l.take i).map f++l.drop i
theorem upto_len (f:α→α) (l:List α) (i:Nat):(upto f l i).length=l.length:=by simp [upto]; omega
theorem upto_zero (f:α→α) (l:List α):upto f l 0=l:=by simp [upto]
theorem upto_all (f:α→α) (l:List α):upto f l l.length=l.map f:=by simp [upto]
theorem upto_at (f:α→α) {l:List α} {i:Nat} (hi:i<l.length):(upto f l i)[i]'(by rw [upto_len]; exact hi)=l[i]:=by
 simp only [upto]
 rw [List.getElem_append_right (by simp; omega)]
 simp only [List.length_map,List.length_take,List.getElem_drop]
 congr 1
 omega
theorem upto_succ (f:α→α) {l:List α} {i:Nat} (hi:i<l.length):(upto f l i).set i (f l[i])=upto f l (i+1):=by
 unfold upto
 rw [List.take_succ_eq_append_getElem hi,List.map_append,List.drop_eq_getElem_cons hi,List.append_assoc]
 rw [List.set_append_right _ _ (by simp; omega)]
 congr 1
 simp only [List.length_map,List.length_take,show i-min i l.length=0 by omega,List.set_cons_zero,List.map_cons,List.map_nil,List.cons_append,List.nil_append]
theorem upto_same (f:α→α) {l:List α} {i:Nat} (hi:i<l.length) (h:f l[i]=l[i]):upto f l i=upto f l (i+1):=by
 rw [←upto_succ f hi,h]
 have:=upto_at f hi
 exact (by rw [←this]; simp:upto f l i=(upto f l i).set i l[i])
end
def VerOk (s:zae) (J:List zab):Prop:=∀j∈J,j.Version≤s.Versions+extraV j.State
theorem ver_lt {s:zae} (k:SpecOk s) {J:List zab} (h:VerOk s J) {j:zab} (hj:j∈J):j.Version<281474976710656:=by
 have:=h j hj; have:=k.versions; have:=extra_bd j.State; omega
theorem VerOk.set {s:zae} {J:List zab} (h:VerOk s J) {i:Nat} {j:zab} (hj:j.Version≤s.Versions+extraV j.State):VerOk s (J.set i j):=fun x hx=>by
 rcases List.mem_or_eq_of_mem_set hx with q | q
 ·exact h x q
 ·subst q; exact hj
section
variable {s:zae} {n:Nat} {now next book:Int} {B:List zag} {U:List Int} {nd:Int} {F:List zaa} {Q:List Int} {L:List (Int×zac)} {J:List zab}
theorem pass_ok (k:SpecOk s) (h:QI s n now next book B U nd F Q L J) (hn:n≤30) (hU:(U.length:Int)=s.Users) (i5:Int) (h5:i5=s.Users) (d:Int) :
  Ret (zbO 1000 Q J L s.Users d i5 now next book B U nd) fun r=>(r.1≠0∧now=1099511627776∧r.2=(now,B,U))∨(r.1=0∧r.2.1=now+1∧r.2.2.2.length=U.length∧QI s n (now+1) next book r.2.2.1 r.2.2.2 nd F Q L J):=by
 have hl:=h.jl' k
 have hus:=h.us
 have hnow:=h.now
 subst h5
 unfold zbO
 obtain ⟨A,e⟩:=state_gen k h hn
 rw [e,Option.bind_some]
 dsimp only
 refine (charges_ret (by omega) s.Users).bind fun C _=>?_
 refine (utick_ok hus d).bind fun V hV=>?_
 unfold zcM
 rw [ret_bind,zaf]
 refine ⟨fun h1=>?_,fun h1=>?_⟩
 ·simp only [decide_eq_true_eq] at h1
  rw [zad,zad]
  exact .inl ⟨by simp,by omega,rfl⟩
 ·simp only [decide_eq_true_eq] at h1
  dsimp only [zaQ]
  rw [if_neg (by simp [hV.1,hU]),ret_bind]
  refine (share_right V (by rw [hV.1]; omega)).mono fun b hb=>?_
  have:=hb.2 hV.2
  subst this
  rw [if_neg (by simp),clone_ints (by rw [hV.1]; omega),Option.bind_some,ret_bind]
  refine (expire_ret h.bl _).mono fun r hr=>?_
  rw [zad,zad,wr (by omega) (by omega)]
  exact .inr ⟨rfl,rfl,hV.1,{ h with now:=by omega,bl:=hr,us:=by rw [hV.1]; exact hus }⟩
def endJ (now:Int) (j:zab):zab:=if j.State=4∧j.Kill=true then stepR j 8 now false 6 else if j.State=4∨j.State=3∧j.Start+j.Wall≤now then stepR j 7 now false 5 else j
theorem endJ_ver {j:zab} (h:j.Version≤s.Versions+extraV j.State):(endJ now j).Version≤s.Versions+extraV (endJ now j).State:=by
 unfold endJ
 split
 ·rename_i c
  have e:extraV j.State=2:=by rw [c.1]; rfl
  have e2:extraV (stepR j 8 now false 6).State=3:=rfl
  rw [e2]
  show j.Version+1≤_
  omega
 ·split
  ·rename_i c
   have e2:extraV (stepR j 7 now false 5).State=3:=rfl
   rw [e2]
   show j.Version+1≤_
   rcases c with c | c
   ·have e:extraV j.State=2:=by rw [c]; rfl
    omega
   ·have e:extraV j.State=1:=by rw [c.1]; rfl
    omega
  ·exact h
theorem end_ok (k:SpecOk s) (h:QI s n now next book B U nd F Q L J) (hn:n≤30) (hv:VerOk s J) :
  Ret (zby 1000 Q J L now next book B U nd F) fun r=>r.2.1=J.map (endJ now)∧r.2.2.2.1=0∧QI s n now next book B U r.2.2.2.2.1 r.2.2.2.2.2 r.1 r.2.2.1 (J.map (endJ now)):=by
 have hl:=h.jl' k
 unfold zby
 obtain ⟨A,e⟩:=state_gen k h hn
 rw [e,Option.bind_some]
 dsimp only
 refine lpS J.length (fun i x=>∃nd' F' Q' L',QI s n now next book B U nd' F' Q' L' (upto (endJ now) J i)∧x=((i:Int),nd',F',Q',upto (endJ now) J i,L')) (fun i x f hi hx hr=>?_) (fun x f hx=>?_) ⟨nd,F,Q,L,by rw [upto_zero]; exact h,by rw [upto_zero]; rfl⟩ (by omega)
 ·obtain ⟨nd',F',Q',L',I,rfl⟩:=hx
  dsimp only
  have hi':i<(upto (endJ now) J i).length:=by rw [upto_len]; exact hi
  have ea:=upto_at (endJ now) hi
  have jo:=h.ok _ (List.getElem_mem hi)
  have hst:=jo.start; have hwl:=jo.wall
  have lv:=ver_lt k hv (List.getElem_mem hi)
  rw [if_pos (zcs hi)]
  dsimp only [zaQ]
  rw [zal hi,Option.bind_some,wr1 (show i<1000000 by omega)]
  have step:∀(what ns:Int),what≠3→nextS J[i].State what=some ns→endJ now J[i]=stepR J[i] what now false ns →
    Ret ((zaH 1000 Q' (upto (endJ now) J i) L' J[i].Id what false now nd' F').bind fun x7=>f (((i+1:Nat):Int),x7.2.2.2.2.1,x7.2.2.2.2.2,x7.1,x7.2.1,x7.2.2.1)) fun r=>r.2.1=J.map (endJ now)∧r.2.2.2.1=0∧QI s n now next book B U r.2.2.2.2.1 r.2.2.2.2.2 r.1 r.2.2.1 (J.map (endJ now)):=fun what ns w3 hns he=>by
   obtain ⟨L2,nd2,F2,es,I2⟩:=step_exact k I hi' w3 (what:=what) (ns:=ns) (by rw [ea]; exact hns) (by rw [ea]; exact lv) false
   rw [ea] at es I2
   rw [es,Option.bind_some]
   dsimp only
   rw [←he,upto_succ (endJ now) hi] at I2 ⊢
   exact hr _ ⟨_,_,_,_,I2,rfl⟩
  have stay:endJ now J[i]=J[i]→Ret (f (((i+1:Nat):Int),nd',F',Q',upto (endJ now) J i,L')) fun r=>r.2.1=J.map (endJ now)∧r.2.2.2.1=0∧QI s n now next book B U r.2.2.2.2.1 r.2.2.2.2.2 r.1 r.2.2.1 (J.map (endJ now)):=fun he=>by
   rw [upto_same (endJ now) hi he] at I ⊢
   exact hr _ ⟨_,_,_,_,I,rfl⟩
  rw [wr (x:=J[i].Start+J[i].Wall) (by omega) (by omega)]
  rw [zaf]
  refine ⟨fun c=>?_,fun c=>?_⟩
  ·simp only [Bool.and_eq_true,beq_iff_eq] at c
   exact step 8 6 (by decide) (by rw [c.1]; decide) (if_pos c)
  ·simp only [Bool.and_eq_true,beq_iff_eq] at c
   have last:∀b:Bool,(b=true↔(J[i].State=4∨J[i].State=3∧J[i].Start+J[i].Wall≤now))→Ret (if b=true then (zaH 1000 Q' (upto (endJ now) J i) L' J[i].Id 7 false now nd' F').bind fun x10=>f (((i+1:Nat):Int),x10.2.2.2.2.1,x10.2.2.2.2.2,x10.1,x10.2.1,x10.2.2.1) else f (((i+1:Nat):Int),nd',F',Q',upto (endJ now) J i,L')) fun r=>r.2.1=J.map (endJ now)∧r.2.2.2.1=0∧QI s n now next book B U r.2.2.2.2.1 r.2.2.2.2.2 r.1 r.2.2.1 (J.map (endJ now)):=fun b hb=>by
    rw [zaf]
    refine ⟨fun c2=>?_,fun c2=>?_⟩
    ·have c3:=hb.1 c2
     refine step 7 5 (by decide) ?_ (by unfold endJ; rw [if_neg c,if_pos c3])
     rcases c3 with e | e
     ·rw [e]; decide
     ·rw [e.1]; decide
    ·refine stay ?_
     unfold endJ
     rw [if_neg c,if_neg fun c3=>c2 (hb.2 c3)]
   rw [zaf]
   refine ⟨fun c4=>last _ ?_,fun c4=>last _ ?_⟩
   ·simp only [beq_iff_eq] at c4 ⊢
    exact ⟨fun _=>.inl c4,fun _=>c4⟩
   ·simp only [beq_iff_eq,Bool.and_eq_true,decide_eq_true_eq] at c4 ⊢
    exact ⟨fun e=>.inr e,fun e=>e.resolve_left c4⟩
 ·obtain ⟨nd',F',Q',L',I,rfl⟩:=hx
  dsimp only
  rw [if_neg (by simp [zcr]),zad]
  rw [upto_all] at I ⊢
  exact ⟨rfl,rfl,I⟩
structure LoseR (now:Int) (J J':List zab):Prop where
 len:J'.length=J.length
 at':∀i (h:i<J.length) (h':i<J'.length),J'[i]=J[i]∨(WaitS J[i].State∧J[i].After≠[]∧J'[i]=stepR J[i] 6 now false 6)
theorem lose_ok (k:SpecOk s) (h:QI s n now next book B U nd F Q L J) (hn:n≤30) (hv:VerOk s J) :
  Ret (zbm 1000 Q J L now next book B U nd F) fun r=>r.2.2.2.1=0∧LoseR now J r.2.1∧VerOk s r.2.1∧QI s n now next book B U r.2.2.2.2.1 r.2.2.2.2.2 r.1 r.2.2.1 r.2.1:=by
 have hl:=h.jl' k
 unfold zbm
 obtain ⟨A,e⟩:=state_gen k h hn
 rw [e,Option.bind_some]
 dsimp only
 refine lpS J.length (fun i x=>∃nd' F' Q' L' J',QI s n now next book B U nd' F' Q' L' J'∧LoseR now J J'∧VerOk s J'∧x=(J',(i:Int),nd',F',Q',J',L')) (fun i x f hi hx hr=>?_) (fun x f hx=>?_) ⟨nd,F,Q,L,J,h,⟨rfl,fun i _ _=>.inl rfl⟩,hv,rfl⟩ (by omega)
 ·obtain ⟨nd',F',Q',L',J',I,R,V,rfl⟩:=hx
  dsimp only
  have hi':i<J'.length:=by rw [R.len]; exact hi
  have jo:=I.ok _ (List.getElem_mem hi')
  have haf:=jo.afterN
  have hl':=I.jl' k
  have lv:=ver_lt k V (List.getElem_mem hi')
  rw [if_pos (zcs hi)]
  dsimp only [zaQ]
  rw [zal hi',Option.bind_some,wr1 (show i<1000000 by omega)]
  rw [life_waits,Option.bind_some]
  have stay:=hr (J',((i+1:Nat):Int),nd',F',Q',J',L') ⟨_,_,_,_,_,I,R,V,rfl⟩
  rw [zaf]
  refine ⟨fun c=>?_,fun c=>?_⟩
  ·simp only [decide_eq_true_eq] at c
   refine (lost_ret (j:=J'[i]) (J:=J') (by omega) (by omega)).bind fun b hb=>?_
   rw [zaf]
   refine ⟨fun hb'=>?_,fun _=>stay⟩
   have ne:=hb hb'
   have hns:nextS J'[i].State 6=some 6:=by rcases c with c | c <;> rw [c] <;> decide
   obtain ⟨L2,nd2,F2,es,I2⟩:=step_exact k I hi' (what:=6) (ns:=6) (by decide) hns lv false
   rw [es,Option.bind_some]
   dsimp only
   obtain ⟨A2,e2⟩:=state_gen k I2 hn
   rw [e2,Option.bind_some]
   dsimp only
   have same:J'[i]=J[i]:=by
    rcases R.at' i hi hi' with q | ⟨_,_,q⟩
    ·exact q
    ·rw [q] at c
     have:(6:Int)=1∨(6:Int)=2:=c
     omega
   refine hr _ ⟨_,_,_,_,_,I2,⟨by rw [List.length_set]; exact R.len,fun m h1 h2=>?_⟩,V.set ?_,rfl⟩
   ·rw [List.getElem_set]
    split
    ·rename_i em
     subst em
     rw [←same]
     exact .inr ⟨c,ne,rfl⟩
    ·exact R.at' m h1 (by simpa using h2)
   ·have:=V _ (List.getElem_mem hi')
    have e0:extraV J'[i].State=0:=by rcases c with c | c <;> rw [c] <;> rfl
    have e3:extraV (stepR J'[i] 6 now false 6).State=3:=rfl
    rw [e3]
    show J'[i].Version+1≤_
    omega
  ·rw [if_neg (by simp)]
   exact stay
 ·obtain ⟨nd',F',Q',L',J',I,R,V,rfl⟩:=hx
  dsimp only
  rw [if_neg (by simp [zcr]),zad]
  exact ⟨rfl,R,V,I⟩
structure RemR (J J':List zab):Prop where
 sub:∀j∈J',j∈J
 out:∀j∈J,j∈J'∨(OverS j.State∧NotAw j.Id J')
theorem del_in {k m:Nat} (hk:k<J.length) (hm:m<J.length) (h:m≠k):J[m]∈J.take k++J.drop (k+1):=by
 have hl:(J.take k++J.drop (k+1)).length=J.length-1:=by simp; omega
 rcases Nat.lt_or_ge m k with q | q
 ·have h':m<(J.take k++J.drop (k+1)).length:=by omega
  have:=del_at hk h'
  rw [dif_pos q] at this
  rw [←this]; exact List.getElem_mem _
 ·have h':m-1<(J.take k++J.drop (k+1)).length:=by omega
  have:=del_at hk h'
  rw [dif_neg (by omega)] at this
  simp only [show m-1+1=m by omega] at this
  rw [←this]; exact List.getElem_mem _
theorem remove_ok (k:SpecOk s) (h:QI s n now next book B U nd F Q L J) (hn:n≤30) (lg:Int) :
  Ret (za5 1000 Q J L lg now next book B U nd) fun r=>r.2.2=0∧RemR J r.2.1∧QI s n now next book B U nd F Q L r.2.1:=by
 have hl:=h.jl' k
 unfold za5
 obtain ⟨A,e⟩:=state_gen k h hn
 rw [e,Option.bind_some]
 dsimp only
 refine lpS J.length (fun i x=>∃J',QI s n now next book B U nd F Q L J'∧RemR J J'∧x=((i:Int),J')) (fun i x f hi hx hr=>?_) (fun x f hx=>?_) ⟨J,h,⟨fun _ h=>h,fun j hj=>.inl hj⟩,rfl⟩ (by omega)
 ·obtain ⟨J',I,R,rfl⟩:=hx
  dsimp only
  rw [if_pos (zcs hi),zal hi,Option.bind_some,wr1 (show i<1000000 by omega),life_over,Option.bind_some,zaf]
  have stay:=hr (((i+1:Nat):Int),J') ⟨_,I,R,rfl⟩
  refine ⟨fun _=>?_,fun _=>stay⟩
  refine (drop_exact k I J[i].Id).bind fun x hx=>?_
  cases x with
  | inl x =>
   dsimp only at hx ⊢
   rw [hx]
   exact stay
  | inr x =>
   dsimp only at hx ⊢
   obtain ⟨m,hm,em,om,aw,ex,I2⟩:=hx
   refine hr _ ⟨_,I2,⟨fun j hj=>R.sub j (by rw [ex] at hj; exact del_mem hj),fun j hj=>?_⟩,rfl⟩
   have less:∀{id:Int},NotAw id J'→NotAw id x.2:=fun {id} hw y hy=>hw y (by rw [ex] at hy; exact del_mem hy)
   rcases R.out j hj with q | ⟨q1,q2⟩
   ·obtain ⟨t,ht,rfl⟩:=List.getElem_of_mem q
    by_cases et:t=m
    ·subst et
     exact .inr ⟨om,by rw [em]; exact less aw⟩
    ·left
     rw [ex]
     exact del_in hm ht et
   ·exact .inr ⟨q1,less q2⟩
 ·obtain ⟨J',I,R,rfl⟩:=hx
  dsimp only
  rw [if_neg (by simp [zcr]),zad]
  exact ⟨rfl,R,I⟩
end
end Go.Plain
