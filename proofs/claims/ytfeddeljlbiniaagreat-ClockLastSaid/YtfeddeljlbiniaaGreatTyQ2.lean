/- What each step of a store does to what is asked of it. -/
import Derived.Test.YtfeddeljlbiniaaGreatTyQ1
set_option linter.all false
namespace Go.Plain
open Go.Abs
structure QI (s:zae) (n:Nat) (now next book:Int) (B:List zag) (U:List Int) (nd:Int) (F:List zaa) (Q:List Int) (L:List (Int×zac)) (J:List zab):Prop where
 jl:(J.length:Int)≤s.Jobs
 srt:SortedJ J
 ok:∀j∈J,JobOk j
 ids:∀j∈J,j.Id<next
 nx:1≤next∧next≤s.Ids+1
 qin:StampsIn Q
 ql:Q.length≤20
 nd:0≤nd
 now:0≤now∧now≤1099511627776
 bk:1≤book∧book≤281474976710656
 bl:B.length≤16
 us:U.length≤20
 fl:F.length≤40
 fv:∀r∈F,VecOk r
 led:LedOk n F.length L
section
variable {s:zae} {n:Nat} {now next book:Int} {B:List zag} {U:List Int} {nd:Int} {F:List zaa} {Q:List Int} {L:List (Int×zac)} {J:List zab}
theorem QI.jl' (h:QI s n now next book B U nd F Q L J) (k:SpecOk s):J.length≤256:=by have:=h.jl; have:=k.jobs; omega
def jobAt (J:List zab) (id:Int):Option zab:=J.find? fun j=>decide (j.Id=id)
theorem zcI (hs:SortedJ J) {k:Nat} (hk:k<J.length):jobAt J J[k].Id=some J[k]:=by
 unfold jobAt
 cases h:J.find? fun j=>decide (j.Id=J[k].Id) with
 | none =>
  rw [List.find?_eq_none] at h
  exact absurd (by simp) (h _ (List.getElem_mem hk))
 | some j =>
  have h1:=List.find?_some h
  have h2:=List.mem_of_find?_eq_some h
  obtain ⟨m,hm,rfl⟩:=List.getElem_of_mem h2
  have:=hs.inj hm hk (by simpa using h1)
  subst this
  rfl
theorem zd6 {id:Int} (h:∀j∈J,j.Id≠id):jobAt J id=none:=by
 unfold jobAt
 rw [List.find?_eq_none]
 intro j hj
 simpa using h j hj
def verOf (J:List zab) (id:Int):Int:=match jobAt J id with | some j=>j.Version | none=>0
def cnt (P:Int→Prop) [DecidablePred P] (J:List zab) (q:Int):Int:=(J.map fun j=>if j.Queue=q∧P j.State then (1:Int) else 0).sum
def cnts (J:List zab) (q:Int):Int×Int×Int:=(cnt WaitS J q,cnt (fun x=>x=2) J q,cnt HasS J q)
theorem cnt_app (P:Int→Prop) [DecidablePred P] (J:List zab) (j:zab) {q:Int} (h:j.Queue≠q):cnt P (J++[j]) q=cnt P J q:=by
 simp [cnt,h]
theorem cnt_set (P:Int→Prop) [DecidablePred P] {J:List zab} {k:Nat} (hk:k<J.length) {j:zab} {q:Int} (h1:j.Queue≠q) (h2:J[k].Queue≠q):cnt P (J.set k j) q=cnt P J q:=by
 unfold cnt
 congr 1
 refine List.ext_getElem (by simp) fun i a b=>?_
 simp only [List.getElem_map,List.getElem_set]
 split
 ·rename_i e
  subst e
  rw [if_neg (fun h=>h1 h.1),if_neg (fun h=>h2 h.1)]
 ·rfl
theorem cnt_del (P:Int→Prop) [DecidablePred P] {J:List zab} {k:Nat} (hk:k<J.length) {q:Int} (h:¬P J[k].State):cnt P (J.take k++J.drop (k+1)) q=cnt P J q:=by
 have e:J=J.take k++(J[k]::J.drop (k+1)):=by rw [←List.drop_eq_getElem_cons hk,List.take_append_drop]
 have e2:cnt P J q=cnt P (J.take k++(J[k]::J.drop (k+1))) q:=congrArg (fun l=>cnt P l q) e
 rw [e2]
 unfold cnt
 simp only [List.map_append,List.sum_append,List.map_cons,List.sum_cons]
 rw [if_neg (fun x=>h x.2)]
 omega
structure Chg (J:List zab) (Q:List Int) (nd:Int) (F:List zaa) (J':List zab) (Q':List Int) (nd':Int) (F':List zaa):Prop where
 job:∀id,verOf J' id=verOf J id→jobAt J' id=jobAt J id
 len:Q'.length=Q.length
 que:∀q:Nat,q<Q.length→Q'[q]? = Q[q]?→cnts J' (q:Int)=cnts J (q:Int)
 nod:nd'=nd→F'=F
theorem Chg.same (J:List zab) (Q:List Int) (nd:Int) (F:List zaa):Chg J Q nd F J Q nd F:=⟨fun _ _=>rfl,rfl,fun _ _ _=>rfl,fun _=>rfl⟩
theorem aftV_ne (x:Int) (h:0≤x):aftV x≠x:=by unfold aftV; split <;> omega
theorem stampL_at {Q:List Int} (hQ:StampsIn Q) {q:Int} {i:Nat} (hi:i<Q.length) (h:(stampL Q q)[i]? = Q[i]?):(i:Int)≠q:=fun e=>by
 subst e
 unfold stampL at h
 rw [if_pos ⟨by omega,by omega⟩,Int.toNat_natCast,List.getElem?_set_self hi,List.getElem?_eq_getElem hi] at h
 simp only [Option.getD_some,Option.some.injEq] at h
 exact aftV_ne _ (hQ _ (List.getElem_mem hi)).1 h
theorem chg_app (hs:SortedJ J) {j:zab} (hlt:∀x∈J,x.Id<j.Id) (hv:1≤j.Version) (hQ:StampsIn Q):Chg J Q nd F (J++[j]) (stampL Q j.Queue) nd F:=by
 have hs':=sorted_app hs hlt
 refine ⟨fun id hid=>?_,stampL_len _ _,fun q hq hs=>?_,fun _=>rfl⟩
 ·rcases job_em J id with ⟨m,hm,rfl⟩ | hn
  ·have hm':m<(J++[j]).length:=by simp; omega
   have e:(J++[j])[m]=J[m]:=List.getElem_append_left hm
   have:=zcI hs' hm'
   rw [e] at this
   rw [this,zcI hs hm]
  ·by_cases e:j.Id=id
   ·subst e
    have hm':J.length<(J++[j]).length:=by simp
    have e2:(J++[j])[J.length]=j:=by simp
    have h1:=zcI hs' hm'
    rw [e2] at h1
    unfold verOf at hid
    rw [h1,zd6 hn] at hid
    dsimp only at hid
    omega
   ·rw [zd6 hn,zd6 fun x hx=>?_]
    rcases List.mem_append.1 hx with hx | hx
    ·exact hn x hx
    ·simp at hx; subst hx; exact e
 ·have:=stampL_at hQ hq hs
  unfold cnts
  rw [cnt_app _ _ _ (Ne.symm this),cnt_app _ _ _ (Ne.symm this),cnt_app _ _ _ (Ne.symm this)]
theorem chg_set (hs:SortedJ J) {k:Nat} (hk:k<J.length) {j:zab} (he:j.Id=J[k].Id) (hv:j.Version=J[k].Version+1) (hq:j.Queue=J[k].Queue) (hQ:StampsIn Q) {nd':Int} {F':List zaa} (hn:nd'=nd→F'=F):Chg J Q nd F (J.set k j) (stampL Q J[k].Queue) nd' F':=by
 have hs':=sorted_set hs hk he
 refine ⟨fun id hid=>?_,stampL_len _ _,fun q hq' hs=>?_,hn⟩
 ·rcases job_em J id with ⟨m,hm,rfl⟩ | hno
  ·have hm':m<(J.set k j).length:=by simpa using hm
   have h1:=zcI hs' hm'
   have h2:=zcI hs hm
   rw [List.getElem_set] at h1
   by_cases e:k=m
   ·subst e
    rw [if_pos rfl,he] at h1
    unfold verOf at hid
    rw [h1,h2] at hid
    dsimp only at hid
    omega
   ·rw [if_neg e] at h1
    rw [h1,h2]
  ·rw [zd6 hno,zd6 fun x hx=>?_]
   rcases List.mem_or_eq_of_mem_set hx with e | e
   ·exact hno x e
   ·subst e; rw [he]; exact hno _ (List.getElem_mem hk)
 ·have:=stampL_at hQ hq' hs
  unfold cnts
  have a:j.Queue≠(q:Int):=by rw [hq]; exact Ne.symm this
  rw [cnt_set _ hk a (Ne.symm this),cnt_set _ hk a (Ne.symm this),cnt_set _ hk a (Ne.symm this)]
theorem del_at {k m:Nat} (hk:k<J.length) (hm:m<(J.take k++J.drop (k+1)).length):(J.take k++J.drop (k+1))[m]=if h:m<k then J[m] else J[m+1]'(by simp at hm; omega):=by
 rw [List.getElem_append]
 split
 ·rename_i h
  rw [dif_pos (by simp at h; omega)]
  simp
 ·rename_i h
  simp at h hm
  rw [dif_neg (by omega),List.getElem_drop]
  congr 1
  simp
  omega
theorem sorted_del (hs:SortedJ J) {k:Nat} (hk:k<J.length):SortedJ (J.take k++J.drop (k+1)):=fun i hi=>by
 have hl:(J.take k++J.drop (k+1)).length=J.length-1:=by simp; omega
 rw [del_at hk,del_at hk]
 split
 ·split
  ·exact hs i (by omega)
  ·exact hs.lt (i:=i) (j:=i+1+1) (by omega) (by omega)
 ·rw [dif_neg (by omega)]
  exact hs (i+1) (by omega)
theorem del_mem {k:Nat} {x:zab} (hx:x∈J.take k++J.drop (k+1)):x∈J:=by
 rcases List.mem_append.1 hx with h | h
 ·exact List.mem_of_mem_take h
 ·exact List.mem_of_mem_drop h
theorem chg_del (hs:SortedJ J) {k:Nat} (hk:k<J.length) (hv:1≤J[k].Version) (ho:OverS J[k].State):Chg J Q nd F (J.take k++J.drop (k+1)) Q nd F:=by
 have hs':=sorted_del hs hk
 have hl:(J.take k++J.drop (k+1)).length=J.length-1:=by simp; omega
 refine ⟨fun id hid=>?_,rfl,fun q hq' _=>?_,fun _=>rfl⟩
 ·rcases job_em J id with ⟨m,hm,rfl⟩ | hno
  ·rcases Nat.lt_trichotomy m k with h | h | h
   ·have hm':m<(J.take k++J.drop (k+1)).length:=by omega
    have h1:=zcI hs' hm'
    rw [del_at hk,dif_pos h] at h1
    rw [h1,zcI hs hm]
   ·subst h
    have h1:jobAt (J.take m++J.drop (m+1)) J[m].Id=none:=by
     refine zd6 fun x hx e=>?_
     obtain ⟨i,hi,rfl⟩:=List.getElem_of_mem hx
     rw [del_at hm] at e
     split at e
     ·have:=hs.inj (by omega) hm e; omega
     ·have:=hs.inj (by omega) hm e; omega
    unfold verOf at hid
    rw [h1,zcI hs hm] at hid
    dsimp only at hid
    omega
   ·have hm':m-1<(J.take k++J.drop (k+1)).length:=by omega
    have h1:=zcI hs' hm'
    rw [del_at hk,dif_neg (by omega)] at h1
    simp only [show m-1+1=m by omega] at h1
    rw [h1,zcI hs hm]
  ·rw [zd6 hno,zd6 fun x hx=>hno x (del_mem hx)]
 ·unfold cnts
  have w:¬WaitS J[k].State:=by unfold WaitS; rcases ho with e | e <;> omega
  have h2:¬J[k].State=2:=by rcases ho with e | e <;> omega
  have hh:¬HasS J[k].State:=by unfold HasS; rcases ho with e | e <;> omega
  rw [cnt_del WaitS hk w,cnt_del (fun x=>x=2) hk h2,cnt_del HasS hk hh]
end
end Go.Plain
