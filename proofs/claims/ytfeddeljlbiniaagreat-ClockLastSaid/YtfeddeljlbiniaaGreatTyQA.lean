/- A store between two steps, shown. -/
import Derived.Test.YtfeddeljlbiniaaGreatTyQ2
set_option linter.all false
namespace Go.Plain
open Go.Abs
section
variable {s:zae} {n:Nat} {now next book:Int} {B:List zag} {U:List Int} {nd:Int} {F:List zaa} {Q:List Int} {L:List (Int×zac)} {J:List zab}
theorem QI.mono (h:QI s n now next book B U nd F Q L J):QI s (n+1) now next book B U nd F Q L J:={ h with led:=h.led.mono }
theorem QI.set (h:QI s n now next book B U nd F Q L J) {i:Nat} (hi:i<J.length) {j:zab} (he:j.Id=J[i].Id) (jo:JobOk j) {q:Int} {m:Nat} {nd':Int} {F':List zaa} {L':List (Int×zac)} (b1:0≤nd') (b2:F'.length=F.length) (b3:∀r∈F',VecOk r) (b4:LedOk m F'.length L'):QI s m now next book B U nd' F' (stampL Q q) L' (J.set i j):={
 jl:=by simpa using h.jl
 srt:=sorted_set h.srt hi he
 ok:=fun x hx=>by
  rcases List.mem_or_eq_of_mem_set hx with q | q
  ·exact h.ok x q
  ·subst q; exact jo
 ids:=fun x hx=>by
  rcases List.mem_or_eq_of_mem_set hx with q | q
  ·exact h.ids x q
  ·subst q; rw [he]; exact h.ids _ (List.getElem_mem hi)
 nx:=h.nx
 qin:=stampL_in h.qin _
 ql:=by rw [stampL_len]; exact h.ql
 nd:=b1
 now:=h.now
 bk:=h.bk
 bl:=h.bl
 us:=h.us
 fl:=by rw [b2]; exact h.fl
 fv:=b3
 led:=b4 }
theorem expire_ret {l:List zag} (hl:l.length≤16) (t:Int):Ret (book_Expire 1000 l t) fun r=>r.length≤16:=by
 unfold book_Expire
 refine lpS l.length (fun i x=>x.1=(i:Int)∧x.2.length≤i) (fun i x f hi hx hr=>?_) (fun x f hx=>?_) ⟨rfl,by simp⟩ (by omega)
 ·obtain ⟨x1,x2⟩:=x
  obtain ⟨rfl,h2⟩:=hx
  dsimp only at h2 ⊢
  simp only [zaQ,zcs hi,if_true,zal hi,Option.bind_some,wr1 (show i<1000000 by omega)]
  rw [zaf]
  refine ⟨fun _=>?_,fun _=>hr _ ⟨rfl,by dsimp only; omega⟩⟩
  rw [app_ok (by simp; omega),Option.bind_some]
  exact hr _ ⟨rfl,by simp; omega⟩
 ·obtain ⟨x1,x2⟩:=x
  obtain ⟨rfl,h2⟩:=hx
  dsimp only at h2 ⊢
  simp only [zcr,Bool.false_eq_true,if_false,zad]
  omega
theorem state_gen (k:SpecOk s) (h:QI s n now next book B U nd F Q L J) (hn:n≤30):∃A,zah 1000 Q J L now next book B U nd=some { Now:=now,Next:=next,Book:=book,Jobs:=J,Allocs:=A,Books:=B,Use:=U,Stamps:={ Queues:=Q,Nodes:=nd } }:=by
 have hl:=h.jl' k; have hb:=h.bl; have hu:=h.us; have hs:=h.ql
 obtain ⟨A,e,_⟩:=all_gen h.led hn
 refine ⟨A,?_⟩
 unfold zah
 rw [all_jobs (by omega) (fun j hj=>by have:=(h.ok j hj).afterN; omega),Option.bind_some,e,Option.bind_some,clone_books (by omega),Option.bind_some,clone_ints (by omega),Option.bind_some,show zaT 1000 Q=some Q from zc5 (by omega),Option.bind_some]
end
theorem qi_of {s:zae} {st:zai} (hw:FewW s st) (q:zdf s st):QI s 0 st.Now st.Next st.Book st.Books st.Use st.Stamps.Nodes (leftL s.Nodes st.Allocs) st.Stamps.Queues (st.Allocs.map fun a=>(a.Job,a)) st.Jobs:={
 jl:=q.jobs.len
 srt:=q.jobs.sorted
 ok:=fun j hj=>(q.jobs.each j hj).ok
 ids:=fun j hj=>(q.jobs.each j hj).next
 nx:=q.nums.next
 qin:=q.use.stamps
 ql:=hw.stamps
 nd:=q.use.nodes.1
 now:=q.nums.now
 bk:=q.nums.book
 bl:=q.booked.books.len
 us:=hw.use
 fl:=by rw [leftL_len]; exact hw.spec.nodes
 fv:=left_vec q
 led:=by
  have asc:=asc_of q
  refine ⟨?_,?_,fun p hp=>?_⟩
  ·rw [List.map_map]
   unfold AscA at asc
   exact asc.imp (fun {a b} h=>by omega)
  ·have:=(few_of_sound q).allocs
   have h:=(allocsH_fwd q.allocs q.spec.nodes.ok).1
   have h2:=congrArg List.length h
   simp only [List.length_map] at h2
   have h3:(st.Jobs.filter hasJ).length≤st.Jobs.length:=List.length_filter_le _ _
   have:=q.jobs.len; have:=q.spec.jobs
   rw [List.length_map]
   omega
  ·obtain ⟨a,ha,rfl⟩:=List.mem_map.1 hp
   have g:=good_of q a ha
   rw [leftL_len]
   exact ⟨alloc_ids q a ha,hw.sh a ha,g.1,g.2⟩ }
end Go.Plain
