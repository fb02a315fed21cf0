/- A store's maps in any order: allocations shown, taken, given back; what each step of a store does. -/
import Derived.Test.YtfeddeljlbiniaaGreatLawB
set_option linter.all false
namespace Go.Plain
open Go.Abs
theorem mget_mem {α:Type} {L:List (Int×α)} {k:Int} {a:α} (h:mget L k=some a):(k,a)∈L:=by
 induction L with
 | nil=>simp [mget] at h
 | cons p L ih =>
  obtain ⟨k',a'⟩:=p
  simp only [mget] at h
  split at h
  ·rename_i e
   injection h with h
   subst e h
   exact List.mem_cons_self ..
  ·exact List.mem_cons_of_mem _ (ih h)
theorem mset_new {α:Type} {L:List (Int×α)} {k:Int} {a:α} (h:mget L k=none):mset L k a=L++[(k,a)]:=by
 induction L with
 | nil=>rfl
 | cons p L ih =>
  obtain ⟨k',a'⟩:=p
  simp only [mget] at h
  split at h
  ·simp at h
  ·rename_i e
   simp only [mset,if_neg e,ih h,List.cons_append]
theorem mget_none_ne {α:Type} {L:List (Int×α)} {k:Int} (h:mget L k=none):∀p∈L,p.1≠k:=by
 induction L with
 | nil=>simp
 | cons p L ih =>
  obtain ⟨k',a'⟩:=p
  simp only [mget] at h
  split at h
  ·simp at h
  ·rename_i e
   intro q hq
   rcases List.mem_cons.1 hq with rfl | hq
   ·exact e
   ·exact ih h q hq
theorem mdel_sub {α:Type} (L:List (Int×α)) (k:Int):(mdel L k).Sublist L:=by
 induction L with
 | nil=>exact List.Sublist.slnil
 | cons p L ih =>
  obtain ⟨k',a'⟩:=p
  simp only [mdel]
  split
  ·exact List.sublist_cons_self ..
  ·exact ih.cons₂ _
structure LedOk (n:Nat) (m:Int) (L:List (Int×zac)):Prop where
 nodup:(L.map Prod.fst).Nodup
 len:L.length≤256+n
 each:∀p∈L,(0≤p.1∧p.1≤1048576)∧p.2.Shares.length≤300∧SharesOk p.2.Shares m∧VecOk p.2.Need
theorem LedOk.mono {n:Nat} {m:Int} {L:List (Int×zac)} (h:LedOk n m L):LedOk (n+1) m L:=⟨h.nodup,by have:=h.len; omega,h.each⟩
theorem LedOk.del {n:Nat} {m:Int} {L:List (Int×zac)} (h:LedOk n m L) (k:Int):LedOk n m (mdel L k):=
 ⟨h.nodup.sublist ((mdel_sub L k).map _),Nat.le_trans (mdel_sub L k).length_le h.len,fun p hp=>h.each p ((mdel_sub L k).subset hp)⟩
theorem LedOk.add {n:Nat} {m:Int} {L:List (Int×zac)} (h:LedOk n m L) {a:zac} (hn:mget L a.Job=none) (h1:0≤a.Job∧a.Job≤1048576) (h2:a.Shares.length≤300) (h3:SharesOk a.Shares m) (h4:VecOk a.Need):LedOk (n+1) m (mset L a.Job a):=by
 rw [mset_new hn]
 refine ⟨?_,by have:=h.len; simp; omega,fun p hp=>?_⟩
 ·rw [List.map_append,List.nodup_append]
  refine ⟨h.nodup,by simp,fun x hx y hy=>?_⟩
  obtain ⟨p,hp,rfl⟩:=List.mem_map.1 hx
  simp at hy
  subst hy
  exact mget_none_ne hn p hp
 ·rcases List.mem_append.1 hp with hp | hp
  ·exact h.each p hp
  ·simp at hp
   subst hp
   exact ⟨h1,h2,h3,h4⟩
theorem all_gen {n:Nat} {m:Int} {L:List (Int×zac)} (h:LedOk n m L) (hn:n≤30):Ret (zaD 1000 L) fun A=>A.length≤300∧∀a∈A,a.Shares.length≤300:=by
 have hl:=h.len
 unfold zaD keysI
 rw [if_pos ⟨by omega,h.nodup,fun p hp=>i64wf (h.each p hp).1⟩,Option.bind_some]
 have hk:(((L.map Prod.fst).mergeSort (fun x y=>decide (x≤y))).map (fun k=>k)).length=L.length:=by simp
 generalize ((L.map Prod.fst).mergeSort (fun x y=>decide (x≤y))).map (fun k=>k)=K at hk ⊢
 refine lpS K.length (fun i x=>x.1=(i:Int)∧x.2.length=i∧∀a∈x.2,a.Shares.length≤300) (fun i x f hi hx hr=>?_) (fun x f hx=>?_) ⟨rfl,rfl,by simp⟩ (by omega)
 ·obtain ⟨x1,x2⟩:=x
  obtain ⟨rfl,h2,h3⟩:=hx
  dsimp only at h2 h3 ⊢
  simp only [zcs hi,if_true,zal hi,Option.bind_some,wr1 (show i<1000000 by omega)]
  have go:∀v:zac,v.Shares.length≤300→Ret ((zd4 1000 v).bind fun r8=>(app? x2 ([r8]:List zac)).bind fun z9=>f (((i+1:Nat):Int),z9)) fun A=>A.length≤300∧∀a∈A,a.Shares.length≤300:=fun v hv=>by
   rw [own_alloc (by omega),Option.bind_some,app_ok (by simp; omega),Option.bind_some]
   refine hr _ ⟨rfl,by simp [h2],fun a ha=>?_⟩
   rcases List.mem_append.1 ha with ha | ha
   ·exact h3 a ha
   ·simp at ha
    subst ha
    exact hv
  cases hg:mget L K[i] with
  | none=>exact go { Job:=0,Need:={ Cpu:=0,Mem:=0,Gpu:=0,Lic:=0 },Shares:=[] } (Nat.zero_le _)
  | some v=>exact go v (h.each _ (mget_mem hg)).2.1
 ·obtain ⟨x1,x2⟩:=x
  obtain ⟨rfl,h2,h3⟩:=hx
  dsimp only at h2 h3 ⊢
  simp only [zcr,Bool.false_eq_true,if_false,zad]
  exact ⟨by omega,h3⟩
theorem backL_ok {F:List zaa} {a:zac} (h:FitsB F a):∀r∈backL F a,VecOk r:=h
theorem give_gen {n:Nat} {L:List (Int×zac)} {F:List zaa} (h:LedOk n F.length L) (hF:F.length≤300) (hv:∀r∈F,VecOk r) (id:Int) :
  Ret (zbI 1000 L id F) fun r=>LedOk n r.2.2.length r.1∧r.2.2.length=F.length∧∀x∈r.2.2,VecOk x:=by
 unfold zbI
 cases hg:mget L id with
 | none =>
  rw [oel,zad]
  exact ⟨h,rfl,hv⟩
 | some a =>
  simp only [oel]
  obtain ⟨_,h2,h3,h4⟩:=h.each _ (mget_mem hg)
  refine (back_ok hF h2 h3 h4 hv).bind fun r hr=>?_
  rw [zaf]
  refine ⟨fun h0=>?_,fun h0=>?_⟩
  ·rw [zad]; exact ⟨h,rfl,hv⟩
  ·simp only [bne_iff_ne,ne_eq,Decidable.not_not] at h0
   rw [zad,hr.2 h0]
   refine ⟨by rw [backL_len]; exact h.del id,backL_len,hr.1.1 h0⟩
theorem take_same {M:List (Int×zac)} {a:zac} {F:List zaa} {r:List (Int×zac)×Int×List zaa} (h:zaw 1000 M a F=some r) (h0:r.2.1≠0):r.1=M∧r.2.2=F:=by
 unfold zaw at h
 simp only [zaQ,if_true,Bool.false_eq_true,if_false] at h
 have key:∀b:Bool,(if b=true then some (M,(2:Int),F) else oel (mget M a.Job) ((zaY 1000 a F).bind fun x4=>if (x4.2 != 0)=true then some (M,x4.2,F) else (zd4 1000 a).bind fun r5=>some (mset M a.Job r5,0,x4.1)) fun v3=>some (M,31,F))=some r→r.1=M∧r.2.2=F:=fun b h=>by
  split at h
  ·injection h with h; subst h; exact ⟨rfl,rfl⟩
  ·cases hg:mget M a.Job with
   | some v=>rw [hg] at h; simp only [oel] at h; injection h with h; subst h; exact ⟨rfl,rfl⟩
   | none =>
    rw [hg] at h
    simp only [oel] at h
    obtain ⟨x,_,h⟩:=Option.bind_eq_some_iff.1 h
    split at h
    ·injection h with h; subst h; exact ⟨rfl,rfl⟩
    ·obtain ⟨y,_,h⟩:=Option.bind_eq_some_iff.1 h
     injection h with h
     subst h
     exact absurd rfl h0
 split at h
 ·exact key true (by simpa using h)
 ·obtain ⟨x,_,h⟩:=Option.bind_eq_some_iff.1 h
  split at h
  ·exact key true (by simpa using h)
  ·obtain ⟨y,_,h⟩:=Option.bind_eq_some_iff.1 h
   exact key (!y) h
theorem take_gen {n:Nat} {L:List (Int×zac)} {F:List zaa} (h:LedOk n F.length L) (hF:F.length≤300) (hv:∀r∈F,VecOk r) {a:zac} (ha:a.Shares.length≤300) :
  Ret (zaw 1000 L a F) fun r=>LedOk (n+1) r.2.2.length r.1∧r.2.2.length=F.length∧(∀x∈r.2.2,VecOk x)∧(r.2.1≠0→r.1=L∧r.2.2=F):=by
 obtain ⟨r,e,h1,h2⟩:=take_ok (M:=L) (a:=a) hF ha hv
 refine ⟨r,e,?_⟩
 by_cases h0:r.2.1=0
 ·obtain ⟨h3,h4⟩:=h2 h0
  have t:=h1.1 h0
  have e2:=h4.eq
  rw [h3,e2]
  refine ⟨?_,zcG,takeA_ok t.fits,fun q=>absurd h0 q⟩
  rw [zcG]
  exact h.add t.free (by have:=t.job; omega) ha t.shares t.need
 ·obtain ⟨h3,h4⟩:=take_same e h0
  rw [h3,h4]
  exact ⟨h.mono,rfl,hv,fun _=>⟨rfl,rfl⟩⟩
end Go.Plain
