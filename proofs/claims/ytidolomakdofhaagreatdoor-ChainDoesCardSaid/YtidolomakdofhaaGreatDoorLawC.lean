/- TyH2, TyH3, TyH4, TyH5, TyH6, TyH7 -/
import Derived.Test.YtidolomakdofhaaGreatDoorLawB
import Derived.KernelRfl
set_option linter.all false
section
namespace Go.Plain
open Go.Abs
def modJ(j:zaa)(r:zap):zaa:={ j with Many:=r.Many,Need:=r.Need,Wall:=r.Wall,Version:=j.Version+1 }
def newJ(j:zaa)(now:Int)(r:zap):zaa:=
 if r.Kind=2 then modJ j r else stepR j (whatV r.Kind) now false ((nextS j.State (whatV r.Kind)).getD 0)
def done(key:Int)(j:zaa):zah:={ Key:=key,Err:=0,Job:=j.Id,Version:=j.Version,Nums:=[] }
noncomputable def altV(s:zad)(now:Int)(j:zaa)(c:zan):zaa×zah:=
 if chkV s j c.User c.Request≠0 then (j,refu c.Request.Key (chkV s j c.User c.Request)) else (newJ j now c.Request,done c.Request.Key (newJ j now c.Request))
def NowOk(now:Int):Prop:=0<=now/\now<=1099511627776
theorem alter_do{s:zad}(hs:FewS s)(k:SpecOk s){j:zaa}(hj:JobOk j){now:Int}(hn:NowOk now)(c:zan):alter_Do 1000 s j now c=some (altV s now j c):=by
 have ha:=hj.afterN;have kv:=k.versions;have jv:=hj.version;unfold alter_Do altV;rw[show zam 1000 j.After=some j.After from zbA (by omega),xAa,if_neg (show ¬((decide (now<0)) || (decide (now > 1099511627776)))=true by have:=hn.1;have:=hn.2;simp;omega),check_ok hs k (j:={ Id:=j.Id,User:=j.User,Queue:=j.Queue,Many:=j.Many,Need:=j.Need,Wall:=j.Wall,After:=j.After,State:=j.State,Ok:=j.Ok,Kill:=j.Kill,Version:=j.Version,Born:=j.Born,Start:=j.Start,End:=j.End,Array:=j.Array }) hj,xAa];show (if (chkV s j c.User c.Request != 0)=true then _ else _)=_;by_cases h0:chkV s j c.User c.Request=0
 ·have A:=chk_in h0;have av:=A.version;obtain ⟨t1,t2⟩:=tab_at A.kind;rw[if_neg (show ¬(chkV s j c.User c.Request != 0)=true by simpa using h0),if_neg (yBk h0)];have ap:alter_apply 1000 j now c.Request=some (newJ j now c.Request,0):=by
   unfold alter_apply newJ;rw[t1,t2,xAa,xAa];by_cases h2:c.Request.Kind=2
   ·rw[if_pos h2,if_neg (show ¬(((-1:Int)) != (-1))=true by simp),if_pos h2,wr (by omega) (by omega)];rfl
   ·have wc:=what_cases A.kind h2;obtain ⟨ns,hns⟩:=A.step h2;rw[if_neg h2,if_pos (show (whatV c.Request.Kind != (-1))=true by simp;omega),if_neg h2,xAa,xAa];obtain ⟨r,er,hr⟩:=job_step hj (what:=whatV c.Request.Kind) hn false;rcases hr with ⟨_,h | h⟩ | ⟨ns',h1,_,h3⟩
    ·rw[hns] at h;cases h
    ·omega
    ·rw[hns] at h1;cases h1;rw[er,h3,hns];rfl
  rw[show alter_apply 1000 ({ Id:=j.Id,User:=j.User,Queue:=j.Queue,Many:=j.Many,Need:=j.Need,Wall:=j.Wall,After:=j.After,State:=j.State,Ok:=j.Ok,Kill:=j.Kill,Version:=j.Version,Born:=j.Born,Start:=j.Start,End:=j.End,Array:=j.Array }:zaa) now c.Request=some (newJ j now c.Request,0) from ap,xAa];dsimp only;rw[if_neg (show ¬((0:Int) != 0)=true by simp)];rfl
 ·rw[if_pos (show (chkV s j c.User c.Request != 0)=true by simpa using h0),if_pos h0];rfl
theorem ref_step16{j:zaa}{w now ns:Int}(hw:w=1∨w=2∨w=6)(hn:nextS j.State w=some ns)(hv:0<=j.Version/\j.Version<281474976710656):zcP 1000 j w now false=some (stepR j w now false ns):=by
 have hns:1<=ns/\ns<=6:=by
  unfold nextS at hn
  repeat' split at hn
  all_goals simp at hn
  all_goals omega
 unfold zcP;dsimp only[zaS];rw[ref_next hw,xAa,hn,xAc];unfold stepR;rw[wr (x:=j.Version+1) (by omega) (by omega)];by_cases ho:OverS ns
 ·have ho':ns=5∨ns=6:=ho;have hd:decide (ns≥5)=true:=by simp;omega
  rcases hw with rfl | rfl | rfl <;> simp[hd,ho]
 ·have ho':¬(ns=5∨ns=6):=ho;have hd:decide (ns≥5)=false:=by simp;omega
  rcases hw with rfl | rfl | rfl <;> simp[hd,ho]
theorem ref_alter{s:zad}(hs:FewS s)(k:SpecOk s){j:zaa}(hj:JobOk j){now:Int}(hn:NowOk now)(c:zan):drayageref25xDo 1000 s j now c=some (altV s now j c):=by
 have kv:=k.versions;have jv:=hj.version;unfold drayageref25xDo altV;dsimp only[zaS];rw[if_pos (show ((decide (now≥0))&&(decide (now<=1099511627776)))=true by have:=hn.1;have:=hn.2;simp;omega),ref_check25 hs k hj,xAa];by_cases h0:chkV s j c.User c.Request=0
 ·have A:=chk_in h0;have av:=A.version;rw[if_neg (show ¬(chkV s j c.User c.Request != 0)=true by simpa using h0),if_neg (yBk h0)];unfold newJ;by_cases h2:c.Request.Kind=2
  ·rw[if_pos (show (c.Request.Kind == 2)=true by simpa using h2),if_pos h2,wr (by omega) (by omega)];rfl
  ·have wc:=what_cases A.kind h2;obtain ⟨ns,hns⟩:=A.step h2;rw[if_neg (show ¬(c.Request.Kind == 2)=true by simpa using h2),if_neg h2,ref_what,xAa,ref_step16 wc hns (by omega),xAa,hns];rfl
 ·rw[if_pos (show (chkV s j c.User c.Request != 0)=true by simpa using h0),if_pos h0];rfl
structure Ed (s:zad) (w j:zaa):Prop where
 ok:JobOk j
 was:WaitS w.State
 now:WaitS j.State
 up:w.Version<j.Version
 top:j.Version<=s.Versions
 id:j.Id=w.Id
 user:j.User=w.User
 queue:j.Queue=w.Queue
 after:j.After=w.After
 okd:j.Ok=w.Ok
 kill:j.Kill=w.Kill
 born:j.Born=w.Born
 start:j.Start=w.Start
 fin:j.End=w.End
 arr:j.Array=w.Array
 fits:zbY 1000 s j.Queue j.Many j.Need=some true
inductive Ch (s:zad) (now:Int) (w:zaa):zaa->Prop where
 |same:Ch s now w w
 |ed {j:zaa} (h:Ed s w j):Ch s now w j
 |kill (hw:WaitS w.State) (hv:w.Version<s.Versions):Ch s now w (stepR w 6 now false 6)
 |edkill {j:zaa} (h:Ed s w j) (hv:j.Version<s.Versions):Ch s now w (stepR j 6 now false 6)
 |stop (hw:w.State=3) (hv:w.Version<s.Versions):Ch s now w (stepR w 6 now false 4)
theorem next_wait{x w ns:Int}(hw:w=1∨w=2)(h:nextS x w=some ns):WaitS x/\WaitS ns:=by
 unfold nextS at h;rcases hw with rfl | rfl
 ·by_cases e:x=1
  ·subst e;rw[if_pos ⟨rfl,rfl⟩] at h;cases h;exact ⟨.inl rfl,.inr rfl⟩
  ·rw[if_neg (by omega),if_neg (by omega),if_neg (by omega),if_neg (by omega),if_neg (by omega),if_neg (by omega),if_neg (by omega),if_neg (by omega),if_neg (by omega)] at h;cases h
 ·by_cases e:x=2
  ·subst e;rw[if_neg (by omega),if_pos ⟨rfl,rfl⟩] at h;cases h;exact ⟨.inr rfl,.inl rfl⟩
  ·rw[if_neg (by omega),if_neg (by omega),if_neg (by omega),if_neg (by omega),if_neg (by omega),if_neg (by omega),if_neg (by omega),if_neg (by omega),if_neg (by omega)] at h;cases h
theorem next_kill{x ns:Int}(h:nextS x 6=some ns):(WaitS x/\ns=6)∨(x=3/\ns=4):=by
 unfold nextS at h;rw[if_neg (by omega),if_neg (by omega),if_neg (by omega),if_neg (by omega),if_neg (by omega)] at h;split at h
 ·rename_i q;cases h;exact .inr ⟨q.2,rfl⟩
 split at h
 ·rename_i q;cases h;exact .inl ⟨q.2,rfl⟩
 ·rw[if_neg (by omega),if_neg (by omega)] at h;cases h
theorem mod_ok{j:zaa}{r:zap}(h:JobOk j)(D:DemIn r)(hv:j.Version<281474976710656):JobOk (modJ j r):=
 ⟨h.id,h.user,h.queue,D.many,D.need,D.needz,D.wall,h.afterN,h.after,by have:=h.version;simp only[modJ];omega,h.born,h.start,h.fin,h.arr,⟨h.state.st,h.state.start,h.state.fin,h.state.ok,h.state.kill⟩⟩
theorem what_eq{k:Int}(h:2<=k/\k<=5)(h2:k≠2):(k=3/\whatV k=1)∨(k=4/\whatV k=2)∨(k=5/\whatV k=6):=by
 have:k=3∨k=4∨k=5:=by omega
 rcases this with rfl | rfl | rfl
 ·exact .inl ⟨rfl,rfl⟩
 ·exact .inr (.inl ⟨rfl,rfl⟩)
 ·exact .inr (.inr ⟨rfl,rfl⟩)
theorem ed_of{s:zad}(k:SpecOk s){w j:zaa}{now:Int}(hj:JobOk j)(hn:NowOk now)(hw:WaitS w.State)(hjw:WaitS j.State)(up:w.Version<=j.Version)
  (id:j.Id=w.Id) (user:j.User=w.User) (queue:j.Queue=w.Queue) (after:j.After=w.After) (okd:j.Ok=w.Ok) (kill:j.Kill=w.Kill) (born:j.Born=w.Born) (start:j.Start=w.Start) (fin:j.End=w.End) (arr:j.Array=w.Array)
  (fits:zbY 1000 s j.Queue j.Many j.Need=some true) {r:zap} (A:AltIn s j r):Ed s w (newJ j now r)∨(r.Kind=5/\newJ j now r=stepR j 6 now false 6):=by
 have av:=A.version;have kv:=k.versions;unfold newJ;by_cases h2:r.Kind=2
 ·obtain ⟨_,D,hf⟩:=A.mod h2;rw[if_pos h2];exact .inl ⟨mod_ok hj D (by omega),hw,hjw,by simp only[modJ];omega,by simp only[modJ];omega,id,user,queue,after,okd,kill,born,start,fin,arr,hf⟩
 ·obtain ⟨ns,hns⟩:=A.step h2;rw[if_neg h2,hns,xAc];have step:∀wt,wt=1∨wt=2->nextS j.State wt=some ns->Ed s w (stepR j wt now false ns):=λwt hwt hx=>by
   obtain ⟨_,h4⟩:=next_wait hwt hx;have h4':ns=1∨ns=2:=h4;have jo:=step_jobok hj hn false hx (by omega);have e5:¬wt=5:=by omega
   have e6:¬wt=6:=by omega
   have e7:¬wt=7:=by omega
   have e8:¬wt=8:=by omega
   have e3:¬wt=3:=by omega
   have e4:¬wt=4:=by omega
   have eo:¬OverS ns:=λh=>by have h':ns=5∨ns=6:=h;omega
   refine ⟨jo,hw,h4,by simp only[stepR];omega,by simp only[stepR];omega,id,user,queue,after,?_,?_,born,?_,?_,arr,fits⟩
   ·simp only[stepR,e5,e6,e7,e8,yAx,false_or,false_and];exact okd
   ·simp only[stepR,e6,e7,yAx];exact kill
   ·simp only[stepR,e3,e4,yAx];exact start
   ·simp only[stepR,eo,yAx];exact fin
  rcases what_eq A.kind h2 with ⟨_,e⟩ | ⟨_,e⟩ | ⟨e3,e⟩
  ·rw[e] at hns ⊢;exact .inl (step 1 (.inl rfl) hns)
  ·rw[e] at hns ⊢;exact .inl (step 2 (.inr rfl) hns)
  ·rw[e] at hns ⊢;rcases next_kill hns with ⟨_,rfl⟩ | ⟨h3,_⟩
   ·exact .inr ⟨e3,rfl⟩
   ·have hjw':j.State=1∨j.State=2:=hjw;omega
theorem no_more{s:zad}{j:zaa}{r:zap}(h:j.State=4∨j.State=6)(A:AltIn s j r):False:=by
 by_cases h2:r.Kind=2
 ·have hw:j.State=1∨j.State=2:=(A.mod h2).1;omega
 ·obtain ⟨ns,hns⟩:=A.step h2;rcases what_eq A.kind h2 with ⟨_,e⟩ | ⟨_,e⟩ | ⟨_,e⟩
  ·rw[e] at hns;have hw:j.State=1∨j.State=2:=(next_wait (.inl rfl) hns).1;omega
  ·rw[e] at hns;have hw:j.State=1∨j.State=2:=(next_wait (.inr rfl) hns).1;omega
  ·rw[e] at hns;rcases next_kill hns with ⟨hw,_⟩ | ⟨h3,_⟩
   ·have hw:j.State=1∨j.State=2:=hw;omega
   ·omega
theorem ch_step{s:zad}(k:SpecOk s){w:zaa}(hw:JobOk w){now:Int}(hn:NowOk now)(fw:WaitS w.State->zbY 1000 s w.Queue w.Many w.Need=some true){j:zaa}(h:Ch s now w j){r:zap}(A:AltIn s j r):Ch s now w (newJ j now r):=by
 cases h with
 |same=>
  by_cases ws:WaitS w.State
  ·rcases ed_of k hw hn ws ws (Int.le_refl _) rfl rfl rfl rfl rfl rfl rfl rfl rfl rfl (fw ws) A with h | ⟨_,h⟩
   ·exact .ed h
   ·rw[h];exact .kill ws A.version
  ·unfold newJ;have h2:r.Kind≠2:=λh2=>ws (A.mod h2).1;obtain ⟨ns,hns⟩:=A.step h2;rw[if_neg h2,hns,xAc];rcases what_eq A.kind h2 with ⟨_,e⟩ | ⟨_,e⟩ | ⟨_,e⟩
   ·rw[e] at hns;exact absurd (next_wait (.inl rfl) hns).1 ws
   ·rw[e] at hns;exact absurd (next_wait (.inr rfl) hns).1 ws
   ·rw[e] at hns ⊢;rcases next_kill hns with ⟨h,_⟩ | ⟨h3,rfl⟩
    ·exact absurd h ws
    ·exact .stop h3 A.version
 |ed h=>
  have up:=h.up;rcases ed_of k h.ok hn h.was h.now (by omega) h.id h.user h.queue h.after h.okd h.kill h.born h.start h.fin h.arr h.fits A with h' | ⟨_,h'⟩
  ·exact .ed h'
  ·rw[h'];exact .edkill h A.version
 |kill _ _=>exact (no_more (.inr rfl) A).elim
 |edkill _ _=>exact (no_more (.inr rfl) A).elim
 |stop _ _=>exact (no_more (.inl rfl) A).elim
theorem ch_ok{s:zad}(k:SpecOk s){w:zaa}(hw:JobOk w){now:Int}(hn:NowOk now){j:zaa}(h:Ch s now w j):JobOk j/\j.Id=w.Id/\j.Queue=w.Queue:=by
 have kv:=k.versions;cases h with
 |same=>exact ⟨hw,rfl,rfl⟩
 |ed h=>exact ⟨h.ok,h.id,h.queue⟩
 |kill ws hv=>exact ⟨step_jobok hw hn false (by unfold nextS;rw[if_neg (by omega),if_neg (by omega),if_neg (by omega),if_neg (by omega),if_neg (by omega),if_neg (λq=>by have h':w.State=1∨w.State=2:=ws;omega),if_pos ⟨rfl,ws⟩]) (by omega),rfl,rfl⟩
 |edkill h hv=>exact ⟨step_jobok h.ok hn false (by unfold nextS;rw[if_neg (by omega),if_neg (by omega),if_neg (by omega),if_neg (by omega),if_neg (by omega),if_neg (λq=>by have h':=h.now;unfold WaitS at h';omega),if_pos ⟨rfl,h.now⟩]) (by omega),h.id,h.queue⟩
 |stop ws hv=>exact ⟨step_jobok hw hn false (by rw[ws];rfl) (by omega),rfl,rfl⟩
end Go.Plain
end
section
namespace Go.Plain
open Go.Abs
theorem beq_dep_iff{a b:zbL}:zbL.beq a b=true↔a=b:=by cases a;cases b;simp[zbL.beq]
theorem deps_loop{R:Option Bool}{a b:List zbL}(hl:(a.length:Int)=b.length)(ha:a.length<=300){P:Prop}(hp:P->a=b)(hR:a=b->za7 R P) :
  za7 (lpX (λf2 (x1:Int)=>
   if (decide (x1<(a.length:Int)))=true then
    (at? a x1).bind λa3=>
    (at? b x1).bind λa4=>
    if (!(zbL.beq a3 a4))=true then
     some false
    else
     f2 (IntKind.i64.wrap (x1+1))
   else R) 1000 0) P:=by
 refine lpA a (λi x=>b[i]? = some x) (λi f hi hA hr=>?_) (λf hA=>?_) (by omega)
 ·have hi':i<b.length:=by omega
  simp only[zda hi,if_true,zak hi,zak hi',Option.bind_some,wr1 (show i<1000000 by omega)];by_cases e:a[i]=b[i]
  ·rw[beq_dep_iff.2 e,if_neg (by simp)];exact hr (by rw[yAg hi',e])
  ·rw[if_pos (by simp only[yAs];cases hb:zbL.beq a[i] b[i] with | false=>rfl | true=>exact absurd (beq_dep_iff.1 hb) e)];exact no_f λp=>e (by have:=hp p;subst this;rfl)
 ·simp only[zc7,yAh,yAx];refine hR (List.ext_getElem (by omega) λi h1 h2=>?_);have:=hA i h1;rw[yAg h2] at this;exact (yBX this).symm
theorem deps_same(a b:List zbL)(ha:a.length<=300):za7 (zbi 1000 a b) (a=b):=by
 unfold zbi;by_cases hl:(a.length:Int)=b.length
 ·rw[if_neg (by simpa using hl)];exact deps_loop hl ha id λe=>yes_t e
 ·rw[if_pos (by simpa using hl)];exact no_f λe=>hl (by rw[e])
theorem job_ext{a b:zaa}(h1:a.Id=b.Id)(h2:a.User=b.User)(h3:a.Queue=b.Queue)(h4:a.Many=b.Many)(h5:a.Need=b.Need)(h6:a.Wall=b.Wall)(h7:a.After=b.After)(h8:a.State=b.State)(h9:a.Ok=b.Ok)(h10:a.Kill=b.Kill)(h11:a.Version=b.Version)(h12:a.Born=b.Born)(h13:a.Start=b.Start)(h14:a.End=b.End)(h15:a.Array=b.Array):a=b:=by cases a;cases b;simp_all
theorem job_same{a b:zaa}(ha:a.After.length<=300):za7 (job_Same 1000 a b) (a=b):=by
 unfold job_Same;rw[za7,zag];simp only[yAj,yAF];refine ⟨λ⟨⟨⟨⟨⟨c1,c2⟩,c3⟩,c4⟩,c5⟩,c6⟩=>(deps_same a.After b.After ha).bind λr hr=>?_,λh=>?_⟩
 ·rw[zaf];simp only[yAj,yAF,hr];refine ⟨λ⟨⟨⟨⟨⟨⟨⟨⟨d1,d2⟩,d3⟩,d4⟩,d5⟩,d6⟩,d7⟩,d8⟩,d9⟩=>job_ext c1 c2 c3 c4 (zd2.1 c5) c6 d1 d2 d3 d4 d5 d6 d7 d8 d9,λe=>?_⟩;subst e;simp
 ·refine no_f λe=>h ?_;subst e;exact ⟨⟨⟨⟨⟨rfl,rfl⟩,rfl⟩,rfl⟩,zd2.2 rfl⟩,rfl⟩
theorem ref_same16{a b:zaa}(ha:a.After.length<=300):za7 (zbI 1000 a b) (a=b):=by
 unfold zbI;by_cases hl:(a.After.length:Int)=b.After.length
 ·rw[if_neg (by simpa using hl)];refine deps_loop hl ha (λe=>by rw[e]) λc=>?_;rw[za7,zaf];simp only[yAj,yAF];refine ⟨λ⟨⟨⟨⟨⟨⟨⟨⟨⟨⟨⟨⟨⟨c1,c2⟩,c3⟩,c4⟩,c5⟩,c6⟩,d2⟩,d3⟩,d4⟩,d5⟩,d6⟩,d7⟩,d8⟩,d9⟩=>job_ext c1 c2 c3 c4 (zd2.1 c5) c6 c d2 d3 d4 d5 d6 d7 d8 d9,λe=>?_⟩;subst e;simp[zd2]
 ·rw[if_pos (by simpa using hl)];exact no_f λe=>hl (by rw[e])
theorem aft_ne{x:Int}(h:0<=x/\x<=281474976710656):aftV x≠x:=by unfold aftV;split <;> omega
theorem aft_ne2{x:Int}(h:0<=x/\x<=281474976710656):aftV (aftV x)≠x:=by unfold aftV;split <;> split <;> omega
theorem stamp_at{Q:List Int}{q:Int}(h:0<=q/\q<Q.length):(zdV Q q)[q.toNat]? = some (aftV (Q[q.toNat]?.getD 0)):=by unfold zdV;rw[if_pos h,yBo (by omega)]
theorem stamp_off{Q:List Int}{q:Int}{x:Nat}(h:(x:Int)≠q):(zdV Q q)[x]? = Q[x]?:=by
 unfold zdV;split
 ·rw[yAD (by omega)]
 ·rfl
structure Gone (Q Q':List Int) (q:Int):Prop where
 in':StampsIn Q'
 len:Q'.length=Q.length
 off:∀x:Nat,(x:Int)≠q->Q'[x]? = Q[x]?
 on:0<=q/\q<Q.length->Q'[q.toNat]?≠Q[q.toNat]?
theorem gone1{Q:List Int}(h:StampsIn Q)(q:Int):Gone Q (zdV Q q) q:=by
 refine ⟨stampL_in h q,stampL_len Q q,λx hx=>stamp_off hx,λhq=>?_⟩;have hlt:q.toNat<Q.length:=by omega
 rw[stamp_at hq,yAg hlt,xAc];intro e;exact aft_ne (h _ (yAk hlt)) (yBX e)
theorem gone2{Q:List Int}(h:StampsIn Q)(q:Int):Gone Q (zdV (zdV Q q) q) q:=by
 refine ⟨stampL_in (stampL_in h q) q,by rw[stampL_len,stampL_len],λx hx=>by rw[stamp_off hx,stamp_off hx],λhq=>?_⟩;have hlt:q.toNat<Q.length:=by omega
 rw[stamp_at (by rw[stampL_len];exact hq),stamp_at hq,yAg hlt,xAc,xAc];intro e;exact aft_ne2 (h _ (yAk hlt)) (yBX e)
theorem change_self(Q:List Int)(q:Int):changeQ Q q q=zdV Q q:=by unfold changeQ;rw[if_pos rfl]
theorem step_kill{st:zab}{F:List zac}(js:JS st)(as:AS st F){k:Nat}(hk:k<st.Jobs.length){ns:Int}(hn:nextS st.Jobs[k].State 6=some ns)(hf:¬(HasS st.Jobs[k].State/\¬HasS ns))(hv:st.Jobs[k].Version<281474976710656) :
  zaX 1000 st.Stamps.Queues st.Jobs (st.Allocs.map λa=>(a.Job,a)) st.Jobs[k].Id 6 false st.Now st.Stamps.Nodes F =
   some (zdV st.Stamps.Queues st.Jobs[k].Queue,st.Jobs.set k (stepR st.Jobs[k] 6 st.Now false ns),st.Allocs.map (λa=>(a.Job,a)),0,st.Stamps.Nodes,F):=by
 obtain ⟨r,er,hr⟩:=step_ok js as st.Jobs[k].Id 6 false;rw[er];congr 1;rcases hr with ⟨_,_,_,h⟩ | ⟨i,hi,ns',A',n,F',hid,_,h1,_,hfr,rfl⟩
 ·rcases h k hk rfl (by omega) with h | h
  ·rw[hn] at h;cases h
  ·omega
 ·have:=js.sorted.inj hi hk hid;subst this;rw[hn] at h1;cases h1;rcases hfr with ⟨_,rfl,rfl,rfl⟩ | ⟨h,_⟩
  ·rw[change_self]
  ·exact absurd h hf
theorem AS.set{st:zab}{F:List zac}(h:AS st F){J:List zaa}{Q:List Int}:AS { st with Jobs:=J,Stamps:={ Queues:=Q,Nodes:=st.Stamps.Nodes } } F:=
 ⟨h.good,h.few,h.vec,h.nodes,h.now⟩
theorem next_wait_kill{x:Int}(h:WaitS x):nextS x 6=some 6:=by unfold nextS;rw[if_neg (by omega),if_neg (by omega),if_neg (by omega),if_neg (by omega),if_neg (by omega),if_neg (λq=>by have h':x=1∨x=2:=h;omega),if_pos ⟨rfl,h⟩]
theorem wait_has{x:Int}(h:WaitS x):¬HasS x:=λq=>by have h1:x=1∨x=2:=h;have h2:x=3∨x=4:=q;omega
def unkill(e:zaa):zaa:={ e with State:=1,Ok:=false,Kill:=false,End:=0 }
theorem unkill_ok{e:zaa}(h:JobOk e)(hw:WaitS e.State):JobOk (unkill e):=by have hw':e.State=1∨e.State=2:=hw;have st:=h.state.start;exact ⟨h.id,h.user,h.queue,h.many,h.need,h.needz,h.wall,h.afterN,h.after,h.version,h.born,h.start,⟨by simp[unkill],by simp[unkill]⟩,h.arr,⟨by simp[unkill],λq=>by have:=st q;omega,λq=>absurd rfl q,λq=>by simp[unkill] at q,λq=>by simp[unkill] at q⟩⟩
theorem core_set{s:zad}(k':SpecOk s){st:zab}{F:List zac}(js:JS st)(as:AS st F){k:Nat}(hk:k<st.Jobs.length){j:zaa}(h:Ch s st.Now st.Jobs[k] j) :
  ∃ Q', zcD 1000 st.Stamps.Queues st.Jobs (st.Allocs.map λa => (a.Job, a)) st.Jobs[k] j st.Now st.Stamps.Nodes F = some (Q', st.Jobs.set k j, st.Allocs.map (λa => (a.Job, a)), 0, st.Stamps.Nodes, F) /\
   ((j=st.Jobs[k]/\Q'=st.Stamps.Queues)∨(j≠st.Jobs[k]/\Gone st.Stamps.Queues Q' st.Jobs[k].Queue)):=by
 have hl:=js.shows.jobs;have wo:=js.ok _ (yAk hk);have wa:=wo.afterN;have wv:=wo.version;have kv:=k'.versions;obtain ⟨jo,jid,jq⟩:=ch_ok k' wo as.now h;have ja:=jo.afterN;have jv:=jo.version;unfold zcD;rw[job_some hl js.sorted hk (by omega),xAa];dsimp only;rw[if_neg (show ¬(!true)=true by simp),tells_t (job_same (by omega)) rfl,xAa,if_neg (show ¬(!true)=true by simp)];cases h with
 |same=>rw[tells_t (job_same (by omega)) rfl,xAa,if_pos rfl,yBz];exact ⟨_,rfl,.inl ⟨rfl,rfl⟩⟩
 |ed h=>
  have ne:j≠st.Jobs[k]:=λe=>by have:=h.up;rw[e] at this;omega
  rw[tells_f (job_same (by omega)) ne,xAa,if_neg (by simp),zex,xAa,if_pos (by simpa using h.now),edit_done hl js.sorted hk (by omega) jo jid h.was h.now js.stamps,xAa,jq,change_self];exact ⟨_,rfl,.inr ⟨ne,gone1 js.stamps _⟩⟩
 |kill hw hv=>
  have ne:stepR st.Jobs[k] 6 st.Now false 6≠st.Jobs[k]:=λe=>by have:=yCj zaa.Version e;simp only[stepR] at this;omega
  rw[tells_f (job_same (by omega)) ne,xAa,if_neg (by simp),zex,xAa,if_neg (show ¬decide (WaitS (stepR st.Jobs[k] 6 st.Now false 6).State)=true by simp[stepR,WaitS]),if_pos (show (IntKind.i64.wrap ((stepR st.Jobs[k] 6 st.Now false 6).Version-1) == st.Jobs[k].Version)=true by simp only[stepR,yAF];rw[wr (by omega) (by omega)];omega),step_kill js as hk (next_wait_kill hw) (λq=>wait_has hw q.1) (by omega),xAa]
  exact ⟨_,rfl,.inr ⟨ne,gone1 js.stamps _⟩⟩
 |stop hw hv=>
  have ne:stepR st.Jobs[k] 6 st.Now false 4≠st.Jobs[k]:=λe=>by have:=yCj zaa.Version e;simp only[stepR] at this;omega
  rw[tells_f (job_same (by omega)) ne,xAa,if_neg (by simp),zex,xAa,if_neg (show ¬decide (WaitS (stepR st.Jobs[k] 6 st.Now false 4).State)=true by simp[stepR,WaitS]),if_pos (show (IntKind.i64.wrap ((stepR st.Jobs[k] 6 st.Now false 4).Version-1) == st.Jobs[k].Version)=true by simp only[stepR,yAF];rw[wr (by omega) (by omega)];omega),step_kill js as hk (show nextS st.Jobs[k].State 6=some 4 by rw[hw];rfl) (λq=>q.2 (.inr rfl)) (by omega),xAa]
  exact ⟨_,rfl,.inr ⟨ne,gone1 js.stamps _⟩⟩
 | @edkill e h hv=>
  have ev:=h.ok.version;have up:=h.up;have ne:stepR e 6 st.Now false 6≠st.Jobs[k]:=λq=>by have:=yCj zaa.Version q;simp only[stepR] at this;omega
  have eo:=unkill_ok h.ok h.now;have ee:({ Id:=(stepR e 6 st.Now false 6).Id,User:=(stepR e 6 st.Now false 6).User,Queue:=(stepR e 6 st.Now false 6).Queue,Many:=(stepR e 6 st.Now false 6).Many,Need:=(stepR e 6 st.Now false 6).Need,Wall:=(stepR e 6 st.Now false 6).Wall,After:=(stepR e 6 st.Now false 6).After,State:=1,Ok:=(stepR e 6 st.Now false 6).Ok,Kill:=false,Version:=(IntKind.i64.wrap ((stepR e 6 st.Now false 6).Version-1)),Born:=(stepR e 6 st.Now false 6).Born,Start:=(stepR e 6 st.Now false 6).Start,End:=0,Array:=(stepR e 6 st.Now false 6).Array }:zaa)=unkill e:=by simp only[stepR,unkill];rw[wr (by omega) (by omega)];refine job_ext rfl rfl rfl rfl rfl rfl rfl rfl rfl rfl ?_ rfl rfl rfl rfl;simp only;omega
  rw[tells_f (job_same (by omega)) ne,xAa,if_neg (by simp),zex,xAa,if_neg (show ¬decide (WaitS (stepR e 6 st.Now false 6).State)=true by simp[stepR,WaitS]),if_neg (show ¬(IntKind.i64.wrap ((stepR e 6 st.Now false 6).Version-1) == st.Jobs[k].Version)=true by simp only[stepR,yAF];rw[wr (by omega) (by omega)];omega)]
  unfold zdQ;rw[ee,edit_done hl js.sorted hk (by omega) eo (show (unkill e).Id=_ from h.id) h.was (.inl rfl) js.stamps,xAa];dsimp only;rw[if_neg (show ¬((0:Int) != 0)=true by simp),show (unkill e).Queue=st.Jobs[k].Queue from h.queue,change_self];have js2:=js.set hk (j:=unkill e) h.id eo (Q:=zdV st.Stamps.Queues st.Jobs[k].Queue) (stampL_in js.stamps _) (stampL_len _ _) (n:=st.Stamps.Nodes);have hk2:k<(st.Jobs.set k (unkill e)).length:=by simpa using hk
  have S:=step_kill js2 (as.set) (k:=k) hk2 (ns:=6) (by simp only[yBY];rfl) (by simp only[yBY];exact λq=>wait_has (x:=1) (.inl rfl) q.1) (by simp only[yBY];show e.Version<_;omega);simp only[yBY,List.set_set] at S;rw[show (stepR e 6 st.Now false 6).Id=(unkill e).Id from rfl,S,xAa,xAa];have es:stepR (unkill e) 6 st.Now false 6=stepR e 6 st.Now false 6:=rfl;rw[es,show (unkill e).Queue=st.Jobs[k].Queue from h.queue];exact ⟨_,rfl,.inr ⟨ne,gone2 js.stamps _⟩⟩
end Go.Plain
end
section
namespace Go.Plain
open Go.Abs
inductive Rel2 (R:zaa->zaa->Prop):List zaa->List zaa->Prop where
 |nil:Rel2 R [] []
 |cons {a b:zaa} {l m:List zaa} (h:R a b) (t:Rel2 R l m):Rel2 R (a::l) (b::m)
theorem Rel2.refl{R:zaa->zaa->Prop}(h:∀a,R a a):∀l,Rel2 R l l
 |[]=>.nil
 |a::l=>.cons (h a) (Rel2.refl h l)
theorem filter_set{R:zaa->zaa->Prop}(hr:∀a,R a a){j:zaa}:∀(l:List zaa)(k:Nat)(hk:k<l.length),hasJ j=hasJ l[k]->(hasJ l[k]=true->R l[k] j)->Rel2 R (l.filter hasJ) ((l.set k j).filter hasJ)
 |a :: l, 0, _, h, g => by
  simp only[List.getElem_cons_zero] at h g;rw[List.set_cons_zero,xAk,xAk,h];split
  ·exact .cons (g (by assumption)) (Rel2.refl hr _)
  ·exact Rel2.refl hr _
 |a :: l, k + 1, hk, h, g => by
  simp only[List.getElem_cons_succ] at h g;rw[List.set_cons_succ,xAk,xAk];have:=filter_set hr l k (by simpa using hk) h g;split
  ·exact .cons (hr a) this
  ·exact this
theorem AllocsH.rel{s:zad}{st st':zab}{R:zaa->zaa->Prop}(hp:∀a b x,R a b->PairOk s st a x->PairOk s st' b x){H H':List zaa}(r:Rel2 R H H'):∀{A F},AllocsH s st H A F->AllocsH s st' H' A F:=by
 induction r with
 |nil=>intro A F h;exact h
 |cons h t ih=>intro A F q;obtain ⟨x,A',e,h1,h2,h3⟩:=q;exact ⟨x,A',e,hp _ _ _ h h1,h2,ih h3⟩
structure Like (w j:zaa):Prop where
 id:j.Id=w.Id
 need:j.Need=w.Need
 many:j.Many=w.Many
 queue:j.Queue=w.Queue
 start:j.Start=w.Start
 wall:j.Wall=w.Wall
theorem Like.refl(j:zaa):Like j j:=⟨rfl,rfl,rfl,rfl,rfl,rfl⟩
theorem ids_set{l:List zaa}{k:Nat}(hk:k<l.length){j:zaa}(he:j.Id=l[k].Id){i:zaa}(hi:i∈l):∃x∈l.set k j,x.Id=i.Id:=by
 obtain ⟨n,hn,rfl⟩:=yA2 hi;by_cases e:k=n
 ·subst e;exact ⟨j,List.mem_set hk j,he⟩
 ·refine ⟨(l.set k j)[n]'(by simpa using hn),yAk _,?_⟩;rw[List.getElem_set_ne e]
theorem sound_set{s:zad}{st:zab}(q:SoundOk s st){k:Nat}(hk:k<st.Jobs.length){j:zaa}(he:j.Id=st.Jobs[k].Id)(jin:JobIn s st j)(hw:j.State<5->WaitsIn s st j)(hs:hasJ j=hasJ st.Jobs[k])(hsame:hasJ st.Jobs[k]=true->Like st.Jobs[k] j)
  {Q:List Int} (hQ:StampsIn Q) (hl:Q.length=st.Stamps.Queues.length):SoundOk s { st with Jobs:=st.Jobs.set k j,Stamps:={ Queues:=Q,Nodes:=st.Stamps.Nodes } }:=by
 have mem:∀x∈st.Jobs.set k j,x∈st.Jobs∨x=j:=λx hx=>yBn hx;refine ⟨q.spec,⟨q.nums.now,q.nums.next,q.nums.book⟩,⟨by have:=q.jobs.len;simpa using this,λx hx=>?_,sorted_set q.jobs.sorted hk he⟩,λx hx h5=>?_,?_,⟨q.booked.books,q.booked.live,λa ha x hx hid=>?_⟩,⟨q.use.len,q.use.use,by rw[hl];exact q.use.qlen,q.use.nodes,hQ⟩⟩
 ·have g:JobIn s st x:=by
   rcases mem x hx with h | h
   ·exact q.jobs.each x h
   ·subst h;exact jin
  exact ⟨g.ok,g.next,g.user,g.queue,g.born,g.start,g.fin,g.version⟩
 ·have g:WaitsIn s st x:=by
   rcases mem x hx with h | h
   ·exact q.waits x h h5
   ·subst h;exact hw h5
  refine ⟨g.fits,λd hd=>?_⟩;obtain ⟨i,hi,e⟩:=g.after d hd;obtain ⟨x',hx',e'⟩:=ids_set hk he hi;exact ⟨x',hx',e'.trans e⟩
 ·refine AllocsH.rel (R:=Like) (λa b x h p=>?_) (filter_set Like.refl st.Jobs k hk hs hsame) q.allocs;have ps:=p.suits;refine ⟨by rw[h.id];exact p.job,by rw[h.need];exact p.need,⟨ps.shares,by rw[h.many];exact ps.tot,by rw[h.queue];exact ps.q,by rw[h.queue];exact ps.part⟩,?_⟩;have:=p.now;rw[h.start,h.wall];exact this
 ·rcases mem x hx with h | h
  ·exact q.booked.clash a ha x h hid
  ·subst h;obtain ⟨y,hy,p⟩:=AllocsH.mem q.allocs a ha;rw[yBu] at hy;obtain ⟨n,hn,rfl⟩:=yA2 hy.1;have:k=n:=q.jobs.sorted.inj hk hn (by rw[<-he,hid];exact p.job);subst this;have L:=hsame hy.2;rw[L.start,L.wall];exact q.booked.clash a ha _ (yAk hk) p.job.symm
theorem jobin_kill{s:zad}{st:zab}{e:zaa}(h:JobIn s st e){ns:Int}(jo:JobOk (stepR e 6 st.Now false ns))(hv:e.Version<s.Versions):JobIn s st (stepR e 6 st.Now false ns):=by
 refine ⟨jo,h.next,h.user,h.queue,h.born,?_,?_,?_⟩
 ·exact h.start
 ·simp only[stepR];split
  ·exact Int.le_refl _
  ·exact h.fin
 ·have:=(extra_bd (stepR e 6 st.Now false ns).State).1;simp only[stepR] at this ⊢;omega
theorem jobin_ed{s:zad}{st:zab}{w e:zaa}(h:JobIn s st w)(g:Ed s w e):JobIn s st e:=by have:=(extra_bd e.State).1;have t:=g.top;refine ⟨g.ok,by rw[g.id];exact h.next,by rw[g.user];exact h.user,by rw[g.queue];exact h.queue,by rw[g.born];exact h.born,by rw[g.start];exact h.start,by rw[g.fin];exact h.fin,by omega⟩
theorem wait_not{j:zaa}(h:WaitS j.State):hasJ j=false:=by have h':j.State=1∨j.State=2:=h;simp only[hasJ,yBG,beq_eq_false_iff_ne,ne_eq];omega
theorem ch_sound{s:zad}{st:zab}(q:SoundOk s st){k:Nat}(hk:k<st.Jobs.length){j:zaa}(h:Ch s st.Now st.Jobs[k] j){Q:List Int}(hQ:StampsIn Q)(hl:Q.length=st.Stamps.Queues.length) :
  SoundOk s { st with Jobs:=st.Jobs.set k j,Stamps:={ Queues:=Q,Nodes:=st.Stamps.Nodes } }:=by
 have hm:=yAk hk;have wi:=q.jobs.each _ hm;obtain ⟨jo,jid,_⟩:=ch_ok q.spec wi.ok q.nums.now h;refine sound_set q hk jid ?_ ?_ ?_ ?_ hQ hl
 ·cases h with
  |same=>exact wi
  |ed g=>exact jobin_ed wi g
  |kill hw hv=>exact jobin_kill wi jo hv
  |edkill g hv=>exact jobin_kill (jobin_ed wi g) jo hv
  |stop hw hv=>exact jobin_kill wi jo hv
 ·intro h5;cases h with
  |same=>exact q.waits _ hm h5
  |ed g=>have hw':st.Jobs[k].State=1∨st.Jobs[k].State=2:=g.was;have W:=q.waits _ hm (by omega);exact ⟨g.fits,by rw[g.after];exact W.after⟩
  |kill hw hv=>simp[stepR] at h5
  |edkill g hv=>simp[stepR] at h5
  |stop hw hv=>have W:=q.waits _ hm (by omega);exact ⟨W.fits,W.after⟩
 ·cases h with
  |same=>rfl
  |ed g=>rw[wait_not g.now,wait_not g.was]
  |kill hw hv=>rw[wait_not hw];rfl
  |edkill g hv=>rw[wait_not g.was];rfl
  |stop hw hv=>simp[hasJ,stepR,hw]
 ·intro hj;cases h with
  |same=>exact Like.refl _
  |ed g=>rw[wait_not g.was] at hj;cases hj
  |kill hw hv=>rw[wait_not hw] at hj;cases hj
  |edkill g hv=>rw[wait_not g.was] at hj;cases hj
  |stop hw hv=>exact ⟨rfl,rfl,rfl,rfl,rfl,rfl⟩
end Go.Plain
end
section
namespace Go.Plain
open Go.Abs
theorem lpH{α β R:Type}{b:(Int×List β->Option R)->Int×List β->Option R}{Q:R->Prop}(l:List α)(g:α->β)
  (hs:∀(i:Nat)(h:i<l.length)(z:List β)(f:Int×List β->Option R),z.length=i->Ret (f (((i+1:Nat):Int),z++[g l[i]])) Q->Ret (b f ((i:Int),z)) Q)
  (he:∀f,Ret (b f ((l.length:Int),l.map g)) Q) {N:Nat} (hN:l.length<N):Ret (lpX b N (0,[])) Q:=by
 refine lpS l.length (λi x=>x=((i:Int),(l.take i).map g)) (λi x f hi hx hr=>?_) (λx f hx=>?_) (by simp) hN
 ·subst hx;refine hs i hi _ f (by simp;omega) (hr _ ?_);rw[xAp,yAg hi,yB6];rfl
 ·subst hx;rw[yBa];exact he f
theorem mk0xok{α:Type}{l:List zan}(h:l.length<=12):(mk0? (l.length:Int):Option (List α))=some []:=by unfold mk0?;rw[if_pos (by omega)]
theorem refuse_ok{l:List zan}(hl:l.length<=12){G:zan->Option Int}{g:zan->Int}(hG:∀c∈l,G c=some (g c)) :
  ((mk0? (l.length:Int):Option (List zah)).bind λz1=>
  lpX (λf3 (x2:Int×List zah)=>
   if (decide (x2.1<(l.length:Int)))=true then
    (at? l x2.1).bind λa4=>
    (G a4).bind λx5=>
    (zaE 1000 a4.Request.Key x5).bind λr6=>
    (app? x2.2 ([r6]:List zah)).bind λz7=>
    f3 ((IntKind.i64.wrap (x2.1+1)),z7)
   else
    some x2.2) 1000 (0,z1))=some (l.map λc=>refu c.Request.Key (g c)):=by
 rw[mk0xok hl,xAa];refine Ret.eq (lpH l (λc=>refu c.Request.Key (g c)) (λi hi z f hz hr=>?_) (λf=>?_) (by omega))
 ·simp only[zda hi,if_true,zak hi,Option.bind_some,wr1 (show i<1000000 by omega),hG _ (yAk hi),zaE];rw[app_ok (by simp;omega),xAa];exact hr
 ·simp only[zc7,yAh,yAx,zaf]
noncomputable def rstep(s:zad)(now:Int)(x:zaa×List zah)(c:zan):zaa×List zah:=((altV s now x.1 c).1,x.2++[(altV s now x.1 c).2])
noncomputable def run(s:zad)(now:Int)(w:zaa)(l:List zan):zaa×List zah:=l.foldl (rstep s now) (w,[])
theorem run_succ{s:zad}{now:Int}{w:zaa}{l:List zan}{i:Nat}(hi:i<l.length):run s now w (l.take (i+1))=rstep s now (run s now w (l.take i)) l[i]:=by unfold run;rw[xAp,yAg hi,List.foldl_append];rfl
theorem run_ch{s:zad}(k:SpecOk s){now:Int}(hn:NowOk now){w:zaa}(hw:JobOk w)(fw:WaitS w.State->zbY 1000 s w.Queue w.Many w.Need=some true)(l:List zan):∀i,i<=l.length->Ch s now w (run s now w (l.take i)).1/\(run s now w (l.take i)).2.length=i:=by
 intro i;induction i with
 |zero=>intro _;exact ⟨.same,rfl⟩
 |succ i ih=>
  intro hi;obtain ⟨h1,h2⟩:=ih (by omega);rw[run_succ (by omega)];refine ⟨?_,by simp[rstep,h2]⟩;simp only[rstep,altV];split
  ·exact h1
  ·rename_i h0;exact ch_step k hw hn fw h1 (chk_in (yAN.1 h0))
theorem fold_ok{s:zad}(hs:FewS s)(k:SpecOk s){now:Int}(hn:NowOk now){w:zaa}(hw:JobOk w)(fw:WaitS w.State->zbY 1000 s w.Queue w.Many w.Need=some true){l:List zan}(hl:l.length<=12):chain_Fold 1000 s w now l=some (run s now w l):=by
 have ha:=hw.afterN;unfold chain_Fold;rw[show zam 1000 w.After=some w.After from zbA (by omega),xAa,mk0xok hl,xAa];refine Ret.eq ?_;rw[ret_bind];refine (lpS l.length (λi x=>x=((i:Int),(run s now w (l.take i)).1.Id,(run s now w (l.take i)).1.User,(run s now w (l.take i)).1.Queue,(run s now w (l.take i)).1.Many,(run s now w (l.take i)).1.Need.Cpu,(run s now w (l.take i)).1.Need.Mem,(run s now w (l.take i)).1.Need.Gpu,(run s now w (l.take i)).1.Need.Lic,(run s now w (l.take i)).1.Wall,(run s now w (l.take i)).1.After,(run s now w (l.take i)).1.State,(run s now w (l.take i)).1.Ok,(run s now w (l.take i)).1.Kill,(run s now w (l.take i)).1.Version,(run s now w (l.take i)).1.Born,(run s now w (l.take i)).1.Start,(run s now w (l.take i)).1.End,(run s now w (l.take i)).1.Array,(run s now w (l.take i)).2)) (Q:=λr=>r=run s now w l) (λi x f hi hx hr=>?_) (λx f hx=>?_) (by rfl) (by omega)).mono λr hr=>?_
 ·obtain ⟨h1,h2⟩:=run_ch k hn hw fw l i (by omega);have jo:=(ch_ok k hw hn h1).1;subst hx;dsimp only;rw[if_pos (zda hi),zak hi,xAa];rw[show alter_Do 1000 s ({ Id:=(run s now w (l.take i)).1.Id,User:=(run s now w (l.take i)).1.User,Queue:=(run s now w (l.take i)).1.Queue,Many:=(run s now w (l.take i)).1.Many,Need:=({ Cpu:=(run s now w (l.take i)).1.Need.Cpu,Mem:=(run s now w (l.take i)).1.Need.Mem,Gpu:=(run s now w (l.take i)).1.Need.Gpu,Lic:=(run s now w (l.take i)).1.Need.Lic }:zac),Wall:=(run s now w (l.take i)).1.Wall,After:=(run s now w (l.take i)).1.After,State:=(run s now w (l.take i)).1.State,Ok:=(run s now w (l.take i)).1.Ok,Kill:=(run s now w (l.take i)).1.Kill,Version:=(run s now w (l.take i)).1.Version,Born:=(run s now w (l.take i)).1.Born,Start:=(run s now w (l.take i)).1.Start,End:=(run s now w (l.take i)).1.End,Array:=(run s now w (l.take i)).1.Array }:zaa) now l[i]=some (altV s now (run s now w (l.take i)).1 l[i]) from alter_do hs k jo hn l[i],xAa,xAa];rw[app_ok (by simp only[xAd,List.length_nil];omega),xAa,wr1 (by omega)];exact hr _ (by rw[run_succ hi];rfl)
 ·subst hx;dsimp only;rw[if_neg (by rw[zc7];simp),zaf,yBa]
 ·rw[hr,zaf]
theorem ref_at{l:List zaa}(hl:l.length<=300)(hs:SortedJ l){i:Nat}(hi:i<l.length):zao 1000 l l[i].Id=some (i:Int):=by obtain ⟨r,e,h1,h2,_⟩:=ref_find hl l[i].Id;have h0:0<=r:=h1.2 ⟨_,yAk hi,rfl⟩;have a:=h2 h0;have:=hs.inj a.hi hi a.is;rw[e];congr 1;omega
theorem refH_on{x:Int}(h:0<=x/\x<=281474976710656):zcK 1000 x=some (aftV x):=by
 unfold zcK aftV;by_cases e:x=281474976710656
 ·rw[if_pos (by simpa using e),if_pos (by omega)]
 ·rw[if_neg (by simpa using e),if_neg (by omega),wr (by omega) (by omega)]
theorem ref_stamp{J:List zaa}{A:List zae}{B:List zai}{U Q:List Int}(hJ:J.length<=300)(hA:A.length<=300)(hB:B.length<=300)(hU:U.length<=300)(hl:Q.length<=300)(hQ:StampsIn Q)(now next book nd q:Int) :
  zbk 1000 J A B U Q now next book nd q=some (J,A,B,U,zdV Q q,now,next,book,nd):=by
 unfold zbk zcY;rw[zbA (by omega),zbA (by omega),zbA (by omega),zbA (by omega),zbA (by omega)];simp only[Option.bind_some,zaS];unfold zdV;by_cases hq:0<=q/\q<Q.length
 ·obtain ⟨hx,e⟩:=at_int (l:=Q) hq.1 hq.2;rw[if_pos (show ((decide (q≥0))&&(decide (q<(Q.length:Int))))=true by simp;omega),if_pos hq,e,xAa,refH_on (hQ _ (yAk hx)),xAa,xAa,yAg hx];rfl
 ·rw[if_neg (show ¬((decide (q≥0))&&(decide (q<(Q.length:Int))))=true by simp;omega),if_neg hq]
theorem ref_change{st:zab}(h:Shows st)(hs:SortedJ st.Jobs)(hQ:StampsIn st.Stamps.Queues){k:Nat}(hk:k<st.Jobs.length){j:zaa}(he:j.Id=st.Jobs[k].Id)(hq:j.Queue=st.Jobs[k].Queue) :
  zbH 1000 st j=some { st with Jobs:=st.Jobs.set k j,Stamps:={ Queues:=zdV st.Stamps.Queues j.Queue,Nodes:=st.Stamps.Nodes } }:=by
 have h1:=h.jobs;have h2:=h.allocs;have h3:=h.books;have h4:=h.use;have h5:=h.stamps;unfold zbH zbs;rw[zbA (by omega),zbA (by omega),zbA (by omega),zbA (by omega),zbA (by omega)];simp only[Option.bind_some];rw[he,ref_at h1 hs hk,xAa,zak hk,xAa,xAa,xAg,ref_stamp (by simpa using h1) h2 (by omega) (by omega) (by omega) hQ,xAa];dsimp only;rw[if_neg (by simp[hq]),hq]
theorem ref36xone{s:zad}(hs:FewS s)(k':SpecOk s){st:zab}(h:Shows st)(so:SortedJ st.Jobs)(hQ:StampsIn st.Stamps.Queues)(hn:NowOk st.Now){k:Nat}(hk:k<st.Jobs.length)(jo:JobOk st.Jobs[k]){c:zan}(hc:2<=c.Request.Kind/\c.Request.Kind<=5)(hj:c.Request.Job=st.Jobs[k].Id) :
  ∃Q',StampsIn Q'/\Q'.length=st.Stamps.Queues.length/\zbf 1000 s st c=some ({ st with Jobs:=st.Jobs.set k (altV s st.Now st.Jobs[k] c).1,Stamps:={ Queues:=Q',Nodes:=st.Stamps.Nodes } },(altV s st.Now st.Jobs[k] c).2):=by
 have h1:=h.jobs;have same:∀{e:Int},({ st with Jobs:=st.Jobs.set k st.Jobs[k],Stamps:={ Queues:=st.Stamps.Queues,Nodes:=st.Stamps.Nodes } }:zab)=st:=λ{e}=>by rw[yBz]
 unfold zbf;by_cases hu:c.User<0∨c.User≥s.Users
 ·refine ⟨st.Stamps.Queues,hQ,rfl,?_⟩;rw[if_pos (by simp;omega)];unfold altV;rw[chk_user hu,if_pos (by omega)];dsimp only;rw[same (e:=0)];rfl
 ·rw[if_neg (by simp;omega),if_neg (by simp;omega),if_pos (by simp;omega)];unfold zej;rw[hj,ref_at h1 so hk,xAa,if_neg (by simp),zak hk,xAa,ref_alter hs k' jo hn,xAa];by_cases h0:chkV s st.Jobs[k] c.User c.Request=0
  ·have A:=chk_in h0;have av:=A.version;have kv:=k'.versions;have e1:altV s st.Now st.Jobs[k] c=(newJ st.Jobs[k] st.Now c.Request,done c.Request.Key (newJ st.Jobs[k] st.Now c.Request)):=by unfold altV;rw[if_neg (yBk h0)]
   rw[e1];have hid:(newJ st.Jobs[k] st.Now c.Request).Id=st.Jobs[k].Id:=by unfold newJ;split <;> rfl
   have hqq:(newJ st.Jobs[k] st.Now c.Request).Queue=st.Jobs[k].Queue:=by unfold newJ;split <;> rfl
   rw[if_neg (show ¬((done c.Request.Key (newJ st.Jobs[k] st.Now c.Request)).Err != 0)=true by simp[done]),ref_change h so hQ hk hid hqq,xAa,xAa];exact ⟨_,stampL_in hQ _,stampL_len _ _,rfl⟩
  ·have e1:altV s st.Now st.Jobs[k] c=(st.Jobs[k],refu c.Request.Key (chkV s st.Jobs[k] c.User c.Request)):=by unfold altV;rw[if_pos h0]
   rw[e1];rw[if_pos (show ((refu c.Request.Key (chkV s st.Jobs[k] c.User c.Request)).Err != 0)=true by simpa[refu] using h0),xAa];refine ⟨st.Stamps.Queues,hQ,rfl,?_⟩;dsimp only;rw[same (e:=0)]
theorem ref_none{s:zad}{st:zab}(h:Shows st){c:zan}(hc:2<=c.Request.Kind/\c.Request.Kind<=5)(hj:∀j∈st.Jobs,j.Id≠c.Request.Job) :
  zbf 1000 s st c=some (st,refu c.Request.Key (if c.User<0∨c.User≥s.Users then 2 else 30)):=by
 unfold zbf;by_cases hu:c.User<0∨c.User≥s.Users
 ·rw[if_pos (by simp;omega),if_pos hu];rfl
 ·rw[if_neg (by simp;omega),if_neg (by simp;omega),if_pos (by simp;omega),if_neg hu];unfold zej;obtain ⟨r,e,h1,_,_⟩:=ref_find h.jobs c.Request.Job;have hr:r<0:=by
   by_cases h0:0<=r
   ·obtain ⟨j,hj',e'⟩:=h1.1 h0;exact absurd e' (hj j hj')
   ·omega
  rw[e,xAa,if_pos (by simpa using hr),xAa];rfl
end Go.Plain
end
section
namespace Go.Plain
open Go.Abs
def OneJ(l:List zan):Prop:=∀i (h:i<l.length),(2<=l[i].Request.Kind/\l[i].Request.Kind<=5)/\l[i].Request.Job=(l[0]'(by omega)).Request.Job
theorem alike_ok{l:List zan}(hl:l.length<=12):za7 (chain_alike 1000 l) (OneJ l):=by
 unfold chain_alike;refine lpA l (λ_ x=>(2<=x.Request.Kind/\x.Request.Kind<=5)/\∀h:0<l.length,x.Request.Job=l[0].Request.Job) (λi f hi _ hr=>?_) (λf h=>?_) (by omega)
 ·have h0:0<l.length:=by omega
  simp only[zda hi,if_true,zak hi,Option.bind_some,zaS,such_ok];by_cases hk:2<=l[i].Request.Kind/\l[i].Request.Kind<=5
  ·rw[if_neg (by simp[hk]),show at? l 0=some l[0] from zak h0,xAa];by_cases e:l[i].Request.Job=l[0].Request.Job
   ·rw[if_neg (by simpa using e),wr1 (by omega)];exact hr ⟨hk,λ_=>e⟩
   ·rw[if_pos (by simpa using e)];exact no_f λq=>e (q i hi).2
  ·rw[if_pos (by rw[decide_eq_false hk];rfl)];exact no_f λq=>hk (q i hi).1
 ·simp only[zc7,yAh,yAx];exact yes_t λi hi=>⟨(h i hi).1,(h i hi).2 (by omega)⟩
theorem one_ok{l:List zan}(hl:l.length<=12):za7 (zcm 1000 l) (OneJ l):=by
 unfold zcm;refine lpA l (λ_ x=>(2<=x.Request.Kind/\x.Request.Kind<=5)/\∀h:0<l.length,x.Request.Job=l[0].Request.Job) (λi f hi _ hr=>?_) (λf h=>?_) (by omega)
 ·have h0:0<l.length:=by omega
  simp only[zda hi,if_true,zak hi,Option.bind_some,zaS];by_cases h2:l[i].Request.Kind<2
  ·rw[if_pos (by simpa using h2)];exact no_f λq=>by have:=(q i hi).1;omega
  ·rw[if_neg (by simpa using h2)];by_cases h5:l[i].Request.Kind > 5
   ·rw[if_pos (by simpa using h5)];exact no_f λq=>by have:=(q i hi).1;omega
   ·rw[if_neg (by simpa using h5),show at? l 0=some l[0] from zak h0,xAa];by_cases e:l[i].Request.Job=l[0].Request.Job
    ·rw[if_neg (by simpa using e),wr1 (by omega)];exact hr ⟨by omega,λ_=>e⟩
    ·rw[if_pos (by simpa using e)];exact no_f λq=>e (q i hi).2
 ·simp only[zc7,yAh,yAx];exact yes_t λi hi=>⟨(h i hi).1,(h i hi).2 (by omega)⟩
theorem replies_same{l:List zah}(hl:l.length<=300)(hn:∀r∈l,r.Nums=[]):zcI 1000 l l=some true:=by
 unfold zcI;rw[if_neg (by simp)];refine lpT l (λi f hi=>?_) (λf=>?_) (by omega)
 ·simp only[zda hi,if_true,zak hi,Option.bind_some,drayageref09xSame];rw[if_pos (by simp),hn _ (yAk hi),same_ints _ (by simp),xAa,xAa,if_neg (by simp),wr1 (by omega)]
 ·simp only[zc7,yAh,yAx]
theorem run_nums{s:zad}{now:Int}{w:zaa}{l:List zan}:∀i,i<=l.length->∀r∈(run s now w (l.take i)).2,r.Nums=[]:=by
 intro i;induction i with
 |zero=>intro _ r hr;simp[run] at hr
 |succ i ih=>
  intro hi r hr;rw[run_succ (by omega)] at hr;simp only[rstep,yAE,yAZ] at hr;rcases hr with hr | hr
  ·exact ih (by omega) r hr
  ·subst hr;unfold altV;split <;> rfl
theorem ref36xrefuse{s:zad}{st:zab}{l:List zan}(hl:l.length<=12){b:Bool}{g:zan->Int}(hb:zcm 1000 l=some b)
  (hg:∀c∈l,if b=true then zbf 1000 s st c=some (st,refu c.Request.Key (g c)) else g c=2) :
  zb8 1000 s st l=some (st,l.map λc=>refu c.Request.Key (g c)):=by
 unfold zb8;rw[hb,xAa];refine Ret.eq (lpS l.length (λi x=>x=((i:Int),st.Now,st.Next,st.Book,st.Jobs,st.Allocs,st.Books,st.Use,st.Stamps.Queues,st.Stamps.Nodes,(l.take i).map λc=>refu c.Request.Key (g c))) (λi x f hi hx hr=>?_) (λx f hx=>?_) rfl (by omega))
 ·subst hx;have hm:=hg _ (yAk hi);dsimp only[zaS];rw[if_pos (zda hi),zak hi,xAa];have done:∀z:Int×Int×Int×List zaa×List zae×List zai×List Int×List Int×Int×List zah,
    z=(st.Now,st.Next,st.Book,st.Jobs,st.Allocs,st.Books,st.Use,st.Stamps.Queues,st.Stamps.Nodes,((l.take i).map λc=>refu c.Request.Key (g c))++[refu l[i].Request.Key (g l[i])])->Ret (f (((i+1:Nat):Int),z)) λx=>x=(st,l.map λc=>refu c.Request.Key (g c)):=by
   intro z hz;refine hr _ ?_;subst hz;rw[xAp,yAg hi,yB6];rfl
  cases b with
  |true=>
   rw[if_pos rfl];have e:zbf 1000 s st l[i]=some (st,refu l[i].Request.Key (g l[i])):=by simpa using hm
   rw[xAa,show zbf 1000 s _ l[i]=_ from e,xAa];dsimp only;rw[app_ok (by simp;omega),xAa,wr1 (by omega)];exact done _ rfl
  |false=>
   rw[if_neg (by simp)];have e:g l[i]=2:=by simpa using hm
   rw[app_ok (by simp;omega),xAa,wr1 (by omega)];refine done _ ?_;rw[e];rfl
 ·subst hx;dsimp only;rw[if_neg (by rw[zc7];simp),zaf,yBa]
theorem ref36xrun{s:zad}(hs:FewS s)(k':SpecOk s){st:zab}(js:JS st)(hn:NowOk st.Now){k:Nat}(hk:k<st.Jobs.length)(fw:WaitS st.Jobs[k].State->zbY 1000 s st.Jobs[k].Queue st.Jobs[k].Many st.Jobs[k].Need=some true)
  {l:List zan} (hl:l.length<=12) (hb:zcm 1000 l=some true) (hc:∀c∈l,(2<=c.Request.Kind/\c.Request.Kind<=5)/\c.Request.Job=st.Jobs[k].Id) :
  ∃Q',StampsIn Q'/\Q'.length=st.Stamps.Queues.length/\zb8 1000 s st l=some ({ st with Jobs:=st.Jobs.set k (run s st.Now st.Jobs[k] l).1,Stamps:={ Queues:=Q',Nodes:=st.Stamps.Nodes } },(run s st.Now st.Jobs[k] l).2):=by
 have wo:=js.ok _ (yAk hk);unfold zb8;rw[hb,xAa]
 suffices h:Ret _ (λr=>∃Q',StampsIn Q'/\Q'.length=st.Stamps.Queues.length/\r=(({ st with Jobs:=st.Jobs.set k (run s st.Now st.Jobs[k] l).1,Stamps:={ Queues:=Q',Nodes:=st.Stamps.Nodes } }:zab),(run s st.Now st.Jobs[k] l).2)) by obtain ⟨r,e,Q',h1,h2,h3⟩:=h;exact ⟨Q',h1,h2,by rw[<-h3];exact e⟩
 refine lpS l.length (λi x=>∃Q',StampsIn Q'/\Q'.length=st.Stamps.Queues.length/\x=((i:Int),st.Now,st.Next,st.Book,st.Jobs.set k (run s st.Now st.Jobs[k] (l.take i)).1,st.Allocs,st.Books,st.Use,Q',st.Stamps.Nodes,(run s st.Now st.Jobs[k] (l.take i)).2)) (λi x f hi hx hr=>?_) (λx f hx=>?_)
  ⟨st.Stamps.Queues,js.stamps,rfl,by simp[run]⟩ (by omega)
 ·obtain ⟨Q,hQ,hQl,rfl⟩:=hx;obtain ⟨h1,h2⟩:=run_ch k' hn wo fw l i (by omega);obtain ⟨jo,jid,jq⟩:=ch_ok k' wo hn h1;have js2:=js.set hk jid jo hQ hQl (n:=st.Stamps.Nodes);obtain ⟨c1,c2⟩:=hc _ (yAk hi);generalize hj:(run s st.Now st.Jobs[k] (l.take i)).1=j at *;have hk2:k<(st.Jobs.set k j).length:=by simpa using hk
  have eg:(st.Jobs.set k j)[k]=j:=by simp
  obtain ⟨Q2,g1,g2,g3⟩:=ref36xone hs k' (st:={ st with Jobs:=st.Jobs.set k j,Stamps:={ Queues:=Q,Nodes:=st.Stamps.Nodes } }) js2.shows js2.sorted hQ hn (k:=k) hk2 (c:=l[i]) (by dsimp only;rw[eg];exact jo) c1 (by dsimp only;rw[eg,c2,jid]);dsimp only at g3;rw[eg,List.set_set] at g3;dsimp only[zaS];rw[if_pos (zda hi),zak hi,xAa,if_pos rfl,xAa,show zbf 1000 s _ l[i]=_ from g3,xAa];dsimp only;rw[app_ok (by simp only[xAd,List.length_nil];omega),xAa,wr1 (by omega)];refine hr _ ⟨Q2,g1,by rw[g2];exact hQl,?_⟩;rw[run_succ hi];simp only[rstep,hj]
 ·obtain ⟨Q,hQ,hQl,rfl⟩:=hx;dsimp only;rw[if_neg (by rw[zc7];simp),zaf,yBa];exact ⟨Q,hQ,hQl,rfl⟩
structure Fin36 (s:zad) (st:zab) (J:List zaa) (Q QR:List Int) (R:List zah):Prop where
 jl:J.length=st.Jobs.length
 ql:Q.length=st.Stamps.Queues.length
 mine:∀x,x<st.Stamps.Queues.length->((∃i,∃hi:i<st.Jobs.length,st.Jobs[i].Queue=(x:Int)/\J[i]?≠some st.Jobs[i])↔Q[x]?≠st.Stamps.Queues[x]?)
 sound:SoundOk s { st with Jobs:=J,Stamps:={ Queues:=Q,Nodes:=st.Stamps.Nodes } }
 rl:R.length<=300
 rn:∀r∈R,r.Nums=[]
 qr:QR.length=st.Stamps.Queues.length
abbrev chainDo(s:zad)(st:zab)(l:List zan)(F:List zac):=
 zcC 1000 st.Stamps.Queues st.Jobs (st.Allocs.map λa=>(a.Job,a)) l s.Nodes s.Parts s.Queues s.Users s.Weights.Age s.Weights.Size s.Weights.Qos s.Weights.Share s.Decay s.Mode s.Jobs s.Ids s.Versions s.Linger s.Keep s.In s.Out s.Cache st.Now st.Next st.Book st.Books st.Use st.Stamps.Nodes F
theorem bind_eq{α β:Type}{o:Option α}{a:α}{k:α->Option β}{r:Option β}(h:o=some a)(hk:k a=r):o.bind k=r:=by rw[h];exact hk
theorem both{s:zad}{st:zab}(hw:FewW s st)(q:SoundOk s st){l:List zan}(hl:l.length<=12) :
  ∃ J Q QR R, chainDo s st l (leftL s.Nodes st.Allocs) = some (Q, J, (st.Allocs.map λa => (a.Job, a)), R, st.Stamps.Nodes, leftL s.Nodes st.Allocs) /\
   zb8 1000 s st l=some ({ st with Jobs:=J,Stamps:={ Queues:=QR,Nodes:=st.Stamps.Nodes } },R)/\Fin36 s st J Q QR R:=by
 have sh:=shows_of hw q;have js:=js_of hw q;have as:=as_of hw q;have hs:=hw.spec;have k:=q.spec;have hjl:=sh.jobs;have stay:∀{g:zan->Int},Fin36 s st st.Jobs st.Stamps.Queues st.Stamps.Queues (l.map λc=>refu c.Request.Key (g c)):=λ{g}=>by refine ⟨rfl,rfl,λx hx=>⟨λ⟨i,hi,_,h⟩=>absurd (yAg hi) h,λh=>absurd rfl h⟩,q,by simp;omega,λr hr=>?_,rfl⟩;obtain ⟨c,_,rfl⟩:=yA4.1 hr;rfl
 by_cases ho:OneJ l
 ·have t1:=tells_t (alike_ok hl) ho;have t2:=tells_t (one_ok hl) ho;by_cases h0:l=[]
  ·subst h0;refine ⟨st.Jobs,st.Stamps.Queues,st.Stamps.Queues,[],?_,ref36xrefuse (g:=λ_=>2) hl t2 (λc hc=>by simp at hc),stay (g:=λ_=>2)⟩;unfold chainDo zcC;rw[t1,xAa,if_neg (by simp),if_pos (by simp)]
  ·have hp:0<l.length:=yBM.2 h0;rcases job_em st.Jobs l[0].Request.Job with ⟨k0,hk,he⟩ | hno
   ·have wo:=js.ok _ (yAk hk);have fw:WaitS st.Jobs[k0].State->zbY 1000 s st.Jobs[k0].Queue st.Jobs[k0].Many st.Jobs[k0].Need=some true:=λhws=>(q.waits _ (yAk hk) (by rcases hws with e | e <;> omega)).fits
    have hc:∀c∈l,(2<=c.Request.Kind/\c.Request.Kind<=5)/\c.Request.Job=st.Jobs[k0].Id:=λc hc=>by obtain ⟨i,hi,rfl⟩:=yA2 hc;exact ⟨(ho i hi).1,by rw[(ho i hi).2,he]⟩
    obtain ⟨QR,hQ1,hQ2,e2⟩:=ref36xrun hs k js as.now hk fw hl t2 hc;have hch:=(run_ch k as.now wo fw l l.length (yAo _)).1;have hln:=(run_ch k as.now wo fw l l.length (yAo _)).2;have hnm:=run_nums (s:=s) (now:=st.Now) (w:=st.Jobs[k0]) (l:=l) l.length (yAo _);rw[yBa] at hch hln hnm;obtain ⟨Q',e3,h3⟩:=core_set k js as hk hch;obtain ⟨jo,jid,jq⟩:=ch_ok k wo as.now hch;refine ⟨_,Q',QR,_,?_,e2,?_⟩
    ·unfold chainDo zcC;rw[t1,xAa,if_neg (by simp),if_neg (by simpa using h0),spec_shown hs,xAa,show at? l 0=some l[0] from zak hp,xAa,<-he,
      job_some hjl js.sorted hk (by have:=wo.afterN;omega),Option.bind_some,if_neg (by simp),shown_of sh,Option.bind_some]
     dsimp only;rw[fold_ok hs k as.now wo fw hl,xAa,e3,xAa];rfl
    ·have hQl:StampsIn Q'/\Q'.length=st.Stamps.Queues.length:=by
      rcases h3 with ⟨_,rfl⟩ | ⟨_,g⟩
      ·exact ⟨js.stamps,rfl⟩
      ·exact ⟨g.in',g.len⟩
     refine ⟨by simp,hQl.2,λx hx=>?_,ch_sound q hk hch hQl.1 hQl.2,by omega,hnm,hQ2⟩;rcases h3 with ⟨e,rfl⟩ | ⟨ne,g⟩
     ·rw[e,yBz];exact ⟨λ⟨i,hi,_,h⟩=>absurd (yAg hi) h,λh=>absurd rfl h⟩
     ·constructor
      ·rintro ⟨i,hi,hq,h⟩;by_cases hik:i=k0
       ·subst hik;have:=g.on (by rw[hq];omega);rw[hq,xAg] at this;exact this
       ·rw[yAD (by omega),yAg hi] at h;exact absurd rfl h
      ·intro h;by_cases hxq:(x:Int)=st.Jobs[k0].Queue
       ·refine ⟨k0,hk,hxq.symm,?_⟩;rw[yBo hk];exact λe=>ne (yBX e)
       ·exact absurd (g.off x hxq) h
   ·have hno2:∀c∈l,∀j∈st.Jobs,j.Id≠c.Request.Job:=λc hc j hj=>by
     obtain ⟨i,hi,rfl⟩:=yA2 hc;rw[(ho i hi).2];exact hno j hj
    refine ⟨st.Jobs,st.Stamps.Queues,st.Stamps.Queues,_,?_,ref36xrefuse (g:=λc=>if c.User<0∨c.User≥s.Users then 2 else 30) hl t2 (λc hc=>?_),stay⟩
    ·unfold chainDo zcC;rw[t1,xAa,if_neg (by simp),if_neg (by simpa using h0),spec_shown hs,xAa,show at? l 0=some l[0] from zak hp,xAa,
      job_none hjl js.sorted hno,Option.bind_some,if_pos (by simp)]
     refine bind_eq (refuse_ok hl (G:=λc=>if ((decide (c.User<0)) || (decide (c.User≥s.Users)))=true then some 2 else some 30) λc hc=>?_) rfl;by_cases hu:c.User<0∨c.User≥s.Users
     ·rw[if_pos hu,if_pos (by simpa using hu)]
     ·rw[if_neg hu,if_neg (by simpa using hu)]
    ·rw[if_pos rfl];obtain ⟨i,hi,rfl⟩:=yA2 hc;exact ref_none sh (ho i hi).1 (hno2 _ hc)
 ·refine ⟨st.Jobs,st.Stamps.Queues,st.Stamps.Queues,_,?_,ref36xrefuse (g:=λ_=>2) hl (tells_f (one_ok hl) ho) (λc hc=>by rw[if_neg (by simp)]),stay⟩;unfold chainDo zcC;rw[tells_f (alike_ok hl) ho,xAa,if_pos (by simp)];exact bind_eq (refuse_ok hl (G:=λ_=>some 2) (g:=λ_=>2) λc hc=>rfl) rfl
end Go.Plain
end
section
namespace Go.Plain
open Go.Abs
theorem awake36xok:drayagelaw36xawake 1000=some true:=by kernel_rfl
theorem few24l(l:List zan):Ret (zen 1000 l) λr=>r=true->l.length<=12:=by
 unfold zen;rw[zag];refine ⟨λ_=>by rw[zaf];simp,λh=>?_⟩;have hl:l.length<=12:=by simp only[yAf] at h;omega
 refine lpA l (λ_ x=>True) (λi f hi _ hr=>?_) (λf h=>?_) (by omega)
 ·simp only[zda hi,if_true,zak hi,Option.bind_some];rw[zag,wr1 (by omega)];exact ⟨λ_=>by rw[zaf];simp,λh=>hr trivial⟩
 ·simp only[zc7,yAh,yAx];rw[zaf];exact λ_=>hl
theorem nil_ok{l:List zan}(hl:l.length<=12):zei 1000 l=some (l.map λc=>refu c.Request.Key 1):=by unfold zei;exact bind_eq (refuse_ok hl (G:=λ_=>some 1) (g:=λ_=>1) λc hc=>rfl) rfl
theorem chainDoes(w:zds)(l:List zan):zdi 1000 w l=some true:=by
 unfold zdi;rw[awake36xok,xAa,if_neg (by simp)];dsimp only[zaS];obtain ⟨r,e,h⟩:=few23 w.S w.St;rw[e,xAa];cases r with
 |false=>rfl
 |true=>
  have hw:=h rfl;rw[if_neg (by simp)];obtain ⟨r2,e2,h2⟩:=few24l l;rw[e2,xAa];cases r2 with
  |false=>rfl
  |true=>
   have hl:=h2 rfl;rw[if_neg (by simp)];by_cases q:SoundOk w.S w.St
   ·rw[law_of_ok hw q,xAa];generalize w.S=s at *;generalize w.St=st at *;dsimp only;rw[if_neg (by simp)];obtain ⟨J,Q,QR,R,e3,e4,F⟩:=both hw q hl;have sh:=shows_of hw q;have sh2:=shows_of (few_of_sound F.sound) F.sound;have shR:Shows ({ st with Jobs:=J,Stamps:={ Queues:=QR,Nodes:=st.Stamps.Nodes } }:zab):=
     ⟨sh2.jobs,sh2.after,sh2.allocs,sh2.asc,sh2.ids,sh2.sh,sh2.books,sh2.use,by have:=F.qr;have:=sh.stamps;dsimp only;omega⟩
    have hjl:=sh.jobs;have hsl:=sh.stamps;have hql:=F.ql;have hJl:=F.jl;change (chainDo s st l (leftL s.Nodes st.Allocs)).bind _=_;rw[e3,xAa,e4,xAa];dsimp only;rw[replies_same F.rl F.rn,xAa,if_neg (by simp),
     show zaz 1000 Q J (st.Allocs.map λa=>(a.Job,a)) st.Now st.Next st.Book st.Books st.Use st.Stamps.Nodes=some _ from shown_of sh2,Option.bind_some]
    dsimp only;rw[if_neg (by simp[hql])];refine Ret.eq (lpA Q (λ_ _=>True) (λx f hx _ hr=>?_) (λf _=>?_) (by omega))
    ·rw[if_pos (zda hx)];have hx2:x<st.Stamps.Queues.length:=by omega
     have hm:=F.mine x hx2;refine lpS (Q:=λr=>r=true) st.Jobs.length (λi z=>z.2=(i:Int)/\(z.1=true↔∃m,∃hm:m<st.Jobs.length,m<i/\st.Jobs[m].Queue=(x:Int)/\J[m]?≠some st.Jobs[m])) (λi z g hi hz hr2=>?_) (λz g hz=>?_) ⟨rfl,by simp⟩ (by omega)
     ·obtain ⟨z1,z2⟩:=z;obtain ⟨rfl,hz⟩:=hz;dsimp only at hz ⊢;have hiJ:i<J.length:=by omega
      rw[if_pos (zda hi),zak hi,xAa];have go:∀b:Bool,(b=true↔z1=true∨(st.Jobs[i].Queue=(x:Int)/\J[i]?≠some st.Jobs[i]))->Ret (g (b,IntKind.i64.wrap ((i:Int)+1))) λr=>r=true:=λb hb=>by
       rw[wr1 (by omega)];refine hr2 _ ⟨rfl,?_⟩;rw[hb,hz];constructor
       ·rintro (⟨m,hm1,hm2,hm3⟩ | h)
        ·exact ⟨m,hm1,by omega,hm3⟩
        ·exact ⟨i,hi,by omega,h⟩
       ·rintro ⟨m,hm1,hm2,hm3⟩;by_cases hmi:m=i
        ·subst hmi;exact .inr hm3
        ·exact .inl ⟨m,hm1,by omega,hm3⟩
      by_cases hz1:z1=true
      ·rw[if_pos hz1];exact go true (by simp[hz1])
      ·rw[if_neg hz1];by_cases hq:st.Jobs[i].Queue=(x:Int)
       ·rw[if_pos (by simpa using hq),zak hiJ,xAa];obtain ⟨b,eb,hb⟩:=ref_same16 (a:=st.Jobs[i]) (b:=J[i]) (by have:=sh.after _ (yAk hi);omega);rw[eb,xAa];refine go _ ?_;rw[yAg hiJ];have:(!b)=true↔¬(st.Jobs[i]=J[i]):=by rw[<-hb];cases b <;> simp
        rw[this];constructor
        ·exact λh=>.inr ⟨hq,λe=>h (yBX e).symm⟩
        ·rintro (h | ⟨_,h⟩)
         ·exact absurd h hz1
         ·exact λe=>h (by rw[e])
       ·rw[if_neg (by simpa using hq)];refine go false ⟨λh=>by simp at h,?_⟩;rintro (h | ⟨h,_⟩)
        ·exact absurd h hz1
        ·exact absurd h hq
     ·obtain ⟨z1,z2⟩:=z;obtain ⟨rfl,hz⟩:=hz;dsimp only at hz ⊢;rw[if_neg (by rw[zc7];simp),zak hx,xAa,zak hx2,xAa];have hz3:z1=true↔Q[x]?≠st.Stamps.Queues[x]?:=by
       rw[hz,<-hm];exact ⟨λ⟨m,a,_,b⟩=>⟨m,a,b⟩,λ⟨m,a,b⟩=>⟨m,a,a,b⟩⟩
      rw[yAg hx,yAg hx2] at hz3;have hne:¬((z1 == (Q[x] == st.Stamps.Queues[x]))=true):=by
       intro h;by_cases he:Q[x]=st.Stamps.Queues[x]
       ·have:z1=false:=by
         cases z1 with
         |false=>rfl
         |true=>exact absurd (by rw[he]) (hz3.1 rfl)
        rw[this,he] at h;simp at h
       ·have:z1=true:=hz3.2 λe=>he (yBX e);rw[this] at h;simp[he] at h
      rw[if_neg hne,wr1 (by omega)];exact hr trivial
    ·rw[if_neg (by rw[zc7];simp),if_neg (by simp),tells_t (sound_ok (few_of_sound F.sound)) F.sound,xAa,if_neg (by simp),show zbl 1000 _ _=some true from same_shows shR,xAa,zaf]
   ·rw[law_of_no hw q,xAa];dsimp only;rw[nil_ok hl,xAa,if_pos (by simp)];by_cases h0:l=[]
    ·rw[if_pos (by simp[h0])]
    ·have hp:0<l.length:=yBM.2 h0;have hp2:0<(l.map λc=>refu c.Request.Key 1).length:=by simpa using hp
     rw[if_neg (by simpa using h0),show at? (l.map λc=>refu c.Request.Key 1) 0=some _ from zak hp2,xAa];simp[refu]
end Go.Plain
end
