/- TyP1, TyP2, TyP3, TyP4, TyP5, TyP6, TyP7, TyP8, TyP9 -/
import Derived.Test.YtidolomakdofhaaGreatDoorTyPure
import Derived.KernelRfl
import Derived.Laws.BitsLemmas
set_option linter.all false
section
namespace Go.Plain
open Go.Abs
theorem wr{x:Int}(h0:-9223372036854775808<=x)(h1:x<9223372036854775808):IntKind.i64.wrap x=x:=by rw[IntKind.wrap_i64];omega
theorem wr1{i:Nat}(h:i<1000000):IntKind.i64.wrap ((i:Int)+1)=((i+1:Nat):Int):=by rw[wr (by omega) (by omega)];rfl
theorem wp1{i:Nat}(h:i+1<1000000):IntKind.i64.wrap (((i+1:Nat):Int)-1)=(i:Int):=by rw[wr (by omega) (by omega)];omega
theorem zak{α:Type}{l:List α}{i:Nat}(h:i<l.length):at? l (i:Int)=some l[i]:=by unfold at?;rw[if_pos ⟨by omega,by omega⟩];simp[h]
theorem at_int{α:Type}{l:List α}{x:Int}(h0:0<=x)(h:x<l.length):∃h':x.toNat<l.length,at? l x=some (l[x.toNat]'h'):=by
 have h':x.toNat<l.length:=by omega
 refine ⟨h',?_⟩;unfold at?;rw[if_pos ⟨h0,h⟩,yAg h']
theorem zda{i n:Nat}(h:i<n):decide ((i:Int)<(n:Int))=true:=by simp;omega
theorem zc7{n:Nat}:decide ((n:Int)<(n:Int))=false:=by simp
theorem app_ok{α:Type}{l m:List α}(h:l.length+m.length<=1000000):app? l m=some (l++m):=by unfold app?;rw[if_pos h]
theorem zbA{α:Type}{m:List α}(h:m.length<=1000000):app? [] m=some m:=by rw[app_ok (by simpa using h)];rfl
theorem zaS{X R:Type}(r:X->Option R)(b:(X->Option R)->Option R):jn r b=b r:=rfl
def Ret{β:Type}(o:Option β)(Q:β->Prop):Prop:=∃r,o=some r/\Q r
abbrev za7(o:Option Bool)(P:Prop):Prop:=Ret o λb=>b=true↔P
section
variable{α β γ U:Type}{o:Option α}{P Q:α->Prop}
theorem Ret.mono(h:Ret o P)(hp:∀r,P r->Q r):Ret o Q:=by obtain ⟨r,h1,h2⟩:=h;exact ⟨r,h1,hp r h2⟩
theorem Ret.bind{f:α->Option β}{R:β->Prop}(h:Ret o P)(hp:∀r,P r->Ret (f r) R):Ret (o.bind f) R:=by obtain ⟨r,rfl,h2⟩:=h;exact hp r h2
theorem zaf{r:α}:Ret (some r) Q↔Q r:=by simp[Ret]
theorem ret_bind{f:α->Option β}{R:β->Prop}:Ret (o.bind f) R↔Ret o λr=>Ret (f r) R:=by cases o <;> simp[Ret]
theorem zag{c:Prop}[Decidable c]{a b:Option α}:Ret (if c then a else b) Q↔(c->Ret a Q)/\(¬c->Ret b Q):=by by_cases h:c <;> simp[h]
theorem Ret.eq{r:α}(h:Ret o λx=>x=r):o=some r:=by obtain ⟨_,h,rfl⟩:=h;exact h
end
section
variable{X R α:Type}{b:(X->Option R)->X->Option R}{Q:R->Prop}
theorem lpS(n:Nat)(Inv:Nat->X->Prop)(hs:∀i x f,i<n->Inv i x->(∀x',Inv (i+1) x'->Ret (f x') Q)->Ret (b f x) Q)
  (he:∀x f,Inv n x->Ret (b f x) Q) {x0:X} (h0:Inv 0 x0) {N:Nat} (hN:n<N):Ret (lpX b N x0) Q:=by
 have:∀k i x,i<=n->n<i+k->Inv i x->Ret (lpX b k x) Q:=by
  intro k;induction k with
  |zero=>intro i x h h';omega
  |succ k ih=>
   intro i x h h' hi;rcases yBc h with hlt | rfl
   ·exact hs i x _ hlt hi λx' hx'=>ih (i+1) x' hlt (by omega) hx'
   ·exact he x _ hi
 exact this N 0 x0 (yB3 _) (by omega) h0
end
section
variable{R α:Type}{b:(Int->Option R)->Int->Option R}{Q:R->Prop}
theorem lpA (l:List α) (A:Nat→α→Prop)
  (hs:∀i (f:Int→Option R) (h:i<l.length),(∀j (hj:j<l.length),j<i→A j l[j])→(A i l[i]→Ret (f ((i+1:Nat):Int)) Q)→Ret (b f (i:Int)) Q)
  (he:∀f,(∀j (hj:j<l.length),A j l[j])→Ret (b f (l.length:Int)) Q) {N:Nat} (hN:l.length<N):Ret (lpX b N 0) Q:=
 lpS l.length (fun i x=>x=(i:Int)∧∀j (hj:j<l.length),j<i→A j l[j])
  (fun i x f hi ⟨hx,hA⟩ hr=>by
   subst hx
   exact hs i f hi hA fun h=>hr _ ⟨rfl,fun j hj hji=>by
    rcases yBc (yB0.1 hji) with h' | h'
    ·exact hA j hj h'
    ·subst h'; exact h⟩)
  (fun x f ⟨hx,hA⟩=>by subst hx; exact he f fun j hj=>hA j hj hj) ⟨rfl,fun j hj h=>absurd h (by omega)⟩ hN
end
theorem zcM{α:Type}{l:List α}{A:α->Prop}(h:∀j (hj:j<l.length),A l[j]):∀a∈l,A a:=λa ha=>by obtain ⟨i,hi,rfl⟩:=yA2 ha;exact h i hi
theorem lpC{α:Type}{b:(Int->Option Bool)->Int->Option Bool}(l:List α)(A:α->Prop)(P:Prop)(hP:P->∀a∈l,A a)
  (hs:∀(i:Nat)(f:Int->Option Bool)(h:i<l.length)(Q:Bool->Prop),(A l[i]->Ret (f ((i+1:Nat):Int)) Q)->(¬A l[i]->Q false)->Ret (b f (i:Int)) Q)
  (he:∀f,(∀a∈l,A a)->za7 (b f (l.length:Int)) P) {N:Nat} (hN:l.length<N):za7 (lpX b N 0) P:=
 lpA l (λ_ a => A a) (λi f h _ hr => hs i f h _ hr λhn => by
   simp only[yAh,yBr];exact λp=>hn (hP p _ (yAk h)))
  (λf h=>he f (zcM h)) hN
structure FewS (s:zad):Prop where
 nodes:s.Nodes.length<=40
 parts:s.Parts.length<=20
 queues:s.Queues.length<=20
 part:∀p∈s.Parts,p.length<=40
 queue:∀q∈s.Queues,q.Users.length<=40
theorem few07(s:zad):Ret (zeo 1000 s) λr=>r=true->FewS s:=by
 simp only[zeo,zag,zaf];refine ⟨by simp,λh=>?_⟩;simp only[yAt,yAf,not_or,Int.not_lt] at h;obtain ⟨⟨h1,h2⟩,h3⟩:=h;refine lpA s.Parts (λ_ q=>q.length<=40) (λi f h _ hr=>?_) (λf hp=>?_) (by omega)
 ·simp only[zda h,if_true,zak h,Option.bind_some,wr1 (show i<1000000 by omega),zag,zaf,yAf];exact ⟨by simp,λh=>hr (by omega)⟩
 ·simp only[zc7,yAh,yAx];refine lpA s.Queues (λ_ q=>q.Users.length<=40) (λi f h _ hr=>?_) (λf hq=>?_) (by omega)
  ·simp only[zda h,if_true,zak h,Option.bind_some,wr1 (show i<1000000 by omega),zag,zaf,yAf];exact ⟨by simp,λh=>hr (by omega)⟩
  ·simp only[zc7,yAh,yAx,zaf];exact λ_=>⟨by omega,by omega,by omega,zcM hp,zcM hq⟩
theorem few17(l:List zaa):Ret (zek 1000 l) λr=>r=true->l.length<=30/\∀j∈l,j.After.length<=10:=by
 simp only[zek,zag,zaf];refine ⟨by simp,λh=>?_⟩;simp only[yAf] at h;refine lpA l (λ_ q=>q.After.length<=10) (λi f h _ hr=>?_) (λf hq=>?_) (by omega)
 ·simp only[zda h,if_true,zak h,Option.bind_some,wr1 (show i<1000000 by omega),zag,zaf,yAf];exact ⟨by simp,λh=>hr (by omega)⟩
 ·simp only[zc7,yAh,yAx,zaf];exact λ_=>⟨by omega,zcM hq⟩
structure FewW (s:zad) (st:zab):Prop where
 spec:FewS s
 jobs:st.Jobs.length<=300
 after:∀j∈st.Jobs,j.After.length<=10
 allocs:st.Allocs.length<=300
 books:st.Books.length<=20
 use:st.Use.length<=20
 stamps:st.Stamps.Queues.length<=20
 shares:∀a∈st.Allocs,a.Shares.length<=40
theorem FewW.sh{s:zad}{st:zab}(h:FewW s st):∀a∈st.Allocs,a.Shares.length<=300:=λa ha=>yAA (h.shares a ha) (by decide)
theorem few23(s:zad)(st:zab):Ret (zem 1000 s st) λr=>r=true->FewW s st:=by
 simp only[zem,zaS];refine (few07 s).bind λr hr=>?_;simp only[if_true,zaf,zag];refine ⟨by simp,λh=>?_⟩;refine (few17 st.Jobs).bind λr' hr'=>?_;simp only[yAs,yA1] at h;have h1:=hr h;simp only[zag,zaf];refine ⟨by simp,λh=>?_⟩;simp only[yAt,yAf,not_or,Int.not_lt,yAs,yA1] at h;obtain ⟨⟨⟨⟨h,h3⟩,h4⟩,h5⟩,h6⟩:=h;have h2:=hr' h;refine lpA st.Allocs (λ_ q=>q.Shares.length<=40) (λi f h _ hr=>?_) (λf hq=>?_) (by omega)
 ·simp only[zda h,if_true,zak h,Option.bind_some,wr1 (show i<1000000 by omega),zag,zaf,yAf];exact ⟨by simp,λh=>hr (by omega)⟩
 ·simp only[zc7,yAh,yAx,zaf];exact λ_=>⟨h1,yAA h2.1 (by decide),h2.2,by omega,by omega,by omega,by omega,zcM hq⟩
def inn(lo hi x:Int):Bool:=decide (lo<=x)&&decide (x<=hi)
structure VecOk (r:zac):Prop where
 cpu:0<=r.Cpu/\r.Cpu<=1048576
 mem:0<=r.Mem/\r.Mem<=1048576
 gpu:0<=r.Gpu/\r.Gpu<=1048576
 lic:0<=r.Lic/\r.Lic<=1048576
theorem ref_vec(r:zac):za7 (zaA 1000 r) (VecOk r):=by simp only[zaA,zbS,zaf,Option.bind_some,zag,yAj,yAf,yAh,yBr,za7];refine ⟨λh1=>⟨λh2=>⟨λh3=>⟨λh4=>⟨h1,h2,h3,h4⟩,λh=>h.lic⟩,λh3 h=>h3 h.gpu⟩,λh2 h=>h2 h.mem⟩,λh1 h=>h1 h.cpu⟩
theorem at4x0{a b c d:Int}:at? [a,b,c,d] 0=some a:=rfl
theorem at4x1{a b c d:Int}:at? [a,b,c,d] 1=some b:=rfl
theorem at4x2{a b c d:Int}:at? [a,b,c,d] 2=some c:=rfl
theorem at4x3{a b c d:Int}:at? [a,b,c,d] 3=some d:=rfl
theorem lpN(l:List Int)(lo hi n:Int)(hn:(l.length:Int)=n){E:Option Bool}{Q:Bool->Prop}(h0:¬(∀a∈l,lo<=a/\a<=hi)->Q false)(he:(∀a∈l,lo<=a/\a<=hi)->Ret E Q)(hN:l.length<1000) :
  Ret (lpX (λ(f:Int->Option Bool) (x:Int)=>if (decide (x<n))=true then (at? l x).bind λy=>if ((decide (y<lo)) || (decide (y > hi)))=true then some false else f (IntKind.i64.wrap (x+1)) else E) 1000 0) Q:=by
 subst hn;refine lpA l (λ_ a=>lo<=a/\a<=hi) (λi f h _ hr=>?_) (λf h=>?_) hN
 ·simp only[zda h,if_true,zak h,Option.bind_some,wr1 (show i<1000000 by omega),zag,zaf,yAt,yAf];exact ⟨λh1=>h0 λha=>by have:=ha _ (yAk h);omega,λh=>hr (by omega)⟩
 ·simp only[zc7,yAh,yAx];exact he (zcM h)
theorem four_mem{a b c d lo hi:Int}:(∀x∈[a,b,c,d],lo<=x/\x<=hi)↔(lo<=a/\a<=hi)/\(lo<=b/\b<=hi)/\(lo<=c/\c<=hi)/\(lo<=d/\d<=hi):=by simp
theorem three_mem{a b c lo hi:Int}:(∀x∈[a,b,c],lo<=x/\x<=hi)↔(lo<=a/\a<=hi)/\(lo<=b/\b<=hi)/\(lo<=c/\c<=hi):=by simp
theorem zcc(r:zac):za7 (zcd 1000 r) (VecOk r):=by
 simp only[zcd,vec_numbers,Option.bind_some];refine lpN [r.Cpu,r.Mem,r.Gpu,r.Lic] 0 1048576 4 rfl (λh=>?_) (λh=>?_) (by simp)
 ·simp only[yAh,yBr];exact λv=>h (four_mem.2 ⟨v.cpu,v.mem,v.gpu,v.lic⟩)
 ·rw[zaf];obtain ⟨h1,h2,h3,h4⟩:=four_mem.1 h;exact ⟨λ_=>⟨h1,h2,h3,h4⟩,λ_=>rfl⟩
def zeroR:zac:={ Cpu:=0,Mem:=0,Gpu:=0,Lic:=0 }
theorem zd2{a b:zac}:zac.beq a b=true↔a=b:=by obtain ⟨a1,a2,a3,a4⟩:=a;obtain ⟨b1,b2,b3,b4⟩:=b;simp[zac.beq]
end Go.Plain
end
section
namespace Go.Plain
open Go.Abs
theorem ne_of{x:ByteArray}(h:x.toList.isEmpty=false):x.toList≠[]:=by intro e;rw[e] at h;cases h
def prv(l:List Int):Nat->Int
 |0=>-1
 |i+1=>l[i]?.getD 0
theorem prv_succ{l:List Int}{i:Nat}(h:i<l.length):prv l (i+1)=l[i]:=by simp[prv,h]
def Rises(l:List Int)(n:Int):Prop:=∀i (h:i<l.length),prv l i<l[i]/\l[i]<n
theorem Rises.nn{l:List Int}{n:Int}(h:∀i (hi:i<l.length),prv l i<l[i]):∀i (hi:i<l.length),0<=l[i]:=by
 intro i;induction i with
 |zero=>intro hi;have:=h 0 hi;simp only[prv] at this;omega
 |succ i ih=>intro hi;have:=h (i+1) hi;rw[prv_succ (by omega)] at this;have:=ih (by omega);omega
theorem Rises.mem{l:List Int}{n:Int}(h:Rises l n):∀x∈l,0<=x/\x<n:=λx hx=>by obtain ⟨i,hi,rfl⟩:=yA2 hx;exact ⟨Rises.nn (n:=n) (λi hi=>(h i hi).1) i hi,(h i hi).2⟩
theorem ascending(l:List Int)(n:Int)(hl:l.length<99):za7 (zed 1000 l n) (Rises l n):=by
 simp only[zed];refine lpS l.length (λi x=>x=(prv l i,(i:Int))/\∀j (hj:j<l.length),j<i->prv l j<l[j]/\l[j]<n) (λi x f hi hx hr=>?_) (λx f hx=>?_) ⟨rfl,λj hj h=>by omega⟩ (by omega)
 ·obtain ⟨rfl,hA⟩:=hx;simp only[zda hi,if_true,zak hi,Option.bind_some,wr1 (show i<1000000 by omega),zag,zaf,yAt,yAf];refine ⟨λh=>?_,λh=>hr _ ⟨by rw[prv_succ hi],λj hj hji=>?_⟩⟩
  ·simp only[yAh,yBr];intro hR;have:=hR i hi;omega
  ·rcases yBc (yB0.1 hji) with h' | h'
   ·exact hA j hj h'
   ·subst h';omega
 ·obtain ⟨rfl,hA⟩:=hx;simp only[zc7,yAh,yAx,zaf,yBP];exact λi hi=>hA i hi hi
theorem ref_rising(l:List Int)(n:Int)(hl:l.length<99):za7 (zb9 1000 l n) (Rises l n):=by
 simp only[zb9,zaS];refine lpA l (λi a=>prv l i<a/\a<n) (λi f h hA hr=>?_) (λf h=>?_) (by omega)
 ·have hd:decide ((i:Int) > 0)=decide (0<i):=by simp
  simp only[zda h,if_true,zak h,Option.bind_some,wr1 (show i<1000000 by omega),zag,zaf,yAf,hd,yAh,yAx];have bad:¬(prv l i<l[i]/\l[i]<n)->(False↔Rises l n):=λhn=>by simp only[yBr];exact λhR=>hn (hR i h)
  refine ⟨λh1=>?_,λh1=>⟨λh2=>bad (by omega),λh2=>⟨λh3=>?_,λh3=>?_⟩⟩⟩
  ·simp only[yBr];intro hR;have:=(hR.mem _ (yAk h)).1;omega
  ·obtain ⟨m,rfl⟩:∃m,i=m+1:=⟨i-1,by omega⟩;rw[wp1 (show m+1<1000000 by omega),zak (show m<l.length by omega)];rw[prv_succ (by omega)] at bad hr;simp only[Option.bind_some,zag,yAf,zaf,yAh];exact ⟨λh4=>bad (by omega),λh4=>hr ⟨by omega,by omega⟩⟩
  ·have:i=0:=by omega
   subst this;exact hr ⟨by simp only[prv];omega,by omega⟩
 ·simp only[zc7,yAh,yAx,zaf,yBP];exact h
structure NodesOk (s:zad):Prop where
 lo:1<=s.Nodes.length
 hi:s.Nodes.length<=16
 ok:∀r∈s.Nodes,VecOk r
theorem nodesRight(s:zad):za7 (spec_nodesRight 1000 s) (NodesOk s):=by
 simp only[spec_nodesRight,zag,zaf];refine ⟨λh=>?_,λh=>?_⟩
 ·simp only[yAt,yAf] at h;simp only[yAh,yBr];intro k;have:=k.lo;have:=k.hi;omega
 ·simp only[yAt,yAf,not_or] at h;refine lpC s.Nodes VecOk _ (λk=>k.ok) (λi f h' Q h1 h2=>?_) (λf hA=>?_) (by omega)
  ·simp only[zda h',if_true,zak h',Option.bind_some,wr1 (show i<1000000 by omega)];refine (zcc _).bind λr hr=>?_;simp only[zag,zaf,yAs,yA1];exact ⟨λe=>h2 (by rw[<-hr,e];simp),λe=>h1 (hr.1 e)⟩
  ·simp only[zc7,yAh,yAx,zaf,yBP];exact ⟨by omega,by omega,hA⟩
theorem ref_nodes(s:zad)(hs:FewS s):za7 (zcx 1000 s) (NodesOk s):=by
 have:=hs.nodes;simp only[zcx];refine lpC s.Nodes VecOk _ (λk=>k.ok) (λi f h' Q h1 h2=>?_) (λf hA=>?_) (by omega)
 ·simp only[zda h',if_true,zak h',Option.bind_some,wr1 (show i<1000000 by omega)];refine (ref_vec _).bind λr hr=>?_;simp only[zag,zaf,yAs,yA1];exact ⟨λe=>h2 (by rw[<-hr,e];simp),λe=>h1 (hr.1 e)⟩
 ·simp only[zc7,yAh,yAx,zaj,Option.bind_some,zaf,yAj,yAf];exact ⟨λh=>⟨by omega,by omega,hA⟩,λh=>by have:=h.lo;have:=h.hi;omega⟩
structure PartsOk (s:zad):Prop where
 lo:1<=s.Parts.length
 hi:s.Parts.length<=8
 ok:∀p∈s.Parts,1<=p.length/\Rises p s.Nodes.length
theorem partsRight(s:zad)(hs:FewS s):za7 (spec_partsRight 1000 s) (PartsOk s):=by
 simp only[spec_partsRight,zaS,zag,zaf];refine ⟨λh=>?_,λh=>?_⟩
 ·simp only[yAt,yAf] at h;simp only[yAh,yBr];intro k;have:=k.lo;have:=k.hi;omega
 ·simp only[yAt,yAf,not_or] at h;refine lpC s.Parts (λp=>1<=p.length/\Rises p s.Nodes.length) _ (λk=>k.ok) (λi f h' Q h1 h2=>?_) (λf hA=>?_) (by omega)
  ·have:=hs.part _ (yAk h');simp only[zda h',if_true,zak h',Option.bind_some,wr1 (show i<1000000 by omega),zag,zaf,yAf];refine ⟨λe=>h2 (by omega),λe=>?_⟩;refine (ascending _ _ (by omega)).bind λr hr=>?_;simp only[zag,zaf,yAs,yA1];exact ⟨λe'=>h2 (by rw[<-hr,e'];simp),λe'=>h1 ⟨by omega,hr.1 e'⟩⟩
  ·simp only[zc7,yAh,yAx,zaf,yBP];exact ⟨by omega,by omega,hA⟩
theorem ref_parts(s:zad)(hs:FewS s):za7 (zcA 1000 s) (PartsOk s):=by
 have:=hs.parts;simp only[zcA,zaS];refine lpC s.Parts (λp=>1<=p.length/\Rises p s.Nodes.length) _ (λk=>k.ok) (λi f h' Q h1 h2=>?_) (λf hA=>?_) (by omega)
 ·have:=hs.part _ (yAk h');simp only[zda h',if_true,zak h',Option.bind_some,wr1 (show i<1000000 by omega),zag,zaf,yAf];refine ⟨λe=>h2 (by omega),λe=>?_⟩;refine (ref_rising _ _ (by omega)).bind λr hr=>?_;simp only[zag,zaf,yAs,yA1];exact ⟨λe'=>h2 (by rw[<-hr,e'];simp),λe'=>h1 ⟨by omega,hr.1 e'⟩⟩
 ·simp only[zc7,yAh,yAx,zaj,Option.bind_some,zaf,yAj,yAf];exact ⟨λh=>⟨by omega,by omega,hA⟩,λh=>by have:=h.lo;have:=h.hi;omega⟩
structure QueueOk (s:zad) (q:zbE):Prop where
 part:0<=q.Part/\q.Part<s.Parts.length
 users:Rises q.Users s.Users
 jobs:1<=q.MaxJobs/\q.MaxJobs<=256
 run:1<=q.MaxRun/\q.MaxRun<=256
 user:1<=q.MaxUser/\q.MaxUser<=256
 qos:0<=q.Qos/\q.Qos<=100
structure QueuesOk (s:zad):Prop where
 lo:1<=s.Queues.length
 hi:s.Queues.length<=8
 ok:∀q∈s.Queues,QueueOk s q
theorem queuesRight(s:zad)(hs:FewS s):za7 (zel 1000 s) (QueuesOk s):=by
 simp only[zel,zaS,zag,zaf];refine ⟨λh=>?_,λh=>?_⟩
 ·simp only[yAt,yAf] at h;simp only[yAh,yBr];intro k;have:=k.lo;have:=k.hi;omega
 ·simp only[yAt,yAf,not_or] at h;refine lpC s.Queues (QueueOk s) _ (λk=>k.ok) (λi f h' Q h1 h2=>?_) (λf hA=>?_) (by omega)
  ·have:=hs.queue _ (yAk h');simp only[zda h',if_true,zak h',Option.bind_some,wr1 (show i<1000000 by omega),yAh,yAx];rw[zag];refine ⟨λe=>?_,λe=>?_⟩
   ·simp only[yAt,yAf] at e;rw[zaf];exact h2 λk=>by have:=k.part;omega
   ·simp only[yAt,yAf,not_or] at e;refine (ascending _ _ (by omega)).bind λr hr=>?_;rw[zag];refine ⟨λe'=>?_,λe'=>?_⟩
    ·rw[zaf];simp only[yAs] at e';exact h2 λk=>by have:=hr.2 k.users;rw[e'] at this;simp at this
    ·simp only[yAs,yA1] at e';refine lpN [_,_,_] 1 256 3 rfl (λhn=>h2 λk=>hn (three_mem.2 ⟨k.jobs,k.run,k.user⟩)) (λhy=>?_) (by simp);obtain ⟨y1,y2,y3⟩:=three_mem.1 hy;rw[zag];refine ⟨λe2=>?_,λe2=>?_⟩
     ·simp only[yAt,yAf] at e2;rw[zaf];exact h2 λk=>by have:=k.qos;omega
     ·simp only[yAt,yAf,not_or] at e2;exact h1 ⟨by omega,hr.1 e',y1,y2,y3,by omega⟩
  ·simp only[zc7,yAh,yAx,zaf,yBP];exact ⟨by omega,by omega,hA⟩
theorem ref_queues(s:zad)(hs:FewS s):za7 (zca 1000 s) (QueuesOk s):=by
 have:=hs.queues;simp only[zca,zaS];refine lpC s.Queues (QueueOk s) _ (λk=>k.ok) (λi f h' Q h1 h2=>?_) (λf hA=>?_) (by omega)
 ·have:=hs.queue _ (yAk h');simp only[zda h',if_true,zak h',Option.bind_some,wr1 (show i<1000000 by omega),yAh,yAx];rw[zag];refine ⟨λe=>?_,λe=>?_⟩
  ·simp only[yAt,yAf] at e;rw[zaf];exact h2 λk=>by have:=k.part;omega
  ·simp only[yAt,yAf,not_or] at e;refine (ref_rising _ _ (by omega)).bind λr hr=>?_;simp only[zaj,Option.bind_some,zag,zaf,yAs,yA1,yAj,yAf,yBy,yAW];refine ⟨λe'=>h2 λk=>by have:=hr.2 k.users;rw[e'] at this;simp at this,λe'=>⟨λe2=>h2 λk=>by have:=k.jobs;omega,λe2=>⟨λe3=>h2 λk=>by have:=k.run;omega,λe3=>⟨λe4=>h2 λk=>by have:=k.user;omega,λe4=>⟨λe5=>h2 λk=>by have:=k.qos;omega,λe5=>?_⟩⟩⟩⟩⟩;exact h1 ⟨by omega,hr.1 e',by omega,by omega,by omega,by omega⟩
 ·simp only[zc7,yAh,yAx,zaj,Option.bind_some,zaf,yAj,yAf];exact ⟨λh=>⟨by omega,by omega,hA⟩,λh=>by have:=h.lo;have:=h.hi;omega⟩
structure WeightsOk (w:zbW):Prop where
 age:0<=w.Age/\w.Age<=1000
 size:0<=w.Size/\w.Size<=1000
 qos:0<=w.Qos/\w.Qos<=1000
 share:0<=w.Share/\w.Share<=1000
theorem weightsRight(w:zbW):za7 (zdL 1000 w) (WeightsOk w):=by
 simp only[zdL];refine lpN [w.Age,w.Size,w.Qos,w.Share] 0 1000 4 rfl (λh=>?_) (λh=>?_) (by simp)
 ·simp only[yAh,yBr];exact λv=>h (four_mem.2 ⟨v.age,v.size,v.qos,v.share⟩)
 ·rw[zaf];obtain ⟨h1,h2,h3,h4⟩:=four_mem.1 h;exact ⟨λ_=>⟨h1,h2,h3,h4⟩,λ_=>rfl⟩
structure SpecOk (s:zad):Prop where
 nodes:NodesOk s
 parts:PartsOk s
 users:1<=s.Users/\s.Users<=8
 queues:QueuesOk s
 weights:WeightsOk s.Weights
 decay:1<=s.Decay/\s.Decay<=16
 mode:s.Mode=1∨s.Mode=2
 jobs:1<=s.Jobs/\s.Jobs<=256
 ids:1<=s.Ids/\s.Ids<=1048576
 versions:1<=s.Versions/\s.Versions<=65536
 linger:0<=s.Linger/\s.Linger<=65536
 keep:1<=s.Keep/\s.Keep<=16
 inn:1<=s.In/\s.In<=8
 out:1<=s.Out/\s.Out<=16
 cache:0<=s.Cache/\s.Cache<=16
theorem spec_right(s:zad)(hs:FewS s):za7 (zdg 1000 s) (SpecOk s):=by
 simp only[zdg,spec_Flaw];obtain ⟨b1,e1,h1⟩:=nodesRight s;obtain ⟨b2,e2,h2⟩:=partsRight s hs;obtain ⟨b4,e4,h4⟩:=queuesRight s hs;obtain ⟨b5,e5,h5⟩:=weightsRight s.Weights;simp only[e1,e2,e4,e5,Option.bind_some];have T:∀(x:ByteArray),x.toList≠[]->(¬SpecOk s)->Ret ((some x).bind λr1=>some (r1.toList == (⟨#[]⟩:ByteArray).toList)) λb=>b=true↔SpecOk s:=λx hx hn=>by
  rw[xAa,zaf];have:(⟨#[]⟩:ByteArray).toList=[]:=by kernel_rfl
  rw[this];simp only[yAF];exact ⟨λh=>absurd h hx,λh=>absurd h hn⟩
 have step:∀(c:Bool)(x:ByteArray)(o:Option ByteArray),x.toList.isEmpty=false->(c=false->¬SpecOk s)->(c=true->Ret (o.bind λr1=>some (r1.toList == (⟨#[]⟩:ByteArray).toList)) λb=>b=true↔SpecOk s) ->
   Ret ((if (!c)=true then some x else o).bind λr1=>some (r1.toList == (⟨#[]⟩:ByteArray).toList)) λb=>b=true↔SpecOk s:=λc x o hx h1 h2=>by
  cases c with
  |false=>exact T x (by intro h;rw[h] at hx;cases hx) (h1 rfl)
  |true=>exact h2 rfl
 have nb:∀{b:Bool}{p:Prop},(b=true↔p)->b=false->¬p:=λh e hp=>by rw[h.2 hp] at e;cases e
 refine step _ _ _ (by kernel_rfl) (λe k=>nb h1 e k.nodes) λc1=>?_;refine step _ _ _ (by kernel_rfl) (λe k=>nb h2 e k.parts) λc2=>?_;refine step _ _ _ (by kernel_rfl) (λe k=>by have:=k.users;simp at e;omega) λc3=>?_;refine step _ _ _ (by kernel_rfl) (λe k=>nb h4 e k.queues) λc4=>?_;refine step _ _ _ (by kernel_rfl) (λe k=>nb h5 e k.weights) λc5=>?_;refine step _ _ _ (by kernel_rfl) (λe k=>by have:=k.decay;simp at e;omega) λc6=>?_;refine step _ _ _ (by kernel_rfl) (λe k=>by have:=k.mode;simp at e;omega) λc7=>?_;refine step _ _ _ (by kernel_rfl) (λe k=>by have:=k.jobs;simp at e;omega) λc8=>?_;refine step _ _ _ (by kernel_rfl) (λe k=>by have:=k.ids;simp at e;omega) λc9=>?_;refine step _ _ _ (by kernel_rfl) (λe k=>by have:=k.versions;simp at e;omega) λc10=>?_;refine step _ _ _ (by kernel_rfl) (λe k=>by have:=k.linger;simp at e;omega) λc11=>?_;refine step _ _ _ (by kernel_rfl) (λe k=>by have:=k.keep;simp at e;omega) λc12=>?_;refine step _ _ _ (by kernel_rfl) (λe k=>by have:=k.inn;simp at e;omega) λc13=>?_;refine step _ _ _ (by kernel_rfl) (λe k=>by have:=k.out;simp at e;omega) λc14=>?_;refine step _ _ _ (by kernel_rfl) (λe k=>by have:=k.cache;simp at e;omega) λc15=>?_;rw[xAa,zaf];simp only[yCk,yBP];simp only[yAj,yAt,yAf,yAF] at c3 c6 c7 c8 c9 c10 c11 c12 c13 c14 c15;exact ⟨h1.1 c1,h2.1 c2,c3,h4.1 c4,h5.1 c5,c6,c7,c8,c9,c10,c11,c12,c13,c14,c15⟩
theorem ref_right_n{n:Nat}(hN:15<n){s:zad}{b1 b2 b4:Bool}(e1:zcx n s=some b1)(h1:b1=true↔NodesOk s)(e2:zcA n s=some b2)(h2:b2=true↔PartsOk s)(e4:zca n s=some b4)(h4:b4=true↔QueuesOk s):za7 (zbP n s) (SpecOk s):=by
 simp only[zbP,drayageref07xFlaw,e1,e2,e4,Option.bind_some,zaj,zaS];have key:∀w:Bool,(w=true↔WeightsOk s.Weights)->∀(L:List Bool)(M:List ByteArray),L=[b1,b2,decide (1<=s.Users)&&decide (s.Users<=8),b4,w,decide (1<=s.Decay)&&decide (s.Decay<=16),decide (1<=s.Mode)&&decide (s.Mode<=2),decide (1<=s.Jobs)&&decide (s.Jobs<=256),decide (1<=s.Ids)&&decide (s.Ids<=1048576),decide (1<=s.Versions)&&decide (s.Versions<=65536),decide (0<=s.Linger)&&decide (s.Linger<=65536),decide (1<=s.Keep)&&decide (s.Keep<=16),decide (1<=s.In)&&decide (s.In<=8),decide (1<=s.Out)&&decide (s.Out<=16),decide (0<=s.Cache)&&decide (s.Cache<=16)] ->
   (∀x∈M,x.toList≠[])->M.length=15 ->
   Ret ((lpX (λ(f18:Int->Option ByteArray) (x17:Int)=>if (decide (x17<15))=true then (at? L x17).bind λa19=>if (!a19)=true then (at? M x17).bind λa20=>some a20 else f18 (IntKind.i64.wrap (x17+1)) else some (⟨#[]⟩:ByteArray)) n 0).bind λr1=>some (r1.toList == (⟨#[]⟩:ByteArray).toList)) λb=>b=true↔SpecOk s:=by
  intro w hw L M hL hM hM15;have hL15:L.length=15:=by rw[hL];rfl
  have h15:(15:Int)=(L.length:Int):=by rw[hL15];rfl
  have all:(∀x∈L,x=true)↔SpecOk s:=by
   rw[hL];simp only[yAu,yBC,or_false,forall_eq_or_imp,forall_eq,yAj,yAf];constructor
   ·rintro ⟨c1,c2,c3,c4,c5,c6,c7,c8,c9,c10,c11,c12,c13,c14,c15⟩;exact ⟨h1.1 c1,h2.1 c2,c3,h4.1 c4,hw.1 c5,c6,by omega,c8,c9,c10,c11,c12,c13,c14,c15⟩
   ·intro k;have:=k.mode;exact ⟨h1.2 k.nodes,h2.2 k.parts,k.users,h4.2 k.queues,hw.2 k.weights,k.decay,by omega,k.jobs,k.ids,k.versions,k.linger,k.keep,k.inn,k.out,k.cache⟩
  rw[ret_bind,h15];have nil:(⟨#[]⟩:ByteArray).toList=[]:=by kernel_rfl
  refine lpA L (λ_ x=>x=true) (λi f h _ hr=>?_) (λf hA=>?_) (by omega)
  ·simp only[zda h,if_true,zak h,zak (l:=M) (show i<M.length by omega),Option.bind_some,wr1 (show i<1000000 by omega),zag,zaf,yAs,yA1,nil,yAF] at hr ⊢;exact ⟨λe=>⟨λh'=>absurd h' (hM _ (yAk _)),λk=>by have:=all.2 k _ (yAk h);rw[e] at this;cases this⟩,λe=>hr e⟩
  ·simp only[zc7,yAh,yAx,zaf,yCk,yBP];exact all.1 (zcM hA)
 have names:∀x∈([(⟨#[78,111,100,101,115]⟩:ByteArray),(⟨#[80,97,114,116,115]⟩:ByteArray),(⟨#[85,115,101,114,115]⟩:ByteArray),(⟨#[81,117,101,117,101,115]⟩:ByteArray),(⟨#[87,101,105,103,104,116,115]⟩:ByteArray),(⟨#[68,101,99,97,121]⟩:ByteArray),(⟨#[77,111,100,101]⟩:ByteArray),(⟨#[74,111,98,115]⟩:ByteArray),(⟨#[73,100,115]⟩:ByteArray),(⟨#[86,101,114,115,105,111,110,115]⟩:ByteArray),(⟨#[76,105,110,103,101,114]⟩:ByteArray),(⟨#[75,101,101,112]⟩:ByteArray),(⟨#[73,110]⟩:ByteArray),(⟨#[79,117,116]⟩:ByteArray),(⟨#[67,97,99,104,101]⟩:ByteArray)]:List ByteArray),x.toList≠[]:=by intro x hx;simp only[yAu,yBC,or_false] at hx;rcases hx with rfl | rfl | rfl | rfl | rfl | rfl | rfl | rfl | rfl | rfl | rfl | rfl | rfl | rfl | rfl <;> exact ne_of (by kernel_rfl)
 split
 ·rename_i w1;split
  ·rename_i w2;split
   ·rename_i w3;refine key _ ?_ _ _ rfl names rfl;simp only[yAj,yAf] at w1 w2 w3 ⊢;exact ⟨λw4=>⟨w1,w2,w3,w4⟩,λk=>k.share⟩
   ·rename_i w3;refine key _ ?_ _ _ rfl names rfl;simp only[yAj,yAf] at w3;simp only[yAh,yBr];exact λk=>w3 k.qos
  ·rename_i w2;refine key _ ?_ _ _ rfl names rfl;simp only[yAj,yAf] at w2;simp only[yAh,yBr];exact λk=>w2 k.size
 ·rename_i w1;refine key _ ?_ _ _ rfl names rfl;simp only[yAj,yAf] at w1;simp only[yAh,yBr];exact λk=>w1 k.age
theorem ref_right(s:zad)(hs:FewS s):za7 (zbP 1000 s) (SpecOk s):=by obtain ⟨b1,e1,h1⟩:=ref_nodes s hs;obtain ⟨b2,e2,h2⟩:=ref_parts s hs;obtain ⟨b4,e4,h4⟩:=ref_queues s hs;exact ref_right_n (by decide) e1 h1 e2 h2 e4 h4
end Go.Plain
end
section
namespace Go.Plain
open Go.Abs
structure CntL (L:List (Int×Int)) (k:Int):Prop where
 lo:0<=k
 hi:k<=64
 fit:∀p∈L,k * p.2<=p.1
 max:k<64->∃p∈L,p.1<(k+1) * p.2
theorem CntL.uniq{L:List (Int×Int)}{k k':Int}(hL:∀p∈L,0<=p.2)(h:CntL L k)(h':CntL L k'):k=k':=by
 have key:∀{a b:Int},CntL L a->CntL L b->¬a<b:=λ{a b} ha hb hlt=>by obtain ⟨p,hp,h1⟩:=ha.max (by have:=hb.hi;omega);have h2:=hb.fit p hp;have h3:(a+1) * p.2<=b * p.2:=yBf (by omega) (hL p hp);omega
 have:=key h h';have:=key h' h;omega
theorem CntL.nil:CntL [] 64:=⟨by omega,by omega,by simp,by simp⟩
def qm(n a b:Int):Int:=if b > 0 then (if a.tdiv b<n then a.tdiv b else n) else n
theorem CntL.step{L:List (Int×Int)}{k a b:Int}(h:CntL L k)(hL:∀p∈L,0<=p.2)(ha:0<=a)(hb:0<=b):CntL (L++[(a,b)]) (qm k a b):=by
 unfold qm;have h1:=h.lo;have h2:=h.hi;split
 ·rename_i hb0;rw[xAr ha];have e1:a / b * b<=a:=Int.ediv_mul_le a (by omega);have e2:a<(a / b+1) * b:=Int.lt_ediv_add_one_mul_self a hb0;have e3:0<=a / b:=Int.ediv_nonneg ha (by omega);split
  ·rename_i hlt;refine ⟨e3,by omega,λp hp=>?_,λ_=>⟨(a,b),by simp,e2⟩⟩;rcases yAE.1 hp with hp | hp
   ·have:=h.fit p hp;have:a / b * p.2<=k * p.2:=yBf (by omega) (hL p hp);omega
   ·simp only[yAZ] at hp;subst hp;exact e1
  ·rename_i hge;refine ⟨h1,h2,λp hp=>?_,λhk=>?_⟩
   ·rcases yAE.1 hp with hp | hp
    ·exact h.fit p hp
    ·simp only[yAZ] at hp;subst hp;have:k * b<=a / b * b:=yBf (by omega) (by omega);dsimp only;omega
   ·obtain ⟨p,hp,q⟩:=h.max hk;exact ⟨p,yBH _ hp,q⟩
 ·rename_i hb0;have:b=0:=by omega
  subst this;refine ⟨h1,h2,λp hp=>?_,λhk=>?_⟩
  ·rcases yAE.1 hp with hp | hp
   ·exact h.fit p hp
   ·simp only[yAZ] at hp;subst hp;simp;exact ha
  ·obtain ⟨p,hp,q⟩:=h.max hk;exact ⟨p,yBH _ hp,q⟩
theorem qm_pos{n a b:Int}(h:b > 0):qm n a b=if a.tdiv b<n then a.tdiv b else n:=by unfold qm;rw[if_pos h]
theorem qm_neg{n a b:Int}(h:¬b > 0):qm n a b=n:=by unfold qm;rw[if_neg h]
def prs(a b:zac):List (Int×Int):=[(a.Cpu,b.Cpu),(a.Mem,b.Mem),(a.Gpu,b.Gpu),(a.Lic,b.Lic)]
def cntV(a b:zac):Int:=qm (qm (qm (qm 64 a.Cpu b.Cpu) a.Mem b.Mem) a.Gpu b.Gpu) a.Lic b.Lic
theorem cntV_ok{a b:zac}(ha:VecOk a)(hb:VecOk b):CntL (prs a b) (cntV a b):=by have h0:=CntL.nil;have h1:=h0.step (by simp) ha.cpu.1 hb.cpu.1;have h2:=h1.step (by simp;exact hb.cpu.1) ha.mem.1 hb.mem.1;have h3:=h2.step (by simp;exact ⟨hb.cpu.1,hb.mem.1⟩) ha.gpu.1 hb.gpu.1;have h4:=h3.step (by simp;exact ⟨hb.cpu.1,hb.mem.1,hb.gpu.1⟩) ha.lic.1 hb.lic.1;exact h4
theorem w1:IntKind.i64.wrap (0+1)=1:=rfl
theorem w2:IntKind.i64.wrap (1+1)=2:=rfl
theorem w3:IntKind.i64.wrap (2+1)=3:=rfl
theorem w4:IntKind.i64.wrap (3+1)=4:=rfl
theorem wq{a b:Int}(ha:0<=a/\a<=1048576)(hb:0<b):quo? .i64 a b=some (a.tdiv b):=by unfold quo?;rw[if_neg (by omega)];have e3:0<=a / b:=Int.ediv_nonneg ha.1 (by omega);have e4:a / b<=a:=Int.ediv_le_self b ha.1;rw[xAr ha.1,wr (by omega) (by omega)]
def stc(a b:zac):Nat->Int
 |0=>64
 |1=>qm 64 a.Cpu b.Cpu
 |2=>qm (qm 64 a.Cpu b.Cpu) a.Mem b.Mem
 |3=>qm (qm (qm 64 a.Cpu b.Cpu) a.Mem b.Mem) a.Gpu b.Gpu
 |_=>cntV a b
theorem count{a b:zac}(ha:VecOk a)(hb:VecOk b)(hz:b≠zeroR):vec_Count 1000 a b=some (cntV a b):=by
 obtain ⟨r1,e1,h1⟩:=zcc a;obtain ⟨r2,e2,h2⟩:=zcc b;have t1:=h1.2 ha;have t2:=h2.2 hb;subst t1 t2;have hz':zac.beq b zeroR=false:=by
  cases h:zac.beq b zeroR with
  |false=>rfl
  |true=>exact absurd (zd2.1 h) hz
 simp only[vec_Count,zaS,e1,e2,Option.bind_some,yAY,yAh,yAx,Bool.false_or,vec_numbers];change (if zac.beq b zeroR=true then some 0 else _)=_;rw[hz'];simp only[yAh,yAx];refine Ret.eq (lpS 4 (λi x=>x=(stc a b i,(i:Int))) (λi x f hi hx hr=>?_) (λx f hx=>?_) rfl (by omega))
 ·subst hx;rcases (show i=0∨i=1∨i=2∨i=3 by omega) with rfl | rfl | rfl | rfl
  ·rw[show ((0:Nat):Int)=0 from rfl];simp only[show decide ((0:Int)<4)=true from rfl,if_true,at4x0,Option.bind_some,w1,zag,yAf];refine ⟨λhb'=>?_,λhb'=>hr _ (by simp[stc,qm,hb'])⟩;rw[wq ha.cpu hb',xAa];exact hr _ (by simp[stc,qm,hb'])
  ·rw[show ((1:Nat):Int)=1 from rfl];simp only[show decide ((1:Int)<4)=true from rfl,if_true,at4x1,Option.bind_some,w2,zag,yAf];refine ⟨λhb'=>?_,λhb'=>hr _ (by simp only[stc,cntV,qm_neg hb'];rfl)⟩;rw[wq ha.mem hb',xAa];exact hr _ (by simp only[stc,cntV,qm_pos hb'];rfl)
  ·rw[show ((2:Nat):Int)=2 from rfl];simp only[show decide ((2:Int)<4)=true from rfl,if_true,at4x2,Option.bind_some,w3,zag,yAf];refine ⟨λhb'=>?_,λhb'=>hr _ (by simp only[stc,cntV,qm_neg hb'];rfl)⟩;rw[wq ha.gpu hb',xAa];exact hr _ (by simp only[stc,cntV,qm_pos hb'];rfl)
  ·rw[show ((3:Nat):Int)=3 from rfl];simp only[show decide ((3:Int)<4)=true from rfl,if_true,at4x3,Option.bind_some,w4,zag,yAf];refine ⟨λhb'=>?_,λhb'=>hr _ (by simp only[stc,cntV,qm_neg hb'];rfl)⟩;rw[wq ha.lic hb',xAa];exact hr _ (by simp only[stc,cntV,qm_pos hb'];rfl)
 ·subst hx;simp only[show decide (((4:Nat):Int)<4)=false from rfl,yAh,yAx,zaf];rfl
theorem fits_zero{b:zac}(hb:VecOk b):zaw 1000 b zeroR=some (decide (b=zeroR)):=by simp only[zaw,yAa];have:=hb.cpu;have:=hb.mem;have:=hb.gpu;have:=hb.lic;rw[yBI];simp only[yAj,yAf];obtain ⟨b1,b2,b3,b4⟩:=b;simp only[zeroR,zac.mk.injEq];simp only at *;omega
theorem ref_count{a b:zac}(ha:VecOk a)(hb:VecOk b)(hz:b≠zeroR):zcB 1000 a b=some (cntV a b):=by
 obtain ⟨r1,e1,h1⟩:=ref_vec a;obtain ⟨r2,e2,h2⟩:=ref_vec b;have t1:=h1.2 ha;have t2:=h2.2 hb;subst t1 t2;simp only[zcB,zaS,e1,e2,Option.bind_some,yAY,yAh,yAx];have hf:zaw 1000 b ({ Cpu:=0,Mem:=0,Gpu:=0,Lic:=0 }:zac)=some (decide (b=zeroR)):=fits_zero hb;rw[hf];simp only[Option.bind_some,hz,decide_false,yAh,yAx];have hc:=ha.cpu;have hm:=ha.mem;have hg:=ha.gpu;have hl:=ha.lic;have hc':=hb.cpu;have hm':=hb.mem;have hg':=hb.gpu;have hl':=hb.lic;have hL:∀p∈prs a b,0<=p.2:=by
  intro p hp;simp only[prs,yAu,yBC,or_false] at hp;rcases hp with rfl | rfl | rfl | rfl
  ·exact hc'.1
  ·exact hm'.1
  ·exact hg'.1
  ·exact hl'.1
 have done:∀k:Int,CntL (prs a b) k->k=cntV a b:=λk hk=>hk.uniq hL (cntV_ok ha hb);have mulb:∀{i:Nat}{y:Int},i<=65->0<=y/\y<=1048576->0<=(i:Int) * y/\(i:Int) * y<=68157440:=λ{i y} hi hy=>by have h1:0<=(i:Int) * y:=yCf (by omega) hy.1;have h2:(i:Int) * y<=65 * y:=yBf (by omega) hy.1;omega
 refine Ret.eq (lpS 64 (λi x=>x=((i:Int),((i+1:Nat):Int) * b.Cpu,((i+1:Nat):Int) * b.Mem,((i+1:Nat):Int) * b.Gpu,((i+1:Nat):Int) * b.Lic)/\∀p∈prs a b,(i:Int) * p.2<=p.1) (λi x f hi hx hr=>?_) (λx f hx=>?_) ⟨by simp,λp hp=>?_⟩ (by omega))
 ·obtain ⟨rfl,hA⟩:=hx;have m1:=mulb (i:=i+1) (by omega) hc';have m2:=mulb (i:=i+1) (by omega) hm';have m3:=mulb (i:=i+1) (by omega) hg';have m4:=mulb (i:=i+1) (by omega) hl';have n1:∀y:Int,((i+1:Nat):Int) * y+y=((i+1+1:Nat):Int) * y:=λy=>by
   rw[show ((i+1+1:Nat):Int)=((i+1:Nat):Int)+1 by omega,yCs,Int.one_mul]
  simp only[show decide ((i:Int)<64)=true by simp;omega,if_true,zaw,Option.bind_some,zbV,zag,zaf,yAj,yAf,wr1 (show i<1000000 by omega)];rw[wr (by omega) (by omega),wr (by omega) (by omega),wr (by omega) (by omega),wr (by omega) (by omega),n1,n1,n1,n1];refine ⟨λh=>hr _ ⟨rfl,λp hp=>?_⟩,λh=>done _ ⟨by omega,by omega,hA,λ_=>?_⟩⟩
  ·simp only[prs,yAu,yBC,or_false] at hp;rcases hp with rfl | rfl | rfl | rfl
   ·exact h.1.1.1
   ·exact h.1.1.2
   ·exact h.1.2
   ·exact h.2
  ·rw[show ((i:Int)+1)=((i+1:Nat):Int) by omega];by_cases q1:a.Cpu<((i+1:Nat):Int) * b.Cpu
   ·exact ⟨(a.Cpu,b.Cpu),by simp[prs],q1⟩
   by_cases q2:a.Mem<((i+1:Nat):Int) * b.Mem
   ·exact ⟨(a.Mem,b.Mem),by simp[prs],q2⟩
   by_cases q3:a.Gpu<((i+1:Nat):Int) * b.Gpu
   ·exact ⟨(a.Gpu,b.Gpu),by simp[prs],q3⟩
   by_cases q4:a.Lic<((i+1:Nat):Int) * b.Lic
   ·exact ⟨(a.Lic,b.Lic),by simp[prs],q4⟩
   exact absurd ⟨⟨⟨by omega,by omega⟩,by omega⟩,by omega⟩ h
 ·obtain ⟨rfl,hA⟩:=hx;simp only[show decide (((64:Nat):Int)<64)=false from rfl,yAh,yAx,zaf];exact done _ ⟨by omega,by omega,hA,λh=>by omega⟩
 ·simp only[prs,yAu,yBC,or_false] at hp;rcases hp with rfl | rfl | rfl | rfl <;> simp <;> omega
def roomV(s:zad)(l:List Int)(need:zac):Int:=(l.map λn=>cntV ((s.Nodes[n.toNat]?).getD zeroR) need).sum
theorem cnt_bd{a b:zac}(ha:VecOk a)(hb:VecOk b):0<=cntV a b/\cntV a b<=64:=⟨(cntV_ok ha hb).lo,(cntV_ok ha hb).hi⟩
theorem room_loop{s:zad}{need:zac}(k:SpecOk s)(hn:VecOk need)(hz:need≠zeroR){l:List Int}(hl:l.length<=300)(hr:Rises l s.Nodes.length)(C:zac->Option Int)(hC:∀a,VecOk a->C a=some (cntV a need)) :
  lpX (λ(f4:Int×Int->Option Int) (x3:Int×Int)=>if (decide (x3.2<(l.length:Int)))=true then (at? l x3.2).bind λa5=>(at? s.Nodes a5).bind λa6=>(C a6).bind λr7=>f4 ((IntKind.i64.wrap (x3.1+r7)),(IntKind.i64.wrap (x3.2+1))) else some x3.1) 1000 (0,0)=some (roomV s l need):=by
 have bd:∀(m:List Int),(∀x∈m,x∈l)->0<=roomV s m need/\roomV s m need<=64 * m.length:=by
  intro m;induction m with
  |nil=>intro _;simp[roomV]
  |cons x m ih=>
   intro h;have i1:=ih λy hy=>h y (yAm _ hy);have q:=hr.mem x (h x (yAq ..));have hx:x.toNat<s.Nodes.length:=by omega
   have:=cnt_bd (k.nodes.ok (s.Nodes[x.toNat]) (yAk hx)) hn;simp only[roomV,yAw,List.sum_cons,yAg hx,Option.getD_some,List.length_cons] at i1 ⊢;omega
 refine Ret.eq (lpS l.length (λi x=>x=(roomV s (l.take i) need,(i:Int))) (λi x f hi hx hr'=>?_) (λx f hx=>?_) (by simp[roomV]) (by omega))
 ·subst hx;have q:=hr.mem l[i] (yAk hi);obtain ⟨hx,e⟩:=at_int q.1 q.2;have c:=cnt_bd (k.nodes.ok (s.Nodes[l[i].toNat]) (yAk hx)) hn;have b:=bd (l.take i) λx hx=>yBg hx;have b2:((l.take i).length:Int)<=300:=by rw[yA6];omega
  simp only[zda hi,if_true,zak hi,Option.bind_some,e,hC _ (k.nodes.ok _ (yAk hx)),wr1 (show i<1000000 by omega)];rw[wr (by omega) (by omega)];refine hr' _ ?_;congr 1;rw[yAO hi];simp only[roomV,yB6,yAw,yCp,List.sum_append,List.sum_cons,List.sum_nil,yAg hx,Option.getD_some];omega
 ·subst hx;simp only[zc7,yAh,yAx,zaf,yBa]
theorem fits_eq{s:zad}(hs:FewS s)(k:SpecOk s){q m:Int}{need:zac}(hn:VecOk need)(hz:need≠zeroR):∃b,zbY 1000 s q m need=some b/\zbm 1000 s q m need=some b:=by
 obtain ⟨r1,e1,h1⟩:=spec_right s hs;have t1:=h1.2 k;subst t1;by_cases hq:0<=q/\q<s.Queues.length/\1<=m
 ·obtain ⟨hx,e⟩:=at_int hq.1 hq.2.1;have kq:=k.queues.ok _ (yAk hx);obtain ⟨hp,e2⟩:=at_int kq.part.1 kq.part.2;have kp:=k.parts.ok _ (yAk hp);have lp:=hs.part _ (yAk hp);refine ⟨decide (roomV s (s.Parts[s.Queues[q.toNat].Part.toNat]) need≥m),?_,?_⟩
  ·simp only[zbY,e1,Option.bind_some];rw[if_neg (by simp;omega),e,xAa];simp only[spec_Room,e1,Option.bind_some];rw[if_neg (by have:=kq.part;simp;omega),e2,xAa];have:=room_loop k hn hz (yAA lp (by decide)) kp.2 (λa=>vec_Count 1000 a need) (λa ha=>count ha hn hz);rw[this,xAa]
  ·simp only[zbm];rw[if_pos (by simp;omega),e,xAa];simp only[drayageref07xRoom];rw[if_neg (by have:=kq.part;simp;omega)];simp only[e2,Option.bind_some];have:=room_loop k hn hz (yAA lp (by decide)) kp.2 (λa=>zcB 1000 a need) (λa ha=>ref_count ha hn hz);rw[this,xAa]
 ·refine ⟨false,?_,?_⟩
  ·simp only[zbY,e1,Option.bind_some];rw[if_pos (by simp;omega)]
  ·simp only[zbm];rw[if_neg (by simp;omega)]
end Go.Plain
end
section
namespace Go.Plain
open Go.Abs
structure StateOk (j:zaa):Prop where
 st:1<=j.State/\j.State<=6
 start:j.Start≠0->3<=j.State
 fin:j.End≠0->5<=j.State
 ok:j.Ok=true->j.State=4∨j.State=5
 kill:j.Kill=true->j.State=4∨j.State=6
structure JobOk (j:zaa):Prop where
 id:1<=j.Id/\j.Id<=1048576
 user:0<=j.User/\j.User<=7
 queue:0<=j.Queue/\j.Queue<=7
 many:1<=j.Many/\j.Many<=64
 need:VecOk j.Need
 needz:j.Need≠zeroR
 wall:1<=j.Wall/\j.Wall<=65536
 afterN:j.After.length<=4
 after:∀d∈j.After,1<=d.Job/\d.Job<=j.Id-1
 version:1<=j.Version/\j.Version<=281474976710656
 born:0<=j.Born/\j.Born<=1099511627776
 start:0<=j.Start/\j.Start<=1099511627776
 fin:0<=j.End/\j.End<=1099511627776
 arr:0<=j.Array/\j.Array<=j.Id
 state:StateOk j
theorem name_ok(x:Int):Ret (life_Name 1000 x) λr=>r.toList=[]↔¬(1<=x/\x<=6):=by
 simp only[life_Name,zag,zaf,yAF];have e:(⟨#[]⟩:ByteArray).toList=[]:=by kernel_rfl
 refine ⟨λh=>?_,λh1=>⟨λh=>?_,λh2=>⟨λh=>?_,λh3=>⟨λh=>?_,λh4=>⟨λh=>?_,λh5=>⟨λh=>?_,λh6=>?_⟩⟩⟩⟩⟩⟩
 ·exact ⟨λq=>absurd q (ne_of (by kernel_rfl)),λq=>by omega⟩
 ·exact ⟨λq=>absurd q (ne_of (by kernel_rfl)),λq=>by omega⟩
 ·exact ⟨λq=>absurd q (ne_of (by kernel_rfl)),λq=>by omega⟩
 ·exact ⟨λq=>absurd q (ne_of (by kernel_rfl)),λq=>by omega⟩
 ·exact ⟨λq=>absurd q (ne_of (by kernel_rfl)),λq=>by omega⟩
 ·exact ⟨λq=>absurd q (ne_of (by kernel_rfl)),λq=>by omega⟩
 ·exact ⟨λ_=>by omega,λ_=>e⟩
theorem state_right(j:zaa):za7 (job_stateRight 1000 j) (StateOk j):=by
 have e:(⟨#[]⟩:ByteArray).toList=[]:=by kernel_rfl
 simp only[job_stateRight,zaS];refine (name_ok j.State).bind λr hr=>?_;have no:∀{p:Prop},¬p->(false=true↔p):=λh=>by simp[h]
 rw[zag];refine ⟨λh=>?_,λh=>?_⟩
 ·rw[zaf];simp only[e,yAF] at h;exact no λk=>hr.1 h k.st
 ·simp only[e,yAF] at h;have hs:1<=j.State/\j.State<=6:=yB5 λhn=>h (hr.2 hn);simp only[zdc,zd8,Option.bind_some,yAh,yAx];have fin:∀Q:Prop,(Q↔((j.Ok=true->j.State=4∨j.State=5)/\(j.Kill=true->j.State=4∨j.State=6)->StateOk j)/\True)->True:=λ_ _=>trivial;have tail:(j.Start≠0->3<=j.State)->(j.End≠0->5<=j.State)->Ret (if ((j.Ok&&(j.State != 4))&&(j.State != 5))=true then some false else if ((j.Kill&&(j.State != 4))&&(j.State != 6))=true then some false else some true) λb=>b=true↔StateOk j:=λg1 g2=>by
   simp only[zag,zaf,yAj,yBh,ne_eq];refine ⟨λq=>no λk=>by have:=k.ok q.1.1;omega,λq1=>⟨λq=>no λk=>by have:=k.kill q.1.1;omega,λq2=>?_⟩⟩;simp only[yBP];refine ⟨hs,g1,g2,λo=>?_,λo=>?_⟩
   ·exact yB5 λhn=>q1 ⟨⟨o,by omega⟩,by omega⟩
   ·exact yB5 λhn=>q2 ⟨⟨o,by omega⟩,by omega⟩
  have mid:(j.Start≠0->3<=j.State)->Ret (if (j.End != 0)=true then (if (!((j.State == 5) || (j.State == 6)))=true then some false else if ((j.Ok&&(j.State != 4))&&(j.State != 5))=true then some false else if ((j.Kill&&(j.State != 4))&&(j.State != 6))=true then some false else some true) else if ((j.Ok&&(j.State != 4))&&(j.State != 5))=true then some false else if ((j.Kill&&(j.State != 4))&&(j.State != 6))=true then some false else some true) λb=>b=true↔StateOk j:=λg1=>by
   rw[zag];refine ⟨λq=>?_,λq=>tail g1 λq'=>absurd q' (by simpa using q)⟩;rw[zag];refine ⟨λq2=>?_,λq2=>tail g1 λ_=>?_⟩
   ·rw[zaf];simp only[yBh,ne_eq,yAs,yBG,beq_eq_false_iff_ne] at q q2;exact no λk=>by have:=k.fin q;omega
   ·simp only[yAs,yBG,beq_eq_false_iff_ne] at q2;omega
  rw[zag];refine ⟨λq=>?_,λq=>mid λq'=>absurd q' (by simpa using q)⟩;rw[zag];refine ⟨λq2=>?_,λq2=>mid λ_=>?_⟩
  ·rw[zaf];simp only[yBh,ne_eq,yAt,yAF] at q q2;exact no λk=>by have:=k.start q;omega
  ·simp only[yAt,yAF] at q2;omega
theorem job_right(j:zaa):za7 (zc9 1000 j) (JobOk j):=by
 have no:∀{p:Prop},¬p->Ret (some false) (λb=>b=true↔p):=λh=>by rw[zaf];simp[h]
 simp only[zc9,zbv,Option.bind_some];have hin:∀{lo hi x:Int}{o:Option Bool}{P:Prop},(P->lo<=x/\x<=hi)->(lo<=x/\x<=hi->Ret o λb=>b=true↔P)->Ret (if (decide (lo<=x)&&decide (x<=hi))=true then o else some false) λb=>b=true↔P:=λh1 h2=>by rw[zag];simp only[yAj,yAf];exact ⟨λh=>h2 h,λh=>no λp=>h (h1 p)⟩
 refine hin (λk=>k.id) λc1=>hin (λk=>k.user) λc2=>hin (λk=>k.queue) λc3=>hin (λk=>k.many) λc4=>?_;refine (zcc j.Need).bind λr hr=>?_;rw[zag];refine ⟨λh=>?_,λh=>no λk=>h ?_⟩
 rotate_left
 ·have hz:zac.beq j.Need zeroR=false:=by
   cases h:zac.beq j.Need zeroR with
   |false=>rfl
   |true=>exact absurd (zd2.1 h) k.needz
  rw[hr.2 k.need];change (true&&!(zac.beq j.Need zeroR))=true;rw[hz];rfl
 simp only[yAj,yAs] at h;have c5:=hr.1 h.1;have c5z:j.Need≠zeroR:=λe=>by have h2:zac.beq j.Need zeroR=false:=h.2;rw[zd2.2 e] at h2;cases h2
 refine hin (λk=>k.wall) λc6=>?_;have after:za7 (job_afterRight 1000 j) (j.After.length<=4/\∀d∈j.After,1<=d.Job/\d.Job<=j.Id-1):=by
  simp only[job_afterRight,zag,zaf,zbv,Option.bind_some];refine ⟨λh=>?_,λh=>?_⟩
  ·simp only[yAf] at h;simp only[yAh,yBr];exact λk=>by omega
  ·simp only[yAf] at h;refine lpC j.After (λd=>1<=d.Job/\d.Job<=j.Id-1) _ (λk=>k.2) (λi f h' Q h1 h2=>?_) (λf hA=>?_) (by omega)
   ·simp only[zda h',if_true,zak h',Option.bind_some,wr1 (show i<1000000 by omega),zag,zaf,yAs,yBy,yAW];rw[wr (by omega) (by omega)];exact ⟨λe=>h2 (by omega),λe=>h1 (by omega)⟩
   ·simp only[zc7,yAh,yAx,zaf,yBP];exact ⟨by omega,hA⟩
 refine after.bind λra ha=>?_;rw[zag];refine ⟨λh=>?_,λh=>no λk=>h (ha.2 ⟨k.afterN,k.after⟩)⟩;have c7:=ha.1 h;refine hin (λk=>k.version) λc8=>hin (λk=>k.born) λc9=>hin (λk=>k.start) λc10=>hin (λk=>k.fin) λc11=>hin (λk=>k.arr) λc12=>?_;refine (state_right j).bind λrs hs=>?_;rw[zaf,hs];exact ⟨λk=>⟨c1,c2,c3,c4,c5,c5z,c6,c7.1,c7.2,c8,c9,c10,c11,c12,k⟩,λk=>k.state⟩
theorem ref_job_right(j:zaa)(hl:j.After.length<=10):za7 (zaZ 1000 j) (JobOk j):=by
 simp only[zaZ,zaS,zaG,Option.bind_some];refine lpC j.After (λd=>1<=d.Job/\d.Job<=IntKind.i64.wrap (j.Id-1)) _ (λk d hd=>by have:=k.after d hd;have:=k.id;rw[wr (by omega) (by omega)];omega) (λi f h' Q h1 h2=>?_) (λf hA=>?_) (by omega)
 ·simp only[zda h',if_true,zak h',Option.bind_some,wr1 (show i<1000000 by omega),zag,zaf,yAs,yBy,yAW];exact ⟨λe=>h2 (by omega),λe=>h1 (by omega)⟩
 ·simp only[zc7,yAh,yAx];obtain ⟨r1,e1,h1⟩:=ref_vec j.Need;simp only[e1,Option.bind_some];have no:∀{p:Prop},¬p->(False↔p):=λh=>by simp[h]
  simp only[if_true,yAx,zag,zaf,yAf,yAs,yBy,yAW,yAj,yAh,yA1,yBh,ne_eq,yAt,yAF];refine ⟨λc=>no λk=>by have:=k.afterN;omega,λc0=>⟨λc=>no λk=>by have:=k.id;omega,λc1=>⟨λc=>no λk=>by have:=k.user;omega,λc2=>⟨λc=>no λk=>by have:=k.queue;omega,λc3=>⟨λc=>no λk=>by have:=k.many;omega,λc4=>⟨λc=>no λk=>(by have:=h1.2 k.need;rw[c] at this;cases this),λc5=>?_⟩⟩⟩⟩⟩⟩;have v:=h1.1 c5;have hf:zaw 1000 j.Need ({ Cpu:=0,Mem:=0,Gpu:=0,Lic:=0 }:zac)=some (decide (j.Need=zeroR)):=fits_zero v;simp only[if_true,yAx,hf,Option.bind_some,zag,zaf,yAf,yAs,yBy,yAW,yAj,yAh,yA1,yBh,ne_eq,yAt,yAF];refine ⟨λc=>no λk=>k.needz c,λc6=>⟨λc=>no λk=>by have:=k.wall;omega,λc7=>⟨λc=>no λk=>by have:=k.state.st;omega,λc8=>⟨λc=>no λk=>by have:=k.version;omega,λc9=>⟨λc=>no λk=>by have:=k.arr;omega,λc10=>⟨λc=>no λk=>by have:=k.born;omega,λc11=>⟨λc=>no λk=>by have:=k.start;omega,λc12=>⟨λc=>no λk=>by have:=k.fin;omega,λc13=>⟨λc=>no λk=>by have:=k.state.start;omega,λc14=>⟨λc=>no λk=>by have:=k.state.fin;omega,λc15=>⟨λc16=>?_,λc=>no λk=>c ?_⟩⟩⟩⟩⟩⟩⟩⟩⟩⟩⟩
  ·constructor
   ·intro c17;refine ⟨by omega,by omega,by omega,by omega,v,c6,by omega,by omega,λd hd=>?_,by omega,by omega,by omega,by omega,by omega,⟨by omega,by omega,by omega,λo=>?_,λo=>?_⟩⟩
    ·have:=hA d hd;rw[wr (by omega) (by omega)] at this;exact this
    ·rcases c16 with (c | c) | c
     ·rw[o] at c;cases c
     ·exact .inl c
     ·exact .inr c
    ·rcases c17 with (c | c) | c
     ·rw[o] at c;cases c
     ·exact .inl c
     ·exact .inr c
   ·intro k;cases hk:j.Kill with
    |false=>exact .inl (.inl rfl)
    |true=>
     rcases k.state.kill hk with c | c
     ·exact .inl (.inr c)
     ·exact .inr c
  ·cases hk:j.Ok with
   |false=>exact .inl (.inl rfl)
   |true=>
    rcases k.state.ok hk with c | c
    ·exact .inl (.inr c)
    ·exact .inr c
end Go.Plain
end
section
namespace Go.Plain
open Go.Abs
section
variable{X R:Type}{b:(X->Option R)->X->Option R}{Q:R->Prop}
theorem lpM(I:X->Prop)(m:X->Nat)(hs:∀x f,I x->(∀x',I x'->m x'<m x->Ret (f x') Q)->Ret (b f x) Q){x0:X}(h0:I x0){N:Nat}(hN:m x0<N):Ret (lpX b N x0) Q:=by
 induction N generalizing x0 with
 |zero=>omega
 |succ N ih=>exact hs x0 _ h0 λx' hx' hlt=>ih hx' (by omega)
end
theorem mid{i j:Nat}(h:i+j<1000000):IntKind.i64.wrap (Int.fdiv (IntKind.u64.wrap (IntKind.i64.wrap ((i:Int)+(j:Int)))) (2 ^ 1))=(((i+j) / 2:Nat):Int):=by
 rw[wr (x:=(i:Int)+(j:Int)) (by omega) (by omega)];have hu:IntKind.u64.wrap ((i:Int)+(j:Int))=(i:Int)+(j:Int):=by simp only[IntKind.wrap,IntKind.bits,IntKind.signed];simp;omega
 rw[hu,Int.fdiv_eq_ediv_of_nonneg _ (by decide)];have:((i:Int)+(j:Int)) / 2 ^ 1=(((i+j) / 2:Nat):Int):=by omega
 rw[this,wr (by omega) (by omega)]
def SortedJ(l:List zaa):Prop:=∀i (h:i+1<l.length),l[i].Id<l[i+1].Id
theorem SortedJ.lt{l:List zaa}(h:SortedJ l):∀{i j:Nat}(hij:i<j)(hj:j<l.length),l[i].Id<l[j].Id:=by
 intro i j hij hj;induction j with
 |zero=>omega
 |succ j ih=>
  have h1:=h j hj;rcases yBc (yB0.1 hij) with h2 | h2
  ·have:=ih h2 (by omega);omega
  ·subst h2;exact h1
theorem SortedJ.inj{l:List zaa}(h:SortedJ l){i j:Nat}(hi:i<l.length)(hj:j<l.length)(e:l[i].Id=l[j].Id):i=j:=by
 rcases yBE i j with h1 | h1 | h1
 ·have:=h.lt h1 hj;omega
 ·exact h1
 ·have:=h.lt h1 hi;omega
structure At (l:List zaa) (id:Int) (r:Int):Prop where
 lo:0<=r
 hi:r.toNat<l.length
 is:l[r.toNat].Id=id
theorem At.mem{l:List zaa}{id r:Int}(h:At l id r):∃j∈l,j.Id=id:=⟨l[r.toNat]'h.hi,yAk _,h.is⟩
theorem At.uniq{l:List zaa}{id r r':Int}(hs:SortedJ l)(h:At l id r)(h':At l id r'):r=r':=by have:=hs.inj h.hi h'.hi (by rw[h.is,h'.is]);have:=h.lo;have:=h'.lo;omega
theorem half{l:List zaa}(hl:l.length<=300)(hs:SortedJ l)(id:Int){R:Type}{Q:R->Prop}(C:zaa->Option Bool)(hC:∀j∈l,C j=some (decide (j.Id<id)))(E:Int->Option R)
  (hE:∀i:Nat,i<=l.length->(∀k (h:k<l.length),k<i->l[k].Id<id)->(∀k (h:k<l.length),i<=k->id<=l[k].Id)->Ret (E (i:Int)) Q) :
  ∀ (b : (Int × Int -> Option R) -> Int × Int -> Option R), (∀ f x, b f x = if decide (x.1 < x.2) = true then (at? l (IntKind.i64.wrap (Int.fdiv (IntKind.u64.wrap (IntKind.i64.wrap (x.1 + x.2))) (2 ^ 1)))).bind λa => (C a).bind λc => if c = true then f ((IntKind.i64.wrap ((IntKind.i64.wrap (Int.fdiv (IntKind.u64.wrap (IntKind.i64.wrap (x.1 + x.2))) (2 ^ 1))) + 1)), x.2) else f (x.1, (IntKind.i64.wrap (Int.fdiv (IntKind.u64.wrap (IntKind.i64.wrap (x.1 + x.2))) (2 ^ 1)))) else E x.1) ->
   Ret (lpX b 1000 (0,(l.length:Int))) Q:=by
 intro b hb;refine lpM (λx=>∃i j:Nat,x=((i:Int),(j:Int))/\i<=j/\j<=l.length/\(∀k (h:k<l.length),k<i->l[k].Id<id)/\(∀k (h:k<l.length),j<=k->id<=l[k].Id)) (λx=>(x.2-x.1).toNat) (λx f hx hr=>?_) ⟨0,l.length,rfl,by omega,by omega,λk h hk=>by omega,λk h hk=>by omega⟩ (by dsimp only;omega);obtain ⟨i,j,rfl,h1,h2,h3,h4⟩:=hx;rw[hb,zag];dsimp only;refine ⟨λh=>?_,λh=>?_⟩
 ·simp only[yAf] at h;rw[mid (by omega)];have hm:(i+j) / 2<l.length:=by omega
  rw[zak hm,xAa,hC _ (yAk hm),xAa,zag];refine ⟨λhc=>?_,λhc=>?_⟩
  ·simp only[yAf] at hc;rw[wr1 (by omega)];refine hr _ ⟨(i+j) / 2+1,j,rfl,by omega,h2,λk hk hki=>?_,h4⟩ (by dsimp only;omega);rcases yBc (yB0.1 hki) with q | q
   ·have:=hs.lt q hm;omega
   ·subst q;exact hc
  ·simp only[yAf] at hc;refine hr _ ⟨i,(i+j) / 2,rfl,by omega,by omega,h3,λk hk hki=>?_⟩ (by dsimp only;omega);rcases yBc hki with q | q
   ·have:=hs.lt q hk;omega
   ·subst q;omega
 ·simp only[yAf] at h;have:i=j:=by omega
  subst this;exact hE i h2 h3 h4
theorem find_ok{l:List zaa}(hl:l.length<=300)(hs:SortedJ l){id:Int}(hid:0<=id/\id<=1048576)(hj:∀j∈l,0<=j.Id/\j.Id<=1048576):Ret (store_find 1000 l id) λr=>(r.2=true↔∃j∈l,j.Id=id)/\(r.2=true->At l id r.1):=by
 simp only[store_find,zav];rw[ret_bind];refine half hl hs id (λj=>some (decide (IntKind.i64.wrap (j.Id-id)<0))) (λj hm=>?_) (λi=>if (decide (i<(l.length:Int)))=true then (at? l i).bind λa5=>(store_find_1 1000 a5 id).bind λr6=>some (i,(r6 == 0)) else some (i,false)) (λi hi h1 h2=>?_) _ (λf x=>rfl)
 ·have:=hj j hm;rw[wr (by omega) (by omega)];congr 1;rw[yBI];simp only[yAf];omega
 ·rw[zag];refine ⟨λh=>?_,λh=>?_⟩
  ·simp only[yAf] at h;have hi':i<l.length:=by omega
   have:=hj _ (yAk hi');rw[zak hi',xAa];simp only[store_find_1,Option.bind_some,zaf,yAF];rw[wr (by omega) (by omega)];refine ⟨⟨λe=>⟨_,yAk hi',by omega⟩,λ⟨j,hm,e⟩=>?_⟩,λe=>⟨by omega,by simpa using hi',by simp;omega⟩⟩;obtain ⟨k,hk,rfl⟩:=yA2 hm;rcases yBE k i with q | q | q
   ·have:=h1 k hk q;omega
   ·subst q;omega
   ·have:=hs.lt q hk;have:=h2 i hi' (by omega);omega
  ·simp only[yAf] at h;simp only[zaf,yAh,yBr,false_implies,yBN];rintro ⟨j,hm,e⟩;obtain ⟨k,hk,rfl⟩:=yA2 hm;have:=h1 k hk (by omega);omega
theorem ref_find{l:List zaa}(hl:l.length<=300)(id:Int):Ret (zao 1000 l id) λr=>(0<=r↔∃j∈l,j.Id=id)/\(0<=r->At l id r)/\(r<0->r=-1):=by
 simp only[zao];refine lpA l (λ_ j=>j.Id≠id) (λi f h _ hr=>?_) (λf h=>?_) (by omega)
 ·simp only[zda h,if_true,zak h,Option.bind_some,wr1 (show i<1000000 by omega),zag,zaf,yAF];exact ⟨λe=>⟨⟨λ_=>⟨_,yAk h,e⟩,λ_=>by omega⟩,λ_=>⟨by omega,by simpa using h,by simpa using e⟩,λh=>by omega⟩,λe=>hr e⟩
 ·simp only[zc7,yAh,yAx,zaf];refine ⟨⟨λh=>by omega,λ⟨j,hm,e⟩=>absurd e (zcM (A:=λj=>j.Id≠id) h j hm)⟩,λh=>by omega,λ_=>trivial⟩
structure ShareOk (l:List zal) (n:Int) (i:Nat) (x:zal):Prop where
 up:prv (l.map (·.Node)) i<x.Node
 lt:x.Node<n
 lo:1<=x.Many
 hi:x.Many<=64
def SharesOk(l:List zal)(n:Int):Prop:=∀i (h:i<l.length),ShareOk l n i l[i]
theorem SharesOk.node{l:List zal}{n:Int}(h:SharesOk l n):Rises (l.map (·.Node)) n:=λi hi=>by rw[yAz] at hi;rw[yBd];exact ⟨(h i hi).up,(h i hi).lt⟩
theorem SharesOk.mem{l:List zal}{n:Int}(h:SharesOk l n):∀x∈l,0<=x.Node/\x.Node<n/\1<=x.Many/\x.Many<=64:=λx hx=>by have h1:=h.node.mem x.Node (yA4.2 ⟨x,hx,rfl⟩);obtain ⟨i,hi,rfl⟩:=yA2 hx;have h2:=h i hi;exact ⟨h1.1,h1.2,h2.lo,h2.hi⟩
theorem prv_map{l:List zal}{i:Nat}(h:i<l.length):prv (l.map (·.Node)) (i+1)=l[i].Node:=by rw[prv_succ (by simpa using h),yBd]
theorem place_right(l:List zal)(n:Int)(hl:l.length<=300):za7 (place_Right 1000 l n) (SharesOk l n):=by
 simp only[place_Right];refine lpS l.length (λi x=>x=(prv (l.map (·.Node)) i,(i:Int))/\∀j (hj:j<l.length),j<i->ShareOk l n j l[j]) (λi x f hi hx hr=>?_) (λx f hx=>?_) ⟨rfl,λj hj h=>by omega⟩ (by omega)
 ·obtain ⟨rfl,hA⟩:=hx;simp only[zda hi,if_true,zak hi,Option.bind_some,wr1 (show i<1000000 by omega),zag,zaf,yAt,yAf];refine ⟨λh=>?_,λh=>hr _ ⟨by rw[prv_map hi],λj hj hji=>?_⟩⟩
  ·simp only[yAh,yBr];intro hR;have q:=hR i hi;have q1:=q.up;have q2:=q.lt;have q3:=q.lo;have q4:=q.hi;omega
  ·rcases yBc (yB0.1 hji) with h' | h'
   ·exact hA j hj h'
   ·subst h';exact ⟨by omega,by omega,by omega,by omega⟩
 ·obtain ⟨rfl,hA⟩:=hx;simp only[zc7,yAh,yAx,zaf,yBP];exact λi hi=>hA i hi hi
theorem ref_place(l:List zal)(n:Int)(hl:l.length<=300):za7 (zbt 1000 l n) (SharesOk l n):=by
 simp only[zbt,zaS];refine lpA l (λi a=>ShareOk l n i a) (λi f h hA hr=>?_) (λf h=>?_) (by omega)
 ·have hd:decide ((i:Int) > 0)=decide (0<i):=by simp
  simp only[zda h,if_true,zak h,Option.bind_some,wr1 (show i<1000000 by omega),zag,zaf,yAf,hd,yAh,yAx];have bad:¬(ShareOk l n i l[i])->(False↔SharesOk l n):=λhn=>by simp only[yBr];exact λhR=>hn (hR i h)
  refine ⟨λh1=>?_,λh1=>⟨λh2=>bad λk=>by have:=k.lt;omega,λh2=>⟨λh3=>bad λk=>by have:=k.lo;omega,λh3=>⟨λh4=>bad λk=>by have:=k.hi;omega,λh4=>⟨λh5=>?_,λh5=>?_⟩⟩⟩⟩⟩
  ·simp only[yBr];intro hR;have:=(hR.mem _ (yAk h)).1;omega
  ·obtain ⟨m,rfl⟩:∃m,i=m+1:=⟨i-1,by omega⟩;rw[wp1 (show m+1<1000000 by omega),zak (show m<l.length by omega)];simp only[Option.bind_some,zag,yAf,zaf,yAh];exact ⟨λh6=>bad λk=>by have:=k.up;rw[prv_map (by omega)] at this;omega,λh6=>hr ⟨by rw[prv_map (by omega)];omega,by omega,by omega,by omega⟩⟩
  ·have:i=0:=by omega
   subst this;exact hr ⟨by simp only[prv];omega,by omega,by omega,by omega⟩
 ·simp only[zc7,yAh,yAx,zaf,yBP];exact h
def totV(l:List zal):Int:=(l.map (·.Many)).sum
theorem tot_bd{l:List zal}(h:∀x∈l,1<=x.Many/\x.Many<=64):0<=totV l/\totV l<=64 * l.length:=by
 induction l with
 |nil=>simp[totV]
 |cons x l ih=>have:=ih λy hy=>h y (yAm _ hy);have:=h x (yAq ..);simp only[totV,yAw,List.sum_cons,List.length_cons] at *;omega
theorem tot_take{l:List zal}{i:Nat}(h:i<l.length):totV (l.take (i+1))=totV (l.take i)+l[i].Many:=by rw[yAO h];simp only[totV,yB6,yAw,yCp,List.sum_append,List.sum_cons,List.sum_nil];omega
theorem place_total{l:List zal}{n:Int}(hl:l.length<=300)(h:SharesOk l n):place_Total 1000 l=some (totV l):=by
 simp only[place_Total];refine Ret.eq (lpS l.length (λi x=>x=(totV (l.take i),(i:Int))) (λi x f hi hx hr=>?_) (λx f hx=>?_) (by simp[totV]) (by omega))
 ·subst hx;have q:=h.mem _ (yAk hi);have b:=tot_bd (l:=l.take i) λx hx=>(h.mem x (yBg hx)).2.2;have b2:((l.take i).length:Int)<=300:=by rw[yA6];omega
  have hh:zez 1000 l[i].Many 0 64=some l[i].Many:=by simp only[zez];rw[if_neg (by simp;omega),if_neg (by simp;omega)]
  simp only[zda hi,if_true,zak hi,Option.bind_some,hh,wr1 (show i<1000000 by omega)];rw[wr (by omega) (by omega)];exact hr _ (by rw[tot_take hi])
 ·subst hx;simp only[zc7,yAh,yAx,zaf,yBa]
theorem ref_total{l:List zal}{n:Int}(hl:l.length<=300)(h:SharesOk l n):zdo 1000 l=some (totV l):=by
 simp only[zdo,zaS];refine Ret.eq (lpS l.length (λi x=>x=(totV (l.take i),(i:Int))) (λi x f hi hx hr=>?_) (λx f hx=>?_) (by simp[totV]) (by omega))
 ·subst hx;have q:=h.mem _ (yAk hi);have b:=tot_bd (l:=l.take i) λx hx=>(h.mem x (yBg hx)).2.2;have b2:((l.take i).length:Int)<=300:=by rw[yA6];omega
  simp only[zda hi,if_true,zak hi,Option.bind_some,wr1 (show i<1000000 by omega)];rw[if_neg (by simp;omega),if_pos (by simp;omega),wr (by omega) (by omega)];exact hr _ (by rw[tot_take hi])
 ·subst hx;simp only[zc7,yAh,yAx,zaf,yBa]
theorem contains_ok(l:List Int)(hl:l.length<=300)(x:Int):za7 (zbQ 1000 l x) (x∈l):=by
 simp only[za7,zbQ,zdH];rw[ret_bind];refine lpA l (λ_ y=>x≠y) (λi f h _ hr=>?_) (λf h=>?_) (by omega)
 ·simp only[zda h,if_true,zak h,Option.bind_some,wr1 (show i<1000000 by omega),zag,yAF];refine ⟨λe=>?_,λe=>hr e⟩;simp only[zaf,yAf];exact ⟨λ_=>by rw[e];exact yAk h,λ_=>by omega⟩
 ·simp only[zc7,yAh,yAx,zaf,yAf];exact ⟨λh=>by omega,λhm=>absurd rfl (zcM (A:=λy=>x≠y) h x hm)⟩
theorem ref_has(l:List Int)(hl:l.length<=300)(x:Int):za7 (zc8 1000 l x) (x∈l):=by
 simp only[zc8];refine lpA l (λ_ y=>y≠x) (λi f h _ hr=>?_) (λf h=>?_) (by omega)
 ·simp only[zda h,if_true,zak h,Option.bind_some,wr1 (show i<1000000 by omega),zag,yAF,zaf,yBP];exact ⟨λe=>by rw[<-e];exact yAk h,λe=>hr e⟩
 ·simp only[zc7,yAh,yAx,zaf,yBr];exact λhm=>absurd rfl (zcM (A:=λy=>y≠x) h x hm)
structure SuitsOk (s:zad) (j:zaa) (l:List zal):Prop where
 shares:SharesOk l s.Nodes.length
 tot:totV l=j.Many
 q:0<=j.Queue/\j.Queue<s.Queues.length
 part:∀x∈l,x.Node∈(s.Parts[((s.Queues[j.Queue.toNat]?).getD default).Part.toNat]?).getD []
theorem suits_ok{s:zad}(hs:FewS s)(k:SpecOk s)(j:zaa)(l:List zal)(hl:l.length<=300):za7 (store_suits 1000 s j l) (SuitsOk s j l):=by
 have no:∀{p:Prop},¬p->Ret (some false) (λb=>b=true↔p):=λh=>by rw[zaf];simp[h]
 simp only[store_suits,zaS];refine (place_right l _ hl).bind λr hr=>?_;rw[zag];refine ⟨λh=>?_,λh=>?_⟩
 ·simp only[if_true];exact no λk=>by have:=hr.2 k.shares;rw[this] at h;cases h
 ·simp only[yAs,yA1] at h;have S:=hr.1 h;rw[place_total hl S,xAa,zag];refine ⟨λh1=>no λk=>by have:=k.tot;simp[this] at h1,λh1=>?_⟩;have ht:totV l=j.Many:=by simpa using h1
  rw[zag];refine ⟨λh2=>no λk=>by have:=k.q;simp at h2;omega,λh2=>?_⟩;have hq:0<=j.Queue/\j.Queue<s.Queues.length:=by simp at h2;omega
  obtain ⟨hx,e⟩:=at_int hq.1 hq.2;have kq:=k.queues.ok _ (yAk hx);obtain ⟨hp,e2⟩:=at_int kq.part.1 kq.part.2;have lp:=hs.part _ (yAk hp);have eP:(s.Parts[((s.Queues[j.Queue.toNat]?).getD default).Part.toNat]?).getD []=s.Parts[s.Queues[j.Queue.toNat].Part.toNat]:=by rw[yAg hx];simp only[Option.getD_some];rw[yAg hp];rfl
  rw[e,xAa,e2,xAa];refine lpC l (λx=>x.Node∈s.Parts[s.Queues[j.Queue.toNat].Part.toNat]) _ (λk x hx=>by rw[<-eP];exact k.part x hx) (λi f h' Q g1 g2=>?_) (λf hA=>?_) (by omega)
  ·simp only[zda h',if_true,zak h',Option.bind_some,wr1 (show i<1000000 by omega)];refine (contains_ok _ (yAA lp (by decide)) _).bind λr hr=>?_;simp only[zag,zaf,yAs,yA1];exact ⟨λe=>g2 (by rw[<-hr,e];simp),λe=>g1 (hr.1 e)⟩
  ·simp only[zc7,yAh,yAx,zaf,yBP];exact ⟨S,ht,hq,by rw[eP];exact hA⟩
theorem ref_mine{s:zad}(hs:FewS s)(k:SpecOk s)(j:zaa)(l:List zal)(hl:l.length<=300):za7 (zdR 1000 s j l) (SuitsOk s j l):=by
 have no:∀{p:Prop},¬p->Ret (some false) (λb=>b=true↔p):=λh=>by rw[zaf];simp[h]
 simp only[zdR,zaS];refine (ref_place l _ hl).bind λr hr=>?_;rw[zag];refine ⟨λh=>?_,λh=>?_⟩
 ·simp only[if_true];exact no λk=>by have:=hr.2 k.shares;rw[this] at h;cases h
 ·simp only[yAs,yA1] at h;have S:=hr.1 h;rw[ref_total hl S,xAa,zag];refine ⟨λh1=>no λk=>by have:=k.tot;have:=k.q;simp at h1;omega,λh1=>?_⟩;have ht:totV l=j.Many/\0<=j.Queue/\j.Queue<s.Queues.length:=by simp at h1;omega
  have hq:=ht.2;obtain ⟨hx,e⟩:=at_int hq.1 hq.2;have kq:=k.queues.ok _ (yAk hx);obtain ⟨hp,e2⟩:=at_int kq.part.1 kq.part.2;have lp:=hs.part _ (yAk hp);have eP:(s.Parts[((s.Queues[j.Queue.toNat]?).getD default).Part.toNat]?).getD []=s.Parts[s.Queues[j.Queue.toNat].Part.toNat]:=by rw[yAg hx];simp only[Option.getD_some];rw[yAg hp];rfl
  rw[e,xAa,e2,xAa];refine lpC l (λx=>x.Node∈s.Parts[s.Queues[j.Queue.toNat].Part.toNat]) _ (λk x hx=>by rw[<-eP];exact k.part x hx) (λi f h' Q g1 g2=>?_) (λf hA=>?_) (by omega)
  ·simp only[zda h',if_true,zak h',Option.bind_some,wr1 (show i<1000000 by omega)];refine (ref_has _ (yAA lp (by decide)) _).bind λr hr=>?_;simp only[zag,zaf,yAs,yA1];exact ⟨λe=>g2 (by rw[<-hr,e];simp),λe=>g1 (hr.1 e)⟩
  ·simp only[zc7,yAh,yAx,zaf,yBP];exact ⟨S,ht.1,hq,by rw[eP];exact hA⟩
end Go.Plain
end
section
namespace Go.Plain
open Go.Abs
def cmp:Nat->zac->Int
 |0,r=>r.Cpu
 |1,r=>r.Mem
 |2,r=>r.Gpu
 |_,r=>r.Lic
theorem zcg{r:zac}:VecOk r↔∀c,0<=cmp c r/\cmp c r<=1048576:=by
 constructor
 ·intro h c
  match c with
  |0=>exact h.cpu
  |1=>exact h.mem
  |2=>exact h.gpu
  |_+3=>exact h.lic
 ·intro h;exact ⟨h 0,h 1,h 2,h 3⟩
theorem res_ext{a b:zac}(h:∀c,cmp c a=cmp c b):a=b:=by obtain ⟨a1,a2,a3,a4⟩:=a;obtain ⟨b1,b2,b3,b4⟩:=b;have h0:=h 0;have h1:=h 1;have h2:=h 2;have h3:=h 3;simp only[cmp] at h0 h1 h2 h3;subst h0 h1 h2 h3;rfl
def subR(a b:zac):zac:={ Cpu:=a.Cpu-b.Cpu,Mem:=a.Mem-b.Mem,Gpu:=a.Gpu-b.Gpu,Lic:=a.Lic-b.Lic }
def addR(a b:zac):zac:={ Cpu:=a.Cpu+b.Cpu,Mem:=a.Mem+b.Mem,Gpu:=a.Gpu+b.Gpu,Lic:=a.Lic+b.Lic }
def mulR(n:Int)(a:zac):zac:={ Cpu:=n * a.Cpu,Mem:=n * a.Mem,Gpu:=n * a.Gpu,Lic:=n * a.Lic }
theorem cmp_sub(c:Nat)(a b:zac):cmp c (subR a b)=cmp c a-cmp c b:=by match c with | 0=>rfl | 1=>rfl | 2=>rfl | _+3=>rfl
theorem cmp_add(c:Nat)(a b:zac):cmp c (addR a b)=cmp c a+cmp c b:=by match c with | 0=>rfl | 1=>rfl | 2=>rfl | _+3=>rfl
theorem zcR(c:Nat)(n:Int)(a:zac):cmp c (mulR n a)=n * cmp c a:=by match c with | 0=>rfl | 1=>rfl | 2=>rfl | _+3=>rfl
theorem fint_ok{a:Int}(h:a.natAbs<2 ^ 53):fint? a=some a:=by unfold fint?;rw[if_pos h]
theorem within_ok{a b c d:Int}(ha:a.natAbs<2 ^ 53)(hb:b.natAbs<2 ^ 53)(hc:c.natAbs<2 ^ 53)(hd:d.natAbs<2 ^ 53) :
  Ret (zbw 1000 (a,b) (c,d)) λr=>(r.2=0↔VecOk ⟨a,b,c,d⟩)/\(r.2=0->r.1=⟨a,b,c,d⟩):=by
 simp only[zbw,vec_join_o7a26,fint_ok ha,fint_ok hb,fint_ok hc,fint_ok hd,Option.bind_some];refine (zcc _).bind λr hr=>?_;simp only[zag,zaf,yAs,yA1];refine ⟨λe=>⟨⟨λh=>by omega,λv=>by have:=hr.2 v;rw[e] at this;cases this⟩,λh=>by omega⟩,λe=>⟨⟨λ_=>hr.1 e,λ_=>trivial⟩,λ_=>trivial⟩⟩
theorem mul_bd{n x:Int}(hn:0<=n/\n<=64)(hx:0<=x/\x<=1048576):0<=n * x/\n * x<=67108864:=by have h1:0<=n * x:=yCf hn.1 hx.1;have h2:n * x<=64 * x:=yBf hn.2 hx.1;omega
theorem times_ok{a:zac}{n:Int}(ha:VecOk a)(hn:1<=n/\n<=64):Ret (vec_Times 1000 a n) λr=>(r.2=0↔VecOk (mulR n a))/\(r.2=0->r.1=mulR n a):=by
 simp only[vec_Times];obtain ⟨r1,e1,h1⟩:=zcc a;have t1:=h1.2 ha;subst t1;have hn':0<=n/\n<=64:=by omega
 simp only[e1,Option.bind_some,yAY,Bool.false_or];rw[if_neg (by simp;omega)];by_cases hz:a=zeroR
 ·subst hz;rw[if_pos (by exact zd2.2 rfl),zaf];have:mulR n zeroR=zeroR:=by simp[mulR,zeroR]
  rw[this];exact ⟨⟨λ_=>⟨by simp[zeroR],by simp[zeroR],by simp[zeroR],by simp[zeroR]⟩,λ_=>rfl⟩,λ_=>rfl⟩
 ·rw[if_neg (show ¬(zac.beq a ({ Cpu:=0,Mem:=0,Gpu:=0,Lic:=0 }:zac)=true) from λh=>hz (zd2.1 h)),if_neg (by simp;omega)];have fm:∀{x:Int},0<=x/\x<=1048576->fmul? x n=some (x * n):=λ{x} hx=>by unfold fmul?;rw[if_pos (by omega)]
  have b1:=mul_bd hn' ha.cpu;have b2:=mul_bd hn' ha.mem;have b3:=mul_bd hn' ha.gpu;have b4:=mul_bd hn' ha.lic;simp only[zbg,Option.bind_some,fm ha.cpu,fm ha.mem,fm ha.gpu,fm ha.lic];rw[yBK a.Cpu n,yBK a.Mem n,yBK a.Gpu n,yBK a.Lic n];refine (within_ok (by omega) (by omega) (by omega) (by omega)).bind λr hr=>?_;rw[zaf];exact hr
theorem sub_ok{a b:zac}(ha:VecOk a)(hb:VecOk b):Ret (vec_Sub 1000 a b) λr=>(r.2=0↔VecOk (subR a b))/\(r.2=0->r.1=subR a b):=by
 simp only[vec_Sub,zaS];obtain ⟨r1,e1,h1⟩:=zcc a;have t1:=h1.2 ha;subst t1;obtain ⟨r2,e2,h2⟩:=zcc b;have t2:=h2.2 hb;subst t2;have fd:∀{x y:Int},0<=x/\x<=1048576->0<=y/\y<=1048576->fdif? x y=some (x-y):=λ{x y} hx hy=>by unfold fdif?;rw[if_pos (by omega)]
 simp only[e1,e2,Option.bind_some,yAY,yAh,yAx,zbg,fd ha.cpu hb.cpu,fd ha.mem hb.mem,fd ha.gpu hb.gpu,fd ha.lic hb.lic];have:=ha.cpu;have:=ha.mem;have:=ha.gpu;have:=ha.lic;have:=hb.cpu;have:=hb.mem;have:=hb.gpu;have:=hb.lic;refine (within_ok (by omega) (by omega) (by omega) (by omega)).bind λr hr=>?_;rw[zaf];exact hr
def onV(l:List zal)(i:Int):Int:=(l.map λx=>if x.Node=i then x.Many else 0).sum
theorem onV_take{l:List zal}{k:Nat}(h:k<l.length)(i:Int):onV (l.take (k+1)) i=onV (l.take k) i+if l[k].Node=i then l[k].Many else 0:=by rw[yAO h];simp only[onV,yB6,yAw,yCp,List.sum_append,List.sum_cons,List.sum_nil];omega
theorem onV_nn{l:List zal}(h:∀x∈l,0<=x.Many)(i:Int):0<=onV l i:=by
 induction l with
 |nil=>simp[onV]
 |cons x l ih=>have:=ih λy hy=>h y (yAm _ hy);have:=h x (yAq ..);simp only[onV,yAw,List.sum_cons] at *;split <;> omega
theorem onV_app{l m:List zal}(i:Int):onV (l++m) i=onV l i+onV m i:=by simp[onV]
theorem onV_le{l:List zal}(h:∀x∈l,0<=x.Many)(k:Nat)(i:Int):onV (l.take k) i<=onV l i:=by have:=onV_app (l:=l.take k) (m:=l.drop k) i;rw[List.take_append_drop] at this;have:=onV_nn (l:=l.drop k) (λx hx=>h x (yCc hx)) i;omega
theorem onV_one{l:List zal}{n:Int}(h:SharesOk l n)(i:Int):0<=onV l i/\onV l i<=64:=by
 refine ⟨onV_nn (λx hx=>by have:=h.mem x hx;omega) i,?_⟩;have key:∀k,k<=l.length->(onV (l.take k) i<=64/\(onV (l.take k) i≠0->i<=prv (l.map (·.Node)) k)):=by
  intro k;induction k with
  |zero=>intro _;simp[onV]
  |succ k ih=>
   intro hk;obtain ⟨i1,i2⟩:=ih (by omega);have s:=h k (by omega);have s1:=s.up;have s2:=s.lt;have s3:=s.lo;have s4:=s.hi;rw[onV_take (by omega),prv_map (show k<l.length by omega)];split
   ·rename_i e;by_cases hz:onV (l.take k) i=0
    ·rw[hz];omega
    ·have:=i2 hz;omega
   ·rename_i e;rw[Int.add_zero];exact ⟨i1,λhz=>by have:=i2 hz;omega⟩
 have:=(key l.length (yAo _)).1
 rwa [yBa] at this
theorem ref_on{l:List zal}{n:Int}(hl:l.length<=300)(h:SharesOk l n)(i:Int):zdy 1000 l i=some (onV l i):=by
 simp only[zdy,zaS];refine Ret.eq (lpS l.length (λk x=>x=(onV (l.take k) i,(k:Int))) (λk x f hi hx hr=>?_) (λx f hx=>?_) (by simp[onV]) (by omega))
 ·subst hx;have q:=h.mem _ (yAk hi);have b:=onV_nn (l:=l.take k) (λx hx=>by have:=h.mem x (yBg hx);omega) i;have b2:=onV_le (λx hx=>by have:=h.mem x hx;omega) k i;have b3:=onV_one h i;have e:=onV_take hi i;simp only[zda hi,if_true,zak hi,Option.bind_some,wr1 (show k<1000000 by omega),zag,yAF];refine ⟨λhn=>?_,λhn=>hr _ ?_⟩
  ·rw[if_pos hn] at e;rw[wr (by omega) (by omega)];exact hr _ (by rw[e])
  ·rw[if_neg hn] at e;rw[e,Int.add_zero]
 ·subst hx;simp only[zc7,yAh,yAx,zaf,yBa]
def leftA(a:zae)(i:Nat)(r:zac):zac:=subR r (mulR (onV a.Shares i) a.Need)
def FitsA(F:List zac)(a:zae):Prop:=∀i (h:i<F.length),VecOk (leftA a i F[i])
structure Behind (F:List zac) (a:zae) (G:List zac):Prop where
 len:G.length=F.length
 at':∀i (h:i<G.length),G[i]=leftA a i (F[i]'(by rw[<-len];exact h))
theorem change_ok{a:zae}{F:List zac}(hF:F.length<=300)(hl:a.Shares.length<=300)(hS:SharesOk a.Shares F.length)(hN:VecOk a.Need)(hv:∀r∈F,VecOk r) :
  Ret (zbD 1000 a F) λr=>(r.2=0↔FitsA F a)/\(r.2=0->Behind F a r.1):=by
 simp only[zbD,zaD,zbA (show F.length<=1000000 by omega),Option.bind_some];have nn:∀x∈a.Shares,0<=x.Many:=λx hx=>by have:=hS.mem x hx;omega
 refine lpS a.Shares.length (λk x=>x.1=(k:Int)/\x.2.length=F.length/\(∀r∈x.2,VecOk r)/\∀i (h:i<x.2.length) (h':i<F.length),x.2[i]=subR F[i] (mulR (onV (a.Shares.take k) i) a.Need)) (λk x f hk hx hr=>?_) (λx f hx=>?_) ⟨rfl,rfl,hv,λi h h'=>?_⟩ (by omega)
 ·obtain ⟨x1,G⟩:=x;obtain ⟨rfl,hlen,hok,hat⟩:=hx;dsimp only at hlen hok hat ⊢;have q:=hS.mem _ (yAk hk);have hn:a.Shares[k].Node.toNat<G.length:=by omega
  have hnF:a.Shares[k].Node.toNat<F.length:=by omega
  have eN:((a.Shares[k].Node.toNat:Nat):Int)=a.Shares[k].Node:=by omega
  have tk:=onV_take hk a.Shares[k].Node;rw[if_pos rfl] at tk;have le:=onV_le nn (k+1) a.Shares[k].Node;have n0:=onV_nn (l:=a.Shares.take k) (λx hx=>nn x (yBg hx)) a.Shares[k].Node;have hg:=hat _ hn hnF;rw[eN] at hg;have bad:(∃c,cmp c G[a.Shares[k].Node.toNat]-a.Shares[k].Many * cmp c a.Need<0)->¬FitsA F a:=λ⟨c,hc⟩ hf=>by have h1:=zcg.1 (hf _ hnF) c;rw[leftA,cmp_sub,zcR,eN] at h1;rw[hg,cmp_sub,zcR] at hc;have h2:0<=cmp c a.Need:=(zcg.1 hN c).1;have h3:(onV (a.Shares.take k) a.Shares[k].Node+a.Shares[k].Many) * cmp c a.Need<=onV a.Shares a.Shares[k].Node * cmp c a.Need:=yBf (by omega) h2;rw[yCs] at h3;omega
  simp only[zda hk,if_true,zak hk,Option.bind_some,wr1 (show k<1000000 by omega)];refine (times_ok hN q.2.2).bind λr hr1=>?_;simp only[zag,zaf,yBh,ne_eq,yAN];refine ⟨λh=>⟨⟨λh'=>absurd h' h,λhf=>?_⟩,λh'=>absurd h' h⟩,λh=>?_⟩
  ·exfalso;refine bad ?_ hf;have hno:¬VecOk (mulR a.Shares[k].Many a.Need):=λv=>h (hr1.1.2 v);rw[zcg] at hno;obtain ⟨c,hc⟩:=yCd.1 hno;refine ⟨c,?_⟩;rw[zcR] at hc;have h1:=mul_bd (show 0<=a.Shares[k].Many/\a.Shares[k].Many<=64 by omega) (zcg.1 hN c);have h2:=zcg.1 (hok _ (yAk hn)) c;omega
  ·have e1:=hr1.2 h;have v1:=hr1.1.1 h;obtain ⟨hx',e⟩:=at_int (l:=G) (x:=a.Shares[k].Node) (by omega) (by omega);rw[e,xAa,e1];refine (sub_ok (hok _ (yAk hn)) v1).bind λr2 hr2=>?_;simp only[Option.bind_some,zag,zaf,yBh,ne_eq,yAN];refine ⟨λh'=>⟨⟨λh2=>absurd h2 h',λhf=>?_⟩,λh2=>absurd h2 h'⟩,λh'=>?_⟩
   ·exfalso;refine bad ?_ hf;have hno:¬VecOk (subR G[a.Shares[k].Node.toNat] (mulR a.Shares[k].Many a.Need)):=λv=>h' (hr2.1.2 v);rw[zcg] at hno;obtain ⟨c,hc⟩:=yCd.1 hno;refine ⟨c,?_⟩;rw[cmp_sub,zcR] at hc;have h1:=mul_bd (show 0<=a.Shares[k].Many/\a.Shares[k].Many<=64 by omega) (zcg.1 hN c);have h2:=zcg.1 (hok _ (yAk hn)) c;omega
   ·have e2:=hr2.2 h';have v2:=hr2.1.1 h';refine hr _ ⟨rfl,by simpa using hlen,λr hr'=>?_,λi hi hi'=>?_⟩
    ·dsimp only at hr';rcases yBn hr' with hr' | rfl
     ·exact hok r hr'
     ·rw[e2];exact v2
    ·dsimp only at hi ⊢;rw[yAI] at hi;rw[List.getElem_set];have tki:=onV_take hk (i:Int);split
     ·rename_i ei;subst ei;rw[e2,hg];rw[if_pos eN.symm] at tki;rw[tki];refine res_ext λc=>?_;rw[cmp_sub,cmp_sub,cmp_sub,zcR,zcR,zcR,yCs,eN];omega
     ·rename_i ei;rw[if_neg (by omega),Int.add_zero] at tki;rw[hat i hi hi',tki]
 ·obtain ⟨x1,G⟩:=x;obtain ⟨rfl,hlen,hok,hat⟩:=hx;dsimp only at hlen hok hat ⊢;simp only[zc7,yAh,yAx,zaf,yBa,yBP,true_implies] at hat ⊢;refine ⟨λi h=>?_,hlen,λi h=>hat i h (by omega)⟩;have:=hok _ (yAk (show i<G.length by omega));rw[hat i (by omega) h] at this;exact this
 ·refine res_ext λc=>?_;rw[cmp_sub,zcR];simp[onV]
theorem own_alloc{a:zae}(h:a.Shares.length<=1000000):ledger_own 1000 a=some a:=by simp only[ledger_own,zbr,zbA h,Option.bind_some]
structure TakeOk (M:List (Int×zae)) (F:List zac) (a:zae):Prop where
 job:1<=a.Job/\a.Job<=1048576
 some':a.Shares≠[]
 shares:SharesOk a.Shares F.length
 need:VecOk a.Need
 free:mget M a.Job=none
 fits:FitsA F a
theorem take_ok{M:List (Int×zae)}{a:zae}{F:List zac}(hF:F.length<=300)(hl:a.Shares.length<=300)(hv:∀r∈F,VecOk r) :
  Ret (zbo 1000 M a F) λr=>(r.2.1=0↔TakeOk M F a)/\(r.2.1=0->r.1=mset M a.Job a/\Behind F a r.2.2):=by
 simp only[zbo,zaS,if_true,yAh,yAx];have no:∀{p:Prop}{x:List (Int×zae)×Int×List zac}{q:Prop},¬p->x.2.1≠0->Ret (some x) (λr=>(r.2.1=0↔p)/\(r.2.1=0->r.1=mset M a.Job a/\Behind F a r.2.2)):=λ{p x q} h1 h2=>by rw[zaf];exact ⟨⟨λh=>absurd h h2,λh=>absurd h h1⟩,λh=>absurd h h2⟩
 rw[zag];refine ⟨λh=>?_,λh=>?_⟩
 ·simp only[yAt,yAf,yAF] at h;refine no (q:=True) (λt=>?_) (by simp);have:=t.job;rcases h with h | h
  ·omega
  ·exact t.some' (yAJ (by omega))
 ·simp only[yAt,yAf,yAF,not_or] at h;refine (place_right _ _ hl).bind λr hr=>?_;rw[zag];refine ⟨λe=>no (q:=True) (λt=>by have:=hr.2 t.shares;rw[this] at e;cases e) (by simp),λe=>?_⟩;simp only[yAs,yA1] at e;have S:=hr.1 e;refine (zcc a.Need).bind λr2 hr2=>?_;rw[zag];refine ⟨λe=>no (q:=True) (λt=>by have:=hr2.2 t.need;rw[this] at e;cases e) (by simp),λe=>?_⟩;simp only[yAs,yA1] at e;have V:=hr2.1 e;cases hm:mget M a.Job with
  |some v=>exact no (q:=True) (λt=>by have:=t.free;rw[hm] at this;cases this) (by simp)
  |none=>
   simp only[oel];refine (change_ok hF hl S V hv).bind λr3 hr3=>?_;rw[zag];refine ⟨λe=>?_,λe=>?_⟩
   ·simp only[yBh,ne_eq] at e;exact no (q:=True) (λt=>e (hr3.1.2 t.fits)) e
   ·simp only[yBh,ne_eq,yAN] at e;rw[own_alloc (by omega),xAa,zaf];refine ⟨⟨λ_=>⟨by omega,λhn=>?_,S,V,hm,hr3.1.1 e⟩,λ_=>rfl⟩,λ_=>⟨rfl,hr3.2 e⟩⟩;rw[hn] at h;simp at h
end Go.Plain
end
section
namespace Go.Plain
open Go.Abs
theorem no_f{p:Prop}(h:¬p):Ret (some false) (λb=>b=true↔p):=by rw[zaf];simp[h]
theorem yes_t{p:Prop}(h:p):Ret (some true) (λb=>b=true↔p):=by rw[zaf];simp[h]
structure NumsOk (s:zad) (st:zab):Prop where
 now:0<=st.Now/\st.Now<=1099511627776
 next:1<=st.Next/\st.Next<=s.Ids+1
 book:1<=st.Book/\st.Book<=281474976710656
theorem numbers_ok{s:zad}(k:SpecOk s)(st:zab):za7 (store_numbers 1000 s st) (NumsOk s st):=by have k1:=k.ids;simp only[store_numbers,zcW,Option.bind_some,za7];rw[wr (x:=s.Ids+1) (by omega) (by omega)];simp only[zag,zaf,yAj,yAf,yAh,yBr];exact ⟨λh1=>⟨λh2=>⟨λh3=>⟨h1,h2,h3⟩,λh=>h.book⟩,λh2 h=>h2 h.next⟩,λh1 h=>h1 h.now⟩
def extraV(x:Int):Int:=if x=3 then 1 else if x=4 then 2 else if x=5∨x=6 then 3 else 0
theorem extra_bd(x:Int):0<=extraV x/\extraV x<=3:=by unfold extraV;split <;> (try split) <;> (try split) <;> omega
theorem extra_ok(x:Int):store_extra 1000 x=some (extraV x):=by
 simp only[store_extra,zd8,Option.bind_some,yAF,yAt];unfold extraV;split
 ·rfl
 ·split
  ·rfl
  ·split <;> rfl
structure JobIn (s:zad) (st:zab) (j:zaa):Prop where
 ok:JobOk j
 next:j.Id<st.Next
 user:j.User<s.Users
 queue:j.Queue<s.Queues.length
 born:j.Born<=st.Now
 start:j.Start<=st.Now
 fin:j.End<=st.Now
 version:j.Version<=s.Versions+extraV j.State
def prvI(l:List zaa):Nat->Int
 |0=>0
 |i+1=>((l[i]?).map (·.Id)).getD 0
theorem prvI_succ{l:List zaa}{i:Nat}(h:i<l.length):prvI l (i+1)=l[i].Id:=by simp[prvI,h]
structure JobsOk (s:zad) (st:zab):Prop where
 len:(st.Jobs.length:Int)<=s.Jobs
 each:∀j∈st.Jobs,JobIn s st j
 sorted:SortedJ st.Jobs
theorem jobs_of{s:zad}{st:zab}(h:(st.Jobs.length:Int)<=s.Jobs)(g:∀i (h:i<st.Jobs.length),JobIn s st st.Jobs[i]/\prvI st.Jobs i<st.Jobs[i].Id):JobsOk s st:=
 ⟨h,λj hj=>by obtain ⟨i,hi,rfl⟩:=yA2 hj;exact (g i hi).1,λi hi=>by have:=(g (i+1) hi).2;rwa [prvI_succ (by omega)] at this⟩
theorem JobsOk.at'{s:zad}{st:zab}(h:JobsOk s st)(i:Nat)(hi:i<st.Jobs.length):JobIn s st st.Jobs[i]/\prvI st.Jobs i<st.Jobs[i].Id:=by
 refine ⟨h.each _ (yAk hi),?_⟩
 match i,hi with
 |0,hi=>have:=(h.each _ (yAk hi)).ok.id;simp only[prvI];omega
 |i+1,hi=>rw[prvI_succ (by omega)];exact h.sorted i hi
theorem JobsOk.ids{s:zad}{st:zab}(h:JobsOk s st):∀j∈st.Jobs,0<=j.Id/\j.Id<=1048576:=λj hj=>by have:=(h.each j hj).ok.id;omega
theorem max3{a b c n:Int}:(if c > (if b > a then b else a) then c else (if b > a then b else a)) > n↔a > n∨b > n∨c > n:=by split <;> split <;> omega
theorem jobs_ok{s:zad}(k:SpecOk s){st:zab}(hw:FewW s st):za7 (store_jobs 1000 s st) (JobsOk s st):=by
 have kv:=k.versions;have hl:=hw.jobs;simp only[store_jobs,zaS,extra_ok,Option.bind_some];rw[za7,zag];refine ⟨λh=>no_f λq=>?_,λh0=>?_⟩
 ·have:=q.len;simp only[yAf] at h;omega
 ·simp only[yAf] at h0;refine lpS st.Jobs.length (λi x=>x=(prvI st.Jobs i,(i:Int))/\∀j (h:j<st.Jobs.length),j<i->JobIn s st st.Jobs[j]/\prvI st.Jobs j<st.Jobs[j].Id) (λi x f hi hx hr=>?_) (λx f hx=>?_) ⟨rfl,λj h h'=>by omega⟩ (by omega)
  ·obtain ⟨rfl,hA⟩:=hx;simp only[zda hi,if_true,zak hi,Option.bind_some,wr1 (show i<1000000 by omega)];refine (job_right _).bind λr hr1=>?_;rw[zag];refine ⟨λh=>no_f λq=>?_,λh=>?_⟩
   ·have q1:=q.at' i hi;have q2:=hr1.2 q1.1.ok;have q3:=q1.1.next;have q4:=q1.2;simp only[q2,yAt,yAf,yAY,yAh,false_or] at h;omega
   ·simp only[yAt,yAf,not_or,yAs,yA1] at h;have q1:=hr1.1 h.1.1;rw[zag];refine ⟨λh=>no_f λq=>?_,λh2=>?_⟩
    ·have q1:=(q.at' i hi).1;have:=q1.user;have:=q1.queue;simp only[yAt,yAf] at h;omega
    ·simp only[yAt,yAf,not_or] at h2;rw[zag];refine ⟨λh=>?_,λh3=>?_⟩
     ·refine no_f λq=>?_;have q1:=(q.at' i hi).1;have:=q1.born;have:=q1.start;have:=q1.fin;simp only[yAf,max3] at h;omega
     ·simp only[yAf,max3] at h3;have eb:=extra_bd st.Jobs[i].State;rw[wr (x:=s.Versions+extraV _) (by omega) (by omega),zag];refine ⟨λh=>no_f λq=>?_,λh4=>hr _ ⟨by rw[prvI_succ hi],λj hj hji=>?_⟩⟩
      ·have q1:=(q.at' i hi).1.version;simp only[yAf] at h;omega
      ·simp only[yAf] at h4;rcases yBc (yB0.1 hji) with h' | h'
       ·exact hA j hj h'
       ·subst h';exact ⟨⟨q1,by omega,by omega,by omega,by omega,by omega,by omega,by omega⟩,by omega⟩
  ·obtain ⟨rfl,hA⟩:=hx;simp only[zc7,yAh,yAx];exact yes_t (jobs_of (by omega) λi hi=>hA i hi hi)
structure WaitsIn (s:zad) (st:zab) (j:zaa):Prop where
 fits:zbY 1000 s j.Queue j.Many j.Need=some true
 after:∀d∈j.After,∃i∈st.Jobs,i.Id=d.Job
def Waits(s:zad)(st:zab)(j:zaa):Prop:=j.State<5->WaitsIn s st j
theorem waiting_ok{s:zad}(k:SpecOk s){st:zab}(hw:FewW s st)(J:JobsOk s st):za7 (store_waiting 1000 s st) (∀j∈st.Jobs,Waits s st j):=by
 have hl:=hw.jobs;simp only[store_waiting,zaS,zd8,Option.bind_some];refine lpC st.Jobs (Waits s st) _ (λh=>h) (λi f hi Q h1 h2=>?_) (λf h=>?_) (by omega)
 ·simp only[zda hi,if_true,zak hi,Option.bind_some,wr1 (show i<1000000 by omega)];have jo:=J.each _ (yAk hi);have hst:=jo.ok.state.st;rw[zag];refine ⟨λh=>h1 λhs=>?_,λh=>?_⟩
  ·simp only[yAt,yAF] at h;omega
  ·simp only[yAt,yAF,not_or] at h;have hs:st.Jobs[i].State<5:=by omega
   obtain ⟨b,e1,e2⟩:=fits_eq hw.spec k (q:=st.Jobs[i].Queue) (m:=st.Jobs[i].Many) jo.ok.need jo.ok.needz;rw[e1,xAa,zag];refine ⟨λhb=>?_,λhb=>?_⟩
   ·rw[zaf];refine h2 λw=>?_;have:=(w hs).fits;rw[e1] at this;simp only[yAa] at this;subst this;simp at hb
   ·simp only[yAs,yA1] at hb;subst hb;have ha:=jo.ok.afterN;refine lpA st.Jobs[i].After (λ_ d=>∃j∈st.Jobs,j.Id=d.Job) (λm g hm hA hr=>?_) (λg hA=>?_) (by omega)
    ·simp only[zda hm,if_true,zak hm,Option.bind_some,wr1 (show m<1000000 by omega)];have ad:=jo.ok.after _ (yAk hm);have jid:=jo.ok.id;refine (find_ok (by omega) J.sorted (id:=st.Jobs[i].After[m].Job) (by omega) J.ids).bind λr hr1=>?_;rw[zag];refine ⟨λhb=>?_,λhb=>hr ?_⟩
     ·rw[zaf];refine h2 λw=>?_;have:=hr1.1.2 ((w hs).after _ (yAk hm));rw[this] at hb;simp at hb
     ·simp only[yAs,yA1] at hb;exact hr1.1.1 hb
    ·simp only[zc7,yAh,yAx];exact h1 λ_=>⟨e1,zcM hA⟩
 ·simp only[zc7,yAh,yAx];exact yes_t h
structure UseOk (s:zad) (st:zab):Prop where
 len:(st.Use.length:Int)=s.Users
 use:∀x∈st.Use,0<=x/\x<=1099511627776
 qlen:st.Stamps.Queues.length=s.Queues.length
 nodes:0<=st.Stamps.Nodes/\st.Stamps.Nodes<=281474976710656
 stamps:∀x∈st.Stamps.Queues,0<=x/\x<=281474976710656
theorem share_right(l:List Int)(hl:l.length<=300):za7 (share_Right 1000 l) (∀x∈l,0<=x/\x<=1099511627776):=by
 simp only[share_Right];refine lpC l (λx=>0<=x/\x<=1099511627776) _ (λh=>h) (λi f hi Q h1 h2=>?_) (λf h=>?_) (by omega)
 ·simp only[zda hi,if_true,zak hi,Option.bind_some,wr1 (show i<1000000 by omega),zag,zaf,yAt,yAf];exact ⟨λh=>h2 (by omega),λh=>h1 (by omega)⟩
 ·simp only[zc7,yAh,yAx];exact yes_t h
theorem usage_ok{s:zad}{st:zab}(hw:FewW s st):za7 (store_usage 1000 s st) (UseOk s st):=by
 have h1:=hw.use;have h2:=hw.stamps;simp only[store_usage,zaS,zcW,Option.bind_some,if_true];rw[za7,zag];refine ⟨λh=>no_f λq=>?_,λh=>?_⟩
 ·simp only[yBh,ne_eq] at h;exact h q.len
 ·simp only[yBh,ne_eq,yAN] at h;refine (share_right st.Use (by omega)).bind λr hr=>?_;rw[zag];refine ⟨λh3=>no_f λq=>?_,λh3=>?_⟩
  ·have:=hr.2 q.use;rw[this] at h3;simp at h3
  ·simp only[yAs,yA1] at h3;rw[zag];refine ⟨λh4=>no_f λq=>?_,λh4=>?_⟩
   ·simp only[yBh,ne_eq] at h4;have:=q.qlen;omega
   ·simp only[yBh,ne_eq,yAN] at h4;rw[zag];refine ⟨λh5=>no_f λq=>?_,λh5=>?_⟩
    ·simp only[yAs,yBy,yAW] at h5;have:=q.nodes;omega
    ·simp only[yAs,yA1,yAj,yAf] at h5;refine lpC st.Stamps.Queues (λx=>0<=x/\x<=281474976710656) _ (λh=>h.stamps) (λi f hi Q g1 g2=>?_) (λf g=>?_) (by omega)
     ·simp only[zda hi,if_true,zak hi,Option.bind_some,wr1 (show i<1000000 by omega),zag,zaf,yAs,yBy,yAW];exact ⟨λh=>g2 (by omega),λh=>g1 (by omega)⟩
     ·simp only[zc7,yAh,yAx];exact yes_t ⟨h,hr.1 h3,by omega,h5,g⟩
theorem ref_use(l:List Int)(n:Int)(hl:l.length<=300):za7 (zeq 1000 l n) ((l.length:Int)=n/\∀x∈l,0<=x/\x<=1099511627776):=by
 simp only[zeq,zaS];refine lpC l (λx=>0<=x/\x<=1099511627776) _ (λh=>h.2) (λi f hi Q h1 h2=>?_) (λf h=>?_) (by omega)
 ·simp only[zda hi,if_true,zak hi,Option.bind_some,wr1 (show i<1000000 by omega),zag,zaf,yAf];exact ⟨λh=>h2 (by omega),λh=>⟨λh'=>h2 (by omega),λh'=>h1 (by omega)⟩⟩
 ·simp only[zc7,yAh,yAx,zaf,yAF];exact ⟨λe=>⟨e,h⟩,λe=>e.1⟩
theorem ref_uid(x:Int):za7 (zbc 1000 x) (0<=x/\x<=281474976710656):=by simp only[zbc,za7,zaf,yAj,yAf,ge_iff_le]
end Go.Plain
end
section
namespace Go.Plain
open Go.Abs
def hasJ(j:zaa):Bool:=(j.State == 3) || (j.State == 4)
theorem hasJ_lt{j:zaa}(h:hasJ j=true):j.State<5:=by simp only[hasJ,yAt,yAF] at h;omega
structure PairOk (s:zad) (st:zab) (j:zaa) (a:zae):Prop where
 job:a.Job=j.Id
 need:a.Need=j.Need
 suits:SuitsOk s j a.Shares
 now:st.Now<j.Start+j.Wall
def takeA(F:List zac)(a:zae):List zac:=F.mapIdx (leftA a)
theorem zd9{F:List zac}{a:zae}:(takeA F a).length=F.length:=by simp[takeA]
theorem takeA_at{F:List zac}{a:zae}{i:Nat}(h:i<(takeA F a).length):(takeA F a)[i]=leftA a i (F[i]'(by rwa [zd9] at h)):=by simp[takeA]
theorem Behind.eq{F G:List zac}{a:zae}(h:Behind F a G):G=takeA F a:=
 List.ext_getElem (by rw[h.len,zd9]) λi h1 h2=>by rw[h.at' i h1,takeA_at h2]
theorem takeA_ok{F:List zac}{a:zae}(h:FitsA F a):∀r∈takeA F a,VecOk r:=λr hr=>by obtain ⟨i,hi,rfl⟩:=yA2 hr;rw[takeA_at hi];exact h i _
def AllocsH(s:zad)(st:zab):List zaa->List zae->List zac->Prop
 |[],A,_=>A=[]
 |j::H,A,F=>∃a A',A=a::A'/\PairOk s st j a/\FitsA F a/\AllocsH s st H A' (takeA F a)
def AllocsOk(s:zad)(st:zab):Prop:=AllocsH s st (st.Jobs.filter hasJ) st.Allocs s.Nodes
theorem AllocsH.mem{s:zad}{st:zab}{H:List zaa}{A:List zae}{F:List zac}(h:AllocsH s st H A F):∀a∈A,∃j∈H,PairOk s st j a:=by
 induction H generalizing A F with
 |nil=>intro a ha;rw[show A=[] from h] at ha;cases ha
 |cons j H ih=>
  obtain ⟨b,A',rfl,h1,h2,h3⟩:=h;intro a ha;rcases yAu.1 ha with rfl | ha
  ·exact ⟨j,yAq ..,h1⟩
  ·obtain ⟨k,hk,hp⟩:=ih h3 a ha;exact ⟨k,yAm _ hk,hp⟩
theorem AllocsOk.mem{s:zad}{st:zab}(h:AllocsOk s st):∀a∈st.Allocs,∃j∈st.Jobs,PairOk s st j a:=λa ha=>by obtain ⟨j,hj,hp⟩:=AllocsH.mem h a ha;exact ⟨j,(yBu.1 hj).1,hp⟩
theorem mget_mset{α:Type}{M:List (Int×α)}{k:Int}{a:α}{k':Int}:mget (mset M k a) k'=if k=k' then some a else mget M k':=by
 induction M with
 |nil=>simp[mset,mget]
 |cons p M ih=>
  obtain ⟨q,v⟩:=p;simp only[mset];split
  ·rename_i e;subst e;simp only[mget];split <;> rfl
  ·rename_i e;simp only[mget,ih];split
   ·rename_i e2;rw[if_neg (by intro e3;exact e (by rw[e2,e3]))]
   ·rfl
theorem spec_true{s:zad}(hs:FewS s)(k:SpecOk s):zdg 1000 s=some true:=by obtain ⟨r,e,h⟩:=spec_right s hs;rw[e,h.2 k]
theorem clone_res{l:List zac}(h:l.length<=1000000):zaR 1000 l=some l:=by simp only[zaR,zbA h]
theorem new_ledger{s:zad}(hs:FewS s)(k:SpecOk s):zdb 1000 s=some (.inr ([],s.Nodes)):=by have:=hs.nodes;simp only[zdb,spec_true hs k,Option.bind_some,yAY,yAh,yAx,clone_res (show s.Nodes.length<=1000000 by omega)]
theorem tot_pos{l:List zal}(h:1<=totV l):l≠[]:=λe=>by subst e;simp[totV] at h
structure AInv (s:zad) (st:zab) (i:Nat) (x:(List zae)×Int×(List zac)×List (Int×zae)):Prop where
 ix:x.2.1=(i:Int)
 iff:AllocsOk s st↔AllocsH s st ((st.Jobs.drop i).filter hasJ) x.1 x.2.2.1
 len:x.2.2.1.length=s.Nodes.length
 vec:∀r∈x.2.2.1,VecOk r
 keys:∀q,mget x.2.2.2 q≠none->∃m,∃h:m<st.Jobs.length,m<i/\st.Jobs[m].Id=q
 sub:∀a∈x.1,a∈st.Allocs
 few:x.1.length<=300
theorem allocations_ok{s:zad}(k:SpecOk s){st:zab}(hw:FewW s st)(J:JobsOk s st):za7 (zdN 1000 s st) (AllocsOk s st):=by
 have hl:=hw.jobs;have hn:=hw.spec.nodes;unfold zdN;rw[new_ledger hw.spec k,xAa];dsimp only;refine lpS st.Jobs.length (AInv s st) (λi x f hi hx hr=>?_) (λx f hx=>?_) ⟨rfl,by simp[AllocsOk],rfl,k.nodes.ok,λq h=>absurd rfl h,λa ha=>ha,hw.allocs⟩ (by omega)
 ·obtain ⟨rest,x1,F,M⟩:=x;obtain ⟨hx1,hiff,hlen,hvec,hkeys,hsub,hfew⟩:=hx;dsimp only at hx1 hiff hlen hvec hkeys hsub hfew;subst hx1;rw[xAs hi] at hiff;have ji:=J.each _ (yAk hi);have jo:=ji.ok;have up:∀q,(∃m,∃h:m<st.Jobs.length,m<i/\st.Jobs[m].Id=q)->∃m,∃h:m<st.Jobs.length,m<i+1/\st.Jobs[m].Id=q:=λq ⟨m,h,h1,h2⟩=>⟨m,h,by omega,h2⟩;simp only[zaS,life_Has,zda hi,if_true,zak hi,Option.bind_some,wr1 (show i<1000000 by omega)];rw[zag];refine ⟨λh=>hr _ ⟨rfl,?_,hlen,hvec,λq hq=>up q (hkeys q hq),hsub,hfew⟩,λh=>?_⟩
  ·have e:hasJ st.Jobs[i]=false:=by simpa[hasJ] using h
   rw[hiff,List.filter_cons_of_neg (by simp[e])]
  ·have e:hasJ st.Jobs[i]=true:=by simpa only[hasJ,yAs,yA1] using h
   rw[List.filter_cons_of_pos e] at hiff;have hst:=jo.start;have hwl:=jo.wall;rw[wr (x:=st.Jobs[i].Start+st.Jobs[i].Wall) (by omega) (by omega),zag];refine ⟨λh1=>no_f λq=>?_,λh1=>?_⟩
   ·obtain ⟨a,A',rfl,hp,-⟩:=hiff.1 q;have:=hp.now;simp only[yAt,yAf,yAF,List.length_cons] at h1;omega
   ·simp only[yAt,yAf,yAF,not_or] at h1;cases rest with
    |nil=>simp at h1
    |cons a A'=>
     have ha:=hsub a (yAq ..);have hsh:=hw.shares a ha;have at0:at? (a::A') 0=some a:=by unfold at?;rw[if_pos ⟨by omega,by simp only[xAd];omega⟩];rfl
     have sl:slice? (a::A') 1 ((a::A').length:Int)=some A':=by unfold slice?;rw[if_pos ⟨by omega,by simp only[xAd];omega,by omega⟩];simp
     simp only[at0,sl,Option.bind_some];rw[zag];refine ⟨λh2=>?_,λh2=>?_⟩
     ·refine no_f λq=>?_;obtain ⟨a',A'',e',hp,-⟩:=hiff.1 q;cases e';have e1:=hp.job;have e2:zac.beq a.Need st.Jobs[i].Need=true:=zd2.2 hp.need;rw[e2] at h2;simp[e1] at h2
     ·simp only[yAt,yBh,ne_eq,not_or,yAN,yAs,yA1] at h2;have eN:a.Need=st.Jobs[i].Need:=zd2.1 h2.2;refine (suits_ok hw.spec k st.Jobs[i] a.Shares (yAA hsh (by decide))).bind λr hr1=>?_;rw[zag];refine ⟨λh3=>?_,λh3=>?_⟩
      ·refine no_f λq=>?_;obtain ⟨a',A'',e',hp,-⟩:=hiff.1 q;cases e';have:=hr1.2 hp.suits;rw[this] at h3;simp at h3
      ·simp only[yAs,yA1] at h3;have S:=hr1.1 h3;have P:PairOk s st st.Jobs[i] a:=⟨h2.1,eN,S,by omega⟩;have T:FitsA F a->TakeOk M F a:=λhf=>⟨by have:=jo.id;omega,tot_pos (by have:=jo.many;have:=S.tot;omega),by rw[hlen];exact S.shares,by rw[eN];exact jo.need,by
        cases hm:mget M a.Job with
        |none=>rfl
        |some v=>obtain ⟨m,hm1,hm2,hm3⟩:=hkeys a.Job (by rw[hm];simp);have:=J.sorted.lt hm2 hi;omega,hf⟩
       refine (take_ok (M:=M) (a:=a) (F:=F) (by omega) (yAA hsh (by decide)) hvec).bind λr2 hr2=>?_;rw[zag];refine ⟨λh4=>no_f λq=>?_,λh4=>?_⟩
       ·obtain ⟨a',A'',e',hp,hf,-⟩:=hiff.1 q;cases e';simp only[yBh,ne_eq] at h4;exact h4 (hr2.1.2 (T hf))
       ·simp only[yBh,ne_eq,yAN] at h4;have tk:=hr2.1.1 h4;obtain ⟨eM,bh⟩:=hr2.2 h4;have eF:=bh.eq;refine hr _ ⟨rfl,?_,?_,?_,λq hq=>?_,λb hb=>hsub b (yAm _ hb),?_⟩
        ·rw[hiff];dsimp only;rw[eF];constructor
         ·rintro ⟨a',A'',e',hp,hf,hrest⟩;cases e';exact hrest
         ·intro hrest;exact ⟨a,A',rfl,P,tk.fits,hrest⟩
        ·dsimp only;rw[eF,zd9,hlen]
        ·dsimp only;rw[eF];exact takeA_ok tk.fits
        ·dsimp only at hq;rw[eM,mget_mset] at hq;split at hq
         ·rename_i e5;exact ⟨i,hi,by omega,by rw[<-e5,h2.1]⟩
         ·exact up q (hkeys q hq)
        ·simp only[List.length_cons] at hfew;dsimp only;omega
 ·obtain ⟨rest,x1,F,M⟩:=x;obtain ⟨hx1,hiff,hlen,hvec,hkeys,hsub,hfew⟩:=hx;dsimp only at hx1 hiff;subst hx1;rw[List.drop_length] at hiff;simp only[zc7,yAh,yAx,zaf,yAF];rw[hiff];constructor
  ·intro h;exact yAJ (by omega)
  ·intro h;rw[show rest=[] from h];rfl
end Go.Plain
end
section
namespace Go.Plain
open Go.Abs
structure OneB (n:Int) (b:zai):Prop where
 id:1<=b.Id/\b.Id<=281474976710656
 node:0<=b.Node/\b.Node<n
 lo:0<=b.From
 span:b.From<b.To
 hi:b.To<=1099511627776
structure MeetsB (b:zai) (node p q:Int):Prop where
 node:b.Node=node
 span:b.From<b.To
 pq:p<q
 l:b.From<q
 r:p<b.To
structure BookIn (l:List zai) (n:Int) (i:Nat) (b:zai):Prop where
 one:OneB n b
 up:∀x (h:x<l.length),x<i->l[x].Id<b.Id/\¬MeetsB l[x] b.Node b.From b.To
structure BooksOk (l:List zai) (n:Int):Prop where
 len:l.length<=16
 each:∀i (h:i<l.length),BookIn l n i l[i]
theorem book_meets(l:List zai)(node p q:Int)(hl:l.length<=300):za7 (book_Meets 1000 l node p q) (∃b∈l,MeetsB b node p q):=by
 simp only[book_Meets];refine lpA l (λ_ b=>¬MeetsB b node p q) (λi f hi _ hr=>?_) (λf h=>?_) (by omega)
 ·simp only[zda hi,if_true,zak hi,Option.bind_some,wr1 (show i<1000000 by omega),zag];have e:decide ((if p > l[i].From then p else l[i].From)<(if q<l[i].To then q else l[i].To))=true↔l[i].From<l[i].To/\p<q/\l[i].From<q/\p<l[i].To:=by
   rw[yAf];split <;> split <;> omega
  rw[yAj,e,yAF];exact ⟨λh=>yes_t ⟨_,yAk hi,⟨h.1,h.2.1,h.2.2.1,h.2.2.2.1,h.2.2.2.2⟩⟩,λh=>hr λm=>h ⟨m.node,m.span,m.pq,m.l,m.r⟩⟩
 ·simp only[zc7,yAh,yAx];exact no_f λ⟨b,hb,hm⟩=>zcM (A:=λb=>¬MeetsB b node p q) h b hb hm
theorem ref_meets(l:List zai)(node p q:Int)(hl:l.length<=300):za7 (zcu 1000 l node p q) (∃b∈l,MeetsB b node p q):=by
 simp only[zcu];refine lpA l (λ_ b=>¬MeetsB b node p q) (λi f hi _ hr=>?_) (λf h=>?_) (by omega)
 ·simp only[zda hi,if_true,zak hi,Option.bind_some,wr1 (show i<1000000 by omega),zag];simp only[yAj,yAf,yAF];exact ⟨λh=>yes_t ⟨_,yAk hi,⟨h.1.1.1.1,h.1.1.1.2,h.1.1.2,h.1.2,h.2⟩⟩,λh=>hr λm=>h ⟨⟨⟨⟨m.node,m.span⟩,m.pq⟩,m.l⟩,m.r⟩⟩
 ·simp only[zc7,yAh,yAx];exact no_f λ⟨b,hb,hm⟩=>zcM (A:=λb=>¬MeetsB b node p q) h b hb hm
theorem book_one(b:zai)(n:Int):za7 (book_whole 1000 b n) (OneB n b):=by simp only[book_whole,za7,zaf,yAj,yAf];exact ⟨λh=>⟨by omega,by omega,by omega,by omega,by omega⟩,λh=>by have:=h.id;have:=h.node;have:=h.lo;have:=h.span;have:=h.hi;omega⟩
theorem ref_one(b:zai)(n:Int):za7 (zer 1000 b n) (OneB n b):=by simp only[zer,zbc,Option.bind_some,za7,zag,zaf,yAj,yAf];refine ⟨λh0=>⟨λh=>⟨by omega,by omega,by omega,by omega,by omega⟩,λh=>by have:=h.id;have:=h.node;have:=h.lo;have:=h.span;have:=h.hi;omega⟩,λh0=>⟨λh=>by simp at h,λh=>by have:=h.id;omega⟩⟩
theorem slice_take{α:Type}{l:List α}{i:Nat}(h:i<=l.length):slice? l 0 (i:Int)=some (l.take i):=by unfold slice?;rw[if_pos ⟨by omega,by omega,by omega⟩];simp
theorem take_mem{l:List zai}{i:Nat}{P:zai->Prop}:(∃b∈l.take i,P b)↔∃x,∃h:x<l.length,x<i/\P l[x]:=by
 constructor
 ·rintro ⟨b,hb,hp⟩;obtain ⟨x,hx,rfl⟩:=yA2 hb;rw[yA6] at hx;rw[yBJ] at hp;exact ⟨x,by omega,by omega,hp⟩
 ·rintro ⟨x,hx,hxi,hp⟩;have h2:x<(l.take i).length:=by rw[yA6];omega
  refine ⟨(l.take i)[x],yAk h2,?_⟩;rw[yBJ];exact hp
theorem book_right(l:List zai)(n:Int)(hl:l.length<=300):za7 (book_Right 1000 l n) (BooksOk l n):=by
 unfold book_Right;rw[za7,zag];refine ⟨λh=>no_f λq=>?_,λh=>?_⟩
 ·have:=q.len;simp only[yAf] at h;omega
 ·simp only[yAf] at h;refine lpA l (λi b=>BookIn l n i b) (λi f hi hA hr=>?_) (λf hA=>?_) (by omega)
  ·have hd:decide ((i:Int) > 0)=decide (0<i):=by simp
   simp only[zaS,zda hi,if_true,zak hi,Option.bind_some,wr1 (show i<1000000 by omega),hd,slice_take (Nat.le_of_lt hi)];refine (book_one l[i] n).bind λr hr1=>?_;rw[zag];refine ⟨λh1=>no_f λq=>?_,λh1=>?_⟩
   ·have:=hr1.2 (q.each i hi).one;rw[this] at h1;simp at h1
   ·simp only[yAs,yA1] at h1;have O:=hr1.1 h1;have fin:(∀x (h:x<l.length),x<i->l[x].Id<l[i].Id)->Ret ((book_Meets 1000 (l.take i) l[i].Node l[i].From l[i].To).bind λr=>if r=true then some false else f ((i+1:Nat):Int)) (λb=>b=true↔BooksOk l n):=λhup=>by
     refine (book_meets (l.take i) _ _ _ (by rw[yA6];omega)).bind λr hr2=>?_;rw[take_mem] at hr2;rw[zag];refine ⟨λh2=>no_f λq=>?_,λh2=>hr ⟨O,λx hx hxi=>⟨hup x hx hxi,λm=>h2 (hr2.2 ⟨x,hx,hxi,m⟩)⟩⟩⟩;obtain ⟨x,hx,hxi,m⟩:=hr2.1 h2;exact ((q.each i hi).up x hx hxi).2 m
    rw[zag];refine ⟨λh2=>?_,λh2=>?_⟩
    ·simp only[yAf] at h2;obtain ⟨m,rfl⟩:∃m,i=m+1:=⟨i-1,by omega⟩;have hm:m<l.length:=by omega
     rw[wp1 (show m+1<1000000 by omega),zak hm,xAa,zag];refine ⟨λh3=>no_f λq=>?_,λh3=>fin λx hx hxi=>?_⟩
     ·have:=((q.each (m+1) hi).up m hm (by omega)).1;simp only[yAf] at h3;omega
     ·simp only[yAf] at h3;rcases yBc (yB0.1 hxi) with h' | h'
      ·have:=((hA m hm (by omega)).up x hx h').1;omega
      ·subst h';omega
    ·simp only[yAf] at h2;exact fin λx hx hxi=>by omega
  ·simp only[zc7,yAh,yAx];exact yes_t ⟨by omega,λi hi=>hA i hi⟩
theorem slice_one{α:Type}{l:List α}{i:Nat}(h:i<l.length):slice? l (i:Int) ((i+1:Nat):Int)=some [l[i]]:=by unfold slice?;rw[if_pos ⟨by omega,by omega,by omega⟩];simp only[Int.toNat_natCast];rw[yAO h,yBR (by rw[yA6];omega),yB1 (by rw[yA6];omega)];rfl
theorem ref_book(l:List zai)(n:Int)(hl:l.length<=300):za7 (zdp 1000 l n) (BooksOk l n):=by
 unfold zdp;refine lpA l (λi b=>BookIn l n i b) (λi f hi hA hr=>?_) (λf hA=>?_) (by omega)
 ·simp only[zaS,zda hi,if_true,zak hi,Option.bind_some,wr1 (show i<1000000 by omega)];refine (ref_one l[i] n).bind λr hr1=>?_;rw[zag];refine ⟨λh1=>no_f λq=>?_,λh1=>?_⟩
  ·have:=hr1.2 (q.each i hi).one;rw[this] at h1;simp at h1
  ·simp only[yAs,yA1] at h1;have O:=hr1.1 h1;refine lpS i (λx y=>y=(x:Int)/\∀z (h:z<l.length),z<x->l[z].Id<l[i].Id/\¬MeetsB l[z] l[i].Node l[i].From l[i].To) (λx y g hx hy hg=>?_) (λy g hy=>?_) ⟨rfl,λz h h'=>by omega⟩ (by omega)
   ·obtain ⟨rfl,hB⟩:=hy;have hxl:x<l.length:=by omega
    simp only[zda hx,if_true,zak hxl,Option.bind_some,wr1 (show x<1000000 by omega)];rw[zag];refine ⟨λh2=>no_f λq=>?_,λh2=>?_⟩
    ·have:=((q.each i hi).up x hxl hx).1;simp only[yAf] at h2;omega
    ·simp only[yAf] at h2;rw[slice_one hxl,xAa];refine (ref_meets [l[x]] _ _ _ (by simp)).bind λr hr2=>?_;simp only[yAZ,exists_eq_left] at hr2;rw[zag];refine ⟨λh3=>no_f λq=>((q.each i hi).up x hxl hx).2 (hr2.1 h3),λh3=>hg _ ⟨rfl,λz hz hzx=>?_⟩⟩;rcases yBc (yB0.1 hzx) with h' | h'
     ·exact hB z hz h'
     ·subst h';exact ⟨by omega,λm=>h3 (hr2.2 m)⟩
   ·obtain ⟨rfl,hB⟩:=hy;simp only[zc7,yAh,yAx];exact hr ⟨O,hB⟩
 ·simp only[zc7,yAh,yAx,zaf,yAf];exact ⟨λh=>⟨by omega,λi hi=>hA i hi⟩,λq=>by have:=q.len;omega⟩
def ClashIn(st:zab)(a:zae):Prop:=∀j∈st.Jobs,j.Id=a.Job->∀x∈a.Shares,∀b∈st.Books,b.Node=x.Node->¬b.From<j.Start+j.Wall
structure BookedOk (s:zad) (st:zab):Prop where
 books:BooksOk st.Books s.Nodes.length
 live:∀b∈st.Books,b.Id<st.Book/\st.Now<b.To
 clash:∀a∈st.Allocs,ClashIn st a
theorem bookings_ok{s:zad}{st:zab}(hw:FewW s st)(J:JobsOk s st)(A:AllocsOk s st):za7 (store_bookings 1000 s st) (BookedOk s st):=by
 have hb:=hw.books;have hj:=hw.jobs;have hal:=hw.allocs;unfold store_bookings;refine (book_right st.Books _ (by omega)).bind λr hr1=>?_;rw[zag];refine ⟨λh1=>no_f λq=>?_,λh1=>?_⟩
 ·have:=hr1.2 q.books;rw[this] at h1;simp at h1
 ·simp only[yAs,yA1] at h1;have B:=hr1.1 h1;refine lpA st.Books (λi b=>b.Id<st.Book/\st.Now<b.To) (λi f hi _ hr=>?_) (λf hL=>?_) (by omega)
  ·simp only[zda hi,if_true,zak hi,Option.bind_some,wr1 (show i<1000000 by omega)];rw[zag];simp only[yAt,yAf];exact ⟨λh2=>no_f λq=>by have:=q.live _ (yAk hi);omega,λh2=>hr (by omega)⟩
  ·simp only[zc7,yAh,yAx];refine lpA st.Allocs (λi a=>ClashIn st a) (λi f hi _ hr=>?_) (λf hC=>?_) (by omega)
   ·simp only[zda hi,if_true,zak hi,Option.bind_some,wr1 (show i<1000000 by omega)];have ha:=yAk hi;have hsh:=hw.shares _ ha;obtain ⟨j,hj1,P⟩:=A.mem _ ha;have jin:=J.each j hj1;have jid:=jin.ok.id;have jst:=jin.ok.start;have jw:=jin.ok.wall;refine (find_ok (by omega) J.sorted (id:=st.Allocs[i].Job) (by have:=P.job;omega) J.ids).bind λr2 hr2=>?_;rw[hr2.1.2 ⟨j,hj1,P.job.symm⟩,if_neg (by simp)];have at2:=hr2.2 (hr2.1.2 ⟨j,hj1,P.job.symm⟩);obtain ⟨r2a,r2b⟩:=r2;dsimp only at at2 ⊢;obtain ⟨hx,e⟩:=at_int (l:=st.Jobs) at2.lo (by have:=at2.lo;have:=at2.hi;omega);have ej:st.Jobs[r2a.toNat]=j:=by
     obtain ⟨m,hm,rfl⟩:=yA2 hj1;have:=J.sorted.inj hx hm (by rw[at2.is,P.job]);subst this;rfl
    rw[ej] at e;rw[e];simp only[Option.bind_some];rw[wr (x:=j.Start+j.Wall) (by omega) (by omega)];have pn:=P.now;refine lpA st.Allocs[i].Shares (λ_ x=>∀b∈st.Books,b.Node=x.Node->¬b.From<j.Start+j.Wall) (λm g hm _ hg=>?_) (λg hG=>?_) (by omega)
    ·simp only[zda hm,if_true,zak hm,Option.bind_some,wr1 (show m<1000000 by omega)];refine (book_meets st.Books _ _ _ (by omega)).bind λr3 hr3=>?_;rw[zag];refine ⟨λh4=>no_f λq=>?_,λh4=>hg λb hb hn hf=>h4 (hr3.2 ⟨b,hb,?_⟩)⟩
     ·obtain ⟨b,hb,mm⟩:=hr3.1 h4;exact q.clash _ ha j hj1 P.job.symm _ (yAk hm) b hb mm.node mm.l
     ·obtain ⟨y,hy,rfl⟩:=yA2 hb;have:=hL y hy;exact ⟨hn,(B.each y hy).one.span,pn,hf,this.2⟩
    ·simp only[zc7,yAh,yAx];refine hr λj' hj' ej' x hx b hb=>?_;have:j'=j:=by
      obtain ⟨m,hm,rfl⟩:=yA2 hj1;obtain ⟨m',hm',rfl⟩:=yA2 hj';have:=J.sorted.inj hm' hm (by rw[ej',P.job]);subst this;rfl
     subst this;exact zcM (A:=λx=>∀b∈st.Books,b.Node=x.Node->¬b.From<j'.Start+j'.Wall) hG x hx b hb
   ·simp only[zc7,yAh,yAx];exact yes_t ⟨B,zcM hL,zcM hC⟩
structure SoundOk (s:zad) (st:zab):Prop where
 spec:SpecOk s
 nums:NumsOk s st
 jobs:JobsOk s st
 waits:∀j∈st.Jobs,Waits s st j
 allocs:AllocsOk s st
 booked:BookedOk s st
 use:UseOk s st
theorem sound_ok{s:zad}{st:zab}(hw:FewW s st):za7 (store_Sound 1000 s st) (SoundOk s st):=by
 unfold store_Sound;have step:∀{o:Option Bool}{P:Prop}{k:Option Bool},za7 o P->(SoundOk s st->P)->(P->za7 k (SoundOk s st))->za7 (o.bind λr=>if r=true then k else some false) (SoundOk s st):=λh1 h2 h3=>h1.bind λr hr=>zag.2 ⟨λh=>h3 (hr.1 h),λh=>no_f λq=>h (hr.2 (h2 q))⟩
 refine step (spec_right s hw.spec) (λq=>q.spec) λk=>?_;refine step (numbers_ok k st) (λq=>q.nums) λh1=>?_;refine step (jobs_ok k hw) (λq=>q.jobs) λh2=>?_;refine step (waiting_ok k hw h2) (λq=>q.waits) λh3=>?_;refine step (allocations_ok k hw h2) (λq=>q.allocs) λh4=>?_;refine step (bookings_ok hw h2 h4) (λq=>q.booked) λh5=>?_;refine (usage_ok hw).bind λr hr=>?_;rw[zaf,hr];exact ⟨λh6=>⟨k,h1,h2,h3,h4,h5,h6⟩,λq=>q.use⟩
end Go.Plain
end
