/- TyP1, TyP2, TyP3, TyP4, TyP5, TyP6, TyP7, TyP8, TyP9 -/
import Derived.Test.YtiejgibbjgdlgaaGreatTyPure
import Derived.KernelRfl
import Derived.Laws.BitsLemmas
set_option linter.all false
section
namespace Go.Plain
open Go.Abs
instance glT:Gl:=⟨fun _ _=>True,fun _ _=>trivial⟩
theorem wr {x:Int} (h0:-9223372036854775808≤x) (h1:x<9223372036854775808):IntKind.i64.wrap x=x:=by rw [IntKind.wrap_i64]; omega
theorem wr1 {i:Nat} (h:i<1000000):IntKind.i64.wrap ((i:Int)+1)=((i+1:Nat):Int):=by rw [wr (by omega) (by omega)]; rfl
theorem wp1 {i:Nat} (h:i+1<1000000):IntKind.i64.wrap (((i+1:Nat):Int)-1)=(i:Int):=by rw [wr (by omega) (by omega)]; omega
theorem zao {α:Type} {l:List α} {i:Nat} (h:i<l.length):at? l (i:Int)=some l[i]:=by
 unfold at?
 rw [if_pos ⟨by omega,by omega⟩]
 simp [h]
theorem at_int {α:Type} {l:List α} {x:Int} (h0:0≤x) (h:x<l.length):∃h':x.toNat<l.length,at? l x=some (l[x.toNat]'h'):=by
 have h':x.toNat<l.length:=by omega
 refine ⟨h',?_⟩
 unfold at?
 rw [if_pos ⟨h0,h⟩,yAi h']
theorem zb5 {i n:Nat} (h:i<n):decide ((i:Int)<(n:Int))=true:=by simp; omega
theorem zb7 {n:Nat}:decide ((n:Int)<(n:Int))=false:=by simp
theorem zbt {α:Type} {l m:List α} (h:l.length+m.length≤1000000):app? l m=some (l++m):=by unfold app?; rw [if_pos h]
theorem app_nil {α:Type} {m:List α} (h:m.length≤1000000):app? [] m=some m:=by rw [zbt (by simpa using h)]; rfl
theorem zbh {X R:Type} (r:X→Option R) (b:(X→Option R)→Option R):jn r b=b r:=rfl
def Ret {β:Type} (o:Option β) (Q:β→Prop):Prop:=∃r,o=some r∧Q r
abbrev zaY (o:Option Bool) (P:Prop):Prop:=Ret o fun b=>b=true↔P
section
variable {α β γ σ:Type} {o:Option α} {P Q:α→Prop}
theorem Ret.mono (h:Ret o P) (hp:∀r,P r→Q r):Ret o Q:=by obtain ⟨r,h1,h2⟩:=h; exact ⟨r,h1,hp r h2⟩
theorem Ret.bind {f:α→Option β} {R:β→Prop} (h:Ret o P) (hp:∀r,P r→Ret (f r) R):Ret (o.bind f) R:=by
 obtain ⟨r,rfl,h2⟩:=h; exact hp r h2
theorem zab {r:α}:Ret (some r) Q↔Q r:=by simp [Ret]
theorem ret_bind {f:α→Option β} {R:β→Prop}:Ret (o.bind f) R↔Ret o fun r=>Ret (f r) R:=by
 cases o <;> simp [Ret]
theorem zaf {c:Prop} [Decidable c] {a b:Option α}:Ret (if c then a else b) Q↔(c→Ret a Q)∧(¬c→Ret b Q):=by
 by_cases h:c <;> simp [h]
theorem Ret.eq {r:α} (h:Ret o fun x=>x=r):o=some r:=by obtain ⟨_,h,rfl⟩:=h; exact h
end
section
variable {X R α:Type} {b:(X→Option R)→X→Option R} {Q:R→Prop}
theorem lpS (n:Nat) (Inv:Nat→X→Prop) (hs:∀i x f,i<n→Inv i x→(∀x',Inv (i+1) x'→Ret (f x') Q)→Ret (b f x) Q)
  (he:∀x f,Inv n x→Ret (b f x) Q) {x0:X} (h0:Inv 0 x0) {N:Nat} (hN:n<N):Ret (lpX b N x0) Q:=by
 have:∀k i x,i≤n→n<i+k→Inv i x→Ret (lpX b k x) Q:=by
  intro k
  induction k with
  | zero=>intro i x h h'; omega
  | succ k ih =>
   intro i x h h' hi
   rcases yBb h with hlt | rfl
   ·exact hs i x _ hlt hi fun x' hx'=>ih (i+1) x' hlt (by omega) hx'
   ·exact he x _ hi
 exact this N 0 x0 (yB4 _) (by omega) h0
end
section
variable {R α:Type} {b:(Int→Option R)→Int→Option R} {Q:R→Prop}
theorem lpA (l:List α) (A:Nat→α→Prop)
  (hs:∀i (f:Int→Option R) (h:i<l.length),(∀j (hj:j<l.length),j<i→A j l[j])→(A i l[i]→Ret (f ((i+1:Nat):Int)) Q)→Ret (b f (i:Int)) Q)
  (he:∀f,(∀j (hj:j<l.length),A j l[j])→Ret (b f (l.length:Int)) Q) {N:Nat} (hN:l.length<N):Ret (lpX b N 0) Q:=
 lpS l.length (fun i x=>x=(i:Int)∧∀j (hj:j<l.length),j<i→A j l[j])
  (fun i x f hi ⟨hx,hA⟩ hr=>by
   subst hx
   exact hs i f hi hA fun h=>hr _ ⟨rfl,fun j hj hji=>by
    rcases yBb (yBv.1 hji) with h' | h'
    ·exact hA j hj h'
    ·subst h'; exact h⟩)
  (fun x f ⟨hx,hA⟩=>by subst hx; exact he f fun j hj=>hA j hj hj) ⟨rfl,fun j hj h=>absurd h (by omega)⟩ hN
end
theorem zbP {α:Type} {l:List α} {A:α→Prop} (h:∀j (hj:j<l.length),A l[j]):∀a∈l,A a:=fun a ha=>by
 obtain ⟨i,hi,rfl⟩:=yAD ha
 exact h i hi
theorem lpC {α:Type} {b:(Int→Option Bool)→Int→Option Bool} (l:List α) (A:α→Prop) (P:Prop) (hP:P→∀a∈l,A a)
  (hs:∀(i:Nat) (f:Int→Option Bool) (h:i<l.length) (Q:Bool→Prop),(A l[i]→Ret (f ((i+1:Nat):Int)) Q)→(¬A l[i]→Q false)→Ret (b f (i:Int)) Q)
  (he:∀f,(∀a∈l,A a)→zaY (b f (l.length:Int)) P) {N:Nat} (hN:l.length<N):zaY (lpX b N 0) P:=
 lpA l (fun _ a => A a) (fun i f h _ hr => hs i f h _ hr fun hn => by
   simp only [yAg,yBo]
   exact fun p=>hn (hP p _ (yAo h)))
  (fun f h=>he f (zbP h)) hN
structure FewS (s:zad):Prop where
 nodes:s.Nodes.length≤40
 parts:s.Parts.length≤20
 queues:s.Queues.length≤20
 part:∀p∈s.Parts,p.length≤40
 queue:∀q∈s.Queues,q.Users.length≤40
theorem few07 (s:zad):Ret (zda 200000 s) fun r=>r=true→FewS s:=by
 simp only [zda,zaf,zab]
 refine ⟨by simp,fun h=>?_⟩
 simp only [yAu,yAf,not_or,Int.not_lt] at h
 obtain ⟨⟨h1,h2⟩,h3⟩:=h
 refine lpA s.Parts (fun _ q=>q.length≤40) (fun i f h _ hr=>?_) (fun f hp=>?_) (by omega)
 ·simp only [zb5 h,if_true,zao h,Option.bind_some,wr1 (show i<1000000 by omega),zaf,zab,yAf]
  exact ⟨by simp,fun h=>hr (by omega)⟩
 ·simp only [zb7,yAg,yAy]
  refine lpA s.Queues (fun _ q=>q.Users.length≤40) (fun i f h _ hr=>?_) (fun f hq=>?_) (by omega)
  ·simp only [zb5 h,if_true,zao h,Option.bind_some,wr1 (show i<1000000 by omega),zaf,zab,yAf]
   exact ⟨by simp,fun h=>hr (by omega)⟩
  ·simp only [zb7,yAg,yAy,zab]
   exact fun _=>⟨by omega,by omega,by omega,zbP hp,zbP hq⟩
theorem few17 (l:List zam):Ret (zc7 200000 l) fun r=>r=true→l.length≤30∧∀j∈l,j.After.length≤10:=by
 simp only [zc7,zaf,zab]
 refine ⟨by simp,fun h=>?_⟩
 simp only [yAf] at h
 refine lpA l (fun _ q=>q.After.length≤10) (fun i f h _ hr=>?_) (fun f hq=>?_) (by omega)
 ·simp only [zb5 h,if_true,zao h,Option.bind_some,wr1 (show i<1000000 by omega),zaf,zab,yAf]
  exact ⟨by simp,fun h=>hr (by omega)⟩
 ·simp only [zb7,yAg,yAy,zab]
  exact fun _=>⟨by omega,zbP hq⟩
structure FewW (s:zad) (st:zae):Prop where
 spec:FewS s
 jobs:st.Jobs.length≤300
 after:∀j∈st.Jobs,j.After.length≤10
 allocs:st.Allocs.length≤300
 books:st.Books.length≤20
 use:st.Use.length≤20
 stamps:st.Stamps.Queues.length≤20
 shares:∀a∈st.Allocs,a.Shares.length≤40
theorem FewW.sh {s:zad} {st:zae} (h:FewW s st):∀a∈st.Allocs,a.Shares.length≤300:=fun a ha=>yAB (h.shares a ha) (by decide)
theorem few23 (s:zad) (st:zae):Ret (zc0 200000 s st) fun r=>r=true→FewW s st:=by
 simp only [zc0,zbh]
 refine (few07 s).bind fun r hr=>?_
 simp only [if_true,zab,zaf]
 refine ⟨by simp,fun h=>?_⟩
 refine (few17 st.Jobs).bind fun r' hr'=>?_
 simp only [yAv,yA0] at h
 have h1:=hr h
 simp only [zaf,zab]
 refine ⟨by simp,fun h=>?_⟩
 simp only [yAu,yAf,not_or,Int.not_lt,yAv,yA0] at h
 obtain ⟨⟨⟨⟨h,h3⟩,h4⟩,h5⟩,h6⟩:=h
 have h2:=hr' h
 refine lpA st.Allocs (fun _ q=>q.Shares.length≤40) (fun i f h _ hr=>?_) (fun f hq=>?_) (by omega)
 ·simp only [zb5 h,if_true,zao h,Option.bind_some,wr1 (show i<1000000 by omega),zaf,zab,yAf]
  exact ⟨by simp,fun h=>hr (by omega)⟩
 ·simp only [zb7,yAg,yAy,zab]
  exact fun _=>⟨h1,yAB h2.1 (by decide),h2.2,by omega,by omega,by omega,by omega,zbP hq⟩
def inn (lo hi x:Int):Bool:=decide (lo≤x)&&decide (x≤hi)
structure VecOk (r:zac):Prop where
 cpu:0≤r.Cpu∧r.Cpu≤1048576
 mem:0≤r.Mem∧r.Mem≤1048576
 gpu:0≤r.Gpu∧r.Gpu≤1048576
 lic:0≤r.Lic∧r.Lic≤1048576
theorem ref_vec (r:zac):zaY (zaC 200000 r) (VecOk r):=by
 simp only [zaC,zbb,zab,Option.bind_some,zaf,yAj,yAf,yAg,yBo,zaY]
 refine ⟨fun h1=>⟨fun h2=>⟨fun h3=>⟨fun h4=>⟨h1,h2,h3,h4⟩,fun h=>h.lic⟩,fun h3 h=>h3 h.gpu⟩,fun h2 h=>h2 h.mem⟩,fun h1 h=>h1 h.cpu⟩
theorem at4x0 {a b c d:Int}:at? [a,b,c,d] 0=some a:=rfl
theorem at4x1 {a b c d:Int}:at? [a,b,c,d] 1=some b:=rfl
theorem at4x2 {a b c d:Int}:at? [a,b,c,d] 2=some c:=rfl
theorem at4x3 {a b c d:Int}:at? [a,b,c,d] 3=some d:=rfl
theorem lpN (l:List Int) (lo hi n:Int) (hn:(l.length:Int)=n) {E:Option Bool} {Q:Bool→Prop} (h0:¬(∀a∈l,lo≤a∧a≤hi)→Q false) (he:(∀a∈l,lo≤a∧a≤hi)→Ret E Q) (hN:l.length<200000) :
  Ret (lpX (fun (f:Int→Option Bool) (x:Int)=>if (decide (x<n))=true then (at? l x).bind fun y=>if ((decide (y<lo)) || (decide (y > hi)))=true then some false else f (IntKind.i64.wrap (x+1)) else E) 200000 0) Q:=by
 subst hn
 refine lpA l (fun _ a=>lo≤a∧a≤hi) (fun i f h _ hr=>?_) (fun f h=>?_) hN
 ·simp only [zb5 h,if_true,zao h,Option.bind_some,wr1 (show i<1000000 by omega),zaf,zab,yAu,yAf]
  exact ⟨fun h1=>h0 fun ha=>by have:=ha _ (yAo h); omega,fun h=>hr (by omega)⟩
 ·simp only [zb7,yAg,yAy]
  exact he (zbP h)
theorem four_mem {a b c d lo hi:Int}:(∀x∈[a,b,c,d],lo≤x∧x≤hi)↔(lo≤a∧a≤hi)∧(lo≤b∧b≤hi)∧(lo≤c∧c≤hi)∧(lo≤d∧d≤hi):=by simp
theorem three_mem {a b c lo hi:Int}:(∀x∈[a,b,c],lo≤x∧x≤hi)↔(lo≤a∧a≤hi)∧(lo≤b∧b≤hi)∧(lo≤c∧c≤hi):=by simp
theorem vec_right (r:zac):zaY (zb3 200000 r) (VecOk r):=by
 simp only [zb3,vec_numbers,Option.bind_some]
 refine lpN [r.Cpu,r.Mem,r.Gpu,r.Lic] 0 1048576 4 rfl (fun h=>?_) (fun h=>?_) (by simp)
 ·simp only [yAg,yBo]
  exact fun v=>h (four_mem.2 ⟨v.cpu,v.mem,v.gpu,v.lic⟩)
 ·rw [zab]
  obtain ⟨h1,h2,h3,h4⟩:=four_mem.1 h
  exact ⟨fun _=>⟨h1,h2,h3,h4⟩,fun _=>rfl⟩
def zeroR:zac:={ Cpu:=0,Mem:=0,Gpu:=0,Lic:=0 }
theorem beq_res {a b:zac}:zac.beq a b=true↔a=b:=by
 obtain ⟨a1,a2,a3,a4⟩:=a
 obtain ⟨b1,b2,b3,b4⟩:=b
 simp [zac.beq]
end Go.Plain
end
section
namespace Go.Plain
open Go.Abs
theorem ne_of {x:ByteArray} (h:x.toList.isEmpty=false):x.toList≠[]:=by intro e; rw [e] at h; cases h
def prv (l:List Int):Nat→Int
 | 0=>-1
 | i+1=>l[i]?.getD 0
theorem prv_succ {l:List Int} {i:Nat} (h:i<l.length):prv l (i+1)=l[i]:=by simp [prv,h]
def Rises (l:List Int) (n:Int):Prop:=∀i (h:i<l.length),prv l i<l[i]∧l[i]<n
theorem Rises.nn {l:List Int} {n:Int} (h:∀i (hi:i<l.length),prv l i<l[i]):∀i (hi:i<l.length),0≤l[i]:=by
 intro i
 induction i with
 | zero=>intro hi; have:=h 0 hi; simp only [prv] at this; omega
 | succ i ih=>intro hi; have:=h (i+1) hi; rw [prv_succ (by omega)] at this; have:=ih (by omega); omega
theorem Rises.mem {l:List Int} {n:Int} (h:Rises l n):∀x∈l,0≤x∧x<n:=fun x hx=>by
 obtain ⟨i,hi,rfl⟩:=yAD hx
 exact ⟨Rises.nn (n:=n) (fun i hi=>(h i hi).1) i hi,(h i hi).2⟩
theorem ascending (l:List Int) (n:Int) (hl:l.length<99):zaY (zcU 200000 l n) (Rises l n):=by
 simp only [zcU]
 refine lpS l.length (fun i x=>x=(prv l i,(i:Int))∧∀j (hj:j<l.length),j<i→prv l j<l[j]∧l[j]<n) (fun i x f hi hx hr=>?_) (fun x f hx=>?_) ⟨rfl,fun j hj h=>by omega⟩ (by omega)
 ·obtain ⟨rfl,hA⟩:=hx
  simp only [zb5 hi,if_true,zao hi,Option.bind_some,wr1 (show i<1000000 by omega),zaf,zab,yAu,yAf]
  refine ⟨fun h=>?_,fun h=>hr _ ⟨by rw [prv_succ hi],fun j hj hji=>?_⟩⟩
  ·simp only [yAg,yBo]
   intro hR
   have:=hR i hi
   omega
  ·rcases yBb (yBv.1 hji) with h' | h'
   ·exact hA j hj h'
   ·subst h'; omega
 ·obtain ⟨rfl,hA⟩:=hx
  simp only [zb7,yAg,yAy,zab,yBM]
  exact fun i hi=>hA i hi hi
theorem ref_rising (l:List Int) (n:Int) (hl:l.length<99):zaY (zbp 200000 l n) (Rises l n):=by
 simp only [zbp,zbh]
 refine lpA l (fun i a=>prv l i<a∧a<n) (fun i f h hA hr=>?_) (fun f h=>?_) (by omega)
 ·have hd:decide ((i:Int) > 0)=decide (0<i):=by simp
  simp only [zb5 h,if_true,zao h,Option.bind_some,wr1 (show i<1000000 by omega),zaf,zab,yAf,hd,yAg,yAy]
  have bad:¬(prv l i<l[i]∧l[i]<n)→(False↔Rises l n):=fun hn=>by
   simp only [yBo]
   exact fun hR=>hn (hR i h)
  refine ⟨fun h1=>?_,fun h1=>⟨fun h2=>bad (by omega),fun h2=>⟨fun h3=>?_,fun h3=>?_⟩⟩⟩
  ·simp only [yBo]
   intro hR
   have:=(hR.mem _ (yAo h)).1
   omega
  ·obtain ⟨m,rfl⟩:∃m,i=m+1:=⟨i-1,by omega⟩
   rw [wp1 (show m+1<1000000 by omega),zao (show m<l.length by omega)]
   rw [prv_succ (by omega)] at bad hr
   simp only [Option.bind_some,zaf,yAf,zab,yAg]
   exact ⟨fun h4=>bad (by omega),fun h4=>hr ⟨by omega,by omega⟩⟩
  ·have:i=0:=by omega
   subst this
   exact hr ⟨by simp only [prv]; omega,by omega⟩
 ·simp only [zb7,yAg,yAy,zab,yBM]
  exact h
structure NodesOk (s:zad):Prop where
 lo:1≤s.Nodes.length
 hi:s.Nodes.length≤16
 ok:∀r∈s.Nodes,VecOk r
theorem nodesRight (s:zad):zaY (spec_nodesRight 200000 s) (NodesOk s):=by
 simp only [spec_nodesRight,zaf,zab]
 refine ⟨fun h=>?_,fun h=>?_⟩
 ·simp only [yAu,yAf] at h
  simp only [yAg,yBo]
  intro k; have:=k.lo; have:=k.hi; omega
 ·simp only [yAu,yAf,not_or] at h
  refine lpC s.Nodes VecOk _ (fun k=>k.ok) (fun i f h' Q h1 h2=>?_) (fun f hA=>?_) (by omega)
  ·simp only [zb5 h',if_true,zao h',Option.bind_some,wr1 (show i<1000000 by omega)]
   refine (vec_right _).bind fun r hr=>?_
   simp only [zaf,zab,yAv,yA0]
   exact ⟨fun e=>h2 (by rw [←hr,e]; simp),fun e=>h1 (hr.1 e)⟩
  ·simp only [zb7,yAg,yAy,zab,yBM]
   exact ⟨by omega,by omega,hA⟩
theorem ref_nodes (s:zad) (hs:FewS s):zaY (zbH 200000 s) (NodesOk s):=by
 have:=hs.nodes
 simp only [zbH]
 refine lpC s.Nodes VecOk _ (fun k=>k.ok) (fun i f h' Q h1 h2=>?_) (fun f hA=>?_) (by omega)
 ·simp only [zb5 h',if_true,zao h',Option.bind_some,wr1 (show i<1000000 by omega)]
  refine (ref_vec _).bind fun r hr=>?_
  simp only [zaf,zab,yAv,yA0]
  exact ⟨fun e=>h2 (by rw [←hr,e]; simp),fun e=>h1 (hr.1 e)⟩
 ·simp only [zb7,yAg,yAy,zai,Option.bind_some,zab,yAj,yAf]
  exact ⟨fun h=>⟨by omega,by omega,hA⟩,fun h=>by have:=h.lo; have:=h.hi; omega⟩
structure PartsOk (s:zad):Prop where
 lo:1≤s.Parts.length
 hi:s.Parts.length≤8
 ok:∀p∈s.Parts,1≤p.length∧Rises p s.Nodes.length
theorem partsRight (s:zad) (hs:FewS s):zaY (spec_partsRight 200000 s) (PartsOk s):=by
 simp only [spec_partsRight,zbh,zaf,zab]
 refine ⟨fun h=>?_,fun h=>?_⟩
 ·simp only [yAu,yAf] at h
  simp only [yAg,yBo]
  intro k; have:=k.lo; have:=k.hi; omega
 ·simp only [yAu,yAf,not_or] at h
  refine lpC s.Parts (fun p=>1≤p.length∧Rises p s.Nodes.length) _ (fun k=>k.ok) (fun i f h' Q h1 h2=>?_) (fun f hA=>?_) (by omega)
  ·have:=hs.part _ (yAo h')
   simp only [zb5 h',if_true,zao h',Option.bind_some,wr1 (show i<1000000 by omega),zaf,zab,yAf]
   refine ⟨fun e=>h2 (by omega),fun e=>?_⟩
   refine (ascending _ _ (by omega)).bind fun r hr=>?_
   simp only [zaf,zab,yAv,yA0]
   exact ⟨fun e'=>h2 (by rw [←hr,e']; simp),fun e'=>h1 ⟨by omega,hr.1 e'⟩⟩
  ·simp only [zb7,yAg,yAy,zab,yBM]
   exact ⟨by omega,by omega,hA⟩
theorem ref_parts (s:zad) (hs:FewS s):zaY (zbB 200000 s) (PartsOk s):=by
 have:=hs.parts
 simp only [zbB,zbh]
 refine lpC s.Parts (fun p=>1≤p.length∧Rises p s.Nodes.length) _ (fun k=>k.ok) (fun i f h' Q h1 h2=>?_) (fun f hA=>?_) (by omega)
 ·have:=hs.part _ (yAo h')
  simp only [zb5 h',if_true,zao h',Option.bind_some,wr1 (show i<1000000 by omega),zaf,zab,yAf]
  refine ⟨fun e=>h2 (by omega),fun e=>?_⟩
  refine (ref_rising _ _ (by omega)).bind fun r hr=>?_
  simp only [zaf,zab,yAv,yA0]
  exact ⟨fun e'=>h2 (by rw [←hr,e']; simp),fun e'=>h1 ⟨by omega,hr.1 e'⟩⟩
 ·simp only [zb7,yAg,yAy,zai,Option.bind_some,zab,yAj,yAf]
  exact ⟨fun h=>⟨by omega,by omega,hA⟩,fun h=>by have:=h.lo; have:=h.hi; omega⟩
structure QueueOk (s:zad) (q:api_Queue):Prop where
 part:0≤q.Part∧q.Part<s.Parts.length
 users:Rises q.Users s.Users
 jobs:1≤q.MaxJobs∧q.MaxJobs≤256
 run:1≤q.MaxRun∧q.MaxRun≤256
 user:1≤q.MaxUser∧q.MaxUser≤256
 qos:0≤q.Qos∧q.Qos≤100
structure QueuesOk (s:zad):Prop where
 lo:1≤s.Queues.length
 hi:s.Queues.length≤8
 ok:∀q∈s.Queues,QueueOk s q
theorem queuesRight (s:zad) (hs:FewS s):zaY (zc2 200000 s) (QueuesOk s):=by
 simp only [zc2,zbh,zaf,zab]
 refine ⟨fun h=>?_,fun h=>?_⟩
 ·simp only [yAu,yAf] at h
  simp only [yAg,yBo]
  intro k; have:=k.lo; have:=k.hi; omega
 ·simp only [yAu,yAf,not_or] at h
  refine lpC s.Queues (QueueOk s) _ (fun k=>k.ok) (fun i f h' Q h1 h2=>?_) (fun f hA=>?_) (by omega)
  ·have:=hs.queue _ (yAo h')
   simp only [zb5 h',if_true,zao h',Option.bind_some,wr1 (show i<1000000 by omega),yAg,yAy]
   rw [zaf]
   refine ⟨fun e=>?_,fun e=>?_⟩
   ·simp only [yAu,yAf] at e
    rw [zab]
    exact h2 fun k=>by have:=k.part; omega
   ·simp only [yAu,yAf,not_or] at e
    refine (ascending _ _ (by omega)).bind fun r hr=>?_
    rw [zaf]
    refine ⟨fun e'=>?_,fun e'=>?_⟩
    ·rw [zab]
     simp only [yAv] at e'
     exact h2 fun k=>by have:=hr.2 k.users; rw [e'] at this; simp at this
    ·simp only [yAv,yA0] at e'
     refine lpN [_,_,_] 1 256 3 rfl (fun hn=>h2 fun k=>hn (three_mem.2 ⟨k.jobs,k.run,k.user⟩)) (fun hy=>?_) (by simp)
     obtain ⟨y1,y2,y3⟩:=three_mem.1 hy
     rw [zaf]
     refine ⟨fun e2=>?_,fun e2=>?_⟩
     ·simp only [yAu,yAf] at e2
      rw [zab]
      exact h2 fun k=>by have:=k.qos; omega
     ·simp only [yAu,yAf,not_or] at e2
      exact h1 ⟨by omega,hr.1 e',y1,y2,y3,by omega⟩
  ·simp only [zb7,yAg,yAy,zab,yBM]
   exact ⟨by omega,by omega,hA⟩
theorem ref_queues (s:zad) (hs:FewS s):zaY (zbn 200000 s) (QueuesOk s):=by
 have:=hs.queues
 simp only [zbn,zbh]
 refine lpC s.Queues (QueueOk s) _ (fun k=>k.ok) (fun i f h' Q h1 h2=>?_) (fun f hA=>?_) (by omega)
 ·have:=hs.queue _ (yAo h')
  simp only [zb5 h',if_true,zao h',Option.bind_some,wr1 (show i<1000000 by omega),yAg,yAy]
  rw [zaf]
  refine ⟨fun e=>?_,fun e=>?_⟩
  ·simp only [yAu,yAf] at e
   rw [zab]
   exact h2 fun k=>by have:=k.part; omega
  ·simp only [yAu,yAf,not_or] at e
   refine (ref_rising _ _ (by omega)).bind fun r hr=>?_
   simp only [zai,Option.bind_some,zaf,zab,yAv,yA0,yAj,yAf,yBt,yBg]
   refine ⟨fun e'=>h2 fun k=>by have:=hr.2 k.users; rw [e'] at this; simp at this,fun e'=>⟨fun e2=>h2 fun k=>by have:=k.jobs; omega,fun e2=>⟨fun e3=>h2 fun k=>by have:=k.run; omega,fun e3=>⟨fun e4=>h2 fun k=>by have:=k.user; omega,fun e4=>⟨fun e5=>h2 fun k=>by have:=k.qos; omega,fun e5=>?_⟩⟩⟩⟩⟩
   exact h1 ⟨by omega,hr.1 e',by omega,by omega,by omega,by omega⟩
 ·simp only [zb7,yAg,yAy,zai,Option.bind_some,zab,yAj,yAf]
  exact ⟨fun h=>⟨by omega,by omega,hA⟩,fun h=>by have:=h.lo; have:=h.hi; omega⟩
structure WeightsOk (w:zbm):Prop where
 age:0≤w.Age∧w.Age≤1000
 size:0≤w.Size∧w.Size≤1000
 qos:0≤w.Qos∧w.Qos≤1000
 share:0≤w.Share∧w.Share≤1000
theorem weightsRight (w:zbm):zaY (zcH 200000 w) (WeightsOk w):=by
 simp only [zcH]
 refine lpN [w.Age,w.Size,w.Qos,w.Share] 0 1000 4 rfl (fun h=>?_) (fun h=>?_) (by simp)
 ·simp only [yAg,yBo]
  exact fun v=>h (four_mem.2 ⟨v.age,v.size,v.qos,v.share⟩)
 ·rw [zab]
  obtain ⟨h1,h2,h3,h4⟩:=four_mem.1 h
  exact ⟨fun _=>⟨h1,h2,h3,h4⟩,fun _=>rfl⟩
structure SpecOk (s:zad):Prop where
 nodes:NodesOk s
 parts:PartsOk s
 users:1≤s.Users∧s.Users≤8
 queues:QueuesOk s
 weights:WeightsOk s.Weights
 decay:1≤s.Decay∧s.Decay≤16
 mode:s.Mode=1∨s.Mode=2
 jobs:1≤s.Jobs∧s.Jobs≤256
 ids:1≤s.Ids∧s.Ids≤1048576
 versions:1≤s.Versions∧s.Versions≤65536
 linger:0≤s.Linger∧s.Linger≤65536
 keep:1≤s.Keep∧s.Keep≤16
 inn:1≤s.In∧s.In≤8
 out:1≤s.Out∧s.Out≤16
 cache:0≤s.Cache∧s.Cache≤16
theorem spec_right (s:zad) (hs:FewS s):zaY (zcz 200000 s) (SpecOk s):=by
 simp only [zcz,spec_Flaw]
 obtain ⟨b1,e1,h1⟩:=nodesRight s
 obtain ⟨b2,e2,h2⟩:=partsRight s hs
 obtain ⟨b4,e4,h4⟩:=queuesRight s hs
 obtain ⟨b5,e5,h5⟩:=weightsRight s.Weights
 simp only [e1,e2,e4,e5,Option.bind_some]
 have T:∀(x:ByteArray),x.toList≠[]→(¬SpecOk s)→Ret ((some x).bind fun r1=>some (r1.toList == (⟨#[]⟩:ByteArray).toList)) fun b=>b=true↔SpecOk s:=fun x hx hn=>by
  rw [Option.bind_some,zab]
  have:(⟨#[]⟩:ByteArray).toList=[]:=by kernel_rfl
  rw [this]
  simp only [yAP]
  exact ⟨fun h=>absurd h hx,fun h=>absurd h hn⟩
 have step:∀(c:Bool) (x:ByteArray) (o:Option ByteArray),x.toList.isEmpty=false→(c=false→¬SpecOk s)→(c=true→Ret (o.bind fun r1=>some (r1.toList == (⟨#[]⟩:ByteArray).toList)) fun b=>b=true↔SpecOk s) →
   Ret ((if (!c)=true then some x else o).bind fun r1=>some (r1.toList == (⟨#[]⟩:ByteArray).toList)) fun b=>b=true↔SpecOk s:=fun c x o hx h1 h2=>by
  cases c with
  | false=>exact T x (by intro h; rw [h] at hx; cases hx) (h1 rfl)
  | true=>exact h2 rfl
 have nb:∀{b:Bool} {p:Prop},(b=true↔p)→b=false→¬p:=fun h e hp=>by rw [h.2 hp] at e; cases e
 refine step _ _ _ (by kernel_rfl) (fun e k=>nb h1 e k.nodes) fun c1=>?_
 refine step _ _ _ (by kernel_rfl) (fun e k=>nb h2 e k.parts) fun c2=>?_
 refine step _ _ _ (by kernel_rfl) (fun e k=>by have:=k.users; simp at e; omega) fun c3=>?_
 refine step _ _ _ (by kernel_rfl) (fun e k=>nb h4 e k.queues) fun c4=>?_
 refine step _ _ _ (by kernel_rfl) (fun e k=>nb h5 e k.weights) fun c5=>?_
 refine step _ _ _ (by kernel_rfl) (fun e k=>by have:=k.decay; simp at e; omega) fun c6=>?_
 refine step _ _ _ (by kernel_rfl) (fun e k=>by have:=k.mode; simp at e; omega) fun c7=>?_
 refine step _ _ _ (by kernel_rfl) (fun e k=>by have:=k.jobs; simp at e; omega) fun c8=>?_
 refine step _ _ _ (by kernel_rfl) (fun e k=>by have:=k.ids; simp at e; omega) fun c9=>?_
 refine step _ _ _ (by kernel_rfl) (fun e k=>by have:=k.versions; simp at e; omega) fun c10=>?_
 refine step _ _ _ (by kernel_rfl) (fun e k=>by have:=k.linger; simp at e; omega) fun c11=>?_
 refine step _ _ _ (by kernel_rfl) (fun e k=>by have:=k.keep; simp at e; omega) fun c12=>?_
 refine step _ _ _ (by kernel_rfl) (fun e k=>by have:=k.inn; simp at e; omega) fun c13=>?_
 refine step _ _ _ (by kernel_rfl) (fun e k=>by have:=k.out; simp at e; omega) fun c14=>?_
 refine step _ _ _ (by kernel_rfl) (fun e k=>by have:=k.cache; simp at e; omega) fun c15=>?_
 rw [Option.bind_some,zab]
 simp only [yCb,yBM]
 simp only [yAj,yAu,yAf,yAP] at c3 c6 c7 c8 c9 c10 c11 c12 c13 c14 c15
 exact ⟨h1.1 c1,h2.1 c2,c3,h4.1 c4,h5.1 c5,c6,c7,c8,c9,c10,c11,c12,c13,c14,c15⟩
theorem ref_right_n {n:Nat} (hN:15<n) {s:zad} {b1 b2 b4:Bool} (e1:zbH n s=some b1) (h1:b1=true↔NodesOk s) (e2:zbB n s=some b2) (h2:b2=true↔PartsOk s) (e4:zbn n s=some b4) (h4:b4=true↔QueuesOk s):zaY (zbz n s) (SpecOk s):=by
 simp only [zbz,drayageref07xFlaw,e1,e2,e4,Option.bind_some,zai,zbh]
 have key:∀w:Bool,(w=true↔WeightsOk s.Weights)→∀(L:List Bool) (M:List ByteArray),L=[b1,b2,decide (1≤s.Users)&&decide (s.Users≤8),b4,w,decide (1≤s.Decay)&&decide (s.Decay≤16),decide (1≤s.Mode)&&decide (s.Mode≤2),decide (1≤s.Jobs)&&decide (s.Jobs≤256),decide (1≤s.Ids)&&decide (s.Ids≤1048576),decide (1≤s.Versions)&&decide (s.Versions≤65536),decide (0≤s.Linger)&&decide (s.Linger≤65536),decide (1≤s.Keep)&&decide (s.Keep≤16),decide (1≤s.In)&&decide (s.In≤8),decide (1≤s.Out)&&decide (s.Out≤16),decide (0≤s.Cache)&&decide (s.Cache≤16)] →
   (∀x∈M,x.toList≠[])→M.length=15 →
   Ret ((lpX (fun (f18:Int→Option ByteArray) (x17:Int)=>if (decide (x17<15))=true then (at? L x17).bind fun a19=>if (!a19)=true then (at? M x17).bind fun a20=>some a20 else f18 (IntKind.i64.wrap (x17+1)) else some (⟨#[]⟩:ByteArray)) n 0).bind fun r1=>some (r1.toList == (⟨#[]⟩:ByteArray).toList)) fun b=>b=true↔SpecOk s:=by
  intro w hw L M hL hM hM15
  have hL15:L.length=15:=by rw [hL]; rfl
  have h15:(15:Int)=(L.length:Int):=by rw [hL15]; rfl
  have all:(∀x∈L,x=true)↔SpecOk s:=by
   rw [hL]
   simp only [yAt,yBd,yCc,forall_eq_or_imp,forall_eq,yAj,yAf]
   constructor
   ·rintro ⟨c1,c2,c3,c4,c5,c6,c7,c8,c9,c10,c11,c12,c13,c14,c15⟩
    exact ⟨h1.1 c1,h2.1 c2,c3,h4.1 c4,hw.1 c5,c6,by omega,c8,c9,c10,c11,c12,c13,c14,c15⟩
   ·intro k
    have:=k.mode
    exact ⟨h1.2 k.nodes,h2.2 k.parts,k.users,h4.2 k.queues,hw.2 k.weights,k.decay,by omega,k.jobs,k.ids,k.versions,k.linger,k.keep,k.inn,k.out,k.cache⟩
  rw [ret_bind,h15]
  have nil:(⟨#[]⟩:ByteArray).toList=[]:=by kernel_rfl
  refine lpA L (fun _ x=>x=true) (fun i f h _ hr=>?_) (fun f hA=>?_) (by omega)
  ·simp only [zb5 h,if_true,zao h,zao (l:=M) (show i<M.length by omega),Option.bind_some,wr1 (show i<1000000 by omega),zaf,zab,yAv,yA0,nil,yAP] at hr ⊢
   exact ⟨fun e=>⟨fun h'=>absurd h' (hM _ (yAo _)),fun k=>by have:=all.2 k _ (yAo h); rw [e] at this; cases this⟩,fun e=>hr e⟩
  ·simp only [zb7,yAg,yAy,zab,yCb,yBM]
   exact all.1 (zbP hA)
 have names:∀x∈([(⟨#[78,111,100,101,115]⟩:ByteArray),(⟨#[80,97,114,116,115]⟩:ByteArray),(⟨#[85,115,101,114,115]⟩:ByteArray),(⟨#[81,117,101,117,101,115]⟩:ByteArray),(⟨#[87,101,105,103,104,116,115]⟩:ByteArray),(⟨#[68,101,99,97,121]⟩:ByteArray),(⟨#[77,111,100,101]⟩:ByteArray),(⟨#[74,111,98,115]⟩:ByteArray),(⟨#[73,100,115]⟩:ByteArray),(⟨#[86,101,114,115,105,111,110,115]⟩:ByteArray),(⟨#[76,105,110,103,101,114]⟩:ByteArray),(⟨#[75,101,101,112]⟩:ByteArray),(⟨#[73,110]⟩:ByteArray),(⟨#[79,117,116]⟩:ByteArray),(⟨#[67,97,99,104,101]⟩:ByteArray)]:List ByteArray),x.toList≠[]:=by
  intro x hx
  simp only [yAt,yBd,yCc] at hx
  rcases hx with rfl | rfl | rfl | rfl | rfl | rfl | rfl | rfl | rfl | rfl | rfl | rfl | rfl | rfl | rfl <;> exact ne_of (by kernel_rfl)
 split
 ·rename_i w1
  split
  ·rename_i w2
   split
   ·rename_i w3
    refine key _ ?_ _ _ rfl names rfl
    simp only [yAj,yAf] at w1 w2 w3 ⊢
    exact ⟨fun w4=>⟨w1,w2,w3,w4⟩,fun k=>k.share⟩
   ·rename_i w3
    refine key _ ?_ _ _ rfl names rfl
    simp only [yAj,yAf] at w3
    simp only [yAg,yBo]
    exact fun k=>w3 k.qos
  ·rename_i w2
   refine key _ ?_ _ _ rfl names rfl
   simp only [yAj,yAf] at w2
   simp only [yAg,yBo]
   exact fun k=>w2 k.size
 ·rename_i w1
  refine key _ ?_ _ _ rfl names rfl
  simp only [yAj,yAf] at w1
  simp only [yAg,yBo]
  exact fun k=>w1 k.age
theorem ref_right (s:zad) (hs:FewS s):zaY (zbz 200000 s) (SpecOk s):=by
 obtain ⟨b1,e1,h1⟩:=ref_nodes s hs
 obtain ⟨b2,e2,h2⟩:=ref_parts s hs
 obtain ⟨b4,e4,h4⟩:=ref_queues s hs
 exact ref_right_n (by decide) e1 h1 e2 h2 e4 h4
end Go.Plain
end
section
namespace Go.Plain
open Go.Abs
structure CntL (L:List (Int×Int)) (k:Int):Prop where
 lo:0≤k
 hi:k≤64
 fit:∀p∈L,k * p.2≤p.1
 max:k<64→∃p∈L,p.1<(k+1) * p.2
theorem CntL.uniq {L:List (Int×Int)} {k k':Int} (hL:∀p∈L,0≤p.2) (h:CntL L k) (h':CntL L k'):k=k':=by
 have key:∀{a b:Int},CntL L a→CntL L b→¬a<b:=fun {a b} ha hb hlt=>by
  obtain ⟨p,hp,h1⟩:=ha.max (by have:=hb.hi; omega)
  have h2:=hb.fit p hp
  have h3:(a+1) * p.2≤b * p.2:=yBe (by omega) (hL p hp)
  omega
 have:=key h h'
 have:=key h' h
 omega
theorem CntL.nil:CntL [] 64:=⟨by omega,by omega,by simp,by simp⟩
def qm (n a b:Int):Int:=if b > 0 then (if a.tdiv b<n then a.tdiv b else n) else n
theorem CntL.step {L:List (Int×Int)} {k a b:Int} (h:CntL L k) (hL:∀p∈L,0≤p.2) (ha:0≤a) (hb:0≤b):CntL (L++[(a,b)]) (qm k a b):=by
 unfold qm
 have h1:=h.lo
 have h2:=h.hi
 split
 ·rename_i hb0
  rw [yBS ha]
  have e1:a / b * b≤a:=Int.ediv_mul_le a (by omega)
  have e2:a<(a / b+1) * b:=Int.lt_ediv_add_one_mul_self a hb0
  have e3:0≤a / b:=Int.ediv_nonneg ha (by omega)
  split
  ·rename_i hlt
   refine ⟨e3,by omega,fun p hp=>?_,fun _=>⟨(a,b),by simp,e2⟩⟩
   rcases yA7.1 hp with hp | hp
   ·have:=h.fit p hp
    have:a / b * p.2≤k * p.2:=yBe (by omega) (hL p hp)
    omega
   ·simp only [yAO] at hp; subst hp; exact e1
  ·rename_i hge
   refine ⟨h1,h2,fun p hp=>?_,fun hk=>?_⟩
   ·rcases yA7.1 hp with hp | hp
    ·exact h.fit p hp
    ·simp only [yAO] at hp; subst hp
     have:k * b≤a / b * b:=yBe (by omega) (by omega)
     dsimp only; omega
   ·obtain ⟨p,hp,q⟩:=h.max hk
    exact ⟨p,yB6 _ hp,q⟩
 ·rename_i hb0
  have:b=0:=by omega
  subst this
  refine ⟨h1,h2,fun p hp=>?_,fun hk=>?_⟩
  ·rcases yA7.1 hp with hp | hp
   ·exact h.fit p hp
   ·simp only [yAO] at hp; subst hp; simp; exact ha
  ·obtain ⟨p,hp,q⟩:=h.max hk
   exact ⟨p,yB6 _ hp,q⟩
theorem qm_pos {n a b:Int} (h:b > 0):qm n a b=if a.tdiv b<n then a.tdiv b else n:=by unfold qm; rw [if_pos h]
theorem qm_neg {n a b:Int} (h:¬b > 0):qm n a b=n:=by unfold qm; rw [if_neg h]
def prs (a b:zac):List (Int×Int):=[(a.Cpu,b.Cpu),(a.Mem,b.Mem),(a.Gpu,b.Gpu),(a.Lic,b.Lic)]
def cntV (a b:zac):Int:=qm (qm (qm (qm 64 a.Cpu b.Cpu) a.Mem b.Mem) a.Gpu b.Gpu) a.Lic b.Lic
theorem cntV_ok {a b:zac} (ha:VecOk a) (hb:VecOk b):CntL (prs a b) (cntV a b):=by
 have h0:=CntL.nil
 have h1:=h0.step (by simp) ha.cpu.1 hb.cpu.1
 have h2:=h1.step (by simp; exact hb.cpu.1) ha.mem.1 hb.mem.1
 have h3:=h2.step (by simp; exact ⟨hb.cpu.1,hb.mem.1⟩) ha.gpu.1 hb.gpu.1
 have h4:=h3.step (by simp; exact ⟨hb.cpu.1,hb.mem.1,hb.gpu.1⟩) ha.lic.1 hb.lic.1
 exact h4
theorem w1:IntKind.i64.wrap (0+1)=1:=rfl
theorem w2:IntKind.i64.wrap (1+1)=2:=rfl
theorem w3:IntKind.i64.wrap (2+1)=3:=rfl
theorem w4:IntKind.i64.wrap (3+1)=4:=rfl
theorem wq {a b:Int} (ha:0≤a∧a≤1048576) (hb:0<b):quo? .i64 a b=some (a.tdiv b):=by
 unfold quo?
 rw [if_neg (by omega)]
 have e3:0≤a / b:=Int.ediv_nonneg ha.1 (by omega)
 have e4:a / b≤a:=Int.ediv_le_self b ha.1
 rw [yBS ha.1,wr (by omega) (by omega)]
def stc (a b:zac):Nat→Int
 | 0=>64
 | 1=>qm 64 a.Cpu b.Cpu
 | 2=>qm (qm 64 a.Cpu b.Cpu) a.Mem b.Mem
 | 3=>qm (qm (qm 64 a.Cpu b.Cpu) a.Mem b.Mem) a.Gpu b.Gpu
 | _=>cntV a b
theorem count {a b:zac} (ha:VecOk a) (hb:VecOk b) (hz:b≠zeroR):vec_Count 200000 a b=some (cntV a b):=by
 obtain ⟨r1,e1,h1⟩:=vec_right a
 obtain ⟨r2,e2,h2⟩:=vec_right b
 have t1:=h1.2 ha
 have t2:=h2.2 hb
 subst t1 t2
 have hz':zac.beq b zeroR=false:=by
  cases h:zac.beq b zeroR with
  | false=>rfl
  | true=>exact absurd (beq_res.1 h) hz
 simp only [vec_Count,zbh,e1,e2,Option.bind_some,yBa,yAg,yAy,Bool.false_or,vec_numbers]
 change (if zac.beq b zeroR=true then some 0 else _)=_
 rw [hz']
 simp only [yAg,yAy]
 refine Ret.eq (lpS 4 (fun i x=>x=(stc a b i,(i:Int))) (fun i x f hi hx hr=>?_) (fun x f hx=>?_) rfl (by omega))
 ·subst hx
  rcases (show i=0∨i=1∨i=2∨i=3 by omega) with rfl | rfl | rfl | rfl
  ·rw [show ((0:Nat):Int)=0 from rfl]
   simp only [show decide ((0:Int)<4)=true from rfl,if_true,at4x0,Option.bind_some,w1,zaf,yAf]
   refine ⟨fun hb'=>?_,fun hb'=>hr _ (by simp [stc,qm,hb'])⟩
   rw [wq ha.cpu hb',Option.bind_some]
   exact hr _ (by simp [stc,qm,hb'])
  ·rw [show ((1:Nat):Int)=1 from rfl]
   simp only [show decide ((1:Int)<4)=true from rfl,if_true,at4x1,Option.bind_some,w2,zaf,yAf]
   refine ⟨fun hb'=>?_,fun hb'=>hr _ (by simp only [stc,cntV,qm_neg hb']; rfl)⟩
   rw [wq ha.mem hb',Option.bind_some]
   exact hr _ (by simp only [stc,cntV,qm_pos hb']; rfl)
  ·rw [show ((2:Nat):Int)=2 from rfl]
   simp only [show decide ((2:Int)<4)=true from rfl,if_true,at4x2,Option.bind_some,w3,zaf,yAf]
   refine ⟨fun hb'=>?_,fun hb'=>hr _ (by simp only [stc,cntV,qm_neg hb']; rfl)⟩
   rw [wq ha.gpu hb',Option.bind_some]
   exact hr _ (by simp only [stc,cntV,qm_pos hb']; rfl)
  ·rw [show ((3:Nat):Int)=3 from rfl]
   simp only [show decide ((3:Int)<4)=true from rfl,if_true,at4x3,Option.bind_some,w4,zaf,yAf]
   refine ⟨fun hb'=>?_,fun hb'=>hr _ (by simp only [stc,cntV,qm_neg hb']; rfl)⟩
   rw [wq ha.lic hb',Option.bind_some]
   exact hr _ (by simp only [stc,cntV,qm_pos hb']; rfl)
 ·subst hx
  simp only [show decide (((4:Nat):Int)<4)=false from rfl,yAg,yAy,zab]
  rfl
theorem fits_zero {b:zac} (hb:VecOk b):zax 200000 b zeroR=some (decide (b=zeroR)):=by
 simp only [zax,yAa]
 have:=hb.cpu; have:=hb.mem; have:=hb.gpu; have:=hb.lic
 rw [Bool.eq_iff_iff]
 simp only [yAj,yAf]
 obtain ⟨b1,b2,b3,b4⟩:=b
 simp only [zeroR,zac.mk.injEq]
 simp only at *
 omega
theorem ref_count {a b:zac} (ha:VecOk a) (hb:VecOk b) (hz:b≠zeroR):zby 200000 a b=some (cntV a b):=by
 obtain ⟨r1,e1,h1⟩:=ref_vec a
 obtain ⟨r2,e2,h2⟩:=ref_vec b
 have t1:=h1.2 ha
 have t2:=h2.2 hb
 subst t1 t2
 simp only [zby,zbh,e1,e2,Option.bind_some,yBa,yAg,yAy]
 have hf:zax 200000 b ({ Cpu:=0,Mem:=0,Gpu:=0,Lic:=0 }:zac)=some (decide (b=zeroR)):=fits_zero hb
 rw [hf]
 simp only [Option.bind_some,hz,decide_false,yAg,yAy]
 have hc:=ha.cpu; have hm:=ha.mem; have hg:=ha.gpu; have hl:=ha.lic
 have hc':=hb.cpu; have hm':=hb.mem; have hg':=hb.gpu; have hl':=hb.lic
 have hL:∀p∈prs a b,0≤p.2:=by
  intro p hp
  simp only [prs,yAt,yBd,yCc] at hp
  rcases hp with rfl | rfl | rfl | rfl
  ·exact hc'.1
  ·exact hm'.1
  ·exact hg'.1
  ·exact hl'.1
 have done:∀k:Int,CntL (prs a b) k→k=cntV a b:=fun k hk=>hk.uniq hL (cntV_ok ha hb)
 have mulb:∀{i:Nat} {y:Int},i≤65→0≤y∧y≤1048576→0≤(i:Int) * y∧(i:Int) * y≤68157440:=fun {i y} hi hy=>by
  have h1:0≤(i:Int) * y:=yBC (by omega) hy.1
  have h2:(i:Int) * y≤65 * y:=yBe (by omega) hy.1
  omega
 refine Ret.eq (lpS 64 (fun i x=>x=((i:Int),((i+1:Nat):Int) * b.Cpu,((i+1:Nat):Int) * b.Mem,((i+1:Nat):Int) * b.Gpu,((i+1:Nat):Int) * b.Lic)∧∀p∈prs a b,(i:Int) * p.2≤p.1) (fun i x f hi hx hr=>?_) (fun x f hx=>?_) ⟨by simp,fun p hp=>?_⟩ (by omega))
 ·obtain ⟨rfl,hA⟩:=hx
  have m1:=mulb (i:=i+1) (by omega) hc'
  have m2:=mulb (i:=i+1) (by omega) hm'
  have m3:=mulb (i:=i+1) (by omega) hg'
  have m4:=mulb (i:=i+1) (by omega) hl'
  have n1:∀y:Int,((i+1:Nat):Int) * y+y=((i+1+1:Nat):Int) * y:=fun y=>by
   rw [show ((i+1+1:Nat):Int)=((i+1:Nat):Int)+1 by omega,Int.add_mul,Int.one_mul]
  simp only [show decide ((i:Int)<64)=true by simp; omega,if_true,zax,Option.bind_some,zbf,zaf,zab,yAj,yAf,wr1 (show i<1000000 by omega)]
  rw [wr (by omega) (by omega),wr (by omega) (by omega),wr (by omega) (by omega),wr (by omega) (by omega),n1,n1,n1,n1]
  refine ⟨fun h=>hr _ ⟨rfl,fun p hp=>?_⟩,fun h=>done _ ⟨by omega,by omega,hA,fun _=>?_⟩⟩
  ·simp only [prs,yAt,yBd,yCc] at hp
   rcases hp with rfl | rfl | rfl | rfl
   ·exact h.1.1.1
   ·exact h.1.1.2
   ·exact h.1.2
   ·exact h.2
  ·rw [show ((i:Int)+1)=((i+1:Nat):Int) by omega]
   by_cases q1:a.Cpu<((i+1:Nat):Int) * b.Cpu
   ·exact ⟨(a.Cpu,b.Cpu),by simp [prs],q1⟩
   by_cases q2:a.Mem<((i+1:Nat):Int) * b.Mem
   ·exact ⟨(a.Mem,b.Mem),by simp [prs],q2⟩
   by_cases q3:a.Gpu<((i+1:Nat):Int) * b.Gpu
   ·exact ⟨(a.Gpu,b.Gpu),by simp [prs],q3⟩
   by_cases q4:a.Lic<((i+1:Nat):Int) * b.Lic
   ·exact ⟨(a.Lic,b.Lic),by simp [prs],q4⟩
   exact absurd ⟨⟨⟨by omega,by omega⟩,by omega⟩,by omega⟩ h
 ·obtain ⟨rfl,hA⟩:=hx
  simp only [show decide (((64:Nat):Int)<64)=false from rfl,yAg,yAy,zab]
  exact done _ ⟨by omega,by omega,hA,fun h=>by omega⟩
 ·simp only [prs,yAt,yBd,yCc] at hp
  rcases hp with rfl | rfl | rfl | rfl <;> simp <;> omega
def roomV (s:zad) (l:List Int) (need:zac):Int:=(l.map fun n=>cntV ((s.Nodes[n.toNat]?).getD zeroR) need).sum
theorem cnt_bd {a b:zac} (ha:VecOk a) (hb:VecOk b):0≤cntV a b∧cntV a b≤64:=⟨(cntV_ok ha hb).lo,(cntV_ok ha hb).hi⟩
theorem room_loop {s:zad} {need:zac} (k:SpecOk s) (hn:VecOk need) (hz:need≠zeroR) {l:List Int} (hl:l.length≤300) (hr:Rises l s.Nodes.length) (C:zac→Option Int) (hC:∀a,VecOk a→C a=some (cntV a need)) :
  lpX (fun (f4:Int×Int→Option Int) (x3:Int×Int)=>if (decide (x3.2<(l.length:Int)))=true then (at? l x3.2).bind fun a5=>(at? s.Nodes a5).bind fun a6=>(C a6).bind fun r7=>f4 ((IntKind.i64.wrap (x3.1+r7)),(IntKind.i64.wrap (x3.2+1))) else some x3.1) 200000 (0,0)=some (roomV s l need):=by
 have bd:∀(m:List Int),(∀x∈m,x∈l)→0≤roomV s m need∧roomV s m need≤64 * m.length:=by
  intro m
  induction m with
  | nil=>intro _; simp [roomV]
  | cons x m ih =>
   intro h
   have i1:=ih fun y hy=>h y (yAk _ hy)
   have q:=hr.mem x (h x (yAq ..))
   have hx:x.toNat<s.Nodes.length:=by omega
   have:=cnt_bd (k.nodes.ok (s.Nodes[x.toNat]) (yAo hx)) hn
   simp only [roomV,yA3,List.sum_cons,yAi hx,Option.getD_some,List.length_cons] at i1 ⊢
   omega
 refine Ret.eq (lpS l.length (fun i x=>x=(roomV s (l.take i) need,(i:Int))) (fun i x f hi hx hr'=>?_) (fun x f hx=>?_) (by simp [roomV]) (by omega))
 ·subst hx
  have q:=hr.mem l[i] (yAo hi)
  obtain ⟨hx,e⟩:=at_int q.1 q.2
  have c:=cnt_bd (k.nodes.ok (s.Nodes[l[i].toNat]) (yAo hx)) hn
  have b:=bd (l.take i) fun x hx=>yBc hx
  have b2:((l.take i).length:Int)≤300:=by rw [yA6]; omega
  simp only [zb5 hi,if_true,zao hi,Option.bind_some,e,hC _ (k.nodes.ok _ (yAo hx)),wr1 (show i<1000000 by omega)]
  rw [wr (by omega) (by omega)]
  refine hr' _ ?_
  congr 1
  rw [yBm hi]
  simp only [roomV,yBD,yA3,yCh,List.sum_append,List.sum_cons,List.sum_nil,yAi hx,Option.getD_some]
  omega
 ·subst hx
  simp only [zb7,yAg,yAy,zab,yBq]
theorem fits_eq {s:zad} (hs:FewS s) (k:SpecOk s) {q m:Int} {need:zac} (hn:VecOk need) (hz:need≠zeroR):∃b,spec_Fits 200000 s q m need=some b∧zbK 200000 s q m need=some b:=by
 obtain ⟨r1,e1,h1⟩:=spec_right s hs
 have t1:=h1.2 k
 subst t1
 by_cases hq:0≤q∧q<s.Queues.length∧1≤m
 ·obtain ⟨hx,e⟩:=at_int hq.1 hq.2.1
  have kq:=k.queues.ok _ (yAo hx)
  obtain ⟨hp,e2⟩:=at_int kq.part.1 kq.part.2
  have kp:=k.parts.ok _ (yAo hp)
  have lp:=hs.part _ (yAo hp)
  refine ⟨decide (roomV s (s.Parts[s.Queues[q.toNat].Part.toNat]) need≥m),?_,?_⟩
  ·simp only [spec_Fits,e1,Option.bind_some]
   rw [if_neg (by simp; omega),e,Option.bind_some]
   simp only [spec_Room,e1,Option.bind_some]
   rw [if_neg (by have:=kq.part; simp; omega),e2,Option.bind_some]
   have:=room_loop k hn hz (yAB lp (by decide)) kp.2 (fun a=>vec_Count 200000 a need) (fun a ha=>count ha hn hz)
   rw [this,Option.bind_some]
  ·simp only [zbK]
   rw [if_pos (by simp; omega),e,Option.bind_some]
   simp only [drayageref07xRoom]
   rw [if_neg (by have:=kq.part; simp; omega)]
   simp only [e2,Option.bind_some]
   have:=room_loop k hn hz (yAB lp (by decide)) kp.2 (fun a=>zby 200000 a need) (fun a ha=>ref_count ha hn hz)
   rw [this,Option.bind_some]
 ·refine ⟨false,?_,?_⟩
  ·simp only [spec_Fits,e1,Option.bind_some]
   rw [if_pos (by simp; omega)]
  ·simp only [zbK]
   rw [if_neg (by simp; omega)]
end Go.Plain
end
section
namespace Go.Plain
open Go.Abs
structure StateOk (j:zam):Prop where
 st:1≤j.State∧j.State≤6
 start:j.Start≠0→3≤j.State
 fin:j.End≠0→5≤j.State
 ok:j.Ok=true→j.State=4∨j.State=5
 kill:j.Kill=true→j.State=4∨j.State=6
structure JobOk (j:zam):Prop where
 id:1≤j.Id∧j.Id≤1048576
 user:0≤j.User∧j.User≤7
 queue:0≤j.Queue∧j.Queue≤7
 many:1≤j.Many∧j.Many≤64
 need:VecOk j.Need
 needz:j.Need≠zeroR
 wall:1≤j.Wall∧j.Wall≤65536
 afterN:j.After.length≤4
 after:∀d∈j.After,1≤d.Job∧d.Job≤j.Id-1
 version:1≤j.Version∧j.Version≤281474976710656
 born:0≤j.Born∧j.Born≤1099511627776
 start:0≤j.Start∧j.Start≤1099511627776
 fin:0≤j.End∧j.End≤1099511627776
 arr:0≤j.Array∧j.Array≤j.Id
 state:StateOk j
theorem name_ok (x:Int):Ret (life_Name 200000 x) fun r=>r.toList=[]↔¬(1≤x∧x≤6):=by
 simp only [life_Name,zaf,zab,yAP]
 have e:(⟨#[]⟩:ByteArray).toList=[]:=by kernel_rfl
 refine ⟨fun h=>?_,fun h1=>⟨fun h=>?_,fun h2=>⟨fun h=>?_,fun h3=>⟨fun h=>?_,fun h4=>⟨fun h=>?_,fun h5=>⟨fun h=>?_,fun h6=>?_⟩⟩⟩⟩⟩⟩
 ·exact ⟨fun q=>absurd q (ne_of (by kernel_rfl)),fun q=>by omega⟩
 ·exact ⟨fun q=>absurd q (ne_of (by kernel_rfl)),fun q=>by omega⟩
 ·exact ⟨fun q=>absurd q (ne_of (by kernel_rfl)),fun q=>by omega⟩
 ·exact ⟨fun q=>absurd q (ne_of (by kernel_rfl)),fun q=>by omega⟩
 ·exact ⟨fun q=>absurd q (ne_of (by kernel_rfl)),fun q=>by omega⟩
 ·exact ⟨fun q=>absurd q (ne_of (by kernel_rfl)),fun q=>by omega⟩
 ·exact ⟨fun _=>by omega,fun _=>e⟩
theorem state_right (j:zam):zaY (job_stateRight 200000 j) (StateOk j):=by
 have e:(⟨#[]⟩:ByteArray).toList=[]:=by kernel_rfl
 simp only [job_stateRight,zbh]
 refine (name_ok j.State).bind fun r hr=>?_
 have no:∀{p:Prop},¬p→(false=true↔p):=fun h=>by simp [h]
 rw [zaf]
 refine ⟨fun h=>?_,fun h=>?_⟩
 ·rw [zab]
  simp only [e,yAP] at h
  exact no fun k=>hr.1 h k.st
 ·simp only [e,yAP] at h
  have hs:1≤j.State∧j.State≤6:=yBY fun hn=>h (hr.2 hn)
  simp only [life_Waits,life_Over,Option.bind_some,yAg,yAy]
  have fin:∀Q:Prop,(Q↔((j.Ok=true→j.State=4∨j.State=5)∧(j.Kill=true→j.State=4∨j.State=6)→StateOk j)∧True)→True:=fun _ _=>trivial
  have tail:(j.Start≠0→3≤j.State)→(j.End≠0→5≤j.State)→Ret (if ((j.Ok&&(j.State != 4))&&(j.State != 5))=true then some false else if ((j.Kill&&(j.State != 4))&&(j.State != 6))=true then some false else some true) fun b=>b=true↔StateOk j:=fun g1 g2=>by
   simp only [zaf,zab,yAj,yBp,ne_eq]
   refine ⟨fun q=>no fun k=>by have:=k.ok q.1.1; omega,fun q1=>⟨fun q=>no fun k=>by have:=k.kill q.1.1; omega,fun q2=>?_⟩⟩
   simp only [yBM]
   refine ⟨hs,g1,g2,fun o=>?_,fun o=>?_⟩
   ·exact yBY fun hn=>q1 ⟨⟨o,by omega⟩,by omega⟩
   ·exact yBY fun hn=>q2 ⟨⟨o,by omega⟩,by omega⟩
  have mid:(j.Start≠0→3≤j.State)→Ret (if (j.End != 0)=true then (if (!((j.State == 5) || (j.State == 6)))=true then some false else if ((j.Ok&&(j.State != 4))&&(j.State != 5))=true then some false else if ((j.Kill&&(j.State != 4))&&(j.State != 6))=true then some false else some true) else if ((j.Ok&&(j.State != 4))&&(j.State != 5))=true then some false else if ((j.Kill&&(j.State != 4))&&(j.State != 6))=true then some false else some true) fun b=>b=true↔StateOk j:=fun g1=>by
   rw [zaf]
   refine ⟨fun q=>?_,fun q=>tail g1 fun q'=>absurd q' (by simpa using q)⟩
   rw [zaf]
   refine ⟨fun q2=>?_,fun q2=>tail g1 fun _=>?_⟩
   ·rw [zab]
    simp only [yBp,ne_eq,yAv,yBU,beq_eq_false_iff_ne] at q q2
    exact no fun k=>by have:=k.fin q; omega
   ·simp only [yAv,yBU,beq_eq_false_iff_ne] at q2
    omega
  rw [zaf]
  refine ⟨fun q=>?_,fun q=>mid fun q'=>absurd q' (by simpa using q)⟩
  rw [zaf]
  refine ⟨fun q2=>?_,fun q2=>mid fun _=>?_⟩
  ·rw [zab]
   simp only [yBp,ne_eq,yAu,yAP] at q q2
   exact no fun k=>by have:=k.start q; omega
  ·simp only [yAu,yAP] at q2
   omega
theorem job_right (j:zam):zaY (job_Right 200000 j) (JobOk j):=by
 have no:∀{p:Prop},¬p→Ret (some false) (fun b=>b=true↔p):=fun h=>by rw [zab]; simp [h]
 simp only [job_Right,zbe,Option.bind_some]
 have hin:∀{lo hi x:Int} {o:Option Bool} {P:Prop},(P→lo≤x∧x≤hi)→(lo≤x∧x≤hi→Ret o fun b=>b=true↔P)→Ret (if (decide (lo≤x)&&decide (x≤hi))=true then o else some false) fun b=>b=true↔P:=fun h1 h2=>by
  rw [zaf]
  simp only [yAj,yAf]
  exact ⟨fun h=>h2 h,fun h=>no fun p=>h (h1 p)⟩
 refine hin (fun k=>k.id) fun c1=>hin (fun k=>k.user) fun c2=>hin (fun k=>k.queue) fun c3=>hin (fun k=>k.many) fun c4=>?_
 refine (vec_right j.Need).bind fun r hr=>?_
 rw [zaf]
 refine ⟨fun h=>?_,fun h=>no fun k=>h ?_⟩
 rotate_left
 ·have hz:zac.beq j.Need zeroR=false:=by
   cases h:zac.beq j.Need zeroR with
   | false=>rfl
   | true=>exact absurd (beq_res.1 h) k.needz
  rw [hr.2 k.need]
  change (true&&!(zac.beq j.Need zeroR))=true
  rw [hz]
  rfl
 simp only [yAj,yAv] at h
 have c5:=hr.1 h.1
 have c5z:j.Need≠zeroR:=fun e=>by
  have h2:zac.beq j.Need zeroR=false:=h.2
  rw [beq_res.2 e] at h2; cases h2
 refine hin (fun k=>k.wall) fun c6=>?_
 have after:zaY (job_afterRight 200000 j) (j.After.length≤4∧∀d∈j.After,1≤d.Job∧d.Job≤j.Id-1):=by
  simp only [job_afterRight,zaf,zab,zbe,Option.bind_some]
  refine ⟨fun h=>?_,fun h=>?_⟩
  ·simp only [yAf] at h
   simp only [yAg,yBo]
   exact fun k=>by omega
  ·simp only [yAf] at h
   refine lpC j.After (fun d=>1≤d.Job∧d.Job≤j.Id-1) _ (fun k=>k.2) (fun i f h' Q h1 h2=>?_) (fun f hA=>?_) (by omega)
   ·simp only [zb5 h',if_true,zao h',Option.bind_some,wr1 (show i<1000000 by omega),zaf,zab,yAv,yBt,yBg]
    rw [wr (by omega) (by omega)]
    exact ⟨fun e=>h2 (by omega),fun e=>h1 (by omega)⟩
   ·simp only [zb7,yAg,yAy,zab,yBM]
    exact ⟨by omega,hA⟩
 refine after.bind fun ra ha=>?_
 rw [zaf]
 refine ⟨fun h=>?_,fun h=>no fun k=>h (ha.2 ⟨k.afterN,k.after⟩)⟩
 have c7:=ha.1 h
 refine hin (fun k=>k.version) fun c8=>hin (fun k=>k.born) fun c9=>hin (fun k=>k.start) fun c10=>hin (fun k=>k.fin) fun c11=>hin (fun k=>k.arr) fun c12=>?_
 refine (state_right j).bind fun rs hs=>?_
 rw [zab,hs]
 exact ⟨fun k=>⟨c1,c2,c3,c4,c5,c5z,c6,c7.1,c7.2,c8,c9,c10,c11,c12,k⟩,fun k=>k.state⟩
theorem ref_job_right (j:zam) (hl:j.After.length≤10):zaY (zcf 200000 j) (JobOk j):=by
 simp only [zcf,zbh,zay,Option.bind_some]
 refine lpC j.After (fun d=>1≤d.Job∧d.Job≤IntKind.i64.wrap (j.Id-1)) _ (fun k d hd=>by have:=k.after d hd; have:=k.id; rw [wr (by omega) (by omega)]; omega) (fun i f h' Q h1 h2=>?_) (fun f hA=>?_) (by omega)
 ·simp only [zb5 h',if_true,zao h',Option.bind_some,wr1 (show i<1000000 by omega),zaf,zab,yAv,yBt,yBg]
  exact ⟨fun e=>h2 (by omega),fun e=>h1 (by omega)⟩
 ·simp only [zb7,yAg,yAy]
  obtain ⟨r1,e1,h1⟩:=ref_vec j.Need
  simp only [e1,Option.bind_some]
  have no:∀{p:Prop},¬p→(False↔p):=fun h=>by simp [h]
  simp only [if_true,yAy,zaf,zab,yAf,yAv,yBt,yBg,yAj,yAg,yA0,yBp,ne_eq,yAu,yAP]
  refine ⟨fun c=>no fun k=>by have:=k.afterN; omega,fun c0=>⟨fun c=>no fun k=>by have:=k.id; omega,fun c1=>⟨fun c=>no fun k=>by have:=k.user; omega,fun c2=>⟨fun c=>no fun k=>by have:=k.queue; omega,fun c3=>⟨fun c=>no fun k=>by have:=k.many; omega,fun c4=>⟨fun c=>no fun k=>(by have:=h1.2 k.need; rw [c] at this; cases this),fun c5=>?_⟩⟩⟩⟩⟩⟩
  have v:=h1.1 c5
  have hf:zax 200000 j.Need ({ Cpu:=0,Mem:=0,Gpu:=0,Lic:=0 }:zac)=some (decide (j.Need=zeroR)):=fits_zero v
  simp only [if_true,yAy,hf,Option.bind_some,zaf,zab,yAf,yAv,yBt,yBg,yAj,yAg,yA0,yBp,ne_eq,yAu,yAP]
  refine ⟨fun c=>no fun k=>k.needz c,fun c6=>⟨fun c=>no fun k=>by have:=k.wall; omega,fun c7=>⟨fun c=>no fun k=>by have:=k.state.st; omega,fun c8=>⟨fun c=>no fun k=>by have:=k.version; omega,fun c9=>⟨fun c=>no fun k=>by have:=k.arr; omega,fun c10=>⟨fun c=>no fun k=>by have:=k.born; omega,fun c11=>⟨fun c=>no fun k=>by have:=k.start; omega,fun c12=>⟨fun c=>no fun k=>by have:=k.fin; omega,fun c13=>⟨fun c=>no fun k=>by have:=k.state.start; omega,fun c14=>⟨fun c=>no fun k=>by have:=k.state.fin; omega,fun c15=>⟨fun c16=>?_,fun c=>no fun k=>c ?_⟩⟩⟩⟩⟩⟩⟩⟩⟩⟩⟩
  ·constructor
   ·intro c17
    refine ⟨by omega,by omega,by omega,by omega,v,c6,by omega,by omega,fun d hd=>?_,by omega,by omega,by omega,by omega,by omega,⟨by omega,by omega,by omega,fun o=>?_,fun o=>?_⟩⟩
    ·have:=hA d hd
     rw [wr (by omega) (by omega)] at this
     exact this
    ·rcases c16 with (c | c) | c
     ·rw [o] at c; cases c
     ·exact .inl c
     ·exact .inr c
    ·rcases c17 with (c | c) | c
     ·rw [o] at c; cases c
     ·exact .inl c
     ·exact .inr c
   ·intro k
    cases hk:j.Kill with
    | false=>exact .inl (.inl rfl)
    | true =>
     rcases k.state.kill hk with c | c
     ·exact .inl (.inr c)
     ·exact .inr c
  ·cases hk:j.Ok with
   | false=>exact .inl (.inl rfl)
   | true =>
    rcases k.state.ok hk with c | c
    ·exact .inl (.inr c)
    ·exact .inr c
end Go.Plain
end
section
namespace Go.Plain
open Go.Abs
section
variable {X R:Type} {b:(X→Option R)→X→Option R} {Q:R→Prop}
theorem lpM (I:X→Prop) (m:X→Nat) (hs:∀x f,I x→(∀x',I x'→m x'<m x→Ret (f x') Q)→Ret (b f x) Q) {x0:X} (h0:I x0) {N:Nat} (hN:m x0<N):Ret (lpX b N x0) Q:=by
 induction N generalizing x0 with
 | zero=>omega
 | succ N ih=>exact hs x0 _ h0 fun x' hx' hlt=>ih hx' (by omega)
end
theorem mid {i j:Nat} (h:i+j<1000000):IntKind.i64.wrap (Int.fdiv (IntKind.u64.wrap (IntKind.i64.wrap ((i:Int)+(j:Int)))) (2 ^ 1))=(((i+j) / 2:Nat):Int):=by
 rw [wr (x:=(i:Int)+(j:Int)) (by omega) (by omega)]
 have hu:IntKind.u64.wrap ((i:Int)+(j:Int))=(i:Int)+(j:Int):=by
  simp only [IntKind.wrap,IntKind.bits,IntKind.signed]
  simp
  omega
 rw [hu,Int.fdiv_eq_ediv_of_nonneg _ (by decide)]
 have:((i:Int)+(j:Int)) / 2 ^ 1=(((i+j) / 2:Nat):Int):=by omega
 rw [this,wr (by omega) (by omega)]
def SortedJ (l:List zam):Prop:=∀i (h:i+1<l.length),l[i].Id<l[i+1].Id
theorem SortedJ.lt {l:List zam} (h:SortedJ l):∀{i j:Nat} (hij:i<j) (hj:j<l.length),l[i].Id<l[j].Id:=by
 intro i j hij hj
 induction j with
 | zero=>omega
 | succ j ih =>
  have h1:=h j hj
  rcases yBb (yBv.1 hij) with h2 | h2
  ·have:=ih h2 (by omega); omega
  ·subst h2; exact h1
theorem SortedJ.inj {l:List zam} (h:SortedJ l) {i j:Nat} (hi:i<l.length) (hj:j<l.length) (e:l[i].Id=l[j].Id):i=j:=by
 rcases yBE i j with h1 | h1 | h1
 ·have:=h.lt h1 hj; omega
 ·exact h1
 ·have:=h.lt h1 hi; omega
structure At (l:List zam) (id:Int) (r:Int):Prop where
 lo:0≤r
 hi:r.toNat<l.length
 is:l[r.toNat].Id=id
theorem At.mem {l:List zam} {id r:Int} (h:At l id r):∃j∈l,j.Id=id:=⟨l[r.toNat]'h.hi,yAo _,h.is⟩
theorem At.uniq {l:List zam} {id r r':Int} (hs:SortedJ l) (h:At l id r) (h':At l id r'):r=r':=by
 have:=hs.inj h.hi h'.hi (by rw [h.is,h'.is])
 have:=h.lo; have:=h'.lo
 omega
theorem half {l:List zam} (hl:l.length≤300) (hs:SortedJ l) (id:Int) {R:Type} {Q:R→Prop} (C:zam→Option Bool) (hC:∀j∈l,C j=some (decide (j.Id<id))) (E:Int→Option R)
  (hE:∀i:Nat,i≤l.length→(∀k (h:k<l.length),k<i→l[k].Id<id)→(∀k (h:k<l.length),i≤k→id≤l[k].Id)→Ret (E (i:Int)) Q) :
  ∀ (b : (Int × Int → Option R) → Int × Int → Option R), (∀ f x, b f x = if decide (x.1 < x.2) = true then (at? l (IntKind.i64.wrap (Int.fdiv (IntKind.u64.wrap (IntKind.i64.wrap (x.1 + x.2))) (2 ^ 1)))).bind fun a => (C a).bind fun c => if c = true then f ((IntKind.i64.wrap ((IntKind.i64.wrap (Int.fdiv (IntKind.u64.wrap (IntKind.i64.wrap (x.1 + x.2))) (2 ^ 1))) + 1)), x.2) else f (x.1, (IntKind.i64.wrap (Int.fdiv (IntKind.u64.wrap (IntKind.i64.wrap (x.1 + x.2))) (2 ^ 1)))) else E x.1) →
   Ret (lpX b 200000 (0,(l.length:Int))) Q:=by
 intro b hb
 refine lpM (fun x=>∃i j:Nat,x=((i:Int),(j:Int))∧i≤j∧j≤l.length∧(∀k (h:k<l.length),k<i→l[k].Id<id)∧(∀k (h:k<l.length),j≤k→id≤l[k].Id)) (fun x=>(x.2-x.1).toNat) (fun x f hx hr=>?_) ⟨0,l.length,rfl,by omega,by omega,fun k h hk=>by omega,fun k h hk=>by omega⟩ (by dsimp only; omega)
 obtain ⟨i,j,rfl,h1,h2,h3,h4⟩:=hx
 rw [hb,zaf]
 dsimp only
 refine ⟨fun h=>?_,fun h=>?_⟩
 ·simp only [yAf] at h
  rw [mid (by omega)]
  have hm:(i+j) / 2<l.length:=by omega
  rw [zao hm,Option.bind_some,hC _ (yAo hm),Option.bind_some,zaf]
  refine ⟨fun hc=>?_,fun hc=>?_⟩
  ·simp only [yAf] at hc
   rw [wr1 (by omega)]
   refine hr _ ⟨(i+j) / 2+1,j,rfl,by omega,h2,fun k hk hki=>?_,h4⟩ (by dsimp only; omega)
   rcases yBb (yBv.1 hki) with q | q
   ·have:=hs.lt q hm; omega
   ·subst q; exact hc
  ·simp only [yAf] at hc
   refine hr _ ⟨i,(i+j) / 2,rfl,by omega,by omega,h3,fun k hk hki=>?_⟩ (by dsimp only; omega)
   rcases yBb hki with q | q
   ·have:=hs.lt q hk; omega
   ·subst q; omega
 ·simp only [yAf] at h
  have:i=j:=by omega
  subst this
  exact hE i h2 h3 h4
theorem find_ok {l:List zam} (hl:l.length≤300) (hs:SortedJ l) {id:Int} (hid:0≤id∧id≤1048576) (hj:∀j∈l,0≤j.Id∧j.Id≤1048576):Ret (store_find 200000 l id) fun r=>(r.2=true↔∃j∈l,j.Id=id)∧(r.2=true→At l id r.1):=by
 simp only [store_find,zas]
 rw [ret_bind]
 refine half hl hs id (fun j=>some (decide (IntKind.i64.wrap (j.Id-id)<0))) (fun j hm=>?_) (fun i=>if (decide (i<(l.length:Int)))=true then (at? l i).bind fun a5=>(store_find_1 200000 a5 id).bind fun r6=>some (i,(r6 == 0)) else some (i,false)) (fun i hi h1 h2=>?_) _ (fun f x=>rfl)
 ·have:=hj j hm
  rw [wr (by omega) (by omega)]
  congr 1
  rw [Bool.eq_iff_iff]
  simp only [yAf]
  omega
 ·rw [zaf]
  refine ⟨fun h=>?_,fun h=>?_⟩
  ·simp only [yAf] at h
   have hi':i<l.length:=by omega
   have:=hj _ (yAo hi')
   rw [zao hi',Option.bind_some]
   simp only [store_find_1,Option.bind_some,zab,yAP]
   rw [wr (by omega) (by omega)]
   refine ⟨⟨fun e=>⟨_,yAo hi',by omega⟩,fun ⟨j,hm,e⟩=>?_⟩,fun e=>⟨by omega,by simpa using hi',by simp; omega⟩⟩
   obtain ⟨k,hk,rfl⟩:=yAD hm
   rcases yBE k i with q | q | q
   ·have:=h1 k hk q; omega
   ·subst q; omega
   ·have:=hs.lt q hk; have:=h2 i hi' (by omega); omega
  ·simp only [yAf] at h
   simp only [zab,yAg,yBo,false_implies,yBL]
   rintro ⟨j,hm,e⟩
   obtain ⟨k,hk,rfl⟩:=yAD hm
   have:=h1 k hk (by omega)
   omega
theorem ref_find {l:List zam} (hl:l.length≤300) (id:Int):Ret (zaT 200000 l id) fun r=>(0≤r↔∃j∈l,j.Id=id)∧(0≤r→At l id r)∧(r<0→r=-1):=by
 simp only [zaT]
 refine lpA l (fun _ j=>j.Id≠id) (fun i f h _ hr=>?_) (fun f h=>?_) (by omega)
 ·simp only [zb5 h,if_true,zao h,Option.bind_some,wr1 (show i<1000000 by omega),zaf,zab,yAP]
  exact ⟨fun e=>⟨⟨fun _=>⟨_,yAo h,e⟩,fun _=>by omega⟩,fun _=>⟨by omega,by simpa using h,by simpa using e⟩,fun h=>by omega⟩,fun e=>hr e⟩
 ·simp only [zb7,yAg,yAy,zab]
  refine ⟨⟨fun h=>by omega,fun ⟨j,hm,e⟩=>absurd e (zbP (A:=fun j=>j.Id≠id) h j hm)⟩,fun h=>by omega,fun _=>trivial⟩
structure ShareOk (l:List zaj) (n:Int) (i:Nat) (x:zaj):Prop where
 up:prv (l.map (·.Node)) i<x.Node
 lt:x.Node<n
 lo:1≤x.Many
 hi:x.Many≤64
def SharesOk (l:List zaj) (n:Int):Prop:=∀i (h:i<l.length),ShareOk l n i l[i]
theorem SharesOk.node {l:List zaj} {n:Int} (h:SharesOk l n):Rises (l.map (·.Node)) n:=fun i hi=>by
 rw [yA2] at hi
 rw [yBj]
 exact ⟨(h i hi).up,(h i hi).lt⟩
theorem SharesOk.mem {l:List zaj} {n:Int} (h:SharesOk l n):∀x∈l,0≤x.Node∧x.Node<n∧1≤x.Many∧x.Many≤64:=fun x hx=>by
 have h1:=h.node.mem x.Node (yA4.2 ⟨x,hx,rfl⟩)
 obtain ⟨i,hi,rfl⟩:=yAD hx
 have h2:=h i hi
 exact ⟨h1.1,h1.2,h2.lo,h2.hi⟩
theorem prv_map {l:List zaj} {i:Nat} (h:i<l.length):prv (l.map (·.Node)) (i+1)=l[i].Node:=by
 rw [prv_succ (by simpa using h),yBj]
theorem place_right (l:List zaj) (n:Int) (hl:l.length≤300):zaY (place_Right 200000 l n) (SharesOk l n):=by
 simp only [place_Right]
 refine lpS l.length (fun i x=>x=(prv (l.map (·.Node)) i,(i:Int))∧∀j (hj:j<l.length),j<i→ShareOk l n j l[j]) (fun i x f hi hx hr=>?_) (fun x f hx=>?_) ⟨rfl,fun j hj h=>by omega⟩ (by omega)
 ·obtain ⟨rfl,hA⟩:=hx
  simp only [zb5 hi,if_true,zao hi,Option.bind_some,wr1 (show i<1000000 by omega),zaf,zab,yAu,yAf]
  refine ⟨fun h=>?_,fun h=>hr _ ⟨by rw [prv_map hi],fun j hj hji=>?_⟩⟩
  ·simp only [yAg,yBo]
   intro hR
   have q:=hR i hi
   have q1:=q.up; have q2:=q.lt; have q3:=q.lo; have q4:=q.hi
   omega
  ·rcases yBb (yBv.1 hji) with h' | h'
   ·exact hA j hj h'
   ·subst h'; exact ⟨by omega,by omega,by omega,by omega⟩
 ·obtain ⟨rfl,hA⟩:=hx
  simp only [zb7,yAg,yAy,zab,yBM]
  exact fun i hi=>hA i hi hi
theorem ref_place (l:List zaj) (n:Int) (hl:l.length≤300):zaY (za1 200000 l n) (SharesOk l n):=by
 simp only [za1,zbh]
 refine lpA l (fun i a=>ShareOk l n i a) (fun i f h hA hr=>?_) (fun f h=>?_) (by omega)
 ·have hd:decide ((i:Int) > 0)=decide (0<i):=by simp
  simp only [zb5 h,if_true,zao h,Option.bind_some,wr1 (show i<1000000 by omega),zaf,zab,yAf,hd,yAg,yAy]
  have bad:¬(ShareOk l n i l[i])→(False↔SharesOk l n):=fun hn=>by
   simp only [yBo]
   exact fun hR=>hn (hR i h)
  refine ⟨fun h1=>?_,fun h1=>⟨fun h2=>bad fun k=>by have:=k.lt; omega,fun h2=>⟨fun h3=>bad fun k=>by have:=k.lo; omega,fun h3=>⟨fun h4=>bad fun k=>by have:=k.hi; omega,fun h4=>⟨fun h5=>?_,fun h5=>?_⟩⟩⟩⟩⟩
  ·simp only [yBo]
   intro hR
   have:=(hR.mem _ (yAo h)).1
   omega
  ·obtain ⟨m,rfl⟩:∃m,i=m+1:=⟨i-1,by omega⟩
   rw [wp1 (show m+1<1000000 by omega),zao (show m<l.length by omega)]
   simp only [Option.bind_some,zaf,yAf,zab,yAg]
   exact ⟨fun h6=>bad fun k=>by have:=k.up; rw [prv_map (by omega)] at this; omega,fun h6=>hr ⟨by rw [prv_map (by omega)]; omega,by omega,by omega,by omega⟩⟩
  ·have:i=0:=by omega
   subst this
   exact hr ⟨by simp only [prv]; omega,by omega,by omega,by omega⟩
 ·simp only [zb7,yAg,yAy,zab,yBM]
  exact h
def totV (l:List zaj):Int:=(l.map (·.Many)).sum
theorem tot_bd {l:List zaj} (h:∀x∈l,1≤x.Many∧x.Many≤64):0≤totV l∧totV l≤64 * l.length:=by
 induction l with
 | nil=>simp [totV]
 | cons x l ih =>
  have:=ih fun y hy=>h y (yAk _ hy)
  have:=h x (yAq ..)
  simp only [totV,yA3,List.sum_cons,List.length_cons] at *
  omega
theorem tot_take {l:List zaj} {i:Nat} (h:i<l.length):totV (l.take (i+1))=totV (l.take i)+l[i].Many:=by
 rw [yBm h]
 simp only [totV,yBD,yA3,yCh,List.sum_append,List.sum_cons,List.sum_nil]
 omega
theorem place_total {l:List zaj} {n:Int} (hl:l.length≤300) (h:SharesOk l n):place_Total 200000 l=some (totV l):=by
 simp only [place_Total]
 refine Ret.eq (lpS l.length (fun i x=>x=(totV (l.take i),(i:Int))) (fun i x f hi hx hr=>?_) (fun x f hx=>?_) (by simp [totV]) (by omega))
 ·subst hx
  have q:=h.mem _ (yAo hi)
  have b:=tot_bd (l:=l.take i) fun x hx=>(h.mem x (yBc hx)).2.2
  have b2:((l.take i).length:Int)≤300:=by rw [yA6]; omega
  have hh:nat_Hold_int 200000 l[i].Many 0 64=some l[i].Many:=by
   simp only [nat_Hold_int]
   rw [if_neg (by simp; omega),if_neg (by simp; omega)]
  simp only [zb5 hi,if_true,zao hi,Option.bind_some,hh,wr1 (show i<1000000 by omega)]
  rw [wr (by omega) (by omega)]
  exact hr _ (by rw [tot_take hi])
 ·subst hx
  simp only [zb7,yAg,yAy,zab,yBq]
theorem ref_total {l:List zaj} {n:Int} (hl:l.length≤300) (h:SharesOk l n):zcb 200000 l=some (totV l):=by
 simp only [zcb,zbh]
 refine Ret.eq (lpS l.length (fun i x=>x=(totV (l.take i),(i:Int))) (fun i x f hi hx hr=>?_) (fun x f hx=>?_) (by simp [totV]) (by omega))
 ·subst hx
  have q:=h.mem _ (yAo hi)
  have b:=tot_bd (l:=l.take i) fun x hx=>(h.mem x (yBc hx)).2.2
  have b2:((l.take i).length:Int)≤300:=by rw [yA6]; omega
  simp only [zb5 hi,if_true,zao hi,Option.bind_some,wr1 (show i<1000000 by omega)]
  rw [if_neg (by simp; omega),if_pos (by simp; omega),wr (by omega) (by omega)]
  exact hr _ (by rw [tot_take hi])
 ·subst hx
  simp only [zb7,yAg,yAy,zab,yBq]
theorem contains_ok (l:List Int) (hl:l.length≤300) (x:Int):zaY (zbd 200000 l x) (x∈l):=by
 simp only [zaY,zbd,zcv]
 rw [ret_bind]
 refine lpA l (fun _ y=>x≠y) (fun i f h _ hr=>?_) (fun f h=>?_) (by omega)
 ·simp only [zb5 h,if_true,zao h,Option.bind_some,wr1 (show i<1000000 by omega),zaf,yAP]
  refine ⟨fun e=>?_,fun e=>hr e⟩
  simp only [zab,yAf]
  exact ⟨fun _=>by rw [e]; exact yAo h,fun _=>by omega⟩
 ·simp only [zb7,yAg,yAy,zab,yAf]
  exact ⟨fun h=>by omega,fun hm=>absurd rfl (zbP (A:=fun y=>x≠y) h x hm)⟩
theorem ref_has (l:List Int) (hl:l.length≤300) (x:Int):zaY (zc3 200000 l x) (x∈l):=by
 simp only [zc3]
 refine lpA l (fun _ y=>y≠x) (fun i f h _ hr=>?_) (fun f h=>?_) (by omega)
 ·simp only [zb5 h,if_true,zao h,Option.bind_some,wr1 (show i<1000000 by omega),zaf,yAP,zab,yBM]
  exact ⟨fun e=>by rw [←e]; exact yAo h,fun e=>hr e⟩
 ·simp only [zb7,yAg,yAy,zab,yBo]
  exact fun hm=>absurd rfl (zbP (A:=fun y=>y≠x) h x hm)
structure SuitsOk (s:zad) (j:zam) (l:List zaj):Prop where
 shares:SharesOk l s.Nodes.length
 tot:totV l=j.Many
 q:0≤j.Queue∧j.Queue<s.Queues.length
 part:∀x∈l,x.Node∈(s.Parts[((s.Queues[j.Queue.toNat]?).getD default).Part.toNat]?).getD []
theorem suits_ok {s:zad} (hs:FewS s) (k:SpecOk s) (j:zam) (l:List zaj) (hl:l.length≤300):zaY (store_suits 200000 s j l) (SuitsOk s j l):=by
 have no:∀{p:Prop},¬p→Ret (some false) (fun b=>b=true↔p):=fun h=>by rw [zab]; simp [h]
 simp only [store_suits,zbh]
 refine (place_right l _ hl).bind fun r hr=>?_
 rw [zaf]
 refine ⟨fun h=>?_,fun h=>?_⟩
 ·simp only [if_true]
  exact no fun k=>by have:=hr.2 k.shares; rw [this] at h; cases h
 ·simp only [yAv,yA0] at h
  have S:=hr.1 h
  rw [place_total hl S,Option.bind_some,zaf]
  refine ⟨fun h1=>no fun k=>by have:=k.tot; simp [this] at h1,fun h1=>?_⟩
  have ht:totV l=j.Many:=by simpa using h1
  rw [zaf]
  refine ⟨fun h2=>no fun k=>by have:=k.q; simp at h2; omega,fun h2=>?_⟩
  have hq:0≤j.Queue∧j.Queue<s.Queues.length:=by simp at h2; omega
  obtain ⟨hx,e⟩:=at_int hq.1 hq.2
  have kq:=k.queues.ok _ (yAo hx)
  obtain ⟨hp,e2⟩:=at_int kq.part.1 kq.part.2
  have lp:=hs.part _ (yAo hp)
  have eP:(s.Parts[((s.Queues[j.Queue.toNat]?).getD default).Part.toNat]?).getD []=s.Parts[s.Queues[j.Queue.toNat].Part.toNat]:=by
   rw [yAi hx]
   simp only [Option.getD_some]
   rw [yAi hp]
   rfl
  rw [e,Option.bind_some,e2,Option.bind_some]
  refine lpC l (fun x=>x.Node∈s.Parts[s.Queues[j.Queue.toNat].Part.toNat]) _ (fun k x hx=>by rw [←eP]; exact k.part x hx) (fun i f h' Q g1 g2=>?_) (fun f hA=>?_) (by omega)
  ·simp only [zb5 h',if_true,zao h',Option.bind_some,wr1 (show i<1000000 by omega)]
   refine (contains_ok _ (yAB lp (by decide)) _).bind fun r hr=>?_
   simp only [zaf,zab,yAv,yA0]
   exact ⟨fun e=>g2 (by rw [←hr,e]; simp),fun e=>g1 (hr.1 e)⟩
  ·simp only [zb7,yAg,yAy,zab,yBM]
   exact ⟨S,ht,hq,by rw [eP]; exact hA⟩
theorem ref_mine {s:zad} (hs:FewS s) (k:SpecOk s) (j:zam) (l:List zaj) (hl:l.length≤300):zaY (zcI 200000 s j l) (SuitsOk s j l):=by
 have no:∀{p:Prop},¬p→Ret (some false) (fun b=>b=true↔p):=fun h=>by rw [zab]; simp [h]
 simp only [zcI,zbh]
 refine (ref_place l _ hl).bind fun r hr=>?_
 rw [zaf]
 refine ⟨fun h=>?_,fun h=>?_⟩
 ·simp only [if_true]
  exact no fun k=>by have:=hr.2 k.shares; rw [this] at h; cases h
 ·simp only [yAv,yA0] at h
  have S:=hr.1 h
  rw [ref_total hl S,Option.bind_some,zaf]
  refine ⟨fun h1=>no fun k=>by have:=k.tot; have:=k.q; simp at h1; omega,fun h1=>?_⟩
  have ht:totV l=j.Many∧0≤j.Queue∧j.Queue<s.Queues.length:=by simp at h1; omega
  have hq:=ht.2
  obtain ⟨hx,e⟩:=at_int hq.1 hq.2
  have kq:=k.queues.ok _ (yAo hx)
  obtain ⟨hp,e2⟩:=at_int kq.part.1 kq.part.2
  have lp:=hs.part _ (yAo hp)
  have eP:(s.Parts[((s.Queues[j.Queue.toNat]?).getD default).Part.toNat]?).getD []=s.Parts[s.Queues[j.Queue.toNat].Part.toNat]:=by
   rw [yAi hx]
   simp only [Option.getD_some]
   rw [yAi hp]
   rfl
  rw [e,Option.bind_some,e2,Option.bind_some]
  refine lpC l (fun x=>x.Node∈s.Parts[s.Queues[j.Queue.toNat].Part.toNat]) _ (fun k x hx=>by rw [←eP]; exact k.part x hx) (fun i f h' Q g1 g2=>?_) (fun f hA=>?_) (by omega)
  ·simp only [zb5 h',if_true,zao h',Option.bind_some,wr1 (show i<1000000 by omega)]
   refine (ref_has _ (yAB lp (by decide)) _).bind fun r hr=>?_
   simp only [zaf,zab,yAv,yA0]
   exact ⟨fun e=>g2 (by rw [←hr,e]; simp),fun e=>g1 (hr.1 e)⟩
  ·simp only [zb7,yAg,yAy,zab,yBM]
   exact ⟨S,ht.1,hq,by rw [eP]; exact hA⟩
end Go.Plain
end
section
namespace Go.Plain
open Go.Abs
def cmp:Nat→zac→Int
 | 0,r=>r.Cpu
 | 1,r=>r.Mem
 | 2,r=>r.Gpu
 | _,r=>r.Lic
theorem vec_iff {r:zac}:VecOk r↔∀c,0≤cmp c r∧cmp c r≤1048576:=by
 constructor
 ·intro h c
  match c with
  | 0=>exact h.cpu
  | 1=>exact h.mem
  | 2=>exact h.gpu
  | _+3=>exact h.lic
 ·intro h
  exact ⟨h 0,h 1,h 2,h 3⟩
theorem res_ext {a b:zac} (h:∀c,cmp c a=cmp c b):a=b:=by
 obtain ⟨a1,a2,a3,a4⟩:=a
 obtain ⟨b1,b2,b3,b4⟩:=b
 have h0:=h 0; have h1:=h 1; have h2:=h 2; have h3:=h 3
 simp only [cmp] at h0 h1 h2 h3
 subst h0 h1 h2 h3
 rfl
def subR (a b:zac):zac:={ Cpu:=a.Cpu-b.Cpu,Mem:=a.Mem-b.Mem,Gpu:=a.Gpu-b.Gpu,Lic:=a.Lic-b.Lic }
def mulR (n:Int) (a:zac):zac:={ Cpu:=n * a.Cpu,Mem:=n * a.Mem,Gpu:=n * a.Gpu,Lic:=n * a.Lic }
theorem cmp_sub (c:Nat) (a b:zac):cmp c (subR a b)=cmp c a-cmp c b:=by match c with | 0=>rfl | 1=>rfl | 2=>rfl | _+3=>rfl
theorem cmp_mul (c:Nat) (n:Int) (a:zac):cmp c (mulR n a)=n * cmp c a:=by match c with | 0=>rfl | 1=>rfl | 2=>rfl | _+3=>rfl
theorem fint_ok {a:Int} (h:a.natAbs<2 ^ 53):fint? a=some a:=by unfold fint?; rw [if_pos h]
theorem within_ok {a b c d:Int} (ha:a.natAbs<2 ^ 53) (hb:b.natAbs<2 ^ 53) (hc:c.natAbs<2 ^ 53) (hd:d.natAbs<2 ^ 53) :
  Ret (zb4 200000 (a,b) (c,d)) fun r=>(r.2=0↔VecOk ⟨a,b,c,d⟩)∧(r.2=0→r.1=⟨a,b,c,d⟩):=by
 simp only [zb4,vec_join_o7a26,fint_ok ha,fint_ok hb,fint_ok hc,fint_ok hd,Option.bind_some]
 refine (vec_right _).bind fun r hr=>?_
 simp only [zaf,zab,yAv,yA0]
 refine ⟨fun e=>⟨⟨fun h=>by omega,fun v=>by have:=hr.2 v; rw [e] at this; cases this⟩,fun h=>by omega⟩,fun e=>⟨⟨fun _=>hr.1 e,fun _=>trivial⟩,fun _=>trivial⟩⟩
theorem mul_bd {n x:Int} (hn:0≤n∧n≤64) (hx:0≤x∧x≤1048576):0≤n * x∧n * x≤67108864:=by
 have h1:0≤n * x:=yBC hn.1 hx.1
 have h2:n * x≤64 * x:=yBe hn.2 hx.1
 omega
theorem times_ok {a:zac} {n:Int} (ha:VecOk a) (hn:1≤n∧n≤64):Ret (vec_Times 200000 a n) fun r=>(r.2=0↔VecOk (mulR n a))∧(r.2=0→r.1=mulR n a):=by
 simp only [vec_Times]
 obtain ⟨r1,e1,h1⟩:=vec_right a
 have t1:=h1.2 ha
 subst t1
 have hn':0≤n∧n≤64:=by omega
 simp only [e1,Option.bind_some,yBa,Bool.false_or]
 rw [if_neg (by simp; omega)]
 by_cases hz:a=zeroR
 ·subst hz
  rw [if_pos (by exact beq_res.2 rfl),zab]
  have:mulR n zeroR=zeroR:=by simp [mulR,zeroR]
  rw [this]
  exact ⟨⟨fun _=>⟨by simp [zeroR],by simp [zeroR],by simp [zeroR],by simp [zeroR]⟩,fun _=>rfl⟩,fun _=>rfl⟩
 ·rw [if_neg (show ¬(zac.beq a ({ Cpu:=0,Mem:=0,Gpu:=0,Lic:=0 }:zac)=true) from fun h=>hz (beq_res.1 h)),if_neg (by simp; omega)]
  have fm:∀{x:Int},0≤x∧x≤1048576→fmul? x n=some (x * n):=fun {x} hx=>by unfold fmul?; rw [if_pos (by omega)]
  have b1:=mul_bd hn' ha.cpu; have b2:=mul_bd hn' ha.mem; have b3:=mul_bd hn' ha.gpu; have b4:=mul_bd hn' ha.lic
  simp only [zbM,Option.bind_some,fm ha.cpu,fm ha.mem,fm ha.gpu,fm ha.lic]
  rw [yCg a.Cpu n,yCg a.Mem n,yCg a.Gpu n,yCg a.Lic n]
  refine (within_ok (by omega) (by omega) (by omega) (by omega)).bind fun r hr=>?_
  rw [zab]
  exact hr
theorem sub_ok {a b:zac} (ha:VecOk a) (hb:VecOk b):Ret (vec_Sub 200000 a b) fun r=>(r.2=0↔VecOk (subR a b))∧(r.2=0→r.1=subR a b):=by
 simp only [vec_Sub,zbh]
 obtain ⟨r1,e1,h1⟩:=vec_right a
 have t1:=h1.2 ha
 subst t1
 obtain ⟨r2,e2,h2⟩:=vec_right b
 have t2:=h2.2 hb
 subst t2
 have fd:∀{x y:Int},0≤x∧x≤1048576→0≤y∧y≤1048576→fdif? x y=some (x-y):=fun {x y} hx hy=>by unfold fdif?; rw [if_pos (by omega)]
 simp only [e1,e2,Option.bind_some,yBa,yAg,yAy,zbM,fd ha.cpu hb.cpu,fd ha.mem hb.mem,fd ha.gpu hb.gpu,fd ha.lic hb.lic]
 have:=ha.cpu; have:=ha.mem; have:=ha.gpu; have:=ha.lic; have:=hb.cpu; have:=hb.mem; have:=hb.gpu; have:=hb.lic
 refine (within_ok (by omega) (by omega) (by omega) (by omega)).bind fun r hr=>?_
 rw [zab]
 exact hr
def onV (l:List zaj) (i:Int):Int:=(l.map fun x=>if x.Node=i then x.Many else 0).sum
theorem onV_take {l:List zaj} {k:Nat} (h:k<l.length) (i:Int):onV (l.take (k+1)) i=onV (l.take k) i+if l[k].Node=i then l[k].Many else 0:=by
 rw [yBm h]
 simp only [onV,yBD,yA3,yCh,List.sum_append,List.sum_cons,List.sum_nil]
 omega
theorem onV_nn {l:List zaj} (h:∀x∈l,0≤x.Many) (i:Int):0≤onV l i:=by
 induction l with
 | nil=>simp [onV]
 | cons x l ih =>
  have:=ih fun y hy=>h y (yAk _ hy)
  have:=h x (yAq ..)
  simp only [onV,yA3,List.sum_cons] at *
  split <;> omega
theorem onV_app {l m:List zaj} (i:Int):onV (l++m) i=onV l i+onV m i:=by simp [onV]
theorem onV_le {l:List zaj} (h:∀x∈l,0≤x.Many) (k:Nat) (i:Int):onV (l.take k) i≤onV l i:=by
 have:=onV_app (l:=l.take k) (m:=l.drop k) i
 rw [List.take_append_drop] at this
 have:=onV_nn (l:=l.drop k) (fun x hx=>h x (yBT hx)) i
 omega
theorem onV_one {l:List zaj} {n:Int} (h:SharesOk l n) (i:Int):0≤onV l i∧onV l i≤64:=by
 refine ⟨onV_nn (fun x hx=>by have:=h.mem x hx; omega) i,?_⟩
 have key:∀k,k≤l.length→(onV (l.take k) i≤64∧(onV (l.take k) i≠0→i≤prv (l.map (·.Node)) k)):=by
  intro k
  induction k with
  | zero=>intro _; simp [onV]
  | succ k ih =>
   intro hk
   obtain ⟨i1,i2⟩:=ih (by omega)
   have s:=h k (by omega)
   have s1:=s.up; have s2:=s.lt; have s3:=s.lo; have s4:=s.hi
   rw [onV_take (by omega),prv_map (show k<l.length by omega)]
   split
   ·rename_i e
    by_cases hz:onV (l.take k) i=0
    ·rw [hz]; omega
    ·have:=i2 hz; omega
   ·rename_i e
    rw [Int.add_zero]
    exact ⟨i1,fun hz=>by have:=i2 hz; omega⟩
 have:=(key l.length (yAn _)).1
 rwa [yBq] at this
theorem ref_on {l:List zaj} {n:Int} (hl:l.length≤300) (h:SharesOk l n) (i:Int):zcx 200000 l i=some (onV l i):=by
 simp only [zcx,zbh]
 refine Ret.eq (lpS l.length (fun k x=>x=(onV (l.take k) i,(k:Int))) (fun k x f hi hx hr=>?_) (fun x f hx=>?_) (by simp [onV]) (by omega))
 ·subst hx
  have q:=h.mem _ (yAo hi)
  have b:=onV_nn (l:=l.take k) (fun x hx=>by have:=h.mem x (yBc hx); omega) i
  have b2:=onV_le (fun x hx=>by have:=h.mem x hx; omega) k i
  have b3:=onV_one h i
  have e:=onV_take hi i
  simp only [zb5 hi,if_true,zao hi,Option.bind_some,wr1 (show k<1000000 by omega),zaf,yAP]
  refine ⟨fun hn=>?_,fun hn=>hr _ ?_⟩
  ·rw [if_pos hn] at e
   rw [wr (by omega) (by omega)]
   exact hr _ (by rw [e])
  ·rw [if_neg hn] at e
   rw [e,Int.add_zero]
 ·subst hx
  simp only [zb7,yAg,yAy,zab,yBq]
def leftA (a:zag) (i:Nat) (r:zac):zac:=subR r (mulR (onV a.Shares i) a.Need)
def FitsA (F:List zac) (a:zag):Prop:=∀i (h:i<F.length),VecOk (leftA a i F[i])
structure Behind (F:List zac) (a:zag) (G:List zac):Prop where
 len:G.length=F.length
 at':∀i (h:i<G.length),G[i]=leftA a i (F[i]'(by rw [←len]; exact h))
theorem change_ok {a:zag} {F:List zac} (hF:F.length≤300) (hl:a.Shares.length≤300) (hS:SharesOk a.Shares F.length) (hN:VecOk a.Need) (hv:∀r∈F,VecOk r) :
  Ret (za5 200000 a F) fun r=>(r.2=0↔FitsA F a)∧(r.2=0→Behind F a r.1):=by
 simp only [za5,zaZ,app_nil (show F.length≤1000000 by omega),Option.bind_some]
 have nn:∀x∈a.Shares,0≤x.Many:=fun x hx=>by have:=hS.mem x hx; omega
 refine lpS a.Shares.length (fun k x=>x.1=(k:Int)∧x.2.length=F.length∧(∀r∈x.2,VecOk r)∧∀i (h:i<x.2.length) (h':i<F.length),x.2[i]=subR F[i] (mulR (onV (a.Shares.take k) i) a.Need)) (fun k x f hk hx hr=>?_) (fun x f hx=>?_) ⟨rfl,rfl,hv,fun i h h'=>?_⟩ (by omega)
 ·obtain ⟨x1,G⟩:=x
  obtain ⟨rfl,hlen,hok,hat⟩:=hx
  dsimp only at hlen hok hat ⊢
  have q:=hS.mem _ (yAo hk)
  have hn:a.Shares[k].Node.toNat<G.length:=by omega
  have hnF:a.Shares[k].Node.toNat<F.length:=by omega
  have eN:((a.Shares[k].Node.toNat:Nat):Int)=a.Shares[k].Node:=by omega
  have tk:=onV_take hk a.Shares[k].Node
  rw [if_pos rfl] at tk
  have le:=onV_le nn (k+1) a.Shares[k].Node
  have n0:=onV_nn (l:=a.Shares.take k) (fun x hx=>nn x (yBc hx)) a.Shares[k].Node
  have hg:=hat _ hn hnF
  rw [eN] at hg
  have bad:(∃c,cmp c G[a.Shares[k].Node.toNat]-a.Shares[k].Many * cmp c a.Need<0)→¬FitsA F a:=fun ⟨c,hc⟩ hf=>by
   have h1:=vec_iff.1 (hf _ hnF) c
   rw [leftA,cmp_sub,cmp_mul,eN] at h1
   rw [hg,cmp_sub,cmp_mul] at hc
   have h2:0≤cmp c a.Need:=(vec_iff.1 hN c).1
   have h3:(onV (a.Shares.take k) a.Shares[k].Node+a.Shares[k].Many) * cmp c a.Need≤onV a.Shares a.Shares[k].Node * cmp c a.Need:=yBe (by omega) h2
   rw [Int.add_mul] at h3
   omega
  simp only [zb5 hk,if_true,zao hk,Option.bind_some,wr1 (show k<1000000 by omega)]
  refine (times_ok hN q.2.2).bind fun r hr1=>?_
  simp only [zaf,zab,yBp,ne_eq,yAZ]
  refine ⟨fun h=>⟨⟨fun h'=>absurd h' h,fun hf=>?_⟩,fun h'=>absurd h' h⟩,fun h=>?_⟩
  ·exfalso
   refine bad ?_ hf
   have hno:¬VecOk (mulR a.Shares[k].Many a.Need):=fun v=>h (hr1.1.2 v)
   rw [vec_iff] at hno
   obtain ⟨c,hc⟩:=Classical.not_forall.1 hno
   refine ⟨c,?_⟩
   rw [cmp_mul] at hc
   have h1:=mul_bd (show 0≤a.Shares[k].Many∧a.Shares[k].Many≤64 by omega) (vec_iff.1 hN c)
   have h2:=vec_iff.1 (hok _ (yAo hn)) c
   omega
  ·have e1:=hr1.2 h
   have v1:=hr1.1.1 h
   obtain ⟨hx',e⟩:=at_int (l:=G) (x:=a.Shares[k].Node) (by omega) (by omega)
   rw [e,Option.bind_some,e1]
   refine (sub_ok (hok _ (yAo hn)) v1).bind fun r2 hr2=>?_
   simp only [Option.bind_some,zaf,zab,yBp,ne_eq,yAZ]
   refine ⟨fun h'=>⟨⟨fun h2=>absurd h2 h',fun hf=>?_⟩,fun h2=>absurd h2 h'⟩,fun h'=>?_⟩
   ·exfalso
    refine bad ?_ hf
    have hno:¬VecOk (subR G[a.Shares[k].Node.toNat] (mulR a.Shares[k].Many a.Need)):=fun v=>h' (hr2.1.2 v)
    rw [vec_iff] at hno
    obtain ⟨c,hc⟩:=Classical.not_forall.1 hno
    refine ⟨c,?_⟩
    rw [cmp_sub,cmp_mul] at hc
    have h1:=mul_bd (show 0≤a.Shares[k].Many∧a.Shares[k].Many≤64 by omega) (vec_iff.1 hN c)
    have h2:=vec_iff.1 (hok _ (yAo hn)) c
    omega
   ·have e2:=hr2.2 h'
    have v2:=hr2.1.1 h'
    refine hr _ ⟨rfl,by simpa using hlen,fun r hr'=>?_,fun i hi hi'=>?_⟩
    ·dsimp only at hr'
     rcases yBX hr' with hr' | rfl
     ·exact hok r hr'
     ·rw [e2]; exact v2
    ·dsimp only at hi ⊢
     rw [yAH] at hi
     rw [List.getElem_set]
     have tki:=onV_take hk (i:Int)
     split
     ·rename_i ei
      subst ei
      rw [e2,hg]
      rw [if_pos eN.symm] at tki
      rw [tki]
      refine res_ext fun c=>?_
      rw [cmp_sub,cmp_sub,cmp_sub,cmp_mul,cmp_mul,cmp_mul,Int.add_mul,eN]
      omega
     ·rename_i ei
      rw [if_neg (by omega),Int.add_zero] at tki
      rw [hat i hi hi',tki]
 ·obtain ⟨x1,G⟩:=x
  obtain ⟨rfl,hlen,hok,hat⟩:=hx
  dsimp only at hlen hok hat ⊢
  simp only [zb7,yAg,yAy,zab,yBq,yBM,true_implies] at hat ⊢
  refine ⟨fun i h=>?_,hlen,fun i h=>hat i h (by omega)⟩
  have:=hok _ (yAo (show i<G.length by omega))
  rw [hat i (by omega) h] at this
  exact this
 ·refine res_ext fun c=>?_
  rw [cmp_sub,cmp_mul]
  simp [onV]
theorem own_alloc {a:zag} (h:a.Shares.length≤1000000):ledger_own 200000 a=some a:=by
 simp only [ledger_own,za2,app_nil h,Option.bind_some]
structure TakeOk (M:List (Int×zag)) (F:List zac) (a:zag):Prop where
 job:1≤a.Job∧a.Job≤1048576
 some':a.Shares≠[]
 shares:SharesOk a.Shares F.length
 need:VecOk a.Need
 free:mget M a.Job=none
 fits:FitsA F a
theorem take_ok {M:List (Int×zag)} {a:zag} {F:List zac} (hF:F.length≤300) (hl:a.Shares.length≤300) (hv:∀r∈F,VecOk r) :
  Ret (zba 200000 M a F) fun r=>(r.2.1=0↔TakeOk M F a)∧(r.2.1=0→r.1=mset M a.Job a∧Behind F a r.2.2):=by
 simp only [zba,zbh,if_true,yAg,yAy]
 have no:∀{p:Prop} {x:List (Int×zag)×Int×List zac} {q:Prop},¬p→x.2.1≠0→Ret (some x) (fun r=>(r.2.1=0↔p)∧(r.2.1=0→r.1=mset M a.Job a∧Behind F a r.2.2)):=fun {p x q} h1 h2=>by
  rw [zab]
  exact ⟨⟨fun h=>absurd h h2,fun h=>absurd h h1⟩,fun h=>absurd h h2⟩
 rw [zaf]
 refine ⟨fun h=>?_,fun h=>?_⟩
 ·simp only [yAu,yAf,yAP] at h
  refine no (q:=True) (fun t=>?_) (by simp)
  have:=t.job
  rcases h with h | h
  ·omega
  ·exact t.some' (yAR (by omega))
 ·simp only [yAu,yAf,yAP,not_or] at h
  refine (place_right _ _ hl).bind fun r hr=>?_
  rw [zaf]
  refine ⟨fun e=>no (q:=True) (fun t=>by have:=hr.2 t.shares; rw [this] at e; cases e) (by simp),fun e=>?_⟩
  simp only [yAv,yA0] at e
  have S:=hr.1 e
  refine (vec_right a.Need).bind fun r2 hr2=>?_
  rw [zaf]
  refine ⟨fun e=>no (q:=True) (fun t=>by have:=hr2.2 t.need; rw [this] at e; cases e) (by simp),fun e=>?_⟩
  simp only [yAv,yA0] at e
  have V:=hr2.1 e
  cases hm:mget M a.Job with
  | some v=>exact no (q:=True) (fun t=>by have:=t.free; rw [hm] at this; cases this) (by simp)
  | none =>
   simp only [oel]
   refine (change_ok hF hl S V hv).bind fun r3 hr3=>?_
   rw [zaf]
   refine ⟨fun e=>?_,fun e=>?_⟩
   ·simp only [yBp,ne_eq] at e
    exact no (q:=True) (fun t=>e (hr3.1.2 t.fits)) e
   ·simp only [yBp,ne_eq,yAZ] at e
    rw [own_alloc (by omega),Option.bind_some,zab]
    refine ⟨⟨fun _=>⟨by omega,fun hn=>?_,S,V,hm,hr3.1.1 e⟩,fun _=>rfl⟩,fun _=>⟨rfl,hr3.2 e⟩⟩
    rw [hn] at h
    simp at h
end Go.Plain
end
section
namespace Go.Plain
open Go.Abs
theorem no_f {p:Prop} (h:¬p):Ret (some false) (fun b=>b=true↔p):=by rw [zab]; simp [h]
theorem yes_t {p:Prop} (h:p):Ret (some true) (fun b=>b=true↔p):=by rw [zab]; simp [h]
structure NumsOk (s:zad) (st:zae):Prop where
 now:0≤st.Now∧st.Now≤1099511627776
 next:1≤st.Next∧st.Next≤s.Ids+1
 book:1≤st.Book∧st.Book≤281474976710656
theorem numbers_ok {s:zad} (k:SpecOk s) (st:zae):zaY (store_numbers 200000 s st) (NumsOk s st):=by
 have k1:=k.ids
 simp only [store_numbers,zbT,Option.bind_some,zaY]
 rw [wr (x:=s.Ids+1) (by omega) (by omega)]
 simp only [zaf,zab,yAj,yAf,yAg,yBo]
 exact ⟨fun h1=>⟨fun h2=>⟨fun h3=>⟨h1,h2,h3⟩,fun h=>h.book⟩,fun h2 h=>h2 h.next⟩,fun h1 h=>h1 h.now⟩
def extraV (x:Int):Int:=if x=3 then 1 else if x=4 then 2 else if x=5∨x=6 then 3 else 0
theorem extra_bd (x:Int):0≤extraV x∧extraV x≤3:=by unfold extraV; split <;> (try split) <;> (try split) <;> omega
theorem extra_ok (x:Int):store_extra 200000 x=some (extraV x):=by
 simp only [store_extra,life_Over,Option.bind_some,yAP,yAu]
 unfold extraV
 split
 ·rfl
 ·split
  ·rfl
  ·split <;> rfl
structure JobIn (s:zad) (st:zae) (j:zam):Prop where
 ok:JobOk j
 next:j.Id<st.Next
 user:j.User<s.Users
 queue:j.Queue<s.Queues.length
 born:j.Born≤st.Now
 start:j.Start≤st.Now
 fin:j.End≤st.Now
 version:j.Version≤s.Versions+extraV j.State
def prvI (l:List zam):Nat→Int
 | 0=>0
 | i+1=>((l[i]?).map (·.Id)).getD 0
theorem prvI_succ {l:List zam} {i:Nat} (h:i<l.length):prvI l (i+1)=l[i].Id:=by simp [prvI,h]
structure JobsOk (s:zad) (st:zae):Prop where
 len:(st.Jobs.length:Int)≤s.Jobs
 each:∀j∈st.Jobs,JobIn s st j
 sorted:SortedJ st.Jobs
theorem jobs_of {s:zad} {st:zae} (h:(st.Jobs.length:Int)≤s.Jobs) (g:∀i (h:i<st.Jobs.length),JobIn s st st.Jobs[i]∧prvI st.Jobs i<st.Jobs[i].Id):JobsOk s st:=
 ⟨h,fun j hj=>by obtain ⟨i,hi,rfl⟩:=yAD hj; exact (g i hi).1,fun i hi=>by have:=(g (i+1) hi).2; rwa [prvI_succ (by omega)] at this⟩
theorem JobsOk.at' {s:zad} {st:zae} (h:JobsOk s st) (i:Nat) (hi:i<st.Jobs.length):JobIn s st st.Jobs[i]∧prvI st.Jobs i<st.Jobs[i].Id:=by
 refine ⟨h.each _ (yAo hi),?_⟩
 match i,hi with
 | 0,hi=>have:=(h.each _ (yAo hi)).ok.id; simp only [prvI]; omega
 | i+1,hi=>rw [prvI_succ (by omega)]; exact h.sorted i hi
theorem JobsOk.ids {s:zad} {st:zae} (h:JobsOk s st):∀j∈st.Jobs,0≤j.Id∧j.Id≤1048576:=fun j hj=>by have:=(h.each j hj).ok.id; omega
theorem max3 {a b c n:Int}:(if c > (if b > a then b else a) then c else (if b > a then b else a)) > n↔a > n∨b > n∨c > n:=by
 split <;> split <;> omega
theorem jobs_ok {s:zad} (k:SpecOk s) {st:zae} (hw:FewW s st):zaY (store_jobs 200000 s st) (JobsOk s st):=by
 have kv:=k.versions
 have hl:=hw.jobs
 simp only [store_jobs,zbh,extra_ok,Option.bind_some]
 rw [zaY,zaf]
 refine ⟨fun h=>no_f fun q=>?_,fun h0=>?_⟩
 ·have:=q.len
  simp only [yAf] at h
  omega
 ·simp only [yAf] at h0
  refine lpS st.Jobs.length (fun i x=>x=(prvI st.Jobs i,(i:Int))∧∀j (h:j<st.Jobs.length),j<i→JobIn s st st.Jobs[j]∧prvI st.Jobs j<st.Jobs[j].Id) (fun i x f hi hx hr=>?_) (fun x f hx=>?_) ⟨rfl,fun j h h'=>by omega⟩ (by omega)
  ·obtain ⟨rfl,hA⟩:=hx
   simp only [zb5 hi,if_true,zao hi,Option.bind_some,wr1 (show i<1000000 by omega)]
   refine (job_right _).bind fun r hr1=>?_
   rw [zaf]
   refine ⟨fun h=>no_f fun q=>?_,fun h=>?_⟩
   ·have q1:=q.at' i hi
    have q2:=hr1.2 q1.1.ok
    have q3:=q1.1.next
    have q4:=q1.2
    simp only [q2,yAu,yAf,yBa,yAg,false_or] at h
    omega
   ·simp only [yAu,yAf,not_or,yAv,yA0] at h
    have q1:=hr1.1 h.1.1
    rw [zaf]
    refine ⟨fun h=>no_f fun q=>?_,fun h2=>?_⟩
    ·have q1:=(q.at' i hi).1
     have:=q1.user; have:=q1.queue
     simp only [yAu,yAf] at h
     omega
    ·simp only [yAu,yAf,not_or] at h2
     rw [zaf]
     refine ⟨fun h=>?_,fun h3=>?_⟩
     ·refine no_f fun q=>?_
      have q1:=(q.at' i hi).1
      have:=q1.born; have:=q1.start; have:=q1.fin
      simp only [yAf,max3] at h
      omega
     ·simp only [yAf,max3] at h3
      have eb:=extra_bd st.Jobs[i].State
      rw [wr (x:=s.Versions+extraV _) (by omega) (by omega),zaf]
      refine ⟨fun h=>no_f fun q=>?_,fun h4=>hr _ ⟨by rw [prvI_succ hi],fun j hj hji=>?_⟩⟩
      ·have q1:=(q.at' i hi).1.version
       simp only [yAf] at h
       omega
      ·simp only [yAf] at h4
       rcases yBb (yBv.1 hji) with h' | h'
       ·exact hA j hj h'
       ·subst h'
        exact ⟨⟨q1,by omega,by omega,by omega,by omega,by omega,by omega,by omega⟩,by omega⟩
  ·obtain ⟨rfl,hA⟩:=hx
   simp only [zb7,yAg,yAy]
   exact yes_t (jobs_of (by omega) fun i hi=>hA i hi hi)
structure WaitsIn (s:zad) (st:zae) (j:zam):Prop where
 fits:spec_Fits 200000 s j.Queue j.Many j.Need=some true
 after:∀d∈j.After,∃i∈st.Jobs,i.Id=d.Job
def Waits (s:zad) (st:zae) (j:zam):Prop:=j.State<5→WaitsIn s st j
theorem waiting_ok {s:zad} (k:SpecOk s) {st:zae} (hw:FewW s st) (J:JobsOk s st):zaY (store_waiting 200000 s st) (∀j∈st.Jobs,Waits s st j):=by
 have hl:=hw.jobs
 simp only [store_waiting,zbh,life_Over,Option.bind_some]
 refine lpC st.Jobs (Waits s st) _ (fun h=>h) (fun i f hi Q h1 h2=>?_) (fun f h=>?_) (by omega)
 ·simp only [zb5 hi,if_true,zao hi,Option.bind_some,wr1 (show i<1000000 by omega)]
  have jo:=J.each _ (yAo hi)
  have hst:=jo.ok.state.st
  rw [zaf]
  refine ⟨fun h=>h1 fun hs=>?_,fun h=>?_⟩
  ·simp only [yAu,yAP] at h
   omega
  ·simp only [yAu,yAP,not_or] at h
   have hs:st.Jobs[i].State<5:=by omega
   obtain ⟨b,e1,e2⟩:=fits_eq hw.spec k (q:=st.Jobs[i].Queue) (m:=st.Jobs[i].Many) jo.ok.need jo.ok.needz
   rw [e1,Option.bind_some,zaf]
   refine ⟨fun hb=>?_,fun hb=>?_⟩
   ·rw [zab]
    refine h2 fun w=>?_
    have:=(w hs).fits
    rw [e1] at this
    simp only [yAa] at this
    subst this
    simp at hb
   ·simp only [yAv,yA0] at hb
    subst hb
    have ha:=jo.ok.afterN
    refine lpA st.Jobs[i].After (fun _ d=>∃j∈st.Jobs,j.Id=d.Job) (fun m g hm hA hr=>?_) (fun g hA=>?_) (by omega)
    ·simp only [zb5 hm,if_true,zao hm,Option.bind_some,wr1 (show m<1000000 by omega)]
     have ad:=jo.ok.after _ (yAo hm)
     have jid:=jo.ok.id
     refine (find_ok (by omega) J.sorted (id:=st.Jobs[i].After[m].Job) (by omega) J.ids).bind fun r hr1=>?_
     rw [zaf]
     refine ⟨fun hb=>?_,fun hb=>hr ?_⟩
     ·rw [zab]
      refine h2 fun w=>?_
      have:=hr1.1.2 ((w hs).after _ (yAo hm))
      rw [this] at hb
      simp at hb
     ·simp only [yAv,yA0] at hb
      exact hr1.1.1 hb
    ·simp only [zb7,yAg,yAy]
     exact h1 fun _=>⟨e1,zbP hA⟩
 ·simp only [zb7,yAg,yAy]
  exact yes_t h
structure UseOk (s:zad) (st:zae):Prop where
 len:(st.Use.length:Int)=s.Users
 use:∀x∈st.Use,0≤x∧x≤1099511627776
 qlen:st.Stamps.Queues.length=s.Queues.length
 nodes:0≤st.Stamps.Nodes∧st.Stamps.Nodes≤281474976710656
 stamps:∀x∈st.Stamps.Queues,0≤x∧x≤281474976710656
theorem share_right (l:List Int) (hl:l.length≤300):zaY (share_Right 200000 l) (∀x∈l,0≤x∧x≤1099511627776):=by
 simp only [share_Right]
 refine lpC l (fun x=>0≤x∧x≤1099511627776) _ (fun h=>h) (fun i f hi Q h1 h2=>?_) (fun f h=>?_) (by omega)
 ·simp only [zb5 hi,if_true,zao hi,Option.bind_some,wr1 (show i<1000000 by omega),zaf,zab,yAu,yAf]
  exact ⟨fun h=>h2 (by omega),fun h=>h1 (by omega)⟩
 ·simp only [zb7,yAg,yAy]
  exact yes_t h
theorem usage_ok {s:zad} {st:zae} (hw:FewW s st):zaY (store_usage 200000 s st) (UseOk s st):=by
 have h1:=hw.use; have h2:=hw.stamps
 simp only [store_usage,zbh,zbT,Option.bind_some,if_true]
 rw [zaY,zaf]
 refine ⟨fun h=>no_f fun q=>?_,fun h=>?_⟩
 ·simp only [yBp,ne_eq] at h
  exact h q.len
 ·simp only [yBp,ne_eq,yAZ] at h
  refine (share_right st.Use (by omega)).bind fun r hr=>?_
  rw [zaf]
  refine ⟨fun h3=>no_f fun q=>?_,fun h3=>?_⟩
  ·have:=hr.2 q.use
   rw [this] at h3
   simp at h3
  ·simp only [yAv,yA0] at h3
   rw [zaf]
   refine ⟨fun h4=>no_f fun q=>?_,fun h4=>?_⟩
   ·simp only [yBp,ne_eq] at h4
    have:=q.qlen
    omega
   ·simp only [yBp,ne_eq,yAZ] at h4
    rw [zaf]
    refine ⟨fun h5=>no_f fun q=>?_,fun h5=>?_⟩
    ·simp only [yAv,yBt,yBg] at h5
     have:=q.nodes
     omega
    ·simp only [yAv,yA0,yAj,yAf] at h5
     refine lpC st.Stamps.Queues (fun x=>0≤x∧x≤281474976710656) _ (fun h=>h.stamps) (fun i f hi Q g1 g2=>?_) (fun f g=>?_) (by omega)
     ·simp only [zb5 hi,if_true,zao hi,Option.bind_some,wr1 (show i<1000000 by omega),zaf,zab,yAv,yBt,yBg]
      exact ⟨fun h=>g2 (by omega),fun h=>g1 (by omega)⟩
     ·simp only [zb7,yAg,yAy]
      exact yes_t ⟨h,hr.1 h3,by omega,h5,g⟩
theorem ref_use (l:List Int) (n:Int) (hl:l.length≤300):zaY (zc6 200000 l n) ((l.length:Int)=n∧∀x∈l,0≤x∧x≤1099511627776):=by
 simp only [zc6,zbh]
 refine lpC l (fun x=>0≤x∧x≤1099511627776) _ (fun h=>h.2) (fun i f hi Q h1 h2=>?_) (fun f h=>?_) (by omega)
 ·simp only [zb5 hi,if_true,zao hi,Option.bind_some,wr1 (show i<1000000 by omega),zaf,zab,yAf]
  exact ⟨fun h=>h2 (by omega),fun h=>⟨fun h'=>h2 (by omega),fun h'=>h1 (by omega)⟩⟩
 ·simp only [zb7,yAg,yAy,zab,yAP]
  exact ⟨fun e=>⟨e,h⟩,fun e=>e.1⟩
theorem ref_uid (x:Int):zaY (zaN 200000 x) (0≤x∧x≤281474976710656):=by
 simp only [zaN,zaY,zab,yAj,yAf,ge_iff_le]
end Go.Plain
end
section
namespace Go.Plain
open Go.Abs
def hasJ (j:zam):Bool:=(j.State == 3) || (j.State == 4)
theorem hasJ_lt {j:zam} (h:hasJ j=true):j.State<5:=by
 simp only [hasJ,yAu,yAP] at h
 omega
structure PairOk (s:zad) (st:zae) (j:zam) (a:zag):Prop where
 job:a.Job=j.Id
 need:a.Need=j.Need
 suits:SuitsOk s j a.Shares
 now:st.Now<j.Start+j.Wall
def takeA (F:List zac) (a:zag):List zac:=F.mapIdx (leftA a)
theorem takeA_len {F:List zac} {a:zag}:(takeA F a).length=F.length:=by simp [takeA]
theorem takeA_at {F:List zac} {a:zag} {i:Nat} (h:i<(takeA F a).length):(takeA F a)[i]=leftA a i (F[i]'(by rwa [takeA_len] at h)):=by simp [takeA]
theorem Behind.eq {F G:List zac} {a:zag} (h:Behind F a G):G=takeA F a:=
 List.ext_getElem (by rw [h.len,takeA_len]) fun i h1 h2=>by rw [h.at' i h1,takeA_at h2]
theorem takeA_ok {F:List zac} {a:zag} (h:FitsA F a):∀r∈takeA F a,VecOk r:=fun r hr=>by
 obtain ⟨i,hi,rfl⟩:=yAD hr
 rw [takeA_at hi]
 exact h i _
def AllocsH (s:zad) (st:zae):List zam→List zag→List zac→Prop
 | [],A,_=>A=[]
 | j::H,A,F=>∃a A',A=a::A'∧PairOk s st j a∧FitsA F a∧AllocsH s st H A' (takeA F a)
def AllocsOk (s:zad) (st:zae):Prop:=AllocsH s st (st.Jobs.filter hasJ) st.Allocs s.Nodes
theorem AllocsH.mem {s:zad} {st:zae} {H:List zam} {A:List zag} {F:List zac} (h:AllocsH s st H A F):∀a∈A,∃j∈H,PairOk s st j a:=by
 induction H generalizing A F with
 | nil=>intro a ha; rw [show A=[] from h] at ha; cases ha
 | cons j H ih =>
  obtain ⟨b,A',rfl,h1,h2,h3⟩:=h
  intro a ha
  rcases yAt.1 ha with rfl | ha
  ·exact ⟨j,yAq ..,h1⟩
  ·obtain ⟨k,hk,hp⟩:=ih h3 a ha
   exact ⟨k,yAk _ hk,hp⟩
theorem AllocsOk.mem {s:zad} {st:zae} (h:AllocsOk s st):∀a∈st.Allocs,∃j∈st.Jobs,PairOk s st j a:=fun a ha=>by
 obtain ⟨j,hj,hp⟩:=AllocsH.mem h a ha
 exact ⟨j,(yBu.1 hj).1,hp⟩
theorem mget_mset {α:Type} {M:List (Int×α)} {k:Int} {a:α} {k':Int}:mget (mset M k a) k'=if k=k' then some a else mget M k':=by
 induction M with
 | nil=>simp [mset,mget]
 | cons p M ih =>
  obtain ⟨q,v⟩:=p
  simp only [mset]
  split
  ·rename_i e
   subst e
   simp only [mget]
   split <;> rfl
  ·rename_i e
   simp only [mget,ih]
   split
   ·rename_i e2
    rw [if_neg (by intro e3; exact e (by rw [e2,e3]))]
   ·rfl
theorem spec_true {s:zad} (hs:FewS s) (k:SpecOk s):zcz 200000 s=some true:=by
 obtain ⟨r,e,h⟩:=spec_right s hs
 rw [e,h.2 k]
theorem clone_res {l:List zac} (h:l.length≤1000000):zaQ 200000 l=some l:=by
 simp only [zaQ,app_nil h]
theorem new_ledger {s:zad} (hs:FewS s) (k:SpecOk s):zc4 200000 s=some (.inr ([],s.Nodes)):=by
 have:=hs.nodes
 simp only [zc4,spec_true hs k,Option.bind_some,yBa,yAg,yAy,clone_res (show s.Nodes.length≤1000000 by omega)]
theorem tot_pos {l:List zaj} (h:1≤totV l):l≠[]:=fun e=>by subst e; simp [totV] at h
structure AInv (s:zad) (st:zae) (i:Nat) (x:(List zag)×Int×(List zac)×List (Int×zag)):Prop where
 ix:x.2.1=(i:Int)
 iff:AllocsOk s st↔AllocsH s st ((st.Jobs.drop i).filter hasJ) x.1 x.2.2.1
 len:x.2.2.1.length=s.Nodes.length
 vec:∀r∈x.2.2.1,VecOk r
 keys:∀q,mget x.2.2.2 q≠none→∃m,∃h:m<st.Jobs.length,m<i∧st.Jobs[m].Id=q
 sub:∀a∈x.1,a∈st.Allocs
 few:x.1.length≤300
theorem allocations_ok {s:zad} (k:SpecOk s) {st:zae} (hw:FewW s st) (J:JobsOk s st):zaY (zcB 200000 s st) (AllocsOk s st):=by
 have hl:=hw.jobs
 have hn:=hw.spec.nodes
 unfold zcB
 rw [new_ledger hw.spec k,Option.bind_some]
 dsimp only
 refine lpS st.Jobs.length (AInv s st) (fun i x f hi hx hr=>?_) (fun x f hx=>?_) ⟨rfl,by simp [AllocsOk],rfl,k.nodes.ok,fun q h=>absurd rfl h,fun a ha=>ha,hw.allocs⟩ (by omega)
 ·obtain ⟨rest,x1,F,M⟩:=x
  obtain ⟨hx1,hiff,hlen,hvec,hkeys,hsub,hfew⟩:=hx
  dsimp only at hx1 hiff hlen hvec hkeys hsub hfew
  subst hx1
  rw [List.drop_eq_getElem_cons hi] at hiff
  have ji:=J.each _ (yAo hi)
  have jo:=ji.ok
  have up:∀q,(∃m,∃h:m<st.Jobs.length,m<i∧st.Jobs[m].Id=q)→∃m,∃h:m<st.Jobs.length,m<i+1∧st.Jobs[m].Id=q:=fun q ⟨m,h,h1,h2⟩=>⟨m,h,by omega,h2⟩
  simp only [zbh,life_Has,zb5 hi,if_true,zao hi,Option.bind_some,wr1 (show i<1000000 by omega)]
  rw [zaf]
  refine ⟨fun h=>hr _ ⟨rfl,?_,hlen,hvec,fun q hq=>up q (hkeys q hq),hsub,hfew⟩,fun h=>?_⟩
  ·have e:hasJ st.Jobs[i]=false:=by simpa [hasJ] using h
   rw [hiff,List.filter_cons_of_neg (by simp [e])]
  ·have e:hasJ st.Jobs[i]=true:=by simpa only [hasJ,yAv,yA0] using h
   rw [List.filter_cons_of_pos e] at hiff
   have hst:=jo.start; have hwl:=jo.wall
   rw [wr (x:=st.Jobs[i].Start+st.Jobs[i].Wall) (by omega) (by omega),zaf]
   refine ⟨fun h1=>no_f fun q=>?_,fun h1=>?_⟩
   ·obtain ⟨a,A',rfl,hp,-⟩:=hiff.1 q
    have:=hp.now
    simp only [yAu,yAf,yAP,List.length_cons] at h1
    omega
   ·simp only [yAu,yAf,yAP,not_or] at h1
    cases rest with
    | nil=>simp at h1
    | cons a A' =>
     have ha:=hsub a (yAq ..)
     have hsh:=hw.shares a ha
     have at0:at? (a::A') 0=some a:=by unfold at?; rw [if_pos ⟨by omega,by simp only [List.length_cons]; omega⟩]; rfl
     have sl:slice? (a::A') 1 ((a::A').length:Int)=some A':=by
      unfold slice?
      rw [if_pos ⟨by omega,by simp only [List.length_cons]; omega,by omega⟩]
      simp
     simp only [at0,sl,Option.bind_some]
     rw [zaf]
     refine ⟨fun h2=>?_,fun h2=>?_⟩
     ·refine no_f fun q=>?_
      obtain ⟨a',A'',e',hp,-⟩:=hiff.1 q
      cases e'
      have e1:=hp.job
      have e2:zac.beq a.Need st.Jobs[i].Need=true:=beq_res.2 hp.need
      rw [e2] at h2
      simp [e1] at h2
     ·simp only [yAu,yBp,ne_eq,not_or,yAZ,yAv,yA0] at h2
      have eN:a.Need=st.Jobs[i].Need:=beq_res.1 h2.2
      refine (suits_ok hw.spec k st.Jobs[i] a.Shares (yAB hsh (by decide))).bind fun r hr1=>?_
      rw [zaf]
      refine ⟨fun h3=>?_,fun h3=>?_⟩
      ·refine no_f fun q=>?_
       obtain ⟨a',A'',e',hp,-⟩:=hiff.1 q
       cases e'
       have:=hr1.2 hp.suits
       rw [this] at h3
       simp at h3
      ·simp only [yAv,yA0] at h3
       have S:=hr1.1 h3
       have P:PairOk s st st.Jobs[i] a:=⟨h2.1,eN,S,by omega⟩
       have T:FitsA F a→TakeOk M F a:=fun hf=>⟨by have:=jo.id; omega,tot_pos (by have:=jo.many; have:=S.tot; omega),by rw [hlen]; exact S.shares,by rw [eN]; exact jo.need,by
        cases hm:mget M a.Job with
        | none=>rfl
        | some v =>
         obtain ⟨m,hm1,hm2,hm3⟩:=hkeys a.Job (by rw [hm]; simp)
         have:=J.sorted.lt hm2 hi
         omega,hf⟩
       refine (take_ok (M:=M) (a:=a) (F:=F) (by omega) (yAB hsh (by decide)) hvec).bind fun r2 hr2=>?_
       rw [zaf]
       refine ⟨fun h4=>no_f fun q=>?_,fun h4=>?_⟩
       ·obtain ⟨a',A'',e',hp,hf,-⟩:=hiff.1 q
        cases e'
        simp only [yBp,ne_eq] at h4
        exact h4 (hr2.1.2 (T hf))
       ·simp only [yBp,ne_eq,yAZ] at h4
        have tk:=hr2.1.1 h4
        obtain ⟨eM,bh⟩:=hr2.2 h4
        have eF:=bh.eq
        refine hr _ ⟨rfl,?_,?_,?_,fun q hq=>?_,fun b hb=>hsub b (yAk _ hb),?_⟩
        ·rw [hiff]
         dsimp only
         rw [eF]
         constructor
         ·rintro ⟨a',A'',e',hp,hf,hrest⟩
          cases e'
          exact hrest
         ·intro hrest
          exact ⟨a,A',rfl,P,tk.fits,hrest⟩
        ·dsimp only
         rw [eF,takeA_len,hlen]
        ·dsimp only
         rw [eF]
         exact takeA_ok tk.fits
        ·dsimp only at hq
         rw [eM,mget_mset] at hq
         split at hq
         ·rename_i e5
          exact ⟨i,hi,by omega,by rw [←e5,h2.1]⟩
         ·exact up q (hkeys q hq)
        ·simp only [List.length_cons] at hfew
         dsimp only
         omega
 ·obtain ⟨rest,x1,F,M⟩:=x
  obtain ⟨hx1,hiff,hlen,hvec,hkeys,hsub,hfew⟩:=hx
  dsimp only at hx1 hiff
  subst hx1
  rw [List.drop_length] at hiff
  simp only [zb7,yAg,yAy,zab,yAP]
  rw [hiff]
  constructor
  ·intro h
   exact yAR (by omega)
  ·intro h
   rw [show rest=[] from h]
   rfl
end Go.Plain
end
section
namespace Go.Plain
open Go.Abs
structure OneB (n:Int) (b:zak):Prop where
 id:1≤b.Id∧b.Id≤281474976710656
 node:0≤b.Node∧b.Node<n
 lo:0≤b.From
 span:b.From<b.To
 hi:b.To≤1099511627776
structure MeetsB (b:zak) (node p q:Int):Prop where
 node:b.Node=node
 span:b.From<b.To
 pq:p<q
 l:b.From<q
 r:p<b.To
structure BookIn (l:List zak) (n:Int) (i:Nat) (b:zak):Prop where
 one:OneB n b
 up:∀x (h:x<l.length),x<i→l[x].Id<b.Id∧¬MeetsB l[x] b.Node b.From b.To
structure BooksOk (l:List zak) (n:Int):Prop where
 len:l.length≤16
 each:∀i (h:i<l.length),BookIn l n i l[i]
theorem book_meets (l:List zak) (node p q:Int) (hl:l.length≤300):zaY (book_Meets 200000 l node p q) (∃b∈l,MeetsB b node p q):=by
 simp only [book_Meets]
 refine lpA l (fun _ b=>¬MeetsB b node p q) (fun i f hi _ hr=>?_) (fun f h=>?_) (by omega)
 ·simp only [zb5 hi,if_true,zao hi,Option.bind_some,wr1 (show i<1000000 by omega),zaf]
  have e:decide ((if p > l[i].From then p else l[i].From)<(if q<l[i].To then q else l[i].To))=true↔l[i].From<l[i].To∧p<q∧l[i].From<q∧p<l[i].To:=by
   rw [yAf]
   split <;> split <;> omega
  rw [yAj,e,yAP]
  exact ⟨fun h=>yes_t ⟨_,yAo hi,⟨h.1,h.2.1,h.2.2.1,h.2.2.2.1,h.2.2.2.2⟩⟩,fun h=>hr fun m=>h ⟨m.node,m.span,m.pq,m.l,m.r⟩⟩
 ·simp only [zb7,yAg,yAy]
  exact no_f fun ⟨b,hb,hm⟩=>zbP (A:=fun b=>¬MeetsB b node p q) h b hb hm
theorem ref_meets (l:List zak) (node p q:Int) (hl:l.length≤300):zaY (zcc 200000 l node p q) (∃b∈l,MeetsB b node p q):=by
 simp only [zcc]
 refine lpA l (fun _ b=>¬MeetsB b node p q) (fun i f hi _ hr=>?_) (fun f h=>?_) (by omega)
 ·simp only [zb5 hi,if_true,zao hi,Option.bind_some,wr1 (show i<1000000 by omega),zaf]
  simp only [yAj,yAf,yAP]
  exact ⟨fun h=>yes_t ⟨_,yAo hi,⟨h.1.1.1.1,h.1.1.1.2,h.1.1.2,h.1.2,h.2⟩⟩,fun h=>hr fun m=>h ⟨⟨⟨⟨m.node,m.span⟩,m.pq⟩,m.l⟩,m.r⟩⟩
 ·simp only [zb7,yAg,yAy]
  exact no_f fun ⟨b,hb,hm⟩=>zbP (A:=fun b=>¬MeetsB b node p q) h b hb hm
theorem book_one (b:zak) (n:Int):zaY (book_whole 200000 b n) (OneB n b):=by
 simp only [book_whole,zaY,zab,yAj,yAf]
 exact ⟨fun h=>⟨by omega,by omega,by omega,by omega,by omega⟩,fun h=>by have:=h.id; have:=h.node; have:=h.lo; have:=h.span; have:=h.hi; omega⟩
theorem ref_one (b:zak) (n:Int):zaY (zc1 200000 b n) (OneB n b):=by
 simp only [zc1,zaN,Option.bind_some,zaY,zaf,zab,yAj,yAf]
 refine ⟨fun h0=>⟨fun h=>⟨by omega,by omega,by omega,by omega,by omega⟩,fun h=>by have:=h.id; have:=h.node; have:=h.lo; have:=h.span; have:=h.hi; omega⟩,fun h0=>⟨fun h=>by simp at h,fun h=>by have:=h.id; omega⟩⟩
theorem slice_take {α:Type} {l:List α} {i:Nat} (h:i≤l.length):slice? l 0 (i:Int)=some (l.take i):=by
 unfold slice?
 rw [if_pos ⟨by omega,by omega,by omega⟩]
 simp
theorem take_mem {l:List zak} {i:Nat} {P:zak→Prop}:(∃b∈l.take i,P b)↔∃x,∃h:x<l.length,x<i∧P l[x]:=by
 constructor
 ·rintro ⟨b,hb,hp⟩
  obtain ⟨x,hx,rfl⟩:=yAD hb
  rw [yA6] at hx
  rw [List.getElem_take] at hp
  exact ⟨x,by omega,by omega,hp⟩
 ·rintro ⟨x,hx,hxi,hp⟩
  have h2:x<(l.take i).length:=by rw [yA6]; omega
  refine ⟨(l.take i)[x],yAo h2,?_⟩
  rw [List.getElem_take]
  exact hp
theorem book_right (l:List zak) (n:Int) (hl:l.length≤300):zaY (book_Right 200000 l n) (BooksOk l n):=by
 unfold book_Right
 rw [zaY,zaf]
 refine ⟨fun h=>no_f fun q=>?_,fun h=>?_⟩
 ·have:=q.len
  simp only [yAf] at h
  omega
 ·simp only [yAf] at h
  refine lpA l (fun i b=>BookIn l n i b) (fun i f hi hA hr=>?_) (fun f hA=>?_) (by omega)
  ·have hd:decide ((i:Int) > 0)=decide (0<i):=by simp
   simp only [zbh,zb5 hi,if_true,zao hi,Option.bind_some,wr1 (show i<1000000 by omega),hd,slice_take (Nat.le_of_lt hi)]
   refine (book_one l[i] n).bind fun r hr1=>?_
   rw [zaf]
   refine ⟨fun h1=>no_f fun q=>?_,fun h1=>?_⟩
   ·have:=hr1.2 (q.each i hi).one
    rw [this] at h1
    simp at h1
   ·simp only [yAv,yA0] at h1
    have O:=hr1.1 h1
    have fin:(∀x (h:x<l.length),x<i→l[x].Id<l[i].Id)→Ret ((book_Meets 200000 (l.take i) l[i].Node l[i].From l[i].To).bind fun r=>if r=true then some false else f ((i+1:Nat):Int)) (fun b=>b=true↔BooksOk l n):=fun hup=>by
     refine (book_meets (l.take i) _ _ _ (by rw [yA6]; omega)).bind fun r hr2=>?_
     rw [take_mem] at hr2
     rw [zaf]
     refine ⟨fun h2=>no_f fun q=>?_,fun h2=>hr ⟨O,fun x hx hxi=>⟨hup x hx hxi,fun m=>h2 (hr2.2 ⟨x,hx,hxi,m⟩)⟩⟩⟩
     obtain ⟨x,hx,hxi,m⟩:=hr2.1 h2
     exact ((q.each i hi).up x hx hxi).2 m
    rw [zaf]
    refine ⟨fun h2=>?_,fun h2=>?_⟩
    ·simp only [yAf] at h2
     obtain ⟨m,rfl⟩:∃m,i=m+1:=⟨i-1,by omega⟩
     have hm:m<l.length:=by omega
     rw [wp1 (show m+1<1000000 by omega),zao hm,Option.bind_some,zaf]
     refine ⟨fun h3=>no_f fun q=>?_,fun h3=>fin fun x hx hxi=>?_⟩
     ·have:=((q.each (m+1) hi).up m hm (by omega)).1
      simp only [yAf] at h3
      omega
     ·simp only [yAf] at h3
      rcases yBb (yBv.1 hxi) with h' | h'
      ·have:=((hA m hm (by omega)).up x hx h').1
       omega
      ·subst h'; omega
    ·simp only [yAf] at h2
     exact fin fun x hx hxi=>by omega
  ·simp only [zb7,yAg,yAy]
   exact yes_t ⟨by omega,fun i hi=>hA i hi⟩
theorem slice_one {α:Type} {l:List α} {i:Nat} (h:i<l.length):slice? l (i:Int) ((i+1:Nat):Int)=some [l[i]]:=by
 unfold slice?
 rw [if_pos ⟨by omega,by omega,by omega⟩]
 simp only [Int.toNat_natCast]
 rw [yBm h,yBJ (by rw [yA6]; omega),yB0 (by rw [yA6]; omega)]
 rfl
theorem ref_book (l:List zak) (n:Int) (hl:l.length≤300):zaY (zcg 200000 l n) (BooksOk l n):=by
 unfold zcg
 refine lpA l (fun i b=>BookIn l n i b) (fun i f hi hA hr=>?_) (fun f hA=>?_) (by omega)
 ·simp only [zbh,zb5 hi,if_true,zao hi,Option.bind_some,wr1 (show i<1000000 by omega)]
  refine (ref_one l[i] n).bind fun r hr1=>?_
  rw [zaf]
  refine ⟨fun h1=>no_f fun q=>?_,fun h1=>?_⟩
  ·have:=hr1.2 (q.each i hi).one
   rw [this] at h1
   simp at h1
  ·simp only [yAv,yA0] at h1
   have O:=hr1.1 h1
   refine lpS i (fun x y=>y=(x:Int)∧∀z (h:z<l.length),z<x→l[z].Id<l[i].Id∧¬MeetsB l[z] l[i].Node l[i].From l[i].To) (fun x y g hx hy hg=>?_) (fun y g hy=>?_) ⟨rfl,fun z h h'=>by omega⟩ (by omega)
   ·obtain ⟨rfl,hB⟩:=hy
    have hxl:x<l.length:=by omega
    simp only [zb5 hx,if_true,zao hxl,Option.bind_some,wr1 (show x<1000000 by omega)]
    rw [zaf]
    refine ⟨fun h2=>no_f fun q=>?_,fun h2=>?_⟩
    ·have:=((q.each i hi).up x hxl hx).1
     simp only [yAf] at h2
     omega
    ·simp only [yAf] at h2
     rw [slice_one hxl,Option.bind_some]
     refine (ref_meets [l[x]] _ _ _ (by simp)).bind fun r hr2=>?_
     simp only [yAO,exists_eq_left] at hr2
     rw [zaf]
     refine ⟨fun h3=>no_f fun q=>((q.each i hi).up x hxl hx).2 (hr2.1 h3),fun h3=>hg _ ⟨rfl,fun z hz hzx=>?_⟩⟩
     rcases yBb (yBv.1 hzx) with h' | h'
     ·exact hB z hz h'
     ·subst h'; exact ⟨by omega,fun m=>h3 (hr2.2 m)⟩
   ·obtain ⟨rfl,hB⟩:=hy
    simp only [zb7,yAg,yAy]
    exact hr ⟨O,hB⟩
 ·simp only [zb7,yAg,yAy,zab,yAf]
  exact ⟨fun h=>⟨by omega,fun i hi=>hA i hi⟩,fun q=>by have:=q.len; omega⟩
def ClashIn (st:zae) (a:zag):Prop:=∀j∈st.Jobs,j.Id=a.Job→∀x∈a.Shares,∀b∈st.Books,b.Node=x.Node→¬b.From<j.Start+j.Wall
structure BookedOk (s:zad) (st:zae):Prop where
 books:BooksOk st.Books s.Nodes.length
 live:∀b∈st.Books,b.Id<st.Book∧st.Now<b.To
 clash:∀a∈st.Allocs,ClashIn st a
theorem bookings_ok {s:zad} {st:zae} (hw:FewW s st) (J:JobsOk s st) (A:AllocsOk s st):zaY (store_bookings 200000 s st) (BookedOk s st):=by
 have hb:=hw.books; have hj:=hw.jobs; have hal:=hw.allocs
 unfold store_bookings
 refine (book_right st.Books _ (by omega)).bind fun r hr1=>?_
 rw [zaf]
 refine ⟨fun h1=>no_f fun q=>?_,fun h1=>?_⟩
 ·have:=hr1.2 q.books
  rw [this] at h1
  simp at h1
 ·simp only [yAv,yA0] at h1
  have B:=hr1.1 h1
  refine lpA st.Books (fun i b=>b.Id<st.Book∧st.Now<b.To) (fun i f hi _ hr=>?_) (fun f hL=>?_) (by omega)
  ·simp only [zb5 hi,if_true,zao hi,Option.bind_some,wr1 (show i<1000000 by omega)]
   rw [zaf]
   simp only [yAu,yAf]
   exact ⟨fun h2=>no_f fun q=>by have:=q.live _ (yAo hi); omega,fun h2=>hr (by omega)⟩
  ·simp only [zb7,yAg,yAy]
   refine lpA st.Allocs (fun i a=>ClashIn st a) (fun i f hi _ hr=>?_) (fun f hC=>?_) (by omega)
   ·simp only [zb5 hi,if_true,zao hi,Option.bind_some,wr1 (show i<1000000 by omega)]
    have ha:=yAo hi
    have hsh:=hw.shares _ ha
    obtain ⟨j,hj1,P⟩:=A.mem _ ha
    have jin:=J.each j hj1
    have jid:=jin.ok.id; have jst:=jin.ok.start; have jw:=jin.ok.wall
    refine (find_ok (by omega) J.sorted (id:=st.Allocs[i].Job) (by have:=P.job; omega) J.ids).bind fun r2 hr2=>?_
    rw [hr2.1.2 ⟨j,hj1,P.job.symm⟩,if_neg (by simp)]
    have at2:=hr2.2 (hr2.1.2 ⟨j,hj1,P.job.symm⟩)
    obtain ⟨r2a,r2b⟩:=r2
    dsimp only at at2 ⊢
    obtain ⟨hx,e⟩:=at_int (l:=st.Jobs) at2.lo (by have:=at2.lo; have:=at2.hi; omega)
    have ej:st.Jobs[r2a.toNat]=j:=by
     obtain ⟨m,hm,rfl⟩:=yAD hj1
     have:=J.sorted.inj hx hm (by rw [at2.is,P.job])
     subst this
     rfl
    rw [ej] at e
    rw [e]
    simp only [Option.bind_some]
    rw [wr (x:=j.Start+j.Wall) (by omega) (by omega)]
    have pn:=P.now
    refine lpA st.Allocs[i].Shares (fun _ x=>∀b∈st.Books,b.Node=x.Node→¬b.From<j.Start+j.Wall) (fun m g hm _ hg=>?_) (fun g hG=>?_) (by omega)
    ·simp only [zb5 hm,if_true,zao hm,Option.bind_some,wr1 (show m<1000000 by omega)]
     refine (book_meets st.Books _ _ _ (by omega)).bind fun r3 hr3=>?_
     rw [zaf]
     refine ⟨fun h4=>no_f fun q=>?_,fun h4=>hg fun b hb hn hf=>h4 (hr3.2 ⟨b,hb,?_⟩)⟩
     ·obtain ⟨b,hb,mm⟩:=hr3.1 h4
      exact q.clash _ ha j hj1 P.job.symm _ (yAo hm) b hb mm.node mm.l
     ·obtain ⟨y,hy,rfl⟩:=yAD hb
      have:=hL y hy
      exact ⟨hn,(B.each y hy).one.span,pn,hf,this.2⟩
    ·simp only [zb7,yAg,yAy]
     refine hr fun j' hj' ej' x hx b hb=>?_
     have:j'=j:=by
      obtain ⟨m,hm,rfl⟩:=yAD hj1
      obtain ⟨m',hm',rfl⟩:=yAD hj'
      have:=J.sorted.inj hm' hm (by rw [ej',P.job])
      subst this
      rfl
     subst this
     exact zbP (A:=fun x=>∀b∈st.Books,b.Node=x.Node→¬b.From<j'.Start+j'.Wall) hG x hx b hb
   ·simp only [zb7,yAg,yAy]
    exact yes_t ⟨B,zbP hL,zbP hC⟩
structure SoundOk (s:zad) (st:zae):Prop where
 spec:SpecOk s
 nums:NumsOk s st
 jobs:JobsOk s st
 waits:∀j∈st.Jobs,Waits s st j
 allocs:AllocsOk s st
 booked:BookedOk s st
 use:UseOk s st
theorem sound_ok {s:zad} {st:zae} (hw:FewW s st):zaY (store_Sound 200000 s st) (SoundOk s st):=by
 unfold store_Sound
 have step:∀{o:Option Bool} {P:Prop} {k:Option Bool},zaY o P→(SoundOk s st→P)→(P→zaY k (SoundOk s st))→zaY (o.bind fun r=>if r=true then k else some false) (SoundOk s st):=fun h1 h2 h3=>
  h1.bind fun r hr=>zaf.2 ⟨fun h=>h3 (hr.1 h),fun h=>no_f fun q=>h (hr.2 (h2 q))⟩
 refine step (spec_right s hw.spec) (fun q=>q.spec) fun k=>?_
 refine step (numbers_ok k st) (fun q=>q.nums) fun h1=>?_
 refine step (jobs_ok k hw) (fun q=>q.jobs) fun h2=>?_
 refine step (waiting_ok k hw h2) (fun q=>q.waits) fun h3=>?_
 refine step (allocations_ok k hw h2) (fun q=>q.allocs) fun h4=>?_
 refine step (bookings_ok hw h2 h4) (fun q=>q.booked) fun h5=>?_
 refine (usage_ok hw).bind fun r hr=>?_
 rw [zab,hr]
 exact ⟨fun h6=>⟨k,h1,h2,h3,h4,h5,h6⟩,fun q=>q.use⟩
end Go.Plain
end
