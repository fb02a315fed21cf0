/- DfwIn, DfwIo, DfwIs, DfwSo, DfwRw -/
import Derived.Shelf.Spec.SlicesInsertGrow
import Derived.Test.YtdfbphphacpkdaaGreatFwA
import Derived.Test.YtdfbphphacpkdaaGreatFwD
import Derived.Test.YtdfbphphacpkdaaGreatFwG
import Derived.Test.YtdfbphphacpkdaaGreatFwC
import Derived.Lib.SlKeysI
import Derived.Lib.SlicesCompact
set_option linter.all false
section
set_option linter.unusedVariables false
set_option linter.unusedSimpArgs false
namespace Go.Abs
open Go.Proofs Go.Shelf Go.RowKit Go.Lib
variable[Gl]{P:Program}{ρ:Ren}
theorem Di{w:World}{o:Obj}{r:Nat}(h:r<w.heap.size):(w.alloc o).heap[r]? = w.heap[r]?:=by show (w.heap.push o)[r]? = w.heap[r]?;rw[Array.getElem?_push,if_neg (Nat.ne_of_lt h)]
theorem HQ{w:World}{b j:Nat}{arr:Array Value}{T:TypeId}(h:w.heap[b]? = some (.cells arr T (0,0))):w.cell? ⟨b,j,none⟩=arr[j]?:=by simp[World.cell?,h]
theorem Ot{w:World}{b j:Nat}{arr:Array Value}{T:TypeId}(h:w.heap[b]? = some (.cells arr T (0,0))):w.frozen? ⟨b,j,none⟩=false:=by simp[World.frozen?,h]
theorem NJ{w:World}{b:Nat}{arr:Array Value}{T:TypeId}(h:w.heap[b]? = some (.cells arr T (0,0))):w.shape? b=some (T,arr.size):=by simp[World.shape?,h]
theorem mD(w:World)(q s ty e:TypeId)(b o a g i so d k es:Nat)(arr l:Array Value)(T t:TypeId)(cs:List Value)
  (u:P.underlying q=some (.slice e)) (hs:∀w,(Go.sizeOf e).run P w=.ok es w) (x:cs.length=Nat.min d a * es) (y:w.heap[b]? = some (.cells arr T (0,0))) (n:w.heap[i]? = some (.cells l t (0,0)))
  (m:∀j v,cs[j]? = some v->l[so+j]? = some v) (r:o+cs.length<=arr.size) (z:∀v∈cs,v.oneCell'=true) :
  (Builtin.copy_ #[q,s] ty #[.slice (some ⟨b,o,none⟩) a g,.slice (some ⟨i,so,none⟩) d k]).run P w=.ok (goInt (Nat.min d a)) (bX w b (.cells (ce arr o cs) T (0,0))):=by
 have r:=run_loadCells_list (P:=P) w ⟨i,so,none⟩ cs (λj v h=>by rw[show (⟨i,so,none⟩:Addr).add j=⟨i,so+j,none⟩ from by simp[Addr.add],HQ n];exact m j v h);have p:=zdK P T b cs o w arr y z (by omega);simp[Builtin.copy_,run_underlying u,Builtin.lenOf,Builtin.firstCells,hs,<-x,r,p]
structure IL (P:Program) (ρ:Ren) (es by':Nat) (nm:String) (z:Value):Prop where
 mixed:P.follows .mixedOrders=true
 f22:P.funcs[ρ.f 22]? = some { Body2.n22 ρ with name:=nm }
 ov:∀args w,(callFunc (ρ.f 29) args).run P w=((Extern.SlicesOverlaps.overlaps #[ρ.t 24,ρ.t 24] #[ρ.t 4] args).run P w).andThen λv w'=>.ok (.value v) w'
 t0:P.underlying (ρ.t 0)=some (TypeDesc.tuple #[])
 t3:P.underlying (ρ.t 3)=some (TypeDesc.int IntKind.i64)
 t4:P.underlying (ρ.t 4)=some (TypeDesc.bool)
 a3:∀w,(isAgg (ρ.t 3)).run P w=.ok false w
 z3:∀w,(Go.sizeOf (ρ.t 3)).run P w=.ok 1 w
 a4:∀w,(isAgg (ρ.t 4)).run P w=.ok false w
 z4:∀w,(Go.sizeOf (ρ.t 4)).run P w=.ok 1 w
 z9:∀w,(Go.sizeOf (ρ.t 9)).run P w=.ok es w
 v9:∀w,(zeroValue (ρ.t 9)).run P w=.ok z w
 t24:P.underlying (ρ.t 24)=some (TypeDesc.slice (ρ.t 9))
 a24:∀w,(isAgg (ρ.t 24)).run P w=.ok false w
 z24:∀w,(Go.sizeOf (ρ.t 24)).run P w=.ok 1 w
 v24:∀w,(zeroValue (ρ.t 24)).run P w=.ok (Value.slice none 0 0) w
 i9:(P.info? (ρ.t 9)).map (λi=>(i.zero,i.size,i.bytes))=some (some z,es,by')
set_option maxHeartbeats 4000000 in
set_option maxRecDepth 100000 in
theorem PV {es U:Nat} {nm:String} {z:Value} (L:IL P ρ es U nm z) (b n c i p m x:Nat) (arr a:Array Value) (T Q:TypeId) (w:World) (hi:i<n) (hm:0<m) (X:0<es) (t:n+m≤c) (a6:n+m≤2000000)
  (R:w.heap[b]? = some (.cells arr T (0,0))) (S:w.heap[p]? = some (.cells a Q (0,0))) (y:p≠b) (Z:c * es≤arr.size) (A:m * es≤a.size)
  (h1:∀j v,j<n * es→arr[j]? = some v→v.oneCell'=true) (E:∀j v,j<m * es→a[j]? = some v→v.oneCell'=true) :
  Calls P (ρ.f 22) #[.slice (some ⟨b,0,none⟩) n c,.int .i64 i,.slice (some ⟨p,0,none⟩) m x] w fun e w'=>
   e=.returned (.slice (some ⟨b,0,none⟩) (n+m) c)∧w'=bX (bX w.drew b (.cells (ce arr ((i+m) * es) ((arr.toList.take (n * es)).drop (i * es))) T (0,0))) b (.cells (ce (ce arr ((i+m) * es) ((arr.toList.take (n * es)).drop (i * es))) (i * es) (a.toList.take (m * es))) T (0,0)):=by
 have t0:=L.t0; have t3:=L.t3; have t4:=L.t4; have a7:=L.t24; have a3:=L.a3; have z3:=L.z3; have a4:=L.a4; have z4:=L.z4; have z9:=L.z9; have v9:=L.v9; have a8:=L.a24; have a9:=L.z24; have bb:=L.v24
 have u0:=run_underlying L.t0; have u3:=run_underlying L.t3; have u4:=run_underlying L.t4; have bc:=run_underlying L.t24
 have aa:=L.mixed
 have bd:¬((m:Int)=0):=by omega
 have be:¬((i:Int)=(n:Int)):=by omega
 have bh:IntKind.i64.wrap ((i:Int)+(m:Int))=(i:Int)+(m:Int):=by rw [IntKind.wrap_i64]; omega
 have bi:(0:Int)≤(i:Int)+(m:Int):=by omega
 have ab:i≤n:=by omega
 have bk:((i:Int)+(m:Int)).toNat=i+m:=by omega
 have bl:¬(c=i+m):=by omega
 have bt:(i:Int)≤(n:Int)+(m:Int):=by omega
 have bu:¬(c=i):=by omega
 have ad:n * es≤c * es:=Ce _ (by omega)
 have af:(n+m) * es≤c * es:=Ce _ t
 have ak:(n+m) * es=n * es+m * es:=Jm ..
 have an:(i+m) * es=i * es+m * es:=Jm ..
 have ax:i * es≤n * es:=Ce _ ab
 have a0:(n-i) * es=n * es-i * es:=Nat.sub_mul ..
 have a1:0<m * es:=Nat.mul_pos hm X
 have a2:∀lb cb,(callFunc (ρ.f 29) #[.slice (some ⟨p,0,none⟩) m x,.slice (some ⟨b,(i+m) * es,none⟩) lb cb]).run P w=.ok (.value (.bool false)) w:=fun lb cb=>by
  rw [L.ov,Lib.run_overlaps_apart w (ρ.t 24) (ρ.t 4) (ρ.t 9) L.t24 es L.z9 ⟨p,0,none⟩ ⟨b,(i+m) * es,none⟩ m x lb cb y Q T a.size arr.size (NJ S) (NJ R) (by omega) (Ot S) (Ot S)]
  rfl
 obtain ⟨l,g⟩:∃l,l=(arr.toList.take (n * es)).drop (i * es):=⟨_,rfl⟩
 obtain ⟨F,h⟩:∃F,F=a.toList.take (m * es):=⟨_,rfl⟩
 have G:l.length=(n-i) * es:=by rw [g]; simp; omega
 have K:F.length=m * es:=by rw [h]; simp; omega
 rw [←g,←h]
 have q:∀ty u sc,(Builtin.copy_ #[(ρ.t 24),(ρ.t 24)] ty #[.slice (some ⟨b,(i+m) * es,none⟩) (n+m-(i+m)) u,.slice (some ⟨b,i * es,none⟩) (n+m-i) sc]).run P w.drew=.ok (goInt (Nat.min (n+m-i) (n+m-(i+m)))) (bX w.drew b (.cells (ce arr ((i+m) * es) l) T (0,0))):=fun ty u sc=>
  mD w.drew _ _ ty (ρ.t 9) b ((i+m) * es) (n+m-(i+m)) u b (i * es) (n+m-i) sc es arr arr T T l L.t24 L.z9 (by rw [G]; congr 1; simp only [Nat.min_def]; split <;> omega) R R
   (fun j v d=>by
    rw [g,yBx,VU] at d
    split at d
    ·simpa using d
    ·cases d) (by omega)
   (fun v k=>by
    rw [g] at k
    obtain ⟨j,d,e⟩:=jj (Zn k)
    simp only [km,Array.length_toList] at d
    exact h1 j v (by omega) (by rw [←e]; simp))
 obtain ⟨N,o⟩:∃N,N=bX w.drew b (.cells (ce arr ((i+m) * es) l) T (0,0)):=⟨_,rfl⟩
 have a5:b<w.heap.size:=(xR.1 R).1
 have r:N.heap[b]? = some (.cells (ce arr ((i+m) * es) l) T (0,0)):=by rw [o]; exact dN a5
 have s:N.heap[p]? = some (.cells a Q (0,0)):=by rw [o,fe y]; exact S
 have O:∀(W:World),W.heap=N.heap→∀ty u,(Builtin.copy_ #[(ρ.t 24),(ρ.t 24)] ty #[.slice (some ⟨b,i * es,none⟩) (n+m-i) u,.slice (some ⟨p,0,none⟩) m x]).run P W=.ok (goInt (Nat.min m (n+m-i))) (bX W b (.cells (ce (ce arr ((i+m) * es) l) (i * es) F) T (0,0))):=fun W hW ty u=>
  mD W _ _ ty (ρ.t 9) b (i * es) (n+m-i) u p 0 m x es (ce arr ((i+m) * es) l) a T Q F L.t24 L.z9 (by rw [K]; congr 1; simp only [Nat.min_def]; split <;> omega) (by rw [hW]; exact r) (by rw [hW]; exact s)
   (fun j v d=>by
    rw [h,VU] at d
    split at d
    ·simpa using d
    ·cases d) (by rw [Qv (by omega)]; omega)
   (fun v k=>by
    rw [h] at k
    obtain ⟨j,d,e⟩:=jj k
    simp only [km,Array.length_toList] at d
    exact E j v (by omega) (by rw [←e]; simp))
 rw [←o] at q ⊢
 clear ad af ak an ax a0 a1 r s Z A h1 E G K
 go_enter L.f22,Body2.n22_ntmps ρ
 go_wp2_with (simp only [a2])
 go_region_law_o (refine step_copy_runI rfl _ _ (ρ.t 24) (ρ.t 24) rfl _ _ (by simp [Act.eval,Act.put]) (by simp [Act.eval,Act.put]) (q _ _ _) ?_)
 go_wp2_with (at_builtin; refine wpList_copy_runI _ rfl _ _ (ρ.t 24) (ρ.t 24) rfl _ _ rfl rfl (O _ rfl _ _) ?_)
 go_ret
 subst g h o
 exact ⟨rfl,rfl⟩
set_option maxHeartbeats 4000000 in
set_option maxRecDepth 100000 in
theorem Vo {es K:Nat} {nm:String} {z:Value} (L:IL P ρ es K nm z) (b n c i F m vc:Nat) (arr d:Array Value) (T Tv:TypeId) (w:World) (hi:i<n) (hm:0<m) (bt:0<es) (bu:n≤c) (y:c<n+m) (s:(n+m) * K≤140737488355328) (bv:n+m≤2000000) (an:z.cells.size=es)
  (hh:w.heap[b]? = some (.cells arr T (0,0))) (hv:w.heap[F]? = some (.cells d Tv (0,0))) (ax:c * es≤arr.size) (N:m * es≤d.size)
  (h1:∀j v,j<n * es→arr[j]? = some v→v.oneCell'=true) (O:∀j v,j<m * es→d[j]? = some v→v.oneCell'=true) :
  Calls P (ρ.f 22) #[.slice (some ⟨b,0,none⟩) n c,.int .i64 i,.slice (some ⟨F,0,none⟩) m vc] w fun e w'=>∃G a,n+m≤G∧a.size=G * es∧(∀j,j<i * es→a[j]? = arr[j]?) ∧
   e=.returned (.slice (some ⟨w.heap.size,0,none⟩) (n+m) G)∧w'=bX (bX (w.alloc (.cells a (ρ.t 9))).drew w.heap.size (.cells (ce a (i * es) (d.toList.take (m * es))) (ρ.t 9) (0,0))).drew w.heap.size (.cells (ce (ce a (i * es) (d.toList.take (m * es))) ((i+m) * es) ((arr.toList.take (n * es)).drop (i * es))) (ρ.t 9) (0,0)):=by
 have t0:=L.t0; have t3:=L.t3; have t4:=L.t4; have bw:=L.t24; have a3:=L.a3; have z3:=L.z3; have a4:=L.a4; have z4:=L.z4; have z9:=L.z9; have v9:=L.v9; have b0:=L.a24; have b1:=L.z24; have b2:=L.v24
 have u0:=run_underlying L.t0; have u3:=run_underlying L.t3; have u4:=run_underlying L.t4; have b3:=run_underlying L.t24
 have a0:=L.mixed
 obtain ⟨i0,a1,a2,Q,R⟩:=info_parts L.i9
 have b4:¬((m:Int)=0):=by omega
 have b5:¬((i:Int)=(n:Int)):=by omega
 have b6:(c:Int)<(n:Int)+(m:Int):=by omega
 have b7:IntKind.i64.wrap ((i:Int)+(m:Int))=(i:Int)+(m:Int):=by rw [IntKind.wrap_i64]; omega
 have b8:(0:Int)≤(i:Int)+(m:Int):=by omega
 have a5:i≤n:=by omega
 have b9:((i:Int)+(m:Int)).toNat=i+m:=by omega
 have cg:(i:Int)≤(n:Int):=by omega
 have S:(n:Int)+(m:Int)-(i:Int)=((n+m-i:Nat):Int):=by omega
 have A:i+(n+m-i)=n+m:=by omega
 have a6:n * es≤c * es:=Ce _ (by omega)
 have a7:(n+m) * es=n * es+m * es:=Jm ..
 have a8:(i+m) * es=i * es+m * es:=Jm ..
 have a9:i * es≤n * es:=Ce _ a5
 have bb:(n-i) * es=n * es-i * es:=Nat.sub_mul ..
 have bc:(n+m-i) * es=(n+m) * es-i * es:=Nat.sub_mul ..
 obtain ⟨G,hG⟩:∃G,G=grownCap w (n+m) c (ρ.t 9):=⟨_,rfl⟩
 have U:n+m≤G:=by rw [hG]; exact grownCap_ge w _ _ _
 have bd:(n+m) * es≤G * es:=Ce _ U
 have X:(G-(n+m)) * es=G * es-(n+m) * es:=Nat.sub_mul ..
 have t:(Builtin.firstCells i0.size i (.slice (some ⟨b,0,none⟩) i c)).run P w.drew=.ok (arr.toList.take (i * es)).toArray w.drew:=by
  rw [Q]
  have hl:=run_loadCells_list (P:=P) w.drew ⟨b,0,none⟩ (arr.toList.take (i * es)) (fun j v h=>by
   rw [Addr.add_lit,HQ (w:=w.drew) hh]
   rw [VU] at h
   split at h
   ·simpa using h
   ·cases h)
  rw [show (arr.toList.take (i * es)).length=i * es from by simp; omega] at hl
  exact hl
 obtain ⟨a,k⟩:∃a:Array Value,a=(arr.toList.take (i * es)).toArray++Builtin.zeroCells z.cells (n+m-i)++Builtin.zeroCells z.cells (G-(n+m)):=⟨_,rfl⟩
 have be:a.size=G * es:=by
  rw [k]
  simp only [yCh,gq,an,List.size_toArray,km,Array.length_toList]
  omega
 have bh:∀j,j<i * es→a[j]? = arr[j]?:=fun j g=>by
  rw [k,Array.append_assoc,ZX (by simp; omega)]
  simp [VU,g]
 have bi:∀ty,(Builtin.append_ #[(ρ.t 24),(ρ.t 3)] ty #[.slice (some ⟨b,0,none⟩) i c,.int .i64 ((n:Int)+(m:Int)-(i:Int))]).run P w =
   .ok (.slice (some ⟨w.heap.size,0,none⟩) (n+m) G) (w.drew.alloc (.cells a (ρ.t 9))):=fun ty=>by
  have h:=Lib.run_append_grow_zeros w (ρ.t 24) (ρ.t 3) ty (ρ.t 9) i0 _ .i64 .i64 L.t24 L.t3 a1 a2 (some ⟨b,0,none⟩) i c (arr.toList.take (i * es)) t (n+m-i) (by omega) (by omega) (by omega) (by omega)
   (by rw [R]; exact jz (Ce _ (by omega)) (jz s (by omega))) (by rw [R,A]; exact growslice_fits y s)
  rw [A,←hG,←k] at h
  rw [S]
  exact h
 obtain ⟨Z,l⟩:∃Z,Z=(arr.toList.take (n * es)).drop (i * es):=⟨_,rfl⟩
 obtain ⟨q,o⟩:∃q,q=d.toList.take (m * es):=⟨_,rfl⟩
 have aa:Z.length=(n-i) * es:=by rw [l]; simp; omega
 have ab:q.length=m * es:=by rw [o]; simp; omega
 have ad:b<w.heap.size:=(xR.1 hh).1
 have af:F<w.heap.size:=(xR.1 hv).1
 obtain ⟨u,r⟩:∃u,u=(w.alloc (.cells a (ρ.t 9))).drew:=⟨_,rfl⟩
 have q1:u.heap[w.heap.size]? = some (.cells a (ρ.t 9) (0,0)):=by rw [r]; exact heap_alloc_new w _
 have q2:u.heap[F]? = some (.cells d Tv (0,0)):=by rw [r]; exact (Di af).trans hv
 have q3:u.heap[b]? = some (.cells arr T (0,0)):=by rw [r]; exact (Di ad).trans hh
 have q4:w.heap.size<u.heap.size:=(xR.1 q1).1
 have ak:∀(W:World),W.heap=u.heap→∀ty E,(Builtin.copy_ #[(ρ.t 24),(ρ.t 24)] ty #[.slice (some ⟨w.heap.size,i * es,none⟩) (n+m-i) E,.slice (some ⟨F,0,none⟩) m vc]).run P W=.ok (goInt (Nat.min m (n+m-i))) (bX W w.heap.size (.cells (ce a (i * es) q) (ρ.t 9) (0,0))):=fun W hW ty E=>
  mD W _ _ ty (ρ.t 9) w.heap.size (i * es) (n+m-i) E F 0 m vc es a d (ρ.t 9) Tv q L.t24 L.z9 (by rw [ab]; congr 1; simp only [Nat.min_def]; split <;> omega) (by rw [hW]; exact q1) (by rw [hW]; exact q2)
   (fun j v g=>by
    rw [o,VU] at g
    split at g
    ·simpa using g
    ·cases g) (by omega)
   (fun v p=>by
    rw [o] at p
    obtain ⟨j,g,e⟩:=jj p
    simp only [km,Array.length_toList] at g
    exact O j v (by omega) (by rw [←e]; simp))
 have x:∀(W:World),W.heap=(bX u w.heap.size (.cells (ce a (i * es) q) (ρ.t 9) (0,0))).heap→∀ty E sc,(Builtin.copy_ #[(ρ.t 24),(ρ.t 24)] ty #[.slice (some ⟨w.heap.size,(i+m) * es,none⟩) (n+m-(i+m)) E,.slice (some ⟨b,i * es,none⟩) (n-i) sc]).run P W=.ok (goInt (Nat.min (n-i) (n+m-(i+m)))) (bX W w.heap.size (.cells (ce (ce a (i * es) q) ((i+m) * es) Z) (ρ.t 9) (0,0))):=fun W hW ty E sc=>
  mD W _ _ ty (ρ.t 9) w.heap.size ((i+m) * es) (n+m-(i+m)) E b (i * es) (n-i) sc es (ce a (i * es) q) arr (ρ.t 9) T Z L.t24 L.z9 (by rw [aa]; congr 1; simp only [Nat.min_def]; split <;> omega) (by rw [hW]; exact dN q4) (by rw [hW,fe (by omega)]; exact q3)
   (fun j v g=>by
    rw [l,yBx,VU] at g
    split at g
    ·simpa using g
    ·cases g) (by rw [Qv (by omega)]; omega)
   (fun v p=>by
    rw [l] at p
    obtain ⟨j,g,e⟩:=jj (Zn p)
    simp only [km,Array.length_toList] at g
    exact h1 j v (by omega) (by rw [←e]; simp))
 have bk:G≤9223372036854775807:=by
  have:=grownCap_le_maxLen w (n+m) c (ρ.t 9) (by unfold maxLen; omega)
  rw [←hG] at this
  unfold maxLen at this
  omega
 have ch:¬(G=i):=by omega
 have bl:¬(G=i+m):=by omega
 have ck:¬(c=i):=by omega
 rw [←l,←o]
 clear a6 a7 a8 a9 bb bc bd X q1 q2 q3 q4 ax N h1 O aa ab S A t k hG ad af l o
 subst r
 have hF:((bX (w.alloc (.cells a (ρ.t 9))).drew w.heap.size (.cells (ce a (i * es) q) (ρ.t 9) (0,0))).drew).heap=(bX (w.alloc (.cells a (ρ.t 9))).drew w.heap.size (.cells (ce a (i * es) q) (ρ.t 9) (0,0))).heap:=rfl
 go_enter L.f22,Body2.n22_ntmps ρ
 go_wp2_with (first
  | (at_builtin; refine Lib.wpList_append_run _ rfl _ _ _ _ rfl _ _ rfl rfl _ _ (bi _) ?_)
  | (at_builtin; refine wpList_copy_runI _ rfl _ _ (ρ.t 24) (ρ.t 24) rfl _ _ rfl rfl (ak _ rfl _ _) ?_)
  | (at_builtin; refine wpList_copy_runI _ rfl _ _ (ρ.t 24) (ρ.t 24) rfl _ _ rfl rfl (x _ rfl _ _ _) ?_))
 go_region_law_o (refine step_copy_runI rfl _ _ (ρ.t 24) (ρ.t 24) rfl _ _ (by simp [Act.eval,Act.put]) (by simp [Act.eval,Act.put]) (x _ hF _ _ _) ?_)
 go_wp2
 go_ret
 exact ⟨G,a,U,be,bh,rfl,rfl⟩
end Go.Abs
end
section
namespace Go.Abs
open Go.Proofs Go.Shelf
noncomputable section
section
variable[Gl]{P:Program}{ρ:Ren}{σ:ae}{M:Nat->Option Nat}{Fz:Nat->Prop}{w:World}
theorem OM{e o:Array Value}{n m k es:Nat}{arr:Array Value}{b g:List D}(hk:k<=n)(r:b.length=n * es)(l:g.length=m * es)
  (s:∀j,j<k * es->arr[j]? = e[j]?) (t:∀j,j<m * es->arr[k * es+j]? = o[j]?) (u:∀j,k * es<=j->j<n * es->arr[j+m * es]? = e[j]?)
  (Q:D->Value->Prop) (p:∀(i:Nat) d v,b[i]? = some d->e[i]? = some v->Q d v) (x:∀(i:Nat) d v,g[i]? = some d->o[i]? = some v->Q d v) :
  ∀(i:Nat) d v,(b.take (k * es)++g++b.drop (k * es))[i]? = some d->arr[i]? = some v->Q d v:=λi d v hd a=>by
 have z:k * es<=n * es:=Ce _ hk;have q:(b.take (k * es)).length=k * es:=by simp;omega
 by_cases h:i<k * es
 ·rw[PI,DK (by omega),VU,if_pos h] at hd;rw[s i h] at a;exact p i d v hd a
 ·by_cases A:i<k * es+m * es
  ·rw[DK (by simp;omega),KE (by omega),q] at hd;have:=t (i-k * es) (by omega);rw[show k * es+(i-k * es)=i by omega] at this;rw[this] at a;exact x _ d v hd a
  ·rw[KE (by simp;omega),yBx] at hd;simp only[Jw,q,l] at hd;have y:=(d_.1 hd).1;have:=u (k * es+(i-(k * es+m * es))) (by omega) (by omega);rw[show k * es+(i-(k * es+m * es))+m * es=i by omega] at this;rw[this] at a;exact p _ d v hd a
theorem LB{c:Nat}{o o':Obj}:(bX (bX w c o) c o').heap=(bX w c o').heap:=by simp only[bX];apply Array.ext_getElem?;intro i;simp only[Rk,Array.size_setIfInBounds];split <;> rfl
theorem MH{o o':Obj}:(bX (w.alloc o) w.heap.size o').heap=(w.alloc o').heap:=by
 show (w.heap.push o).setIfInBounds w.heap.size o'=w.heap.push o';apply Array.ext_getElem?;intro i;simp only[Rk,Array.getElem?_push,Array.size_push]
 grind
end
section
variable[Gl][Y:Ty]{P:Program}{ρ:Ren}{α:Type}{f:α->List C}{es:Nat}
theorem Tl(d:∀a,(f a).length=es){l v:List α}{k:Nat}(hk:k<=l.length):((l.take k++v++l.drop k).flatMap f).map D.c=((l.flatMap f).map D.c).take (k * es)++(v.flatMap f).map D.c++((l.flatMap f).map D.c).drop (k * es):=by
 have e:(l.flatMap f).map D.c=((l.take k).flatMap f).map D.c++((l.drop k).flatMap f).map D.c:=by rw[<-Ic,<-List.flatMap_append,yBu]
 have b:(((l.take k).flatMap f).map D.c).length=k * es:=by rw[ql,Rb d,km,Nat.min_eq_left hk]
 rw[e,List.take_left' b,List.drop_left' b];simp
theorem Lh{ax:Nat}{nm:String}{z:Value}(L:IL P ρ es ax nm z)(be:z.cells.size=es)(X:0<es)(bh:ax<=1000)(hf:∀a,(f a).length=es){l v:List α}{k:Nat}(hk:k<l.length)(hm:0<v.length)(a0:l.length+v.length<=1000000) :
  Ok P (ρ.f 22) [OS es 0 l.length,.c (.lit (.int .i64 (k:Int))),OS es 1 v.length] [OB f l,OB f v] (OS es 0 (l.take k++v++l.drop k).length) [OB f (l.take k++v++l.drop k),OB f v]:=by
 intro M Fz w vs R hs hv;have bi:vs.size=3:=hs;obtain ⟨v0,v1,v2,rfl⟩:∃v0 v1 v2,vs=#[v0,v1,v2]:=by
  obtain ⟨xs⟩:=vs
  match xs,bi with
  |[a,b,c],_=>exact ⟨a,b,c,rfl⟩
 have g0:=hv 0 _ v0 rfl rfl;have g1:=(hv 1 _ v1 rfl rfl).bI;have g2:=hv 2 _ v2 rfl rfl;subst g1;have u:([OB f l,OB f v]:ae)[0]? = some (.cells ((l.flatMap f).map D.c)):=rfl;have a1:([OB f l,OB f v]:ae)[1]? = some (.cells ((v.flatMap f).map D.c)):=rfl;have L0:((l.flatMap f).map D.c).length=l.length * es:=by rw[ql,Rb hf]
 have L1:((v.flatMap f).map D.c).length=v.length * es:=by rw[ql,Rb hf]
 have nn:(l.take k++v++l.drop k).length=l.length+v.length:=by simp;omega
 have b3:k * es<l.length * es:=yBN hk X;have b4:(l.length+v.length) * es=l.length * es+v.length * es:=Jm ..;have b5:0<v.length * es:=Nat.mul_pos hm X;have b6:(k+v.length) * es=k * es+v.length * es:=Jm ..;rcases g0.dV (KY u L0) with ⟨_,e,_⟩ | ⟨c,o,cap,m,T,hM,rfl,⟨a2,b7⟩,ho,hh,b2,_⟩
 ·omega
 rcases g2.dV (KY a1 L1) with ⟨_,e,_⟩ | ⟨cv,ov,K,n,Tv,a5,rfl,⟨bk,b8⟩,bl,ab,bt,_⟩
 ·omega
 have b9:∀x y:Nat,0<x->x<=y->y≠0:=λx y h h'=>by omega
 obtain rfl:o=0:=by rcases ho with h | h;exact h;omega
 obtain rfl:ov=0:=by rcases bl with h | h;exact h;omega
 obtain ⟨N,T',ad,_,af⟩:=R.row hM u;rw[hh] at ad;simp only[aj,Obj.cells.injEq,Iq] at ad;obtain ⟨rfl,rfl⟩:=ad;obtain ⟨bu,cg,O,_,ak⟩:=R.row a5 a1;rw[ab] at O;simp only[aj,Obj.cells.injEq,Iq] at O;obtain ⟨rfl,rfl⟩:=O;have bv:cv≠c:=λe=>by have:=R.inj 1 0 c (e▸a5) hM;omega
 have o1:∀j x,j<l.length * es->m[j]? = some x->x.oneCell'=true:=λj x hj hx=>by obtain ⟨d,hd⟩:∃d,((l.flatMap f).map D.c)[j]? = some d:=⟨_,cT (by omega)⟩;exact (af j d x hd hx).2
 have o2:∀j x,j<v.length * es->n[j]? = some x->x.oneCell'=true:=λj x hj hx=>by obtain ⟨d,hd⟩:∃d,((v.flatMap f).map D.c)[j]? = some d:=⟨_,cT (by omega)⟩;exact (ak j d x hd hx).2
 have Q:cap * es<=m.size:=by omega
 have t:v.length * es<=n.size:=by have:v.length * es<=K * es:=Ce _ bk;omega
 have hS:=λh:l.length+v.length<=cap=>PV L c l.length cap k cv v.length K m n T Tv w hk hm X h (by omega) hh ab bv Q t o1 o2;have hG:=λh:cap<l.length+v.length=>Vo L c l.length cap k cv v.length K m n T Tv w hk hm X a2 h (jz (yCm a0 bh) (by omega)) (by omega) be hh ab Q t o1 o2;have a6:((m.toList.take (l.length * es)).drop (k * es)).length=l.length * es-k * es:=by have:l.length * es<=cap * es:=Ce _ a2;simp;omega
 have a7:(n.toList.take (v.length * es)).length=v.length * es:=by simp;omega
 have a8:∀j,k * es<=j->j<l.length * es->((m.toList.take (l.length * es)).drop (k * es))[j-k * es]? = m[j]?:=λj h h'=>by rw[yBx,show k * es+(j-k * es)=j by omega,VU,if_pos h'];simp
 have a9:∀j,j<v.length * es->(n.toList.take (v.length * es))[j]? = n[j]?:=λj h=>by rw[VU,if_pos h];simp
 generalize (m.toList.take (l.length * es)).drop (k * es)=CS at *;generalize n.toList.take (v.length * es)=VS at *;have fin:=Tl hf (l:=l) (v:=v) (k:=k) (by omega);have Lf:(((l.take k++v++l.drop k).flatMap f).map D.c).length=(l.length+v.length) * es:=by rw[ql,Rb hf,nn]
 have R1:Rel [OB f l,OB f v] M Fz w.drew:=R.heap rfl ⟨rfl,rfl,rfl⟩;have E1:ba [OB f l,OB f v] M Fz w [OB f l,OB f v] M Fz w.drew:=ba.heap R rfl ⟨rfl,rfl,rfl⟩;have bw:c<w.heap.size:=(xR.1 hh).1;have row:∀(A:Array Value)(M':Nat->Option Nat)(w':World),ba [OB f l,OB f v] M Fz w [OB f (l.take k++v++l.drop k),OB f v] M' Fz w'->(∀j,j<k * es->A[j]? = m[j]?)->(∀j,j<v.length * es->A[k * es+j]? = n[j]?)->(∀j,k * es<=j->j<l.length * es->A[j+v.length * es]? = m[j]?) ->
   ∀(i:Nat) d x,(((l.take k++v++l.drop k).flatMap f).map D.c)[i]? = some d->A[i]? = some x->V [OB f (l.take k++v++l.drop k),OB f v] M' Fz w' d x/\x.oneCell'=true:=λA M' w' E hA hB hC=>by
  rw[fin];exact OM (by omega) L0 L1 hA hB hC (λd x=>V [OB f (l.take k++v++l.drop k),OB f v] M' Fz w' d x/\x.oneCell'=true) (λi d x h1 h2=>⟨(af i d x h1 h2).1.mono E,(af i d x h1 h2).2⟩) (λi d x h1 h2=>⟨(ak i d x h1 h2).1.mono E,(ak i d x h1 h2).2⟩)
 have Z:(Ob.cells ((l.flatMap f).map D.c)).sz<(OB f (l.take k++v++l.drop k)).sz:=by show ((l.flatMap f).map D.c).length<(((l.take k++v++l.drop k).flatMap f).map D.c).length;omega
 by_cases q:l.length+v.length<=cap
 ·refine (hS q).mono λe w' he=>?_;obtain ⟨rfl,rfl⟩:=he;have b0:(l.length+v.length) * es<=cap * es:=Ce _ q;generalize S:ce m ((k+v.length) * es) CS=F;have an:F.size=m.size:=by rw[<-S];exact Qv (by omega)
  generalize U:ce F (k * es) VS=p;have bb:p.size=m.size:=by rw[<-U,Qv (by omega),an]
  rw[DV];have aa:∀W T1 fr,Obj.cells m T (0,0)=.cells W T1 fr->∃N,Obj.cells p T (0,0)=.cells N T1 fr/\N.size=W.size:=λW T1 fr h=>by simp only[Obj.cells.injEq] at h;obtain ⟨rfl,rfl,rfl⟩:=h;exact ⟨_,rfl,bb⟩
  have EV:=ba.qp (ob':=OB f (l.take k++v++l.drop k)) R1 hM u hh (yBR Z) aa;have bc:=E1.trans EV (cn _);have g:∀j,p[j]? = if k * es<=j/\j<k * es+v.length * es then VS[j-k * es]? else F[j]?:=λj=>by rw[<-U,bV (by omega),a7]
  have g':∀j,F[j]? = if (k+v.length) * es<=j/\j<(k+v.length) * es+(l.length * es-k * es) then CS[j-(k+v.length) * es]? else m[j]?:=λj=>by rw[<-S,bV (by omega),a6]
  have hr:=row p M _ bc (λj hj=>by rw[g,if_neg (by omega),g',if_neg (by omega)]) (λj hj=>by rw[g,if_pos (by omega),yBJ];exact a9 j hj)
   (λj h h'=>by rw[g,if_neg (by omega),g',if_pos (by omega),show j+v.length * es-(k+v.length) * es=j-k * es by omega];exact a8 j h h')
  refine ⟨_,M,Fz,rfl,R1.qp hM u hh (yBR Z) aa ⟨p,T,rfl,by omega,hr⟩,?_,bc⟩;rw[nn];refine .sl _ _ _ (by simp) (OB f (l.take k++v++l.drop k)) rfl (by show _<=(((l.take k++v++l.drop k).flatMap f).map D.c).length;omega) (λ_=>.inr ⟨c,0,p,T,hM,rfl,rfl,⟨q,by omega⟩,.inl rfl,dN bw,by omega,by omega⟩)
 ·refine (hG (by omega)).mono λe w' he=>?_;obtain ⟨G,r,bd,ch,b1,rfl,rfl⟩:=he;have b0:(l.length+v.length) * es<=G * es:=Ce _ bd;generalize S:ce r (k * es) VS=F;have an:F.size=r.size:=by rw[<-S];exact Qv (by omega)
  generalize U:ce F ((k+v.length) * es) CS=p;have bb:p.size=r.size:=by rw[<-U,Qv (by omega),an]
  have EV:=ba.move (o':=.cells p (ρ.t 9)) (ob':=OB f (l.take k++v++l.drop k)) R u Z;have s:(bX (bX (w.alloc (.cells r (ρ.t 9))).drew w.heap.size (.cells F (ρ.t 9) (0,0))).drew w.heap.size (.cells p (ρ.t 9) (0,0))).heap=(w.alloc (.cells p (ρ.t 9))).heap:=by have e1:(bX (bX (w.alloc (.cells r (ρ.t 9))).drew w.heap.size (.cells F (ρ.t 9) (0,0))).drew w.heap.size (.cells p (ρ.t 9) (0,0))).heap=(bX (bX (w.alloc (.cells r (ρ.t 9))) w.heap.size (.cells F (ρ.t 9) (0,0))) w.heap.size (.cells p (ρ.t 9) (0,0))).heap:=rfl;rw[e1,LB,MH]
  have g:∀j,p[j]? = if (k+v.length) * es<=j/\j<(k+v.length) * es+(l.length * es-k * es) then CS[j-(k+v.length) * es]? else F[j]?:=λj=>by rw[<-U,bV (by omega),a6]
  have g':∀j,F[j]? = if k * es<=j/\j<k * es+v.length * es then VS[j-k * es]? else r[j]?:=λj=>by rw[<-S,bV (by omega),a7]
  have hr:=row p _ _ EV (λj hj=>by rw[g,if_neg (by omega),g',if_neg (by omega),b1 j hj]) (λj hj=>by rw[g,if_neg (by omega),g',if_pos (by omega),yBJ];exact a9 j hj)
   (λj h h'=>by rw[g,if_pos (by omega),show j+v.length * es-(k+v.length) * es=j-k * es by omega];exact a8 j h h')
  have RM:=R.move (o':=.cells p (ρ.t 9)) (ob':=OB f (l.take k++v++l.drop k)) u Z ⟨p,ρ.t 9,rfl,by omega,hr⟩;have ck:(w.alloc (.cells p (ρ.t 9))).os=w.os/\(w.alloc (.cells p (ρ.t 9))).tape=w.tape/\(w.alloc (.cells p (ρ.t 9))).output=w.output:=⟨rfl,rfl,rfl⟩;have RF:=RM.heap s ⟨rfl,rfl,rfl⟩;have EF:=EV.trans (ba.heap RM s ⟨rfl,rfl,rfl⟩) (cn _);refine ⟨_,_,Fz,rfl,RF,?_,?_⟩
  rotate_left
  ·exact EF
  rw[nn];refine .sl _ _ _ (by simp) (OB f (l.take k++v++l.drop k)) rfl (by show _<=(((l.take k++v++l.drop k).flatMap f).map D.c).length;omega) (λ_=>.inr ⟨w.heap.size,0,p,ρ.t 9,by simp[ut],rfl,rfl,⟨bd,by omega⟩,.inl rfl,?_,by omega,by omega⟩);rw[s];exact heap_alloc_new w _
end
end
end Go.Abs
end
section
namespace Go.Abs
open Go.Proofs Go.Shelf
noncomputable section
variable[Gl][Y:Ty]
def Hy{α:Type}(l v:List α)(k:Int):Option (List α):=if 0<=k/\k<l.length/\0<v.length/\l.length+v.length<=1000000 then some (l.take k.toNat++v++l.drop k.toNat) else none
def orE{α:Type}(a b:Option α):Option α:=match a with | some x=>some x | none=>b
theorem cZ.or {P:Program} {g:FuncId} {j:CT} {o:List CT} {f1 f2:cV j.items→Option (nP o)} (s:cZ P g ⟨j,o,f1⟩) (O:cZ P g ⟨j,o,f2⟩):cZ P g ⟨j,o,fun x=>orE (f1 x) (f2 x)⟩:=
 ⟨s.1,fun x y u σ A z E F i G hs K=>by
  change orE (f1 x) (f2 x)=some y at i
  cases h:f1 x with
  | some Q =>
   rw [h] at i
   exact s.2 x y u σ A z E F (by rw [←i]; exact h) G hs K
  | none =>
   rw [h] at i
   exact O.2 x y u σ A z E F i G hs K⟩
theorem Dj{P:Program}{ρ:Ren}{ii es d:Nat}{r:String}{z:Value}(L:IL P ρ es d r z)(j:Nat.beq es (ar ii)=true)(s:aN P (ρ.f 22)=true)(m:Nat.beq z.cells.size es=true)(n:Nat.blt 0 es=true)(o:Nat.ble d 1000=true) :
  cZ P (ρ.f 22) ⟨.mk [.p (.hd 0),.v (.c (.int .i64)),.p (.hd 1)] [] [.row ii,.row ii] [] [] [],[.mk [.p (.hd 0)] [.w 0 ii] [] [] [] []],λx=>Hy (α:=TT ii) x.1 x.2.1 x.2.2⟩:=by
 have:=cr j;subst this;refine ⟨s,λx y t σ G z u A b q a p=>?_⟩;dsimp only at b q a;change cV [It.ls ii,It.ls ii,It.cc (.int .i64)] at x;change cV [It.ls ii] at y;have g:some ([TV.c (.own ii 0 0 (List.length (α:=TT ii) x.1)),TV.c (.d (.c (.lit (.int .i64 x.2.2)))),TV.c (.own ii 1 0 (List.length (α:=TT ii) x.2.1))],[TB.row ii x.1 0 0,TB.row ii x.2.1 0 0])=some (t,σ):=by rw[<-q];have e:dk (CT.items (.mk [.p (.hd 0),.v (.c (.int .i64)),.p (.hd 1)] [] [.row ii,.row ii] [] [] [])) x=[⟨.ls ii,x.1⟩,⟨.ls ii,x.2.1⟩,⟨.cc (.int .i64),x.2.2⟩]:=rfl;unfold kC;rw[e];simp only[CT.pl,CT.nb,CT.out,bG,cS,jr,vV,ub,Cq,du,de,Kp,List.nil_append,List.getElem?_cons_zero,List.getElem?_cons_succ,pd]
 simp only[aj,aM] at g;obtain ⟨rfl,rfl⟩:=g;simp only[qo,aj,Wg] at a;obtain ⟨rfl,rfl⟩:=a;have i:some ([TV.c (.own ii 0 1 (List.length (α:=TT ii) y))],[TB.row ii y 1 1,TB.row ii x.2.1 0 0])=some (u,A):=by rw[<-p];have e:dk (CT.items (.mk [.p (.hd 0)] [.w 0 ii] [] [] [] [])) y=[⟨.ls ii,y⟩]:=rfl;unfold kC;rw[e];simp only[CT.pl,CT.nb,CT.out,bG,cS,jr,vV,ub,Cq,du,de,Kp,List.cons_append,List.nil_append,List.getElem?_cons_zero,List.getElem?_cons_succ,List.set_cons_zero,yCf]
 simp only[aj,aM] at i;obtain ⟨rfl,rfl⟩:=i;obtain ⟨l,v,k⟩:=x;change List (TT ii) at l;change List (TT ii) at v;change List (TT ii) at y;change Int at k;change Hy l v k=some y at b;unfold Hy at b;split at b
 ·rename_i h;simp only[aj] at b;subst b;obtain ⟨K,N,E,F⟩:=h;have:=Lh L (cr m) (qK.mp n) (zE o) (pz ii) (l:=l) (v:=v) (k:=k.toNat) (by omega) E F;rw[show ((k.toNat:Nat):Int)=k by omega] at this;exact this
 ·simp at b
end
end Go.Abs
end
section
namespace Go.Abs
open Go.Proofs Go.Sort Go.RowKit
noncomputable section
structure Le (P:Program) (g:FuncId):Prop where
 en:aN P g=true
 run:∀(blk off cap:Nat)(zs:List Int)(w:World),Holds encZ w blk off zs.toArray->blk<w.heap.size->zs.length<4611686018427387904->Calls P g #[.slice (some ⟨blk,off,none⟩) zs.length cap] w λe w'=>e=.returned (.tuple #[])/\∃n os,w'=grow (putRow encZ (Sort.ahead w n) blk off (zs.mergeSort λx y=>decide (x<=y)).toArray) os
 nil:∀(p:Option Addr)(cap:Nat)(w:World),Calls P g #[.slice p 0 cap] w λe w'=>e=.returned (.tuple #[])/\w'=w
structure yF (P:Program) (g:FuncId):Prop where
 en:aN P g=true
 run:∀(blk off cap:Nat)(zs:List Int)(w:World),Holds encZ w blk off zs.toArray->zs.length<=9223372036854775807->zs.length<=cap->Calls P g #[.slice (some ⟨blk,off,none⟩) zs.length cap] w λe w'=>e=.returned (.slice (some ⟨blk,off,none⟩) (Lib.compact zs).length cap)/\∃q,w'=putRow encZ (Sort.ahead w q) blk off (Lib.compact zs++List.replicate (zs.length-(Lib.compact zs).length) 0).toArray
 nil:∀(a:Option Addr)(cap:Nat)(w:World),Calls P g #[.slice a 0 cap] w λe w'=>e=.returned (.slice a 0 cap)/\w'=w
def IU{α:Type}(d:α->Int)(c:Int->α)(l:List α):Option (List α):=if l.length<=1000000 then some (((l.map d).mergeSort λx y=>decide (x<=y)).map c) else none
def Hw{α:Type}(d:α->Int)(c:Int->α)(l:List α):Option (List α×List α):=if l.length<=1000000 then some (l++[c 0],(Lib.compact (l.map d)).map c) else none
abbrev dI(k:Int):D:=.c (.lit (.int .i64 k))
variable[Gl]
theorem Nx{σ:ae}{M:Nat->Option Nat}{Fz:Nat->Prop}{w:World}(R:Rel σ M Fz w){b c n:Nat}{os:Array Obj}{arr:Array Value}{T:TypeId}(x:M b=some c){zs a:List Int}(y:σ[b]? = some (.cells (zs.map dI)))
  (q:w.heap[c]? = some (.cells arr T (0,0))) (F:a.length=zs.length) (G:zs.length<=arr.size) :
  Rel (σ.set b (.cells (a.map dI))) M Fz (grow (putRow encZ (Sort.ahead w n) c 0 a.toArray) os)/\ba σ M Fz w (σ.set b (.cells (a.map dI))) M Fz (grow (putRow encZ (Sort.ahead w n) c 0 a.toArray) os)/\(grow (putRow encZ (Sort.ahead w n) c 0 a.toArray) os).heap[c]? = some (.cells (putCells encZ 0 a.toArray arr) T (0,0)):=by
 have r:c<w.heap.size:=(xR.1 q).1;have z:(putCells encZ 0 a.toArray arr).size=arr.size:=by simp[putCells]
 have l:∀j s t,Obj.cells arr T (0,0)=.cells j s t->∃m,Obj.cells (putCells encZ 0 a.toArray arr) T (0,0)=.cells m s t/\m.size=j.size:=λj s t h=>by simp only[Obj.cells.injEq] at h;obtain ⟨rfl,rfl,rfl⟩:=h;exact ⟨_,rfl,z⟩
 have p:(Ob.cells (zs.map dI)).sz<=(Ob.cells (a.map dI)).sz:=by simp[Ob.sz,F]
 have cells:∀(i:Nat) k,a[i]? = some k->(putCells encZ 0 a.toArray arr)[i]? = some (encZ k):=λi k hk=>by
  have A:i<a.length:=(d_.1 hk).1;have K:i<arr.size:=by omega
  simp only[putCells,Array.getElem?_mapIdx,oF K,Option.map_some];rw[if_pos ⟨by omega,by simpa using A⟩];have:a.toArray[i-0]! = k:=by rw[xAe,yCe _ _ (by simpa using A)];simpa using (d_.1 hk).2
  rw[this]
 have L:=ba.qp (ob':=.cells (a.map dI)) R x y q p l;have E:=R.qp (ob':=.cells (a.map dI)) x y q p l ⟨_,T,rfl,by rw[z];simp;omega,λi d v hd u=>by rw[gP,bU] at hd;obtain ⟨k,hk,rfl⟩:=hd;rw[cells i k hk] at u;simp only[aj] at u;subst u;exact ⟨.c (.lit _),rfl⟩⟩
 have o:=heap_sorted_i (n:=n) (os:=os) a.toArray q;have B:Below (bX w c (.cells (putCells encZ 0 a.toArray arr) T (0,0))).heap.size (bX w c (.cells (putCells encZ 0 a.toArray arr) T (0,0))) (grow (putRow encZ (Sort.ahead w n) c 0 a.toArray) os):=by
  obtain ⟨N,O,Q,S,U⟩:=grownBy_sorted_i (w:=w) (g:=c) (n:=n) (os:=os) a.toArray;refine ⟨N,O,Q,by simpa using S,λk hk=>?_⟩;rw[PH] at hk;by_cases e:k=c
  ·subst e;rw[o,dN r]
  ·rw[U k hk (by simpa using e),fe e]
 exact ⟨E.below B,L.trans (ba.below E B) (by simp),o⟩
theorem DB{σ:ae}{M:Nat->Option Nat}{Fz:Nat->Prop}{w:World}(R:Rel σ M Fz w){b c:Nat}{arr:Array Value}{T:TypeId}(j:M b=some c){zs:List Int}(k:σ[b]? = some (.cells (zs.map dI)))(g:w.heap[c]? = some (.cells arr T (0,0)))(l:zs.length<=arr.size) :
  Holds encZ w c 0 zs.toArray:=by
 obtain ⟨h,m,a,n,d⟩:=R.row j k;rw[g] at a;simp only[aj,Obj.cells.injEq,Iq] at a;obtain ⟨rfl,rfl⟩:=a;refine holds_of_block_i g (Qg λi=>?_);by_cases e:i<zs.length
 ·rw[VU,if_pos e,Kr,gP,cT e,oF (by omega)];have:=(d i (dI zs[i]) (arr[i]'(by omega)) (by simp[e]) (oF _)).1.bI;simp[this]
 ·rw[yBC (by simp;omega),yBC (by simp;omega)]
variable[Y:Ty]
theorem RY{P:Program}{g:FuncId}(K:Le P g){zs:List Int}(s:zs.length<=1000000) :
  Ok P g [.sl 0 0 zs.length 1 (zs.length * 1)] [.cells (zs.map dI)] (.aI []) [.cells ((zs.mergeSort λx y=>decide (x<=y)).map dI)]:=by
 intro M Fz w t R hs E;obtain ⟨k,rfl⟩:∃k,t=#[k]:=by
  obtain ⟨F⟩:=t
  match F,hs with
  |[a],_=>exact ⟨a,rfl⟩
 have u:=E 0 _ k rfl rfl;have j:([Ob.cells (zs.map dI)]:ae)[0]? = some (.cells (zs.map dI)):=rfl;have b:lu [Ob.cells (zs.map dI)] 0 (zs.length * 1)=some (zs.map dI):=KY j (by simp);have G:(zs.mergeSort λx y=>decide (x<=y)).length=zs.length:=yBF zs;by_cases z:zs=[]
 ·subst z;have:∃p cap,k=.slice p 0 cap:=by
   rcases u.dV b with ⟨h,_⟩ | ⟨c,o,cap,l,T,m,h,_⟩ <;> exact ⟨_,_,h⟩
  obtain ⟨p,cap,rfl⟩:=this;refine (K.nil p cap w).mono ?_;rintro e L ⟨rfl,rfl⟩;rw[show ([]:List Int).mergeSort (λx y=>decide (x<=y))=[] by simp];exact ⟨_,M,Fz,rfl,R,.aI _ rfl λi d v h=>by simp at h,ba.refl R⟩
 ·have N:zs.length≠0:=λh=>z (PM h);rcases u.dV b with ⟨_,e,_⟩ | ⟨c,o,cap,l,T,m,rfl,⟨O,Q⟩,S,q,A,_⟩
  ·omega
  obtain rfl:o=0:=by rcases S with h | h;exact h;omega
  have r:c<w.heap.size:=(xR.1 q).1;refine (K.run c 0 cap zs w (DB R m j q (by omega)) r (by omega)).mono ?_;rintro e L ⟨rfl,n,os,rfl⟩;obtain ⟨U,W,_⟩:=Nx (n:=n) (os:=os) R m j q G (by omega);exact ⟨_,M,Fz,rfl,U,.aI _ rfl λi d v h=>by simp at h,W⟩
theorem la(zs:List Int):(Lib.compact zs).length<=zs.length:=by unfold Lib.compact Lib.compactUpTo;rw[ql];exact jz (List.length_filter_le _ _) (by simp)
theorem HU{P:Program}{g:FuncId}(K:yF P g){zs garb:List Int}(t:zs.length<=1000000)(E:zs.length<garb.length) :
  Ok P g [.sl 0 0 zs.length 1 (zs.length * 1)] [.cells (zs.map dI)] (.sl 1 0 (Lib.compact zs).length 1 ((Lib.compact zs).length * 1)) [.cells (garb.map dI),.cells ((Lib.compact zs).map dI)]:=by
 have F:(Lib.compact zs++List.replicate (zs.length-(Lib.compact zs).length) 0).length=zs.length:=by have:=la zs;simp;omega
 have j:Ok P g [.sl 0 0 zs.length 1 (zs.length * 1)] [.cells (zs.map dI)] (.sl 0 0 (Lib.compact zs).length 1 (zs.length * 1)) [.cells ((Lib.compact zs++List.replicate (zs.length-(Lib.compact zs).length) 0).map dI)]:=by
  intro M Fz w u R hs G;obtain ⟨l,rfl⟩:∃l,u=#[l]:=by
   obtain ⟨L⟩:=u
   match L,hs with
   |[a],_=>exact ⟨a,rfl⟩
  have q:=G 0 _ l rfl rfl;have i:([Ob.cells (zs.map dI)]:ae)[0]? = some (.cells (zs.map dI)):=rfl;have b:lu [Ob.cells (zs.map dI)] 0 (zs.length * 1)=some (zs.map dI):=KY i (by simp);by_cases v:zs=[]
  ·subst v;have:∃p cap,l=.slice p 0 cap:=by
    rcases q.dV b with ⟨h,_⟩ | ⟨c,o,cap,r,T,m,h,_⟩ <;> exact ⟨_,_,h⟩
   obtain ⟨p,cap,rfl⟩:=this;refine (K.nil p cap w).mono ?_;rintro e N ⟨rfl,rfl⟩;exact ⟨_,M,Fz,rfl,R,q,ba.refl R⟩
  ·have O:zs.length≠0:=λh=>v (PM h);rcases q.dV b with ⟨_,e,_⟩ | ⟨c,o,cap,r,T,m,rfl,⟨Q,S⟩,U,s,x,_⟩
   ·omega
   obtain rfl:o=0:=by rcases U with h | h;exact h;omega
   have W:c<w.heap.size:=(xR.1 s).1;refine (K.run c 0 cap zs w (DB R m i s (by omega)) (by omega) (by omega)).mono ?_;rintro e N ⟨rfl,n,rfl⟩;have X:∀w:World,grow w #[]=w:=λw=>by simp[grow]
   obtain ⟨y,z,A⟩:=Nx (n:=n) (os:=#[]) R m i s F (by omega);rw[X] at y z A;refine ⟨_,M,Fz,rfl,y,?_,z⟩;have:=la zs;exact .sl _ _ _ (by simp) (.cells ((Lib.compact zs++List.replicate (zs.length-(Lib.compact zs).length) 0).map dI)) rfl (by simp[Ob.sz];omega) λ_=>.inr ⟨c,0,_,T,m,rfl,rfl,⟨by omega,by omega⟩,.inl rfl,A,by simp[putCells];omega,by omega⟩
 have:=Ok.cut (garb:=garb.map dI) j (by simp;have:=la zs;omega) (by have:=la zs;omega) (λd hd=>by obtain ⟨k,_,rfl⟩:=dY.1 (Kw hd);exact ⟨_,rfl⟩) (by simpa using E) (by simp)
 have e:((Lib.compact zs++List.replicate (zs.length-(Lib.compact zs).length) 0).map dI).take ((Lib.compact zs).length * 1)=(Lib.compact zs).map dI:=by rw[<-yBU,List.take_left' (by simp)]
 rw[e] at this;exact this
theorem Ma{ii:Nat}{d:TT ii->Int}(hd:∀a,enc ii a=[.lit (.int .i64 (d a))])(l:List (TT ii)):OB (enc ii) l=.cells ((l.map d).map dI):=by
 unfold OB;congr 1;induction l with
 |nil=>rfl
 |cons a l ih=>simp only[VZ,Ic,hd,iH,TI,List.cons_append,List.nil_append,ih]
theorem NT{ii:Nat}{c:Int->TT ii}(b:∀k,enc ii (c k)=[.lit (.int .i64 k)])(l:List Int):OB (enc ii) (l.map c)=.cells (l.map dI):=by
 unfold OB;congr 1;induction l with
 |nil=>rfl
 |cons a l ih=>simp only[iH,VZ,Ic,b,TI,List.cons_append,List.nil_append,ih]
theorem WP{P:Program}{g ii:Nat}(K:Le P g){d:TT ii->Int}{c:Int->TT ii}(hd:∀a,enc ii a=[.lit (.int .i64 (d a))])(q:∀k,enc ii (c k)=[.lit (.int .i64 k)])(m:Nat.beq (ar ii) 1=true) :
  cZ P g ⟨.mk [.p (.hd 0)] [] [.row ii] [] [] [],[.mk [] [.w 0 ii] [] [] [] []],λx=>IU (α:=TT ii) d c x⟩:=by
 have n:=cr m;refine ⟨K.en,λx y r σ u z s t i p b o=>?_⟩;dsimp only at i p b;change cV [It.ls ii] at x;change cV [It.ls ii] at y;have j:some ([TV.c (.own ii 0 0 (List.length (α:=TT ii) x))],[TB.row ii x 0 0])=some (r,σ):=by rw[<-p];have e:dk (CT.items (.mk [.p (.hd 0)] [] [.row ii] [] [] [])) x=[⟨.ls ii,x⟩]:=rfl;unfold kC;rw[e];simp only[CT.pl,CT.nb,CT.out,bG,cS,jr,vV,ub,Cq,du,de,Kp,List.nil_append,List.getElem?_cons_zero]
 simp only[aj,aM] at j;obtain ⟨rfl,rfl⟩:=j;simp only[qo,aj,Wg] at b;obtain ⟨rfl,rfl⟩:=b;have l:some (([]:List TV),[TB.row ii y 1 1])=some (s,t):=by rw[<-o];have e:dk (CT.items (.mk [] [.w 0 ii] [] [] [] [])) y=[⟨.ls ii,y⟩]:=rfl;unfold kC;rw[e];simp only[CT.pl,CT.nb,CT.out,bG,cS,jr,Cq,du,de,Kp,List.cons_append,List.nil_append,List.getElem?_cons_zero,List.set_cons_zero,yCf]
 simp only[aj,aM] at l;obtain ⟨rfl,rfl⟩:=l;change List (TT ii) at x;change List (TT ii) at y;change IU d c x=some y at i;unfold IU at i;split at i
 ·rename_i h;simp only[aj] at i;subst i;have:=RY K (zs:=x.map d) (by simpa using h);show Ok P g [OS (ar ii) 0 x.length] [OB (enc ii) x] (.aI []) [OB (enc ii) _];rw[Ma hd,NT q,n];rw[ql] at this;exact this
 ·simp at i
theorem LM{P:Program}{g ii:Nat}(K:yF P g){d:TT ii->Int}{c:Int->TT ii}(hd:∀a,enc ii a=[.lit (.int .i64 (d a))])(s:∀k,enc ii (c k)=[.lit (.int .i64 k)])(m:Nat.beq (ar ii) 1=true) :
  cZ P g ⟨.mk [.p (.hd 0)] [] [.row ii] [] [] [],[.mk [.p (.hd 1)] [.w 0 ii] [.row ii] [] [] []],λx=>Hw (α:=TT ii) d c x⟩:=by
 have n:=cr m;refine ⟨K.en,λx y t σ A z u v i p b o=>?_⟩;dsimp only at i p b;change cV [It.ls ii] at x;change cV [It.ls ii,It.ls ii] at y;have j:some ([TV.c (.own ii 0 0 (List.length (α:=TT ii) x))],[TB.row ii x 0 0])=some (t,σ):=by rw[<-p];have e:dk (CT.items (.mk [.p (.hd 0)] [] [.row ii] [] [] [])) x=[⟨.ls ii,x⟩]:=rfl;unfold kC;rw[e];simp only[CT.pl,CT.nb,CT.out,bG,cS,jr,vV,ub,Cq,du,de,Kp,List.nil_append,List.getElem?_cons_zero]
 simp only[aj,aM] at j;obtain ⟨rfl,rfl⟩:=j;simp only[qo,aj,Wg] at b;obtain ⟨rfl,rfl⟩:=b;have l:some ([TV.c (.own ii 1 0 (List.length (α:=TT ii) y.2))],[TB.row ii y.1 1 1,TB.row ii y.2 0 0])=some (u,v):=by rw[<-o];have e:dk (CT.items (.mk [.p (.hd 1)] [.w 0 ii] [.row ii] [] [] [])) y=[⟨.ls ii,y.1⟩,⟨.ls ii,y.2⟩]:=rfl;unfold kC;rw[e];simp only[CT.pl,CT.nb,CT.out,bG,cS,jr,vV,ub,Cq,du,de,Kp,List.cons_append,List.nil_append,List.getElem?_cons_zero,List.getElem?_cons_succ,List.set_cons_zero,yCf]
 simp only[aj,aM] at l;obtain ⟨rfl,rfl⟩:=l;obtain ⟨q,r⟩:=y;change List (TT ii) at x;change List (TT ii) at q;change List (TT ii) at r;change Hw d c x=some (q,r) at i;unfold Hw at i;split at i
 ·rename_i h;simp only[aj,aM] at i;obtain ⟨rfl,rfl⟩:=i;have:=HU K (zs:=x.map d) (garb:=x.map d++[d (c 0)]) (by simpa using h) (by simp);show Ok P g [OS (ar ii) 0 x.length] [OB (enc ii) x] (OS (ar ii) 1 _) [OB (enc ii) _,OB (enc ii) _];rw[Ma hd,Ma hd,NT s,n,Ic,ql];rw[ql] at this;exact this
 ·simp at i
end
end Go.Abs
end
section
namespace Go.Abs
section
variable[Gl]
def Sj(a:List Sh)(xs:List C):Prop:=xs.length=a.length/\∀(i:Nat) t x,a[i]? = some t->xs[i]? = some x->Shaped t x
theorem Sj.cons{s:Sh}{j:List Sh}{xs:List C}(h:Sj (s::j) xs):∃x o,xs=x::o/\Shaped s x/\Sj j o:=by
 obtain ⟨u,h⟩:=h
 match xs,u,h with
 |x::o,u,h=>exact ⟨x,o,rfl,h 0 s x rfl rfl,by simp_all,λi t y z A=>h (i+1) t y (by simp_all) (by simp_all)⟩
theorem Sj.nil{xs:List C}(h:Sj [] xs):xs=[]:=by simpa using h.1
variable[Y:Ty]
def shC(rec:Nat->List Sh):CC->Sh
 |.int k=>.int k
 |.bool=>.bool
 |.str=>.str
 |.sl j=>.sl (rec j)
 |.fk _=>.no
def shN:Nat->Nat->List Sh
 |0,_=>[]
 |k+1,i=>(Y.fl i).map (shC (shN k))
def shT(i:Nat):List Sh:=shN (i+1) i
theorem Ow{rec:Nat->List Sh}{r:(j:Nat)->TT j->List C}{c:CC}(m:∀j,c=.sl j->∀xs,Sj (rec j) xs->∃a:TT j,xs=r j a){x:C}(h:Shaped (shC rec c) x):∃a:c.dn,x=qw r c a:=by
 cases c with
 |int k=>cases h with | int h=>exact ⟨_,rfl⟩
 |bool=>cases h with | bool b=>exact ⟨_,rfl⟩
 |str=>cases h with | str b=>exact ⟨_,rfl⟩
 |fk n=>cases h
 |sl j=>
  cases h with
  |sl e g i=>
   rename_i es;have:∃l:List (TT j),es=l.map (r j):=by
    clear e;induction es with
    |nil=>simp_all
    |cons y es ih=>obtain ⟨a,o⟩:=m j rfl y ⟨g y (by simp),i y (by simp)⟩;obtain ⟨l,e⟩:=ih (λz d=>g z (by simp[d])) (λz d=>i z (by simp[d]));exact ⟨a::l,by simp_all⟩
   obtain ⟨l,rfl⟩:=this;exact ⟨l,rfl⟩
theorem YF{rec:Nat->List Sh}{r:(j:Nat)->TT j->List C}:∀(cs:List CC),(∀j,CC.sl j∈cs->∀xs,Sj (rec j) xs->∃a:TT j,xs=r j a)->∀xs,Sj (cs.map (shC rec)) xs->∃a:aI cs,xs=lm r cs a:=by
 intro cs;induction cs with
 |nil=>intro _ xs h;exact ⟨(),h.nil⟩
 |cons c cs ih=>intro d xs h;obtain ⟨x,g,rfl,i,k⟩:=Sj.cons h;obtain ⟨a,rfl⟩:=Ow (λj e=>d j (by simp_all)) i;obtain ⟨b,rfl⟩:=ih (λj e=>d j (h_ _ e)) g k;exact ⟨(a,b),rfl⟩
theorem WB:∀(k i:Nat),i<k->∀xs,Sj (shN k i) xs->∃a:TT i,xs=HN k i a:=by
 intro k;induction k with
 |zero=>omega
 |succ k ih=>intro i d xs h;obtain ⟨a,rfl⟩:=YF (rec:=shN k) (r:=HN k) (Y.fl i) (λj b=>ih j (by have:=Y.dn i j b;omega)) xs h;exact ⟨Y.mkt i a,by grind [HN,Ty.pm]⟩
theorem SG(i:Nat){xs:List C}(h:Sj (shT i) xs):∃a:TT i,xs=enc i a:=WB (i+1) i (by omega) xs h
theorem arg_st(i:Nat){w:World}{xs:List C}{vs:Array Value}(h:zX w (shT i) xs vs.toList):∃a:TT i,V [] (λ_=>none) (λc=>c<w.heap.size) w (cI.enc (.st i) a) (.agg vs):=by have b:=V.PZ h (σ:=[]) (M:=λ_=>none);obtain ⟨a,rfl⟩:=SG i ⟨h.1,h.2.2.1⟩;exact ⟨a,b⟩
theorem arg_c(c:CC){w:World}{xs:List C}{v:Value}(h:zX w [shC shT c] xs [v]):∃a:c.dn,V [] (λ_=>none) (λc=>c<w.heap.size) w (cI.enc (.c c) a) v:=by obtain ⟨x,rfl,hs,b⟩:=V.Po h (σ:=[]) (M:=λ_=>none);obtain ⟨a,rfl⟩:=Ow (rec:=shT) (r:=enc) (λj _ xs h=>SG j h) hs;exact ⟨a,b⟩
open Go.RowKit in
theorem SP{P:Program}{g:FuncId}{ds:List D}(h:Pure P g ds (B true)){w:World}{vs:Array Value}(hs:vs.size=ds.length)
  (b:∀(i:Nat) d v,ds[i]? = some d->vs[i]? = some v->V [] (λ_=>none) (λc=>c<w.heap.size) w d v) (l:Gl.ok (λc=>c<w.heap.size) w) :
  Calls P g vs w λe j=>e=.returned (.bool true)/\Below w.heap.size w j:=by
 refine (h.2 _ _ w vs (Rel.start w l) hs b).mono λe j m=>?_;obtain ⟨v,o,n,rfl,p,b,a⟩:=m;exact ⟨by rw[b.bI],a.out.1,a.out.2.1,a.out.2.2,a.size,λk hk=>(a.fz k hk).2⟩
end
end Go.Abs
end
