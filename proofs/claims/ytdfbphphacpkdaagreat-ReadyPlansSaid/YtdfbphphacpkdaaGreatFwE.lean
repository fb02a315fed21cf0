/- DfwPg, DfwPh, DfwPx, DfwPi, DfwPj, DfwPk, DfwPw -/
import Derived.Test.YtdfbphphacpkdaaGreatFwD
set_option linter.all false
section
namespace Go.Abs
noncomputable section
variable[Gl][Y:Ty]
variable{P:Program}{n:Nat}{alD:AL}{σ σ1:TH}{σD σD1:ae}{o:jB}{Q:TV->TH->Bool->List Nat->Prop}{rd:aG->Option TV}{S:pL}{hint:Nat}{R:Type}{k:KO R}{r:R}{orc:ta}
abbrev jc(P:Program)(orc:ta)(n:Nat)(alD:AL)(σ:TH)(σD:ae)(o:jB)(k:KO R)(r:R):Prop:=cL P orc n alD σ σD o (λv σ1 rs wr=>k v σ1 rs wr=some r)
theorem xW{cs:List TC}{ds:List D}(h:ds=cs.map TC.er):RB (.cells 0 (cs.map λc=>(0,c))) (.cells ds):=by grind [RB,TB.er,Function.comp_def]
theorem AX{cs:List TC}(g:∀x∈cs,GC σ x):∀w a,TB.cells 0 (cs.map λc=>(0,c))=.cells w a->∀p∈a,GC σ p.2/\p.1<=w:=by simp_all
theorem WU{x:aG}(e:cP σ alD rd)(H:RH σ σD)(h:fy P S hint (.box x) rd σ k=some r):jc P orc n alD σ σD (.box x) k r:=by
 simp only[fy] at h;split at h
 ·rename_i v f;obtain ⟨d,i,j,l⟩:=e _ _ f;split at h
  ·rename_i b a;obtain ⟨p,s,_⟩:=ol a j;refine cL.new (v:=.c (.d (.ptr σ.length 0 b.length))) (d:=.ptr σ.length 0 b.length) (ob:=.cells (b.map TC.er)) (op_box i p (by rw[H.len,ql]) rfl) (Or.inr rfl) ?_ H (xW rfl) (AX (qO a l)) h;show D.low _ _=true;simp[D.low]
  simp_all
 simp_all
theorem OQ{z:List D}(H:RH σ σD)(h:fy P S hint (.alloc z) rd σ k=some r):jc P orc n alD σ σD (.alloc z) k r:=by
 simp only[fy] at h;split at h
 ·rename_i a;have e:(z.map λc=>((0:Nat),TC.d c))=(z.map TC.d).map λc=>(0,c):=by simp
  rw[e] at h;refine cL.new (v:=.c (.d (.ptr σ.length 0 z.length))) (d:=.ptr σ.length 0 z.length) (ob:=.cells z) (IZ (by rw[H.len]) rfl) (Or.inr rfl) ?_ H (xW (by simp[TC.er,Function.comp_def])) (AX (Fi a)) h;show D.low _ _=true;simp[D.low]
 simp_all
theorem QH{z:List D}{ps:List (Nat×Nat×aG)}(b:cP σ alD rd)(H:RH σ σD)(h:fy P S hint (.build z ps) rd σ k=some r):jc P orc n alD σ σD (.build z ps) k r:=by
 simp only[fy] at h;split at h
 ·rename_i e f a;obtain ⟨ds,i,j,l⟩:=BA b a (aC.ds z) (Fi f);exact cL.pure (v:=.agg e) (Ss i) ⟨ds,rfl,j⟩ l H h
 simp_all
theorem ow{i b m:Nat}{l:List (TT i)}(hm:m=l.length):GC (σ++[TB.row i l 0 0]) (.own i σ.length 0 m):=by
 refine ⟨_,by rw[KE (cn _),Nat.sub_self];rfl,λj a f h e=>?_⟩
 grind
theorem TZ:∀{cs:List TC},Oo cs=true->∀y∈cs,y≠.any:=by
 intro cs;induction cs with
 |nil=>simp_all
 |cons x cs ih=>
  intro h y a;simp only[Oo,bp,eS] at h
  grind [ZO]
theorem LK{es len:Nat}{z:List D}{ps:List (Nat×Nat×aG)}(x:cP σ alD rd)(H:RH σ σD)(h:fy P S hint (.ic es len z ps) rd σ k=some r):jc P orc n alD σ σD (.ic es len z ps) k r:=by
 simp only[fy] at h;split at h
 ·split at h
  ·rename_i f i a;obtain ⟨ds,p,s,y⟩:=BA x a (aC.ds (qJ len z)) (DR i len);split at h
   rotate_left
   ·simp at h
   rename_i u;have e:ds=f.map TC.er:=s.eq (TZ u);refine cL.new (v:=.c (.d (.sl σ.length 0 len es f.length))) (d:=.sl σ.length 0 len es ds.length) (blk:=.cells 0 (f.map λc=>(0,c))) (ob:=.cells ds) (DZ p (by rw[H.len]) rfl) (Or.inr ?_) ?_ H (xW e) (AX y) h
   ·rw[e,ql];rfl
   ·show D.low _ _=true;simp[D.low]
  simp_all
 split at h
 ·rename_i f i a;simp only[bp] at i;have E:=cr i.1;subst E;split at h
  ·rename_i l j;obtain ⟨ds,p,s,y⟩:=BA x a (aC.ds (qJ len z)) (DR i.2 len);obtain ⟨G,A⟩:=VA j s;refine cL.new (v:=.c (.own hint σ.length 0 len)) (d:=OS (ar hint) σ.length len) (ob:=OB (enc hint) l) (iw p G A (pz hint) rfl (by rw[H.len]) rfl) (Or.inr rfl) (ow (b:=0) A.symm) H rfl (λw f e=>by simp at e) h
  simp_all
 simp_all
theorem Py{x:aG}(e:cP σ alD rd)(H:RH σ σD)(h:fy P S hint (.kQ x) rd σ k=some r):jc P orc n alD σ σD (.kQ x) k r:=by
 simp only[fy] at h;split at h
 ·rename_i a;obtain ⟨b,g⟩:=e.c a (by simp);exact cL.one h (IF b) rfl g H
 ·rename_i a;obtain ⟨b,g⟩:=e.c a (by simp);exact cL.one h (OT b) rfl g H
 ·rename_i a;obtain ⟨b,g⟩:=e.c a (by simp);exact cL.one h (DL b) rfl g H
 ·rename_i a;obtain ⟨b,g⟩:=e.c a (by simp);exact cL.one h (O_ b) rfl g H
 ·rename_i a;obtain ⟨b,g⟩:=e.c a (by simp);exact cL.one h (IF b) rfl g H
 ·rename_i a;obtain ⟨b,g⟩:=e.c a (by simp);exact cL.one h (DL b) rfl g H
 simp_all
theorem Pm{j:Nat}{neg:Bool}{x:aG}(f:cP σ alD rd)(H:RH σ σD)(h:fy P S hint (.gY j neg x) rd σ k=some r):jc P orc n alD σ σD (.gY j neg x) k r:=by
 simp only[fy] at h;split at h
 ·rename_i y e;obtain ⟨a,g⟩:=f.c e (by simp);split at h
  ·rename_i i;exact cL.one h (eo a i) (by cases neg <;> rfl) rfl H
  ·rename_i i;exact cL.one h (eo a i) (by cases neg <;> rfl) rfl H
  simp_all
 ·rename_i e;obtain ⟨a,g⟩:=f.c e (by simp);split at h
  ·exact cL.one h (eo (b:=false) a rfl) (by cases neg <;> rfl) rfl H
  simp_all
 ·rename_i e;obtain ⟨a,g⟩:=f.c e (by simp);split at h
  ·exact cL.one h (eo (b:=false) a rfl) (by cases neg <;> rfl) rfl H
  simp_all
 simp_all
theorem YD{off:Nat}{x:aG}(e:cP σ alD rd)(H:RH σ σD)(h:fy P S hint (.Dw off x) rd σ k=some r):jc P orc n alD σ σD (.Dw off x) k r:=by
 simp only[fy] at h;split at h
 ·rename_i a;obtain ⟨b,g⟩:=e.c a (by simp);exact cL.one h (Gi b) rfl g H
 ·rename_i a;obtain ⟨b,g⟩:=e.c a (by simp);exact cL.one h (YB b) rfl True.intro H
 ·rename_i a;obtain ⟨b,g⟩:=e.c a (by simp);exact cL.one h (Gi b) (by grind [TC.er]) g H
 simp_all
theorem Yj{len j es b off sz:Nat}{x i:aG}{q:Int}(h:lx alD x=some (.ptr b off sz))(a:lx alD i=some (I q))(hk:yX q len=some j):dL P orc n alD σD (.idx es (some len) x i) (.ptr b (off+j * es) sz) σD []:=λe f=>by grind [aR,qI,dS]
theorem WH{i b v q:Nat}{k:Int}{a:TT i}{l:List (TT i)}{h f:Nat}(p:σ[b]? = some (.row i l h f))(s:aB l k=some a):GC σ (.op i b f l.length k a 0):=by
 refine ⟨_,p,λj z u x e=>?_⟩;simp only[TB.row.injEq] at e;obtain ⟨rfl,y,rfl,rfl⟩:=e;cases y;refine ⟨cn _,λ_=>⟨l,?_,rfl,s⟩⟩;unfold eE;split
 ·rfl
 omega
theorem Yu{g len es:Nat}{x i:aG}{q z a:Int}{l:List Int}(h:lx alD x=some (.c (.Rr g)))(f:lx alD i=some (I q))(b:aB (z::l) q=some a)(j:Gl.tab g=(z::l).map λz=>.int .i64 z)(p:(z::l).length=len) :
  dL P orc n alD σD (.idx es (some len) x i) (.c (.bZ ((Gl.tab g).map .lit) (q.toNat * es))) σD []:=λe s=>by
 obtain ⟨u,v,y⟩:=mH b;have A:yX q len=some q.toNat:=by unfold yX;simp_all
 grind [aR,qI,dS]
theorem Zu{es:Nat}{len:Option Nat}{x i:aG}(s:cP σ alD rd)(H:RH σ σD)(h:fy P S hint (.idx es len x i) rd σ k=some r):jc P orc n alD σ σD (.idx es len x i) k r:=by
 cases len with
 |none=>
  simp only[fy] at h;split at h
  ·rename_i j l N u y;obtain ⟨A,g⟩:=s.c u (by simp);split at h
   ·rename_i q p f;have f:=cr f;subst f;obtain ⟨a,G,hk⟩:=xM h;exact cL.one hk (TP A (s.int y p) G (pz j a)) rfl True.intro H
   simp_all
  ·rename_i j b v m N u y;obtain ⟨A,g⟩:=s.c u (by simp);split at h
   ·rename_i q j' l lv cv p f E;have f:=cr f;subst f;split at h
    ·rename_i l' X L;obtain ⟨a,G,hk⟩:=xM h;obtain ⟨rfl,rfl⟩:=mF H g E X;have K:=w_ H E L;rw[E] at K;simp only[aj,TB.row.injEq,heq_eq_eq,true_and,Iq] at K;subst K;exact cL.one hk (LN (pz _) A (H.row E) rfl (s.int y p) G) rfl (WH (v:=0) (q:=0) E G) H
    simp_all
   simp_all
  ·rename_i b off ln Z sz N u y;obtain ⟨A,g⟩:=s.c u (by simp);split at h
   ·rename_i q w cs p E;obtain ⟨ds,U,W,h4,_⟩:=H.cells E;split at h
    ·rename_i j O T;simp only[bp] at O;have e1:=cr O.1;have e2:=cr O.2;subst e2;exact cL.one h (WE (cs:=ds) A (s.int y p) (KY U (by omega)) T rfl) rfl g H
    simp_all
   simp_all
  simp_all
 |some len=>
  cases i with
  |k i=>
   simp only[fy] at h;split at h
   ·rename_i b off sz q u p;obtain ⟨A,g⟩:=s.c u (by simp);split at h
    ·rename_i j T;have y:lx alD (.k i)=some (I q):=by
      have:=Oj (d:=i) p (by
       unfold Ew at p ⊢;split at p
       ·grind [jv]
       ·exact Or.inr rfl)
      grind [lx]
     exact cL.one h (Yj A y T) rfl g H
    simp_all
   simp_all
  |t i=>
   simp only[fy] at h;split at h
   ·rename_i b off sz N u y;obtain ⟨A,g⟩:=s.c u (by simp);split at h
    ·rename_i q w cs p f E;have f:=cr f;subst f;obtain ⟨ds,U,W,h4,_⟩:=H.cells E;split at h
     ·rename_i l hs L;simp only[bp] at hs;obtain ⟨a,G,hk⟩:=xM h;have h5:=Gh L ((W.drop off).take len);have e:l.length=len:=by
       have:=M_ List.length h5;have q1:=cr hs.1;have q2:=zE hs.2
       grind
      have M:b<σ.length:=(d_.1 E).1;exact cL.one hk (WG A (s.int y p) G e rfl) rfl M H
     simp_all
    simp_all
   ·rename_i g N u y;obtain ⟨A,_⟩:=s.c u (by simp);split at h
    ·rename_i q z l p f L;have f:=cr f;subst f;split at h
     ·rename_i e;have e:=cr e;obtain ⟨a,G,hk⟩:=xM h;exact cL.one hk (Yu A (s.int y p) G (Rx L) e) rfl rfl H
     simp_all
    simp_all
   simp_all
theorem WZ{α:Type}{f:α->List C}{ar:Nat}{x:aG}{lo v:Option aG}{b:Nat}{l r:List α}{i j:Int}(L:∀a,(f a).length=ar)(h:lx alD x=some (OS ar b l.length))(A:σD[b]? = some (OB f l))(p:(match lo with | none=>some (I 0) | some o=>lx alD o)=some (I i))
  (s:(match v with | none=>some (I l.length) | some o=>lx alD o)=some (I j)) (y:slice? l i j=some r):dL P orc n alD σD (.Rq ar x lo v) (.sl b (0+i.toNat * ar) (j.toNat-i.toNat) ar (l.length * ar)) σD []:=λe z=>by
 unfold slice? at y;split at y
 ·rename_i E;have u:lu σD b (l.length * ar)=some ((l.flatMap f).map .c):=KY A (by
   rw[ql];clear A h p s y E;induction l with
   |nil=>simp
   |cons a l ih=>grind)
  have G:lX e l.length l.length v=some j.toNat:=by
   cases v with
   |none=>simp only[aj,I,D.c.injEq,C.lit.injEq,Value.int.injEq,true_and] at s;grind [lX]
   |some o=>
    simp only at s;simp only[lX,dS z s,qI,Option.bind_some,Nj]
    grind
  have K:lX e 0 j.toNat lo=some i.toNat:=by
   cases lo with
   |none=>simp only[aj,I,D.c.injEq,C.lit.injEq,Value.int.injEq,true_and] at p;grind [lX]
   |some o=>
    simp only at p;simp only[lX,dS z p,qI,Option.bind_some,Nj]
    grind
  simp only[aR,dS z h,u,G,K,Option.bind_eq_bind,Option.bind_some,if_true,Option.orElse]
 simp_all
theorem Zl{es:Nat}{x:aG}{lo E:Option aG}(y:cP σ alD rd)(H:RH σ σD)(h:fy P S hint (.Rq es x lo E) rd σ k=some r):jc P orc n alD σ σD (.Rq es x lo E) k r:=by
 simp only[fy] at h;split at h
 ·rename_i j l L;obtain ⟨M,g⟩:=y.c L (by simp);split at h
  ·rename_i u v f N O;have f:=cr f;subst f;split at h
   ·rename_i z G p s;obtain ⟨a,K,hk⟩:=xM h;refine cL.one hk (op_slc (i:=z) (j:=G) (pz j) M ?_ ?_ K) rfl True.intro H
    ·cases lo with
     |none=>grind [jv]
     |some o=>exact y.int N p
    ·cases E with
     |none=>grind [jv]
     |some o=>exact y.int O s
   simp_all
  simp_all
 ·rename_i j b Z n L;obtain ⟨M,g⟩:=y.c L (by simp);split at h
  ·rename_i X l lv cv f T;have f:=cr f;subst f;split at h
   ·rename_i u v A N O;obtain ⟨rfl,rfl⟩:=mF H g T A;split at h
    ·rename_i z G p s;obtain ⟨a,K,hk⟩:=xM h;have U:=H.row T;refine ⟨.c (.os X b Z l.length z.toNat (G.toNat-z.toNat)),σ,false,[],_,σD,WZ (l:=l) (i:=z) (j:=G) (pz X) M U ?_ ?_ K,.inr rfl,?_,H,Ext.refl σ,λ_=>rfl,λ_=>⟨rfl,rfl,rfl⟩,hk⟩
     ·cases lo with
      |none=>grind [jv]
      |some o=>exact y.int N p
     ·cases E with
      |none=>grind [jv]
      |some o=>exact y.int O s
     ·refine ⟨_,T,λj l' aa ab e=>?_⟩;simp only[TB.row.injEq] at e;obtain ⟨rfl,W,rfl,rfl⟩:=e;cases W;have ad:=cr A;unfold slice? at K
      grind
    simp_all
   simp_all
  simp_all
 simp_all
theorem Ph(H:RH σ σD)(h:fy P S hint .rT rd σ k=some r):jc P orc n alD σ σD .rT k r:=by simp only[fy] at h;exact cL.new (v:=.c (.d (.mp σ.length))) (d:=.mp σ.length) (blk:=.mp (hint / 2) (Nat.beq (hint % 2) 1) [] 0) (ob:=MB (Jt (hint / 2) (Nat.beq (hint % 2) 1)) []) (Uk (g:=Jt (hint / 2) (Nat.beq (hint % 2) 1)) (by rw[H.len]) rfl) (Or.inr rfl) (by show D.low _ _=true;simp[D.low]) H rfl (λw a e=>by simp at e) h
theorem TW(j:Nat)(a:TT j):((exp j a).headD (.d (.c (.lit undef)))).er=.c ((enc j a).headD (.lit undef)):=by
 have h:=sC j a;cases b:exp j a with
 |nil=>
  rw[b] at h;cases e:enc j a with
  |nil=>rfl
  |cons c f=>simp_all
 |cons x i=>
  rw[b] at h;cases e:enc j a with
  |nil=>simp_all
  |cons c f=>simp_all
theorem mpV_ok(j:Nat)(st:Bool)(a:TT j):RT (mpV j st a) (Jt j st a)/\GV σ (mpV j st a):=by
 cases st with
 |true=>exact ⟨⟨_,rfl,by rw[<-sC];exact aC.er _⟩,qS j a⟩
 |false=>
  refine ⟨.inr ?_,?_⟩
  ·rw[TW];rfl
  ·show GC σ ((exp j a).headD (.d (.c (.lit undef))));cases e:exp j a with
   |nil=>rfl
   |cons x b=>grind [qS]
theorem HW{ok e:Bool}{v:TV}{d:D}(h:RT v d)(g:GV σ v)(f:∀xs,v≠.aI xs):RT (Jp ok v e) (if ok then .aI [d,B e] else d)/\GV σ (Jp ok v e):=by
 cases ok with
 |false=>exact ⟨h,g⟩
 |true=>
  cases v with
  |aI xs=>simp_all
  |c x => exact ⟨⟨_, rfl, .cons ⟨x, rfl, h⟩ (.cons ⟨_, rfl, .inr rfl⟩ .nil)⟩, λp a y b => by
    rcases eU.1 a with rfl | a
    ·rcases eU.1 b with rfl | b
     ·exact g
     simp_all
    ·rcases eU.1 a with rfl | a
     ·rcases eU.1 b with rfl | b
      ·rfl
      simp_all
     simp_all⟩
  |agg xs=>exact ⟨⟨_,rfl,.cons h (.cons ⟨_,rfl,.inr rfl⟩ .nil)⟩,λp a y b=>by
    rcases eU.1 a with rfl | a
    ·exact g y b
    ·rcases eU.1 a with rfl | a
     ·rcases eU.1 b with rfl | b
      ·rfl
      simp_all
     simp_all⟩
theorem mpV_nt(j:Nat)(st:Bool)(a:TT j):∀xs,mpV j st a≠.aI xs:=by intro xs h;cases st <;> simp[mpV] at h
theorem ofD_nt(d:D):∀xs,Ew d≠.aI xs:=by intro xs h;cases d <;> simp[Ew] at h
theorem WA{d:D}(h:d.low 0=true):RT (Ew d) d/\GV σ (Ew d):=by
 have one:∀d:D,d.low 0=true->RT (.c (.d d)) d/\GV σ (.c (.d d)):=λd h=>⟨.inr rfl,D.dK (KZ _) h⟩;cases d with
 |agg ds=>simp only[D.low] at h;refine ⟨⟨ds,rfl,aC.ds ds⟩,λx a=>?_⟩;rw[dY] at a;obtain ⟨y,b,rfl⟩:=a;exact AO h y b
 |_=>exact one _ h
theorem TU{R:Type}{r:R}:∀{a:List Nat}{n:Nat}{f:Nat->Option R},II a n f=some r->f n=some r:=by
 intro a;induction a with
 |nil=>intro n f h;simp[II] at h
 |cons g a ih=>
  intro n f h;simp only[II] at h;cases e:Nat.beq n g with
  |true=>rw[e] at h;rw[cr e];exact h
  |false=>rw[e] at h;exact ih h
theorem WX{R:Type}{r:R}:∀{cs:List CC}{x:aI cs}{k:List TC->Option R},Wv cs x k=some r->k (sR cs x)=some r:=by
 intro cs;induction cs with
 |nil=>intro x k h;exact h
 |cons c cs ih=>
  intro x k h;cases c with
  |fk a=>exact ih (TU h)
  |_=>exact ih h
theorem lkS_ok{R:Type}{r:R}{hint j:Nat}{st:Bool}{a:TT j}{k:TV->Option R}(h:lkS hint j st a k=some r):k (mpV j st a)=some r:=by
 unfold lkS at h;split at h
 ·exact WX h
 ·exact h
theorem Li{kind:TypeDesc}{zero:D}{m A:aG}{ok:Bool}(i:cP σ alD rd)(H:RH σ σD)(h:fy P S hint (.lookup kind zero m A ok) rd σ k=some r):jc P orc n alD σ σD (.lookup kind zero m A ok) k r:=by
 simp only[fy] at h;split at h
 ·rename_i T b U L hk M;obtain ⟨E,g⟩:=i.c L (by simp);split at h
  ·rename_i j st l v x N G;obtain ⟨O,K,p⟩:=H.hp b _ N;have p:O=MB (Jt j st) l:=p;subst p;cases f:cY l x with
   |none=>rw[f] at h;obtain ⟨s,u⟩:=WA (σ:=σ) M;obtain ⟨y,z⟩:=HW (ok:=ok) (e:=false) s u (ofD_nt zero);exact cL.pure (Vi E K (i.int hk G) f rfl) y z H h
   |some a=>rw[f] at h;obtain ⟨s,u⟩:=mpV_ok (σ:=σ) j st a;obtain ⟨y,z⟩:=HW (ok:=ok) (e:=true) s u (mpV_nt j st a);exact cL.pure (Zp E K (i.int hk G) f rfl) y z H (lkS_ok (k:=λv=>k (Jp ok v true) σ false []) h)
  ·simp at h
 ·simp at h
theorem mkM_ok{j:Nat}{st:Bool}{v:TV}{d:D}{a:TT j}(h:mkM j st v=some a)(r:RT v d):d=Jt j st a:=by
 unfold mkM at h;split at h
 ·rename_i i;obtain ⟨ds,rfl,hd⟩:=r;obtain ⟨f,b⟩:=ye h;rw[hd.eq b,f];rfl
 ·rename_i x;obtain ⟨f,b⟩:=ye h;have:=RT.c1 (b x (iz ..)) r;subst this;cases e:enc j a with
  |nil=>simp_all
  |cons c l=>grind [Jt]
 simp_all
theorem W_{kind:TypeDesc}{m A x:aG}(s:cP σ alD rd)(H:RH σ σD)(h:fy P S hint (.qp kind m A x) rd σ k=some r):jc P orc n alD σ σD (.qp kind m A x) k r:=by
 simp only[fy] at h;split at h
 ·rename_i U b W v E hk G;obtain ⟨K,g⟩:=s.c E (by simp);obtain ⟨d,L,M,X⟩:=s _ _ G;split at h
  ·rename_i j st l Rs i u N;obtain ⟨O,y,z⟩:=H.hp b _ u;have z:O=MB (Jt j st) l:=z;subst z;split at h
   ·rename_i a T;have:=mkM_ok T M;subst this;have f:BE (.mp j st l Rs) (.mp j st (lV l i a) (Rs+1)):=⟨_,_,_,_,rfl,by omega,λe=>by omega⟩;refine ⟨_,_,_,_,.aI [],σD.set b (MB (Jt j st) (lV l i a)),op_upd K y (s.int hk N) L rfl,rt0,?_,H.set u f rfl (λw Z e=>by simp at e),Ext.set u f,λ_=>?_,λe=>by grind [pF],h⟩
    ·intro p hp;grind
    ·simp only[jm,List.all_cons,List.all_nil,JX];rw[y,EI y];rfl
   simp_all
  simp_all
 simp_all
theorem XD{kind:TypeDesc}{m v:aG}(x:cP σ alD rd)(H:RH σ σD)(h:fy P S hint (.del kind m v) rd σ k=some r):jc P orc n alD σ σD (.del kind m v) k r:=by
 simp only[fy] at h;split at h
 ·rename_i G b K y hk;obtain ⟨z,g⟩:=x.c y (by simp);split at h
  ·rename_i j st l Rs i f A;obtain ⟨E,s,u⟩:=H.hp b _ f;have u:E=MB (Jt j st) l:=u;subst u;have a:BE (.mp j st l Rs) (.mp j st (BK l i) (Rs+1)):=⟨_,_,_,_,rfl,by omega,λe=>by omega⟩;refine ⟨_,_,_,_,.aI [],σD.set b (MB (Jt j st) (BK l i)),op_del z s (x.int hk A) rfl,rt0,?_,H.set f a rfl (λw L e=>by simp at e),Ext.set f a,λ_=>?_,λe=>by grind [pF],h⟩
   ·intro p M;grind
   ·simp only[jm,List.all_cons,List.all_nil,JX];rw[s,EI s];rfl
  simp_all
 simp_all
theorem Zo{x:aG}(f:cP σ alD rd)(H:RH σ σD)(h:fy P S hint (.len x) rd σ k=some r):jc P orc n alD σ σD (.len x) k r:=by
 simp only[fy] at h;split at h
 ·rename_i i l a;obtain ⟨e,g⟩:=f.c a (by simp);exact cL.one h (Tk e) rfl rfl H
 ·rename_i a;obtain ⟨e,g⟩:=f.c a (by simp);exact cL.one h (WC e) rfl rfl H
 ·rename_i i b v q a;obtain ⟨e,g⟩:=f.c a (by simp);split at h
  ·rename_i j l z A p;split at h
   ·rename_i s;obtain ⟨rfl,rfl⟩:=mF H g p s;exact cL.one h (MK (pz _) e (H.row p) rfl) rfl rfl H
   simp_all
  simp_all
 ·rename_i b off E G sz a;obtain ⟨e,g⟩:=f.c a (by simp);split at h
  ·rename_i w cs p;obtain ⟨ds,u,K,L,_⟩:=H.cells p;split at h
   ·rename_i y;have M:=cr y;exact cL.one h (XI (cs:=ds) e (KY u (by omega)) rfl) rfl rfl H
   simp_all
  simp_all
 simp_all
theorem tmk_ok{es a:Nat}{z:List D}{x y:aG}(j:cP σ alD rd)(H:RH σ σD)(h:fy P S hint (.mk es a z x y) rd σ k=some r):jc P orc n alD σ σD (.mk es a z x y) k r:=by
 simp only[fy] at h;split at h
 ·rename_i M u v f L p s;simp only[bp] at f;have A:=cr f.1;subst A;split at h
  ·rename_i U N E i;obtain ⟨l,G,hk⟩:=xM h;obtain ⟨O,_⟩:=ye L;have K:z=(enc hint M).map .c:=by rw[<-O];simp[TC.er,Function.comp_def]
   refine cL.new (v:=.c (.own hint σ.length 0 l.length)) (d:=OS (ar hint) σ.length l.length) (ob:=OB (enc hint) l) (op_mk (j.int p E) (j.int s i) K G f.2.1 (by rw[H.len]) rfl) (Or.inr rfl) (ow (b:=0) rfl) H rfl (λw T e=>by simp at e) hk
  simp_all
 ·rename_i v f L p s;simp only[bp] at f;have A:=cr f.1;subst A;split at h
  ·rename_i N i;obtain ⟨l,G,hk⟩:=xM h;refine cL.new (v:=.c (.own hint σ.length 0 l.length)) (d:=OS (ar hint) σ.length l.length) (ob:=OB (enc hint) l) (op_mk0 (j.int p rfl) (j.int s i) G f.2.1 (by rw[H.len]) rfl) (Or.inr rfl) (ow (b:=0) rfl) H rfl (λw T e=>by simp at e) hk
  simp_all
 simp_all
theorem YW{es p:Nat}{s x:aG}(A:cP σ alD rd)(H:RH σ σD)(h:fy P S hint (.append es p s x) rd σ k=some r):jc P orc n alD σ σD (.append es p s x) k r:=by
 simp only[fy] at h;split at h
 ·rename_i i b v q y hs E;obtain ⟨G,g⟩:=A.c hs (by simp);obtain ⟨d,K,L,M⟩:=A _ _ E;split at h
  ·rename_i j l Z cv u;split at h
   ·rename_i l' m f hl N;simp only[bp] at f;have O:=cr f.2.1;subst O;obtain ⟨rfl,rfl⟩:=mF H g u f.1;have z:=w_ H u hl;rw[u] at z;simp only[aj,TB.row.injEq,heq_eq_eq,true_and,Iq] at z;subst z;obtain ⟨X,ha,hk⟩:=xM h;have T:BE (.row j l Z cv) (.row j X (Z+1) (cv+1)):=⟨_,_,_,rfl,by omega,by omega,λe=>by omega,λe=>by omega⟩;refine ⟨.c (.own j b (Z+1) X.length),_,true,[b],OS (ar j) b X.length,_,tp (pz j) G (H.row u) rfl K (FR H N L M) ha f.2.2 rfl rfl,Or.inr rfl,?_,H.set u T rfl (λw cs e=>by simp at e),Ext.set u T,λe=>by simp at e,λe=>by grind [pF],hk⟩;refine ⟨_,EI u,λj' l' aa ab e=>?_⟩
    grind
   simp_all
  simp_all
 ·rename_i i b v q hs E;obtain ⟨G,_⟩:=A.c hs (by simp);obtain ⟨d,K,L,M⟩:=A _ _ E;split at h
  ·rename_i a l f N;simp only[bp] at f;have O:=cr f.1;subst O;split at h
   ·rename_i U;exact cL.new (v:=.c (.own i σ.length 0 (a::l).length)) (d:=OS (ar i) σ.length (a::l).length) (ob:=OB (enc i) (a::l)) (Al G K (FR H N L M) U f.2 (by rw[H.len]) rfl) (Or.inr rfl) (ow (b:=0) rfl) H rfl (λw cs e=>by simp at e) h
   simp_all
  simp_all
 ·rename_i i W hs E;obtain ⟨G,_⟩:=A.c hs (by simp);obtain ⟨d,K,L,M⟩:=A _ _ E;split at h
  ·rename_i f;simp only[bp] at f;have O:=cr f.1;subst O;rw[b_] at h;obtain ⟨X,ha,h⟩:=h;obtain ⟨U,e⟩:=sU ha;rw[e] at h;have N:Ch i σ (.c (.sl i W))=some ([]++W):=by
    simp only[Ch,eE,List.nil_append];split
    ·rfl
    omega
   exact cL.new (v:=.c (.own i σ.length 0 ([]++W).length)) (d:=OS (ar i) σ.length ([]++W).length) (ob:=OB (enc i) ([]++W)) (Al G K (FR H N L M) (Nat.ble_eq.mpr (by simp_all)) f.2 (by rw[H.len]) rfl) (Or.inr rfl) (ow (b:=0) rfl) H rfl (λw cs e=>by simp at e) h
  simp_all
 simp_all
theorem EC{es:Nat}{d s:aG}{y:TV}{i b lo len:Nat}{l:List (TT i)}{m:List (TT i)}{p u:Nat}(v:cP σ alD rd)(H:RH σ σD)(x:lx alD d=some (.sl b (0+lo * ar i) len (ar i) (l.length * ar i)))(z:rd s=some y)(hm:Ch i σ y=some m)
  (a:σ[b]? = some (.row i l p u)) (f:lo+len<=l.length) (A:es=ar i) (h:k (.c (.d (I ((m.take len).length:Int)))) (σ.set b (.row i (Yz l m lo len) p (u+1))) false [b]=some r):jc P orc n alD σ σD (.copy es d s) k r:=by
 subst A;obtain ⟨L,E,G,K⟩:=v _ _ z;have j:BE (.row i l p u) (.row i (Yz l m lo len) p (u+1)):=⟨_,_,_,rfl,cn _,by omega,λ_=>Oy f,λe=>by omega⟩;refine ⟨.c (.d (I ((m.take len).length:Int))),_,false,[b],_,_,WW (pz i) x (H.row a) f E (XJ H hm G K) rfl,.inr rfl,rfl,H.set a j rfl (λw M e=>by simp at e),Ext.set a j,λ_=>?_,λe=>by grind [pF],h⟩;simp only[jm,List.all_cons,List.all_nil,JX];rw[H.row a,EI (H.row a)]
 grind [Ob.sz,Rb,pz,Oy]
theorem Sy{es:Nat}{d s:aG}(f:cP σ alD rd)(H:RH σ σD)(h:fy P S hint (.copy es d s) rd σ k=some r):jc P orc n alD σ σD (.copy es d s) k r:=by
 simp only[fy] at h;split at h
 ·rename_i i b v q y hd p;obtain ⟨u,g⟩:=f.c hd (by simp);split at h
  ·rename_i j l G K e;split at h
   ·rename_i E m a x z;simp only[bp] at a;obtain ⟨rfl,rfl⟩:=mF H g e a.1;obtain ⟨_,rfl⟩:=OJ x;exact EC (lo:=0) (len:=E.length) f H (by simpa[TC.er,OS] using u) p z e (by omega) (cr a.2) h
   simp_all
  simp_all
 ·rename_i i b v q lo len y hd p;obtain ⟨u,g⟩:=f.c hd (by simp);split at h
  ·rename_i j l G K e;split at h
   ·rename_i E m a x z;simp only[bp] at a;obtain ⟨rfl,rfl,A⟩:=os_row H g e a.1;obtain ⟨_,rfl⟩:=OJ x;exact EC f H u p z e A (cr a.2) h
   simp_all
  simp_all
 simp_all
theorem HH{x:aG}{i:Nat}(s:cP σ alD rd)(H:RH σ σD)(h:fy P S hint (.extract x i) rd σ k=some r):jc P orc n alD σ σD (.extract x i) k r:=by
 simp only[fy] at h;split at h
 ·rename_i E u;obtain ⟨d,j,⟨ds,rfl,l⟩,p⟩:=s _ _ u;split at h
  ·rename_i z a;obtain ⟨d,b,A,rfl,f⟩:=l.get _ _ a;exact cL.pure (v:=.agg z) (BN j b) ⟨A,rfl,f⟩ (p _ (vB a)) H h
  ·rename_i c a;obtain ⟨d,b,y,e,f⟩:=l.get _ _ a;simp only[yBP,Iq] at e;subst e;exact cL.pure (v:=.c c) (BN j b) f (p _ (vB a) c (by simp)) H h
  simp_all
 simp_all
theorem SO:∀{vs:List TV}{xs:List D}{ds:List D},vs.mapM (λv=>(match v with | .c (.d x)=>some x | _=>none))=some xs->eW vs ds->(∀v∈vs,GV σ v)->ds=xs/\D.low.cq σ.length xs=true:=by
 intro vs;induction vs with
 |nil=>intro xs ds h r _;simp only[List.mapM_nil] at h;cases h;cases r;exact ⟨rfl,rfl⟩
 |cons v vs ih=>
  intro xs ds h r g;cases r with
  |cons b r=>
   rw[Pq] at h;split at h
   ·rename_i x;cases a:vs.mapM (λv=>(match v with | .c (.d x)=>some x | _=>none)) with
    |none=>simp_all
    |some l=>rw[a] at h;cases h;obtain ⟨e,f⟩:=ih a r λv i=>g v (h_ _ i);have j:=RT.c1 (by simp) b;subst e j;refine ⟨rfl,?_⟩;simp only[D.low.cq,f,JX];exact g _ (iz ..)
   simp_all
theorem Zb{σ:TH}{xs:List TC}{cs:List CV}{ds:List D}(h:xs.mapM Uh=some cs)(r:aC RC xs ds)(g:∀x∈xs,GC σ x):ds=cs.map CV.er/\cs.all (CV.low σ.length)=true:=by
 induction r generalizing cs with
 |nil=>simp_all
 | @cons x d xs ds h1 r ih=>
  rw[Pq] at h;cases a:Uh x with
  |none=>simp_all
  |some c=>
   cases hs:xs.mapM Uh with
   |none=>simp_all
   |some f=>
    rw[a,hs] at h;cases h;obtain ⟨b,e⟩:=ih hs λy i=>g y (h_ _ i);have j:=g x (iz ..);unfold Uh at a;split at a <;> cases a
    ·have:=RT.c1 (x:=.d _) (by simp) h1;subst this;exact ⟨by rw[b];rfl,by simp only[List.all_cons,e,JX];exact j⟩
    ·have:=RT.c1 (x:=.b _) (by simp) h1;subst this;exact ⟨by rw[b];rfl,by simp only[List.all_cons,e,JX];rfl⟩
    ·have:=RT.c1 (x:=.sl _ _) (by simp) h1;subst this;exact ⟨by rw[b];rfl,by simp only[List.all_cons,e,JX];rfl⟩
theorem Sq{f:Fn}{first cap:List aG}(p:cP σ alD rd)(H:RH σ σD)(h:fy P S hint (.Cg f first cap) rd σ k=some r):jc P orc n alD σ σD (.Cg f first cap) k r:=by
 simp only[fy] at h;split at h
 ·rename_i a b z A;obtain ⟨ds,s,u,v⟩:=p.all z;obtain ⟨W,x,y,E⟩:=p.all A;split at h
  ·rename_i g X i;unfold ZP at i;split at i
   rotate_left
   ·grind
   rename_i Z xs;rw[bU] at i;obtain ⟨G,K,e⟩:=i;simp only[aM] at e;obtain ⟨rfl,rfl⟩:=e;cases u with
   |cons L M=>cases M;cases y;obtain ⟨N,rfl,O⟩:=L;obtain ⟨T,U⟩:=Zb K O (v _ (iz ..));subst T;exact cL.one h (Oe s x) rfl U H
  split at h
  ·rename_i a' b' j l;obtain ⟨rfl,h7⟩:=SO j u v;obtain ⟨rfl,h8⟩:=SO l y E;refine cL.one h (Oe s x) rfl ?_ H;show D.low _ _=true
   grind [D.low]
  simp_all
 simp_all
theorem TE{off:Nat}{m:Option Nat}{x:aG}(b:cP σ alD rd)(H:RH σ σD)(h:fy P S hint (.part off m x) rd σ k=some r):jc P orc n alD σ σD (.part off m x) k r:=by
 simp only[fy] at h;split at h
 ·rename_i s e;obtain ⟨d,f,⟨ds,rfl,i⟩,j⟩:=b _ _ e;split at h
  ·rename_i v a;obtain ⟨d,l,p⟩:=xw a i;exact cL.pure (Zj f l) p (nH a j) H h
  simp_all
 simp_all
theorem R_{len j es:Nat}{m:Option Nat}{x i:aG}{q:Int}{cs:List D}{d:D}(h:lx alD x=some (.agg cs))(b:lx alD i=some (I q))(hk:yX q len=some j)(f:rD m cs (j * es)=some d):dL P orc n alD σD (.zg es len m x i) d σD []:=λe a=>by simp[aR,dS a h,dS a b,qI,hk,f]
theorem XL{i:Nat}:∀{xs:List TC}{l:List (TT i)},Uf i xs=some l->∀{cs:List C},xs.map TC.er=cs.map .c->(cs.map λc=>[c])=l.map (enc i):=by
 intro xs;induction xs with
 |nil=>
  intro l h cs b;simp only[Uf,aj] at h;subst h;cases cs with
  |nil=>rfl
  |cons c cs=>simp at b
 |cons x xs ih=>
  intro l h cs b;simp only[Uf] at h;split at h
  ·rename_i a r j p;simp only[aj] at h;subst h;cases cs with
   |nil=>simp at b
   |cons c cs=>
    simp only[iH,yBP] at b;obtain ⟨e,_⟩:=ye j;simp only[iH,TI] at e;rw[b.1] at e;have s:[c]=enc i a:=by have u:([c]:List C).map D.c=(enc i a).map D.c:=e;have f:=M_ (List.map λd=>match d with | D.c c=>c | _=>default) u;simp only[Q_] at f;have v:((λd=>match d with | D.c c=>c | _=>default)∘D.c)=(id:C->C):=rfl;rw[v,List.map_id,List.map_id] at f;exact f
    simp only[iH,s,ih p b.2]
  ·simp at h
theorem Ys{m off:Nat}{x:aG}{cs:List C}{es:List (List C)}(h:lx alD x=some (.c (.bZ cs off)))(a:off+m<=cs.length)(f:(((cs.drop off).take m).map λc=>[c])=es):dL P orc n alD σD (.BI m x) (.c (.ca false es)) σD []:=λe b=>by subst f;simp only[aR,dS b h,a,if_true]
theorem TG{m:Nat}{x:aG}(e:cP σ alD rd)(H:RH σ σD)(h:fy P S hint (.BI m x) rd σ k=some r):jc P orc n alD σ σD (.BI m x) k r:=by
 simp only[fy] at h;split at h
 ·rename_i i a off f;obtain ⟨j,g⟩:=e.c f (by simp);split at h
  ·rename_i l b p;have b:=zE b;exact cL.pure (v:=.c (.sl hint l)) (Ys j (by rw[pz];exact b) (XL p (by rw[yBU,List.map_drop,sC,yBU,List.map_drop]))) (Or.inr rfl) True.intro H h
  ·simp at h
 ·simp at h
theorem Tm{es len:Nat}{m:Option Nat}{x i:aG}(e:cP σ alD rd)(H:RH σ σD)(h:fy P S hint (.zg es len m x i) rd σ k=some r):jc P orc n alD σ σD (.zg es len m x i) k r:=by
 simp only[fy] at h;split at h
 ·rename_i U W G u;obtain ⟨d,y,⟨ds,rfl,A⟩,K⟩:=e _ _ G;split at h
  ·rename_i q p;split at h
   ·rename_i j L;split at h
    ·rename_i v E;obtain ⟨d,M,s⟩:=xw E A;exact cL.pure (R_ y (e.int u p) L M) s (nH E K) H h
    simp_all
   simp_all
  ·rename_i q p;split at h
   ·rename_i l hs N;simp only[bp] at hs;have O:=cr hs.1;have X:=cr hs.2;subst O;obtain ⟨a,T,hk⟩:=xM h;have s:=Gh N A;have b:l.length=len:=by grind [aC.len,List.length_map]
    exact cL.one hk (Yt (f:=λz=>.c (.lit (.int .i64 z))) y (e.int u p) T s b) rfl rfl H
   simp_all
  simp_all
 simp_all
theorem UU{f:aG}{args:List aG}(l:cP σ alD rd)(H:RH σ σD)(h:fy P S hint (.call f args) rd σ k=some r):jc P (zM (Er S)) n alD σ σD (.call f args) k r:=by
 simp only[fy] at h;split at h
 ·rename_i g z x b;obtain ⟨p,_⟩:=l.c x (by simp);obtain ⟨ds,u,v,y⟩:=l.all b;split at h
  ·rename_i s hs;split at h
   ·rename_i a e;obtain ⟨q,i,hk⟩:=xM h;exact cL.pure (EP p u (spc_ok hs v e i)) (MZ s.out q) (EA s.out q) H hk
   ·split at h
    ·rename_i a j e;simp only[bp] at j;obtain ⟨q,i,hk⟩:=xM h;exact cL.pure (EP p u (SD H hs y v j.1 j.2 e i)) (MZ s.out q) (EA s.out q) H hk
    simp_all
  simp_all
 simp_all
theorem Vc(p:cP σ alD rd)(H:RH σ σD)(h:fy P S hint o rd σ k=some r):jc P (zM (Er S)) n alD σ σD o k r:=by
 cases o with
 |xQ x=>
  simp only[fy] at h;split at h
  ·rename_i v A;obtain ⟨d,E,G,K⟩:=p _ _ A;exact cL.pure (xD E) G K H h
  simp_all
 |gen op ty=>exact XX p H h
 |box x=>grind [WU]
 |alloc z=>exact OQ H h
 |build z L=>grind [QH]
 |ic l len z L=>grind [LK]
 |load m x=>grind [RQ]
 |store m x y=>grind [Qx]
 |kQ x=>grind [Py]
 |gY N M x=>grind [Pm]
 |Dw off x=>grind [YD]
 |idx l len x i=>grind [Zu]
 |Rq l x O T=>grind [Zl]
 |rT=>exact Ph H h
 |lookup e zero m u ok=>grind [Li]
 |qp e m u x=>grind [W_]
 |del e m u=>grind [XD]
 |len x=>grind [Zo]
 |mk l j z x y=>grind [tmk_ok]
 |append l j s x=>grind [YW]
 |copy l d s=>grind [Sy]
 |extract x i=>grind [HH]
 |Cg f a b=>grind [Sq]
 |part off m x=>grind [TE]
 |BI m x=>grind [TG]
 |zg l len m x i=>grind [Tm]
 |call f args=>grind [UU]
 |_=>simp[fy] at h
end
end Go.Abs
end
section
namespace Go.Abs
noncomputable section
variable[Gl][Y:Ty]
def DM(p:Nat):TA->Option (Nat×RV)
 |[]=>none
 |x::al=>if al.length=p then some x else DM p al
theorem KX{p:Nat}{y:Nat×RV}:∀{al:TA},DM p al=some y->p<al.length:=by
 intro al;induction al with
 |nil=>grind [DM]
 |cons x al ih=>grind [DM]
theorem wD{p:Nat}{y z:Nat×RV}{al:TA}(h:DM p al=some y):DM p (z::al)=some y:=by
 have:=KX h;simp only[DM]
 grind
theorem Xc{p:Nat}{y:Nat×RV}{al:TA}(h:DM p al=some y):∀(pre:TA),DM p (pre++al)=some y:=by
 intro pre;induction pre with
 |nil=>exact h
 |cons z pre ih=>exact wD ih
theorem TR{t p:Nat}{x:RV}:∀{al:TA},dR t al=some (x,p)->DM p al=some (t,x):=by
 intro al;induction al with
 |nil=>grind [dR]
 |cons y al ih=>
  intro h;obtain ⟨s,z⟩:=y;simp only[dR] at h;split at h
  ·rename_i a;have:=cr a;subst this;simp only[aj,aM] at h;obtain ⟨rfl,rfl⟩:=h;simp only[DM,if_true]
  grind [wD]
def GW(al:TA)(σ:TH):RV->Prop
 |.v x=>GV σ x
 |.g c w p x=>(∃t,DM p al=some (t,.v (.c (.b c))))/\(c=w->GV σ x)
theorem GW.mono{al:TA}{σ σ1:TH}(h:Ext σ σ1)(pre:TA){x:RV}(g:GW al σ x):GW (pre++al) σ1 x:=by
 cases x with
 |v x=>exact GV.mono h g
 |g c w p x=>exact ⟨let ⟨t,i⟩:=g.1;⟨t,Xc i pre⟩,λe=>(g.2 e).mono h⟩
structure Ref (al:TA) (σ:TH) (alD:AL) (σD:ae):Prop where
 hh:RH σ σD
 rg:∀t x p,dR t al=some (x,p)->∃d,lk t alD=some d/\RR x d/\GW al σ x
def Bo(al:TA)(kn:Kn):Prop:=∀p b,yA p kn=some b->∀t e,DM p al=some (t,.v (.c (.b e)))->e=b
variable{P:Program}{n:Nat}{alD:AL}{σ σ1:TH}{σD σD1:ae}{al:TA}{kn:Kn}{S:pL}
theorem Ref.set{t:Nat}{x:RV}{d:D}(i:Ref al σ alD σD)(H:RH σ1 σD1)(j:Ext σ σ1)(E:RR x d)(G:GW ((t,x)::al) σ1 x):Ref ((t,x)::al) σ1 ((t,d)::alD) σD1:={
 hh:=H
 rg:=λs y p h=>by
  simp only[dR] at h;simp only[lk];split at h
  ·simp_all
  ·rename_i u
   try rw[u]
   obtain ⟨z,h1,h2,A⟩:=i.rg s y p h;exact ⟨z,h1,h2,A.mono j [(t,x)]⟩ }
theorem Ref.heap(i:Ref al σ alD σD)(H:RH σ1 σD1)(j:Ext σ σ1):Ref al σ1 alD σD1:={
 hh:=H
 rg:=λs y p h=>let ⟨u,h1,h2,h3⟩:=i.rg s y p h;⟨u,h1,h2,h3.mono j []⟩ }
theorem Bo.cons{z:Nat×RV}(h:Bo al kn)(i:∀p b,yA p kn=some b->p<al.length):Bo (z::al) kn:=λp b hk t e j=>by
 refine h p b hk t e ?_;have:=i p b hk;simp only[DM] at j
 grind
def Lr(al:TA)(kn:Kn):Prop:=∀p b,yA p kn=some b->p<al.length
theorem Lr.cons{z:Nat×RV}(h:Lr al kn):Lr (z::al) kn:=λp b hk=>by have:=h p b hk;grind
theorem Bo.add{p:Nat}{b:Bool}(h:Bo al kn)(j:∀t e,DM p al=some (t,.v (.c (.b e)))->e=b):Bo al ((p,b)::kn):=λq c hk t e i=>by
 simp only[yA] at hk;split at hk
 ·grind [Nat.eq_of_beq_eq_true]
 ·exact h q c hk t e i
theorem Lr.add{p:Nat}{b:Bool}(h:Lr al kn)(i:p<al.length):Lr al ((p,b)::kn):=λq c hk=>by
 simp only[yA] at hk;split at hk
 ·simp_all
 ·exact h q c hk
theorem UG{d:D}(h:d.low 0=true):RT (Ew d) d/\GV σ (Ew d):=by
 unfold Ew;split
 ·rename_i ds;exact ⟨⟨ds,rfl,aC.ds ds⟩,Fi h⟩
 ·exact ⟨.inr rfl,D.dK (KZ _) h⟩
theorem kU(A:Ref al σ alD σD)(K:Bo al kn){a:Option (Nat×Bool)}(N:∀q w,a=some (q,w)->∀t e,DM q al=some (t,.v (.c (.b e)))->e=w):cP σ alD (Cz al kn a):=by
 intro x v h;cases x with
 |k d=>
  simp only[Cz] at h;split at h
  ·rename_i E;simp only[aj] at h;subst h;exact ⟨d,rfl,(UG (σ:=σ) E).1,(UG E).2⟩
  simp_all
 |t s=>
  simp only[Cz] at h;split at h
  ·rename_i y p l;simp only[aj] at h;subst h;obtain ⟨d,u,j,z⟩:=A.rg s _ p l;exact ⟨d,u,j,z⟩
  ·rename_i c w p y q l;split at h
   ·rename_i f;simp only[aj] at h;subst h;obtain ⟨d,u,j,z⟩:=A.rg s _ q l;obtain ⟨⟨t,G⟩,L⟩:=z;have i:c=w:=by
     unfold Qk at f;split at f
     ·rename_i b M;have:=K p b M t c G
      simp_all
     ·split at f
      ·rename_i O T;simp only[bp] at f;have U:=cr f.1
       grind
      simp_all
    simp only[RR,if_pos i] at j;exact ⟨d,u,j,L i⟩
   simp_all
  simp_all
theorem Eg{t p:Nat}{x:RV}(a:Ref al σ alD σD)(h:dR t al=some (x,p)):∃d,lk t alD=some d/\RR x d:=let ⟨d,h1,h2,_⟩:=a.rg t x p h;⟨d,h1,h2⟩
theorem tGd_ok(M:Ref al σ alD σD)(K:Bo al kn)(g:Option (Nat×Bool)):match tGd al kn g with
  |.Qk=>Gd alD g true
  |.shut=>Gd alD g false
  |.sym e p w=>(∃t,DM p al=some (t,.v (.c (.b e))))/\(e=w->Gd alD g true)/\((!e)=w->Gd alD g false)
  |.spl e p=>∃t,DM p al=some (t,.v (.c (.b e)))
  |.Pj t x=>∃d,lk t alD=some d/\RT x d/\GV σ x
  |.bad=>True:=by
 cases g with
 |none=>exact fG
 |some g=>
  obtain ⟨t,a⟩:=g;simp only[tGd];cases u:dR t al with
  |none=>trivial
  |some q=>
   obtain ⟨x,p⟩:=q;obtain ⟨d,h,i⟩:=Eg M u;cases x with
   |g c w z y=>
    dsimp only;obtain ⟨X,U,A,⟨N,j⟩,W⟩:=M.rg t _ p u;cases hk:yA z kn with
    |none=>simp_all
    |some b=>
     dsimp only;by_cases l:(b == w)=true
     ·rw[if_pos l];have E:c=w:=by rw[K z b hk N c j];simp_all
      simp only[RR,if_pos E] at A
      simp_all
     ·rw[if_neg l];have:=K z b hk N c j;have L:¬c=w:=λe=>l (by simp_all);simp only[RR,if_neg L] at i
      grind [OF]
   |v y=>
    dsimp only;change RT y d at i;generalize f:gdB kn a p y=G;unfold gdB at f;split at f
    ·have:=RT.c1 (by simp) i;subst this;subst f;cases a
     ·exact Lx h rfl
     ·exact fR h rfl
    ·have:=RT.c1 (by simp) i;subst this;subst f;cases a
     ·exact fR h rfl
     ·exact Lx h rfl
    ·have:=RT.c1 (by simp) i;subst this;subst f;exact OF h
    ·rename_i e;have:=RT.c1 (by simp) i;subst this;have s:=TR u;cases hk:yA p kn with
     |none=>
      rw[hk] at f;subst f;refine ⟨⟨t,s⟩,λO=>fR h O,λO=>Lx h ?_⟩
      simp_all
     |some b=>
      rw[hk] at f;dsimp only at f;have l:=K p b hk t e s;by_cases T:(b == a)=true
      ·rw[if_pos T] at f;subst f;exact fR h (by simp_all)
      ·rw[if_neg T] at f;subst f;refine Lx h ?_
       try rw[l]
       cases b <;> cases a <;> simp_all
    grind
def JB(a b:dz):Prop:=a.wr=b.wr/\a.dst=b.dst/\a.ZR=b.ZR/\a.lo=b.lo/\a.hi=b.hi/\(a.cat=0∨(a.cat=b.cat/\a.blk=b.blk))
theorem JB.refl(a:dz):JB a a:=⟨rfl,rfl,rfl,rfl,rfl,.inr ⟨rfl,rfl⟩⟩
theorem QO{a b:dz}(h:JB a b){wr:List Nat}(hs:safe b wr=true):safe a wr=true:=by
 obtain ⟨_,_,_,_,_,h | ⟨e,f⟩⟩:=h
 ·simp[safe,h]
 grind [safe]
theorem Ba{a b f i:dz}(h:JB a b)(j:JB f i)(hs:apart b i=true):apart a f=true:=by
 simp only[apart,bp] at hs ⊢;obtain ⟨⟨⟨⟨p,s⟩,u⟩,v,x⟩,y,z⟩:=hs;have e:=h;have l:=j;obtain ⟨A,E,G,K,L,_⟩:=e;obtain ⟨f1,M,N,O,T,_⟩:=l
 grind [QO,outside]
theorem oI{b:List Nat}{as e:List dz}(h:aC JB as e)(f:dQ b e=true):dQ b as=true:=by
 simp only[dQ,fE,XZ,dZ] at f ⊢;intro j l i p;rw[h.len] at l;rcases f j l i p with s | s
 ·simp_all
 ·right;have get:∀q,q<e.length->JB (as.getD q default) (e.getD q default):=by
   intro q u;obtain ⟨a,v,x⟩:=h.get' q _ (cT u)
   simp_all
  grind [Ba]
theorem OX{b f:List Nat}{as e:List dz}(h:aC JB as e)(l:Lm b f e=true):Lm b f as=true:=by
 simp only[Lm,fE,XZ,dZ] at l ⊢;intro j p i s;rw[h.len] at p;rcases l j p i s with u | u
 ·simp_all
 ·right;have get:∀q,q<e.length->JB (as.getD q default) (e.getD q default):=by
   intro q v;obtain ⟨a,x,y⟩:=h.get' q _ (cT v)
   simp_all
  grind [Ba]
theorem bK.mono{orc:fA}{k:Nat}{os:List aD}{Q Q':AL->ae->List dz->Prop}(h:bK P orc k os n alD σD Q)(j:∀a s i,Q a s i->Q' a s i):bK P orc k os n alD σD Q':=by obtain ⟨a,s,i,u,x⟩:=h;exact ⟨a,s,i,u,j _ _ _ x⟩
theorem Ul(b:Ref al σ alD σD){o:jB}(h:okT al o=true):CU alD o=true:=by
 cases o with
 |load m x=>
  cases x with
  |k d=>rfl
  |t a=>grind [okT,Option.isSome_iff_exists,Eg,CU,lx]
 |_=>rfl
variable{R:Type}
theorem Ta{rd:aG->Option TV}{hint:Nat}{o:jB}{k:KO R}{r:R}(f:cP σ alD rd)(h:fy P S hint o rd σ k=some r):CU alD o=true/\vz alD o=XP rd o:=by
 cases o with
 |load m x=>
  simp only[fy] at h;cases a:rd x with
  |none=>rw[a] at h;simp at h
  |some v=>
   obtain ⟨d,e,b,_⟩:=f x v a;refine ⟨by simp[CU,e],?_⟩;simp only[vz,XP,e,a];cases v with
   |agg i=>obtain ⟨ds,rfl,_⟩:=b;rfl
   |aI i=>obtain ⟨ds,rfl,_⟩:=b;rfl
   |c y=>
    cases y with
    |any=>rw[a] at h;simp at h
    |d z=>have:=RT.c1 (by simp) b;subst this;cases d <;> rfl
    |_=>have:=RT.c1 (by simp) b;subst this;rfl
 |_=>exact ⟨rfl,rfl⟩
def aP(al:TA)(σ:TH)(K:KS R)(r:R)(e:AL)(f:ae)(h:List dz):Prop:=
 ∃a b i,Ref a b e f/\(∃pre,a=pre++al)/\Ext σ b/\aC JB h i/\K a b i=some r
theorem aP.cons{al al1:TA}{σ σ1:TH}{K:KS R}{r:R}{j:AL}{s u:ae}{x:List dz}{i G:dz}{pre:TA}(h:aP al1 σ1 (λz σ' E=>K z σ' (i::E)) r j s x)(hp:al1=pre++al)(H:RH σ u)(M:Ext σ σ1)(O:JB G i) :
  aP al σ K r j s (G::x):=by
 obtain ⟨z,σ',E,U,⟨A,rfl⟩,W,X,Z⟩:=h;exact ⟨_,σ',i::E,U,⟨A++pre,by simp_all⟩,Ext.trans H M W,.cons O X,Z⟩
theorem pk_ok{e:Bool}{u v:TV}{f h:BX}(j:Qi u=some f)(l:Qi v=some h){d:D}(r:RT (if e then u else v) d):d=B (pk e f h):=by
 have b:∀{w:TV}{i:BX},Qi w=some i->RT w d->d=B i.val:=by
  intro w i a r;unfold Qi at a;split at a
  ·simp only[aj] at a;subst a;exact RT.c1 (by simp) r
  ·simp only[aj] at a;subst a;exact RT.c1 (by simp) r
  ·simp only[aj] at a;subst a;exact RT.c1 (by simp) r
  simp_all
 cases e
 ·have:=b l r;rw[this];cases f <;> cases h <;> simp[pk,BX.val]
 ·have:=b j r;rw[this];cases f <;> cases h <;> simp[pk,BX.val]
theorem Fw{σ:TH}(c:Bool)(x y:BX):RT (pkV c x y) (B (pk c x y))/\GV σ (pkV c x y):=by cases x <;> cases y <;> first | exact ⟨.inr rfl,True.intro⟩ | (cases c <;> exact ⟨.inr rfl,rfl⟩)
theorem tot_ok{o:jB}{rd:aG->Option TV}{v:TV}(a:cP σ alD rd)(H:RH σ σD)(b:pF o=true)(h:fy (R:=TV) P S 0 o rd σ (λv _ _ _=>some v)=some v) :
  ∃d,dL P (zM (Er S)) n alD σD o d σD []/\RT v d/\GV σ v:=by
 obtain ⟨e,σ1,rs,wr,d,σD1,f,i,j,_,_,_,l,p⟩:=Vc (n:=n) a H h
 grind
def qo:(cs:List CT)->nP cs->Option (Σ c:CT,cV c.items)
 |[],_=>none
 |[c],x=>some ⟨c,x⟩
 |c :: d :: cs, x => match x with
  |.inl a=>some ⟨c,a⟩
  |.inr b=>qo (d::cs) b
theorem T_{R:Type}{f:(c:CT)->cV c.items->Option R}{r:R}:∀{cs:List CT}{x:nP cs},altK cs x f=some r->∃c a,qo cs x=some ⟨c,a⟩/\f c a=some r:=by
 intro cs;induction cs with
 |nil=>grind
 |cons c cs ih=>
  intro x h;cases cs with
  |nil=>exact ⟨c,x,rfl,h⟩
  |cons d cs=>
   cases x with
   |inl a=>exact ⟨c,a,rfl,h⟩
   |inr b=>obtain ⟨e,i,j,l⟩:=ih (x:=b) h;exact ⟨e,i,j,l⟩
def ExOk(g:Ko):Prop:=∀(i:CT)(e:FuncId)(f:List TV)(σ:TH)(h:List TV)(au:TH)(σD:ae)(ds:List D),g.exa i e f σ=some (h,au)->RH σ σD->eW f ds->(∀v∈f,GV σ v) ->
 aN g.P e=true/\∃r a,RH au a/\RT (vX h) r/\GV au (vX h)/\Ext σ au/\Ok g.P e ds σD r a/\(∀b,b<σD.length->a[b]? = σD[b]?)
def UF(g:Ko):Prop:=∀(f:List CT)(h:FuncId)(i:List TV)(σ:TH)(y:nP f)(e:CT)(x:cV e.items)(j:List TV)(au:TH)(σD:ae)(ds:List D),g.inl f h i σ=some y->qo f y=some ⟨e,x⟩->kC e σ x=some (j,au)->RH σ σD->eW i ds->(∀v∈i,GV σ v) ->
 aN g.P h=true/\∃r a,RH au a/\RT (vX j) r/\GV au (vX j)/\Ext σ au/\Ok g.P h ds σD r a/\(∀b,b<σD.length->b∉e.pl.map PC.blk->a[b]? = σD[b]?)/\(e.pl.any PC.rs=false->jm σD a (e.pl.map PC.blk)=true)
structure UM (g:Ko):Prop where
 one:UF g
 two:ExOk g
theorem LC{b a:fA}:∀(os:List aD)(k:Nat)(e:List D)(σ:ae),(∀o∈os,b o.dst=a o.dst)->jR P b k os e σ=jR P a k os e σ:=by
 intro os;induction os with
 |nil=>intro k e σ _;rfl
 |cons o os ih=>grind [dU,jR]
theorem bK.congr{u j:fA}{k:Nat}{os:List aD}{Q:AL->ae->List dz->Prop}(h:∀o∈os,u o.dst=j o.dst)(t:bK P u k os n alD σD Q):bK P j k os n alD σD Q:=by
 obtain ⟨a,s,i,x,z⟩:=t;refine ⟨a,s,i,λe A=>?_,z⟩;obtain ⟨E,G,K⟩:=x e A
 grind [LC]
theorem eW.TS{vs i:List TV}{ds es:List D}(h:eW vs ds)(j:eW i es):eW (vs++i) (ds++es):=by
 induction h with
 |nil=>exact j
 |cons h _ ih=>exact .cons h ih
theorem ofD_rt(d:D):RT (Ew d) d:=by
 unfold Ew;split
 ·rename_i ds;exact ⟨ds,rfl,aC.ds ds⟩
 ·exact .inr rfl
theorem Fh{d:D}(h:d.low σ.length=true):GV σ (Ew d):=by
 unfold Ew;split
 ·rename_i ds;intro x a;rw[dY] at a;obtain ⟨y,b,rfl⟩:=a;obtain ⟨i,e⟩:=yB7 b;exact D.aO h i y e
 ·exact h
theorem zS:∀(ds:List D),eW (ds.map Ew) ds:=by
 intro ds;induction ds with
 |nil=>exact .nil
 |cons d ds ih=>exact .cons (ofD_rt d) ih
theorem UA{v:TV}{d:D}{K:FuncId}{a b:List TV}(h:fnT v=some (K,a,b))(r:RT v d)(g:GV σ v):∃L M,eW a L/\eW b M/\(∀v∈a,GV σ v)/\(∀v∈b,GV σ v) /\
  ∀(orc:ta)(f:aG)(args:List aG)(ds:List D)(r:D)(σD1:ae)(w:List Nat),lx alD f=some d->Rp alD args=some ds->orc K (L++ds++M) σD=some (r,σD1,w)->dL P orc n alD σD (.call f args) r σD1 w:=by
 unfold fnT at h;split at h
 ·rename_i E x y;simp only[aj,aM] at h;obtain ⟨rfl,rfl,rfl⟩:=h;have:=RT.c1 (by simp) r;subst this;refine ⟨x.map .c,y.map .c,?_,?_,λv j=>?_,λv j=>?_,λorc f args ds r σD1 w s u A=>Ux s u A⟩
  ·have:=zS (x.map D.c);rw[Q_] at this;exact this
  ·have:=zS (y.map D.c);rw[Q_] at this;exact this
  ·rw[dY] at j;obtain ⟨z,_,rfl⟩:=j;exact Fh rfl
  ·rw[dY] at j;obtain ⟨z,_,rfl⟩:=j;exact Fh rfl
 ·rename_i E x y;simp only[aj,aM] at h;obtain ⟨rfl,rfl,rfl⟩:=h;have:=RT.c1 (by simp) r;subst this;have G:D.low.cq σ.length x=true/\D.low.cq σ.length y=true:=by
   have:(D.low σ.length (.fn (.func E) x y))=true:=g
   grind [D.low]
  refine ⟨x,y,zS x,zS y,λv j=>?_,λv j=>?_,λorc f args ds r σD1 w s u A=>IR s u A⟩
  ·grind [List.getElem?_of_mem,Fh,D.aO]
  grind [List.getElem?_of_mem,Fh,D.aO]
 ·rename_i E p;simp only[aj,aM] at h;obtain ⟨rfl,rfl,rfl⟩:=h;have:=RT.c1 (x:=.Cj _ _) (by simp) r;subst this;have G:p.all (CV.low σ.length)=true:=g;have O:aC RC (p.map cvT) (p.map CV.er):=by
   clear G g r;induction p with
   |nil=>exact .nil
   |cons x p ih=>exact .cons (.inr (by cases x <;> rfl)) ih
  refine ⟨[.agg (p.map CV.er)],[],.cons ⟨_,rfl,O⟩ .nil,.nil,λv j=>?_,λv j=>by grind,λorc f args ds r σD1 w s u A=>IR s u A⟩;rw[nL] at j;subst j;intro y N;rw[dY] at N;obtain ⟨x,T,rfl⟩:=N;have:=fE.1 G x T;cases x with
  |d x=>exact this
  |b e=>exact True.intro
  |sl i l=>exact True.intro
 simp_all
theorem tf{g:Ko}{q:Nat}{os:List aD}(h:QP g q os=true):wc g q os=true:=by
 unfold QP at h;split at h
 ·rename_i a;have:∀o,gQ g q o=none:=λo=>by grind [gQ]
  clear h;induction os with
  |nil=>rfl
  |cons o os ih=>simp only[wc,this,ih,JX];simp
 omega
def zc(g:Ko)(q k:Nat)(os:List aD)(alD:AL)(σD:ae)(Q:AL->ae->List dz->Prop):Prop:=
 ∃a,lP g.P a/\(∀t,(∀o∈os,(gQ g q o).isSome=true->o.dst≠t)->a t=zM (Er g.S))/\bK g.P a k os g.n alD σD Q
section
variable{g:Ko}{q k:Nat}{os:List aD}{alD:AL}{σD σD1:ae}{Q Q':AL->ae->List dz->Prop}{t:Nat}{ao:jB}{gd:Option (Nat×Bool)}{d:D}{w:List Nat}
theorem zc.mono(h:zc g q k os alD σD Q)(j:∀a s i,Q a s i->Q' a s i):zc g q k os alD σD Q':=by obtain ⟨u,x,z,A⟩:=h;exact ⟨u,x,z,A.mono j⟩
theorem Qn{o:aD}(h:wc g q (o::os)=true):wc g q os=true:=by simp only[wc,bp] at h;exact h.2
theorem Xu{o:aD}(h:wc g q (o::os)=true)(a:gQ g q o=none){t:Nat}(b:o.dst=some t):∀o'∈os,(gQ g q o').isSome=true->o'.dst≠some t:=by intro o' f i e;simp only[wc,a,bp,eS] at h;have:=h.1;rw[yCj] at this;have:=this o' f;simp[NA,b,e,i] at this
theorem Sc{o:aD}{ct:List CT}(h:wc g q (o::os)=true)(a:gQ g q o=some ct){t:Nat}(b:o.dst=some t):∀o'∈os,o'.dst≠some t:=by intro o' f e;simp only[wc,a,bp,eS] at h;have:=h.1;rw[yCj] at this;have:=this o' f;simp[NA,b,e] at this
theorem zc.op(M:wc g q (⟨some t,ao,gd⟩::os)=true)(O:gQ g q ⟨some t,ao,gd⟩=none)(h:dL g.P (zM (Er g.S)) g.n alD σD ao d σD1 w)(s:Gd alD gd true)(hs:(Nat.blt t g.n&&CU alD ao&&(k == 0 || jm σD σD1 w))=true)
  (r:zc g q (k-1) os ((t,d)::alD) σD1 λi σ' u=>Q i σ' (CB ⟨some t,ao,gd⟩ (cat ao) (vz alD ao) w σD.length σD1.length::u)):zc g q k (⟨some t,ao,gd⟩::os) alD σD Q:=by
 obtain ⟨x,z,A,E⟩:=r;refine ⟨x,z,λG j=>A G λo K=>j o (h_ _ K),bK.op ?_ s hs E⟩
 grind [Xu]
theorem zc.eff(h:dL g.P (zM (Er g.S)) g.n alD σD ao d σD1 w)(s:Gd alD gd true)(hs:(CU alD ao&&(k == 0 || jm σD σD1 w))=true)
  (r:zc g q (k-1) os alD σD1 λi σ' u=>Q i σ' (CB ⟨none,ao,gd⟩ (cat ao) (vz alD ao) w σD.length σD1.length::u)):zc g q k (⟨none,ao,gd⟩::os) alD σD Q:=by
 obtain ⟨x,z,A,E⟩:=r;refine ⟨x,z,λG j=>A G λo K=>j o (h_ _ K),bK.eff (d:=d) ?_ s hs E⟩
 grind [gQ]
theorem zc.no(s:Gd alD gd false)(hs:(Nat.blt t g.n&&CU alD ao)=true)
  (r:zc g q (k-1) os ((t,.aI [])::alD) σD λi σ' u=>Q i σ' (CB ⟨some t,ao,gd⟩ 0 (vz alD ao) [] σD.length σD.length::u)):zc g q k (⟨some t,ao,gd⟩::os) alD σD Q:=by
 obtain ⟨x,z,A,E⟩:=r;exact ⟨x,z,λG j=>A G λo K=>j o (h_ _ K),bK.no s hs E⟩
theorem zc.inl{ct:List CT}{u:FuncId}{ds:List D}{wr:List Nat}(O:si g.P (zM (Er g.S)))(K:wc g q (⟨some t,ao,gd⟩::os)=true)(M:gQ g q ⟨some t,ao,gd⟩=some ct)(U:Gd alD gd true)
  (he:aN g.P u=true) (ok:Ok g.P u ds σD d σD1) (W:σD.length<=σD1.length) (X:∀b,b<σD.length->b∉wr->σD1[b]? = σD[b]?)
  (z:∀(orc:ta),orc u ds σD=some (d,σD1,wr)->dL g.P orc g.n alD σD ao d σD1 wr) (hs:(Nat.blt t g.n&&CU alD ao&&(k == 0 || jm σD σD1 wr))=true)
  (r:zc g q (k-1) os ((t,d)::alD) σD1 λA σ' Z=>Q A σ' (CB ⟨some t,ao,gd⟩ (cat ao) (vz alD ao) wr σD.length σD1.length::Z)):zc g q k (⟨some t,ao,gd⟩::os) alD σD Q:=by
 classical
 obtain ⟨x,h1,h2,h3⟩:=r
 let i:ta:=λG s σ'=>if G=u/\s=ds/\σ'=σD then some (d,σD1,wr) else none
 let E:fA:=λj=>if j=some t then i else x j
 refine ⟨E,λj=>?_,λj aa=>?_,bK.op (z _ ?_) U hs (h3.congr λo ho=>?_)⟩
 ·show si g.P (if j=some t then i else x j);split
  ·intro G s σ' r au ab h
   grind
  ·exact h1 j
 ·grind
 ·grind
 ·show x o.dst=if o.dst=some t then i else x o.dst;rw[if_neg (Sc K M rfl o ho)]
end
theorem ZC{g:Ko}{q:Nat}{t:Option Nat}{ao:jB}{gd:Option (Nat×Bool)}(h:pF ao=true):gQ g q ⟨t,ao,gd⟩=none:=by grind [gQ,pF]
theorem tD(g:Ko)(q:Nat)(O:si g.P (zM (Er g.S)))(hI:UM g):∀(fu k:Nat)(os:List aD)(kn:Kn)(al:TA)(σ:TH)(K:KS R)(r:R)(alD:AL)(σD:ae),iG g q fu k os kn al σ K=some r->wc g q os=true->Ref al σ alD σD->Bo al kn->Lr al kn ->
  zc g q k os alD σD (aP al σ K r):=by
 intro fu;induction fu with
 |zero=>grind [iG]
 |succ fu ih=>
  intro k os kn al σ K r alD σD h hU j Kn A;cases os with
  |nil=>simp only[iG] at h;exact ⟨λ_=>zM (Er g.S),λ_=>O,λt _=>rfl,bK.nil ⟨al,σ,[],j,⟨[],rfl⟩,Ext.refl σ,.nil,h⟩⟩
  |cons o os=>
   simp only[iG] at h;have L:=Qn hU;split at h
   ·simp at h
   rename_i hn;obtain ⟨M,op,gd⟩:=o;have G:=tGd_ok j Kn gd;dsimp only at h hn;have W:∀(e:Bool)(p:Nat),(∃t,DM p al=some (t,.v (.c (.b e))))->(if e=true then iG g q fu k (⟨M,op,gd⟩::os) ((p,true)::kn) al σ K else iG g q fu k (⟨M,op,gd⟩::os) ((p,false)::kn) al σ K)=some r ->
     zc g q k (⟨M,op,gd⟩::os) alD σD (aP al σ K r):=by
    intro e p ⟨t,ht⟩ h;have add:∀b,e=b->Bo al ((p,b)::kn):=λb hb=>Kn.add λt' e' aa=>by simp_all
    split at h
    ·rename_i E;exact ih _ _ _ _ _ _ _ _ _ h hU j (add true E) (A.add (KX ht))
    ·rename_i E;exact ih _ _ _ _ _ _ _ _ _ h hU j (add false (by simp_all)) (A.add (KX ht))
   cases hg:tGd al kn gd with
   |bad=>simp_all
   |spl e p=>rw[hg] at h G;exact W e p G h
   |Pj t x=>
    rw[hg] at h G;obtain ⟨d,l,z,N⟩:=G;have R1:Ref ((t,.v x)::al) σ alD σD:=⟨j.hh,λs y p hs=>by
     simp only[dR] at hs;split at hs
     ·rename_i hb;have:=cr hb;subst this;simp only[aj,aM] at hs;obtain ⟨rfl,rfl⟩:=hs;exact ⟨d,l,z,N⟩
     ·obtain ⟨d',g1,g2,g3⟩:=j.rg s y p hs;exact ⟨d',g1,g2,g3.mono (Ext.refl σ) [(t,.v x)]⟩⟩
    refine (ih _ _ _ _ _ _ _ alD σD h hU R1 (Kn.cons A) A.cons).mono λa s i T=>?_;obtain ⟨ax,af,is,a1,⟨pre,rfl⟩,a3,a4,a5⟩:=T;exact ⟨_,af,is,a1,⟨pre++[(t,.v x)],by simp_all⟩,a3,a4,a5⟩
   |shut=>
    rw[hg] at h G;dsimp only at h G;cases M with
    |none=>simp at h
    |some t=>
     dsimp only at h hn;split at h
     ·simp at h
     rename_i bh;change Nat.blt t g.n=true at hn;have a0:=Ul j bh;refine zc.no G (by simp_all) ?_;refine (ih _ _ _ _ _ _ _ ((t,.aI [])::alD) σD h L (j.set j.hh (Ext.refl σ) (.inr rfl) ?_) (Kn.cons A) A.cons).mono λa s i T=>?_
     ·show D.low _ _=true;rfl
     ·refine T.cons (pre:=[(t,.v (.c (.d (.aI []))))]) rfl j.hh (Ext.refl σ) ?_;rw[j.hh.len];exact ⟨rfl,rfl,rfl,rfl,rfl,.inl rfl⟩
   |sym e p w=>
    rw[hg] at h G;dsimp only at h G;obtain ⟨⟨t0,ak⟩,G1,G2⟩:=G;split at h
    ·rename_i t ab;change Nat.blt t g.n=true at hn;split at h
     ·rename_i v U;have bi:okT al op=true:=by
       cases op with
       |load m x=>
        cases x with
        |k d=>rfl
        |t a=>
         simp only[okT];simp only[fy] at U
         grind [Cz]
       |_=>rfl
      have a0:=Ul j bi;by_cases E:e=w
      ·have hr:cP σ alD (Cz al kn (some (p,w))):=kU j Kn λq w' e' t e2 z=>by
        simp_all
       obtain ⟨d,l,z,N⟩:=tot_ok (n:=g.n) hr j.hh ab U;obtain ⟨b1,b2⟩:=Ta hr U;refine zc.op hU (ZC ab) l (G1 E) (by grind [jm]) ?_;refine (ih _ _ _ _ _ _ _ ((t,d)::alD) σD h L (j.set j.hh (Ext.refl σ) (by simp only[RR,if_pos E];exact z) ⟨⟨t0,wD ak⟩,λ_=>N⟩) (Kn.cons A) A.cons).mono λa s i T=>?_;refine T.cons (pre:=[(t,.g e w p v)]) rfl j.hh (Ext.refl σ) ?_;rw[j.hh.len,b2];exact JB.refl _
      ·have bk:(!e)=w:=by cases e <;> cases w <;> simp_all
       refine zc.no (G2 bk) (by simp_all) ?_;refine (ih _ _ _ _ _ _ _ ((t,.aI [])::alD) σD h L (j.set j.hh (Ext.refl σ) (by simp only[RR,if_neg E]) ⟨⟨t0,wD ak⟩,λe'=>absurd e' E⟩) (Kn.cons A) A.cons).mono λa s i T=>?_;refine T.cons (pre:=[(t,.g e w p v)]) rfl j.hh (Ext.refl σ) ?_;rw[j.hh.len];exact ⟨rfl,rfl,rfl,rfl,rfl,.inl rfl⟩
     simp_all
    ·exact W e p ⟨t0,ak⟩ h
   |Qk=>
    rw[hg] at h G;dsimp only at h G;cases Z:gQ g q ⟨M,op,gd⟩ with
    |some cs=>
     rw[Z] at h;dsimp only at h;have hr:cP σ alD (Cz al kn none):=kU j Kn (by simp);cases op with
     |call f args=>
      dsimp only at h;split at h
      ·rename_i fv vs a2 a6;split at h
       ·rename_i gi a b a7;split at h
        ·rename_i ct bt;obtain ⟨⟨rv,σ1⟩,hy,h⟩:=xM h;obtain ⟨df,f1,f2,f3⟩:=hr _ _ a2;obtain ⟨ds,v1,v2,v3⟩:=hr.all a6;obtain ⟨da,db,a1,b1,ga,gb,an⟩:=UA (P:=g.P) (n:=g.n) (alD:=alD) (σD:=σD) a7 f2 f3;obtain ⟨E,r',X,q1,q2,q3,q4,q5,q6⟩:=hI.two ct gi _ σ rv σ1 σD _ hy j.hh ((a1.TS v2).TS b1) (λv U=>by
           grind)
         cases M with
         |none=>grind [gQ]
         |some t=>change Nat.blt t g.n=true at hn;refine zc.inl (wr:=[]) O hU Z G E q5 (by grind) (λb hb _=>q6 b hb) (λorc ho=>an orc _ _ _ _ _ _ f1 v1 ho) (by grind [CU,jm]) ?_;refine (ih _ _ _ _ _ _ _ ((t,r')::alD) X h L (j.set q1 q4 q2 q3) (Kn.cons A) A.cons).mono λa s i T=>?_;refine T.cons (pre:=[(t,.v (vX rv))]) rfl j.hh q4 ?_;rw[j.hh.len,q1.len];exact JB.refl _
        obtain ⟨y,hy,h⟩:=xM h;obtain ⟨ct,x,a8,h⟩:=T_ h;split at h
        ·rename_i rv σ1 a9;split at h
         ·rename_i hk;obtain ⟨df,f1,f2,f3⟩:=hr _ _ a2;obtain ⟨ds,v1,v2,v3⟩:=hr.all a6;obtain ⟨da,db,a1,b1,ga,gb,an⟩:=UA (P:=g.P) (n:=g.n) (alD:=alD) (σD:=σD) a7 f2 f3;obtain ⟨E,r',X,q1,q2,q3,q4,q5,q6,q7⟩:=hI.one _ gi _ σ y ct x rv σ1 σD _ hy a8 a9 j.hh ((a1.TS v2).TS b1) (λv U=>by
           grind)
          cases M with
          |none=>grind [gQ]
          |some t=>
           change Nat.blt t g.n=true at hn;have bb:(k == 0 || jm σD X (ct.pl.map PC.blk))=true:=by
            simp only[dZ] at hk ⊢
            grind [Nat.eq_of_beq_eq_true]
           refine zc.inl O hU Z G E q5 (by rw[j.hh.len,q1.len];exact q4.len) q6 (λorc ho=>an orc _ _ _ _ _ _ f1 v1 ho) (by rw[hn,bb];rfl) ?_;refine (ih _ _ _ _ _ _ _ ((t,r')::alD) X h L (j.set q1 q4 q2 q3) (Kn.cons A) A.cons).mono λa s i T=>?_;refine T.cons (pre:=[(t,.v (vX rv))]) rfl j.hh q4 ?_;rw[j.hh.len,q1.len];exact JB.refl _
         simp_all
        simp_all
       simp_all
      simp_all
     |_=>simp at h
    |none=>
    rw[Z] at h;dsimp only at h;split at h
    ·
     rename_i c x y t;change Nat.blt t g.n=true at hn;split at h
     ·rename_i cv p hc;have bl:=TR hc;obtain ⟨dc,c1,c2,_⟩:=j.rg c _ p hc;change RT cv dc at c2;have fin:∀(v:TV)(d:D),dL g.P (zM (Er g.S)) g.n alD σD (.pick (.t c) x y) d σD []->RT v d->GV σ v->(iG g q fu (k-1) os kn ((t,.v v)::al) σ λax af is=>K ax af (CB ⟨some t,.pick (.t c) x y,gd⟩ (cat (.pick (.t c) x y)) none [] σ.length σ.length::is))=some r ->
        zc g q k (⟨some t,.pick (.t c) x y,gd⟩::os) alD σD (aP al σ K r):=by
       intro v d l z N h;refine zc.op hU Z l G (by grind [CU,jm]) ?_;refine (ih _ _ _ _ _ _ _ ((t,d)::alD) σD h L (j.set j.hh (Ext.refl σ) z N) (Kn.cons A) A.cons).mono λa s i T=>?_;refine T.cons (pre:=[(t,.v v)]) rfl j.hh (Ext.refl σ) ?_;rw[j.hh.len];exact JB.refl _
      generalize hG:gdC kn p cv=GG at h;unfold gdC at hG;split at hG
      ·
       have:=RT.c1 (by simp) c2;subst this;subst hG;dsimp only at h;split at h
       ·rename_i v U;obtain ⟨d,l,z,N⟩:=kU j (Kn.add (p:=p) (b:=true) λt' e' aa=>by simp_all) (by simp) x v U;exact fin v d (rj c1 rfl l) z N h
       simp_all
      ·have:=RT.c1 (by simp) c2;subst this;subst hG;dsimp only at h;split at h
       ·rename_i v U;obtain ⟨d,l,z,N⟩:=kU j (Kn.add (p:=p) (b:=false) λt' e' aa=>by simp_all) (by simp) y v U;exact fin v d (od c1 rfl l) z N h
       simp_all
      ·rename_i _ e _;have:=RT.c1 (by simp) c2;subst this;cases hk:yA p kn with
       |some b=>
        have hb:=Kn p b hk c e bl;have ad:Bo al ((p,b)::kn):=Kn.add λt' e' aa=>by simp_all
        cases b with
        |true=>
         rw[hk] at hG;subst hG;dsimp only at h;split at h
         ·rename_i v U;obtain ⟨d,l,z,N⟩:=kU j ad (by simp) x v U;exact fin v d (rj c1 hb l) z N h
         simp_all
        |false=>
         rw[hk] at hG;subst hG;dsimp only at h;split at h
         ·rename_i v U;obtain ⟨d,l,z,N⟩:=kU j ad (by simp) y v U;exact fin v d (od c1 hb l) z N h
         simp_all
       |none=>
        rw[hk] at hG;subst hG;dsimp only at h;split at h
        ·rename_i u v hu U;split at h
         ·rename_i bu bv bc bd;have be:∀w,e=w->∀q w',some (p,w)=some (q,w')->∀t' e',DM q al=some (t',.v (.c (.b e')))->e'=w':=λw hw q w' e1 t' e' aa=>by
           simp_all
          cases E:e with
          |true=>obtain ⟨d,l,z,N⟩:=kU j Kn (be true E) x u hu;have hd:=pk_ok (e:=true) bc bd z;subst hd;rw[E] at h;exact fin (pkV true bu bv) _ (rj c1 E l) (Fw (σ:=σ) _ _ _).1 (Fw _ _ _).2 h
          |false=>obtain ⟨d,l,z,N⟩:=kU j Kn (be false E) y v U;have hd:=pk_ok (e:=false) bc bd z;subst hd;rw[E] at h;exact fin (pkV false bu bv) _ (od c1 E l) (Fw (σ:=σ) _ _ _).1 (Fw _ _ _).2 h
         simp_all
        simp_all
      grind
     simp_all
    ·
     have hr:cP σ alD (Cz al kn none):=kU j Kn (by simp);obtain ⟨v,σ1,rs,wr,d,σD1,l,z,N,h4,h5,h6,_,h7⟩:=Vc (n:=g.n) hr j.hh h;obtain ⟨b1,b2⟩:=Ta hr h;dsimp only at h7;split at h7
     ·rename_i hk;have bb:(k == 0 || jm σD σD1 wr)=true:=by
       simp only[dZ] at hk ⊢
       grind [Nat.eq_of_beq_eq_true]
      cases M with
      |none=>refine zc.eff l G (by simp_all) ?_;refine (ih _ _ _ _ _ _ _ alD σD1 h7 L (j.heap h4 h5) Kn A).mono λa s i T=>?_;refine T.cons (pre:=[]) rfl j.hh h5 ?_;rw[j.hh.len,h4.len,b2];exact JB.refl _
      |some t=>change Nat.blt t g.n=true at hn;refine zc.op hU Z l G (by simp_all) ?_;refine (ih _ _ _ _ _ _ _ ((t,d)::alD) σD1 h7 L (j.set h4 h5 z N) (Kn.cons A) A.cons).mono λa s i T=>?_;refine T.cons (pre:=[(t,.v v)]) rfl j.hh h5 ?_;rw[j.hh.len,h4.len,b2];exact JB.refl _
     simp_all
end
end Go.Abs
end
section
namespace Go.Abs
noncomputable section
variable[Gl][Y:Ty]
structure Rn (m:Nat) (σ1 au:ae) (ρ:Nat->Nat) (F:Nat->Prop):Prop where
 le:m<=au.length
 id:∀i,i<m->ρ i=i
 inj:∀i j,i<au.length->j<au.length->ρ i=ρ j->i=j
 fr:∀i,i<au.length->¬F (ρ i)
 row:∀b,F b->∃(i:Nat)(l:List (TT i)),σ1[b]? = some (OB (enc i) l)
 sz:∀(i:Nat),i<au.length->∃ob1 ob2,σ1[ρ i]? = some ob1/\au[i]? = some ob2/\ob2.sz=ob1.sz
def mN(n:Nat)(ρ:Nat->Nat)(M:Nat->Option Nat):Nat->Option Nat:=λi=>if i<n then M (ρ i) else none
def ZU(F:Nat->Prop)(M:Nat->Option Nat)(Fz:Nat->Prop):Nat->Prop:=λc=>Fz c∨∃b,F b/\M b=some c
def cO(σ1 au:ae)(ρ:Nat->Nat)(F:Nat->Prop)(d1 d2:D):Prop:=∀(M:Nat->Option Nat)(a:Nat->Prop)(w:World)(v:Value),Rel σ1 M a w->V σ1 M a w d1 v->V au (mN au.length ρ M) (ZU F M a) w d2 v
section
variable{m:Nat}{σ1 au:ae}{ρ:Nat->Nat}{F:Nat->Prop}
theorem VC.ZU{M:Nat->Option Nat}{Fz:Nat->Prop}{w:World}{x:C}{v:Value}(h:VC Fz w x v):VC (Go.Abs.ZU F M Fz) w x v:=h.mono λc i=>⟨.inl i,rfl⟩
theorem cO.any(d:D):cO σ1 au ρ F d .any:=λ_ _ _ _ _ _=>.any _
theorem cO.le{d1 d2 i:D}(h:BC d1 d2)(j:cO σ1 au ρ F d2 i):cO σ1 au ρ F d1 i:=λM s w v R u=>j M s w v R (h _ _ _ _ _ u)
theorem cO.low(N:Rn m σ1 au ρ F){d:D}(s:d.low m=true):cO σ1 au ρ F d d:=by
 intro M Fz w v R h;have iM:∀b,b<m->∀z,σ1[b]? = some z->∃j,au[b]? = some j/\j.sz=z.sz:=λb A z ho=>by
  obtain ⟨aa,j,x,u,K⟩:=N.sz b (By A N.le);rw[N.id b A,ho] at x
  simp_all
 have m2:∀b,b<m->mN au.length ρ M b=M b:=λb A=>by unfold mN;rw[if_pos (By A N.le),N.id b A]
 induction h with
 |c h=>exact .c h.ZU
 |any v=>exact .any v
 |ptr a z h O E=>simp only[D.low,aQ] at s;obtain ⟨j,u,K⟩:=iM _ s _ h;exact .ptr a j u (by omega) (λZ=>by simp_all)
 |sl a n cap U z h O E=>simp only[D.low,aQ] at s;obtain ⟨j,u,K⟩:=iM _ s _ h;exact .sl a n cap U j u (by omega) (λZ=>by simp_all)
 |mp c z h E=>simp only[D.low,aQ] at s;obtain ⟨j,u,K⟩:=iM _ s _ h;exact .mp c j u (λZ=>by simp_all)
 |fn G ws x u E hw W X=>simp only[D.low,bp] at s;exact .fn G ws x u (λi d v a b=>W i d v a b (D.aO s.1 i d a)) (λi d v a b=>X i d v a b (D.aO s.2 i d a))
 |agg G x E ih=>simp only[D.low] at s;exact .agg G x (λi d v a b=>ih i d v a b (D.aO s i d a))
 |aI G x E ih=>simp only[D.low] at s;exact .aI G x (λi d v a b=>ih i d v a b (D.aO s i d a))
theorem cO.data(N:Rn m σ1 au ρ F){d:D}(i:d.low 0=true):cO σ1 au ρ F d d:=cO.low N (D.dK (KZ _) i)
theorem cO.ptr(N:Rn m σ1 au ρ F){i off sz:Nat}(s:i<au.length):cO σ1 au ρ F (.ptr (ρ i) off sz) (.ptr i off sz):=λM K w v R h=>by
 obtain ⟨u,j,x,z,A⟩:=N.sz i s;cases h with
 |ptr a O h E U=>rw[x] at h;simp only[aj] at h;subst h;exact .ptr a j z (by omega) (λG=>by rw[A] at G;unfold mN;simp_all)
theorem cO.sl(N:Rn m σ1 au ρ F){i off len es sz:Nat}(u:i<au.length):cO σ1 au ρ F (.sl (ρ i) off len es sz) (.sl i off len es sz):=λM O w v R h=>by
 obtain ⟨x,j,z,A,E⟩:=N.sz i u;cases h with
 |sl a n cap s U h G W=>rw[z] at h;simp only[aj] at h;subst h;exact .sl a n cap s j A (by omega) (λK=>by rw[E] at K;unfold mN;simp_all)
theorem cO.mp(N:Rn m σ1 au ρ F){i:Nat}(s:i<au.length):cO σ1 au ρ F (.mp (ρ i)) (.mp i):=λM G w v R h=>by
 obtain ⟨u,j,x,z,A⟩:=N.sz i s;cases h with
 |mp c K h O=>rw[x] at h;simp only[aj] at h;subst h;exact .mp c j z (λE=>by rw[A] at E;unfold mN;simp_all)
theorem cO.ca(N:Rn m σ1 au ρ F){b i:Nat}{l:List (TT i)}(hF:F b)(hb:σ1[b]? = some (OB (enc i) l)):cO σ1 au ρ F (OS (ar i) b l.length) (.c (.ca false (l.map (enc i)))):=λM U w v R h=>by
 classical
 let G:Nat->Option Nat:=λb=>if F b then M b else none
 have RF:Rel σ1 G U w:=by
  refine ⟨λb c s=>?_,λb W c s u=>?_,R.fz,R.gl⟩
  ·simp only[G] at s;split at s
   ·rename_i X;obtain ⟨K,Z,o,E,h3,h4⟩:=R.blk b c s;refine ⟨K,Z,o,E,h3,?_⟩;obtain ⟨i',l',h5⟩:=N.row b X;rw[E] at h5;simp only[aj] at h5;subst h5;obtain ⟨z,T,ho,A,O⟩:=h4;refine ⟨z,T,ho,A,λj d v a b=>?_⟩;obtain ⟨h6,h7⟩:=O j d v a b;rw[gP,bU] at a;obtain ⟨x,_,rfl⟩:=a;cases h6 with
    |c h6=>exact ⟨.c h6,h7⟩
   simp_all
  ·simp only[G] at s u;split at s
   ·split at u
    ·exact R.inj b W c s u
    simp_all
   simp_all
 have O:V σ1 G U w (OS (ar i) b l.length) v:=by
  cases h with
  |sl a n cap aa Z h A O=>
   refine .sl a n cap aa Z h A λhe=>?_;rcases O he with K | ⟨c,o,z,T,K,E⟩
   ·simp_all
   ·exact .inr ⟨c,o,z,T,by grind,E⟩
 have K:=AP (k:=98) (n:=l.length) (pz i) (Y.ps i) hb rfl;have E:=FH RF 100 _ _ v K O;have h3:VC (ZU F M U) w (.ca (Nat.blt 0 l.length) (l.map (enc i))) v:=E.mono λc s=>by
  refine ⟨?_,rfl⟩;rcases s with s | ⟨W,_,s⟩
  ·exact .inl s
  ·simp only[G] at s;split at s
   ·rename_i hf;exact .inr ⟨W,hf,s⟩
   simp_all
 have:=FE h3;exact .c this
theorem cO.fn1{f:Fn}{d e:D}(h:cO σ1 au ρ F d e):cO σ1 au ρ F (.fn f [] [d]) (.fn f [] [e]):=λM s w v R j=>by
 cases j with
 |fn u x z A j E=>
  refine .fn u x z (by simpa using A) (λi d v hd=>by simp at hd) (λi G v hd j=>?_);cases i with
  |zero=>simp only[List.getElem?_cons_zero,aj] at hd;subst hd;exact h M s w v R (E 0 _ v rfl j)
  |succ i=>simp at hd
theorem cO.agg{ds es:List D}(h:aC (cO σ1 au ρ F) ds es):cO σ1 au ρ F (.agg ds) (.agg es):=λM s w v R j=>by
 cases j with
 |agg u x j=>refine .agg u (by rw[x,h.len]) λi d v a b=>?_;obtain ⟨z,A,E⟩:=h.get' i d a;exact E M s w v R (j i z v A b)
theorem cO.aI{ds es:List D}(h:aC (cO σ1 au ρ F) ds es):cO σ1 au ρ F (.aI ds) (.aI es):=λM s w v R j=>by
 cases j with
 |aI u x j=>refine .aI u (by rw[x,h.len]) λi d v a b=>?_;obtain ⟨z,A,E⟩:=h.get' i d a;exact E M s w v R (j i z v A b)
def ObR(σ1 au:ae)(ρ:Nat->Nat)(F:Nat->Prop):Ob->Ob->Prop
 |.cells ds,ob=>∃a,ob=.cells a/\aC (cO σ1 au ρ F) ds a
 |.map a k,ob=>ob=.map a k/\(a.all λe=>e.2.1.low 0)=true
 |.gone k,ob=>False
structure Ox (m:Nat) (σ1 au:ae) (ρ:Nat->Nat) (F:Nat->Prop):Prop extends Rn m σ1 au ρ F where
 ob:∀(i:Nat),i<au.length->∃ob1 ob2,σ1[ρ i]? = some ob1/\au[i]? = some ob2/\ObR σ1 au ρ F ob1 ob2
theorem Ox.rel(N:Ox m σ1 au ρ F){M:Nat->Option Nat}{Fz:Nat->Prop}{w:World}(R:Rel σ1 M Fz w):Rel au (mN au.length ρ M) (ZU F M Fz) w:=by
 refine ⟨λb c j=>?_,λb b' c j s=>?_,λc u=>?_,Gl.mono (λc h=>⟨.inl h,rfl⟩) R.gl⟩
 ·unfold mN at j;split at j
  ·rename_i A;obtain ⟨h1,ob,o,K,h3,h4⟩:=R.blk _ c j;obtain ⟨af,O,U,h6,W⟩:=N.ob b A;rw[K] at U;simp only[aj] at U;subst U;refine ⟨λE=>?_,O,o,h6,h3,?_⟩
   ·rcases E with E | ⟨b',E,u⟩
    ·simp_all
    ·rw[R.inj _ _ c u j] at E;exact N.fr b A E
   ·cases ob with
    |cells cs=>obtain ⟨z,T,X,G,Z⟩:=h4;obtain ⟨es,rfl,ha⟩:=W;refine ⟨z,T,X,by grind [aC.len],λi d v x y=>?_⟩;obtain ⟨d1,h8,h9⟩:=ha.get' i d x;obtain ⟨aa,ab⟩:=Z i d1 v h8 y;exact ⟨h9 M Fz w v R aa,ab⟩
    |map es ad=>obtain ⟨z,X,G,Z⟩:=h4;obtain ⟨rfl,hl⟩:=W;refine ⟨z,X,G,λi k d n e x y=>?_⟩;obtain ⟨p,q,r⟩:=Z i k d n e x y;rw[fE] at hl;exact ⟨p,q,cO.data N.toRn (hl (k,d,n) (vB x)) M Fz w _ R r⟩
    |gone n=>exact W.elim
  simp_all
 ·unfold mN at j s;split at j
  ·rename_i h1;split at s
   ·rename_i K;exact N.inj b b' h1 K (R.inj _ _ c j s)
   simp_all
  simp_all
 ·rcases u with u | ⟨b,_,u⟩
  ·exact R.fz c u
  ·exact (R.lt u).2
theorem Ox.XM(N:Ox m σ1 au ρ F){σ:ae}(hm:σ.length<=m){M s:Nat->Option Nat}{Fz j:Nat->Prop}{w u:World}(Z:∀b,F b->m<=b)(R:Rel σ M Fz w)(R1:Rel σ1 s j u)(E:ba σ M Fz w σ1 s j u) :
  ba σ M Fz w au (mN au.length ρ s) (ZU F s j) u:=by
 refine ⟨E.size,E.frame,λb c h=>?_,λc h=>⟨.inl (E.fz c h).1,(E.fz c h).2⟩,λc h=>?_,E.nF,λb G A=>?_,E.out⟩
 ·unfold mN at h;split at h
  ·exact E.ja _ c h
  simp_all
 ·rcases h with h | ⟨b,_,h⟩
  ·exact E.lD c h
  ·rcases E.ja b c h with K | K
   ·simp_all
   omega
 ·obtain ⟨O,U,h2,h3⟩:=E.keep b G A;have i:b<m:=By (d_.1 A).1 hm;obtain ⟨W,x,z,X,h6⟩:=N.sz b (By i N.le);rw[N.id b i,U] at z;simp only[aj] at z;subst z;refine ⟨x,X,by omega,λhe=>?_⟩;unfold mN;rw[if_pos (By i N.le),N.id b i]
  simp_all
end
end
end Go.Abs
end
section
namespace Go.Abs
noncomputable section
variable[Gl][Y:Ty]
def SzC(m:Nat)(σ1 au:ae):Prop:=∀b,b<m->∀e,σ1[b]? = some e->∃a,au[b]? = some a/\a.sz=e.sz
def jk(m:Nat)(d1 d2:D):Prop:=∀(σ1 au:ae)(M:Nat->Option Nat)(a:Nat->Prop)(w:World)(v:Value),SzC m σ1 au->V σ1 M a w d1 v->V au (cz M m) a w d2 v
theorem jk.any(m:Nat)(d:D):jk m d .any:=λ_ _ _ _ _ _ _ _=>.any _
theorem jk.low{m:Nat}{d:D}(j:d.low m=true):jk m d d:=by
 intro σ1 au M Fz w v hs h;induction h with
 |c h=>exact .c h
 |any v=>exact .any v
 |ptr a X h G x=>simp only[D.low,aQ] at j;obtain ⟨s,u,K⟩:=hs _ j _ h;exact .ptr a s u (by omega) (λE=>by grind [cz])
 |sl a n cap O X h G x=>simp only[D.low,aQ] at j;obtain ⟨s,u,K⟩:=hs _ j _ h;exact .sl a n cap O s u (by omega) (λE=>by rw[K] at E;simpa[cz,j] using x E)
 |mp c X h x=>simp only[D.low,aQ] at j;obtain ⟨s,u,K⟩:=hs _ j _ h;exact .mp c s u (λE=>by grind [cz])
 |fn z Z A u x hw U W=>simp only[D.low,bp] at j;exact .fn z Z A u (λi d v a b=>U i d v a b (D.aO j.1 i d a)) (λi d v a b=>W i d v a b (D.aO j.2 i d a))
 |agg z A x ih=>simp only[D.low] at j;exact .agg z A (λi d v a b=>ih i d v a b (D.aO j i d a))
 |aI z A x ih=>simp only[D.low] at j;exact .aI z A (λi d v a b=>ih i d v a b (D.aO j i d a))
theorem jk.le{m:Nat}{d1 d2 i:D}(h:BC d1 d2)(s:jk m d2 i):jk m d1 i:=λσ1 au M j w v hs u=>s σ1 au M j w v hs (h σ1 M j w v u)
theorem jk.agg{m:Nat}{ds es:List D}(h:aC (jk m) ds es):jk m (.agg ds) (.agg es):=λσ1 au M s w v hs j=>by
 cases j with
 |agg u x j=>refine .agg u (by rw[x,h.len]) λi d v a b=>?_;obtain ⟨z,A,E⟩:=h.get' i d a;exact E σ1 au M s w v hs (j i z v A b)
theorem jk.aI{m:Nat}{ds es:List D}(h:aC (jk m) ds es):jk m (.aI ds) (.aI es):=λσ1 au M s w v hs j=>by
 cases j with
 |aI u x j=>refine .aI u (by rw[x,h.len]) λi d v a b=>?_;obtain ⟨z,A,E⟩:=h.get' i d a;exact E σ1 au M s w v hs (j i z v A b)
def Wb(m:Nat):Ob->Ob->Prop
 |.cells ds,ob=>∃a,ob=.cells a/\aC (jk m) ds a
 |.map a k,ob=>ob=.map a k/\(a.all λe=>e.2.1.low m)=true
 |.gone k,ob=>ob=.gone k
theorem Wb.sz{m:Nat}{a b:Ob}(h:Wb m a b):b.sz=a.sz:=by
 cases a with
 |cells ds=>obtain ⟨i,rfl,h⟩:=h;simp only[Ob.sz,h.len]
 |map i k=>obtain ⟨rfl,_⟩:=h;rfl
 |gone k=>cases h;rfl
structure HpW (m:Nat) (σ1 au:ae):Prop where
 len:au.length=m
 le:m<=σ1.length
 ob:∀b ob,σ1[b]? = some ob->b<m->∃ob2,au[b]? = some ob2/\Wb m ob ob2
theorem HpW.szc{m:Nat}{σ1 au:ae}(h:HpW m σ1 au):SzC m σ1 au:=λb j s u=>let ⟨i,h1,h2⟩:=h.ob b s u j;⟨i,h1,h2.sz⟩
theorem HpW.rel{m:Nat}{σ1 au:ae}(h:HpW m σ1 au){M:Nat->Option Nat}{Fz:Nat->Prop}{w:World}(R:Rel σ1 M Fz w):Rel au (cz M m) Fz w:=by
 refine ⟨λb c j=>?_,λb b' c j s=>?_,R.fz,R.gl⟩
 ·unfold cz at j;split at j
  ·rename_i A;obtain ⟨h1,X,o,h2,h3,E⟩:=R.blk b c j;obtain ⟨G,h5,Z⟩:=h.ob b X h2 A;refine ⟨h1,G,o,h5,h3,?_⟩;cases X with
   |cells cs=>obtain ⟨u,T,K,z,O⟩:=E;obtain ⟨es,rfl,ha⟩:=Z;refine ⟨u,T,K,by grind [aC.len],λi d v x y=>?_⟩;obtain ⟨d1,h7,h8⟩:=ha.get' i d x;obtain ⟨h9,U⟩:=O i d1 v h7 y;exact ⟨h8 σ1 au M Fz w v h.szc h9,U⟩
   |map es W=>obtain ⟨u,K,z,O⟩:=E;obtain ⟨rfl,hl⟩:=Z;refine ⟨u,K,z,λi k d n e x y=>?_⟩;obtain ⟨p,q,r⟩:=O i k d n e x y;rw[fE] at hl;exact ⟨p,q,jk.low (hl (k,d,n) (vB x)) σ1 au M Fz w _ h.szc r⟩
   |gone n=>exact E.elim
  simp_all
 ·unfold cz at j s;split at j
  ·split at s
   ·exact R.inj b b' c j s
   simp_all
  simp_all
theorem HpW.XM{m:Nat}{σ1 au σ:ae}(h:HpW m σ1 au){M x:Nat->Option Nat}{Fz i:Nat->Prop}{w z:World}(E:ba σ M Fz w σ1 x i z)(hm:σ.length<=m):ba σ M Fz w au (cz x m) i z:=by
 refine ⟨E.size,E.frame,λb c h=>?_,E.fz,E.lD,E.nF,λb G A=>?_,E.out⟩
 ·unfold cz at h;split at h
  ·exact E.ja b c h
  simp_all
 ·obtain ⟨s,K,U,W⟩:=E.keep b G A;have j:b<m:=By (d_.1 A).1 hm;obtain ⟨u,O,X⟩:=h.ob b s K j;exact ⟨u,O,by grind [Wb.sz],λZ=>by simp only[cz,if_pos j];grind [Wb.sz]⟩
structure StW0 (m:Nat) (al1:AL) (σ1:ae) (al2:AL) (au:ae):Prop where
 hp:HpW m σ1 au
 rg:∀t d2,lk t al2=some d2->∃d1,lk t al1=some d1/\jk m d1 d2
def nX(m:Nat)(al1:AL)(σ1:ae)(al2:AL)(au:ae):Prop:=m<=au.length/\∀(n:Nat)(h:Nat->Option Nat)(a:Nat->Prop)(f:World)(e:Array Value),Rel σ1 h a f->dP n σ1 h a f al1 e ->
 ∃i b,Rel au i b f/\dP n au i b f al2 e/\Dl h a i b/\∀(σ:ae)(M:Nat->Option Nat)(j:Nat->Prop)(w:World),Rel σ M j w->ba σ M j w σ1 h a f->σ.length<=m->ba σ M j w au i b f
section
variable{P:Program}{n:Nat}{al al1 al2:AL}{σ σ1 au:ae}{Q Q':kT->AL->ae->Prop}
theorem StW0.st{m:Nat}(h:StW0 m al1 σ1 al2 au):nX m al1 σ1 al2 au:=⟨by rw[h.hp.len];omega,λn s i W j R A=>by
 refine ⟨cz s m,i,h.hp.rel R,⟨A.1,λt d u=>?_⟩,⟨λb c h=>⟨b,by simp only[cz] at h;split at h <;> simp_all⟩,λc h=>.inl h,λc h=>h⟩,λσ M X w _ E x=>h.hp.XM E x⟩
 obtain ⟨z,G,K⟩:=h.rg t d u;obtain ⟨v,O,U⟩:=A.2 t z G;exact ⟨v,O,K _ _ _ _ _ _ h.hp.szc U⟩⟩
theorem nX.refl{m:Nat}(h:m<=σ.length):nX m al σ al σ:=⟨h,λn s i u j R A=>⟨s,i,R,A,Dl.refl,λσ M x w _ E _=>E⟩⟩
theorem nX.trans{m:Nat}{j:AL}{s:ae}(h:nX m al1 σ1 al2 au)(x:nX m al2 au j s):nX m al1 σ1 j s:=⟨x.1,λn E u z i R A=>by
 obtain ⟨G,K,M,O,U,E2⟩:=h.2 n E u z i R A;obtain ⟨W,X,Z,A3,W3,E3⟩:=x.2 n G K z i M O;refine ⟨W,X,Z,A3,U.trans W3,?_⟩
 grind⟩
theorem nX.rn{m:Nat}{ρ:Nat->Nat}{F:Nat->Prop}(N:Ox m σ1 au ρ F)(j:∀b,F b->m<=b)(h:∀t d2,lk t al2=some d2->∃d1,lk t al1=some d1/\cO σ1 au ρ F d1 d2):nX m al1 σ1 al2 au:=⟨N.le,λn W s X i R A=>by
 refine ⟨_,_,N.rel R,⟨A.1,λt d u=>?_⟩,⟨λb c h=>⟨ρ b,by unfold mN at h;split at h <;> simp_all⟩,λc h=>h.elim .inl λ⟨b,_,h⟩=>.inr ⟨b,h⟩,λc h=>.inl h⟩,λσ M Z w x E z=>N.XM z j x R E⟩
 obtain ⟨d1,G,K⟩:=h t d u;obtain ⟨v,O,U⟩:=A.2 t d1 G;exact ⟨v,O,K _ _ _ _ R U⟩⟩
theorem nX.use{m:Nat}(h:nX m al1 σ1 al2 au){M z:Nat->Option Nat}{Fz i:Nat->Prop}{w u:World}{j:Array Value}(G:Rel σ M Fz w)(R:Rel σ1 z i u)(A:dP n σ1 z i u al1 j)(E:ba σ M Fz w σ1 z i u)(hm:σ.length<=m) :
  ∃x s,Rel au x s u/\dP n au x s u al2 j/\ba σ M Fz w au x s u/\σ.length<=au.length/\Dl z i x s:=by
 obtain ⟨x,K,O,U,W,X⟩:=h.2 n z i u j R A;exact ⟨x,K,O,U,X σ M Fz w G E hm,jz hm h.1,W⟩
theorem Sem.dE{ac:aH}(h:Sem P ac n al σ Q)(s:∀x i σ',Q x i σ'->Q' x i σ'∨∃al2 au,nX σ.length i σ' al2 au/\Q' x al2 au):Sem P ac n al σ Q':=by
 intro c u M z w a K R A hK;refine h c u M z w a K R A λx i σ' a' w' M' E G hd O U W hl=>?_;rcases s x i σ' G with j | ⟨al2,au,X,j⟩
 ·grind
 ·obtain ⟨M2,F2,R2,A2,E2,l2,Z⟩:=X.use R O U W (cn _);have:=hd.Zc Z
  grind
theorem Sem.i_{a b:aH}(h:Sem P a n al σ λx al1 σ1=>match x with | .normal=>Sem P b n al1 σ1 Q∨∃al2 au,nX σ.length al1 σ1 al2 au/\Sem P b n al2 au Q | x=>Q x al1 σ1):Sem P (.seq a b) n al σ Q:=by
 refine Sem.seq (h.dE (Q':=λx al1 σ1=>match x with | .normal=>∃al2 au,Wk σ.length al1 σ1 al2 au/\Sem P b n al2 au Q | x=>Q x al1 σ1) λx s u j=>?_);cases x with
 |normal=>
  rcases j with j | ⟨al2,au,z,j⟩
  ·exact .inl ⟨s,u,.refl,j⟩
  ·exact .inr ⟨al2,au,z,al2,au,.refl,j⟩
 |exit i=>simp_all
 |ret=>simp_all
theorem jN.preW{ac:aH}{k:Nat}(hs:nX σ.length al σ al2 au)(h:jN P ac k n al2 au Q):jN P ac k n al σ Q:=by intro c z M Fz w a K R A E;obtain ⟨G,O,U,W,X,u,W2⟩:=hs.use R R A (ba.refl R) (cn _);exact h c z G O w a K U W λx i j Z w' M' s hQ hd R' A' E' hl=>E x i j Z w' M' s hQ hd R' A' (X.trans E' u) (jz u hl)
theorem jN.succW{b:aH}{k:Nat}(h:Sem P b n al σ λx al1 σ1=>match x with | .normal=>∃al2 au,nX σ.length al1 σ1 al2 au/\jN P b k n al2 au Q | x=>Q x al1 σ1):jN P b (k+1) n al σ Q:=by
 refine jN.succ (h.dE (Q':=λx al1 σ1=>match x with | .normal=>∃al2 au,Wk σ.length al1 σ1 al2 au/\jN P b k n al2 au Q | x=>∃al2 au,Wk σ.length al1 σ1 al2 au/\Q x al2 au) λx j s u=>?_);cases x with
 |normal=>obtain ⟨al2,au,z,u⟩:=u;exact .inr ⟨al2,au,z,al2,au,.refl,u⟩
 |exit i=>exact .inl ⟨j,s,.refl,u⟩
 |ret=>exact .inl ⟨j,s,.refl,u⟩
end
section
theorem SL{σ:TH}{x:TC}{d:D}(r:RC x d)(g:GC σ x):jk σ.length d x.er:=by
 rcases r with rfl | rfl
 ·exact jk.any _ _
 ·cases x with
  |any=>exact jk.any _ _
  |d y=>exact jk.low g
  |own i b v n=>obtain ⟨blk,h,_⟩:=g;exact jk.low (by simp only[TC.er,OS,D.low,aQ];grind)
  |op i b v n k a off=>obtain ⟨blk,h,_⟩:=g;exact jk.low (by simp only[TC.er,D.low,aQ];grind)
  |os i b v n e len=>obtain ⟨blk,h,_⟩:=g;exact jk.low (by simp only[TC.er,D.low,aQ];grind)
  |ap b off len sz k=>exact jk.low (by simp only[TC.er,D.low,aQ];exact g)
  |Cj f j=>exact jk.low (wF g)
  |_=>exact jk.low rfl
theorem VR{σ:TH}{x:TC}{d:D}(r:RC x d)(g:GC σ x):∃d2,jk σ.length d d2/\RC x d2:=⟨_,SL r g,.inr rfl⟩
theorem TX{σ:TH}{xs:List TC}{ds:List D}(r:aC RC xs ds)(g:∀x∈xs,GC σ x):∃es,aC (jk σ.length) ds es/\aC RC xs es:=by
 induction r with
 |nil=>exact ⟨[],.nil,.nil⟩
 |cons h _ ih=>obtain ⟨e,a,b⟩:=VR h (g _ (iz ..));obtain ⟨es,f,i⟩:=ih λx j=>g x (h_ _ j);exact ⟨e::es,.cons a f,.cons b i⟩
theorem RE_wk{σ:TH}{p:Bool×List TC}{d:D}(r:RE p d)(g:∀x∈p.2,GC σ x):∃d2,jk σ.length d d2/\RE p d2:=by
 obtain ⟨f,j⟩:=p;cases f with
 |true=>obtain ⟨ds,rfl,h⟩:=r;obtain ⟨i,a,b⟩:=TX h g;exact ⟨.agg i,jk.agg a,i,rfl,b⟩
 |false=>obtain ⟨x,rfl,h⟩:=r;obtain ⟨e,a,b⟩:=VR h (g x (by simp));exact ⟨e,a,x,rfl,b⟩
theorem aaa{σ:TH}{x:TV}{d:D}(r:RT x d)(g:GV σ x):∃d2,jk σ.length d d2/\RT x d2:=by
 cases x with
 |c x=>exact VR r g
 |agg i=>obtain ⟨ds,rfl,h⟩:=r;obtain ⟨a,b,f⟩:=TX h g;exact ⟨.agg a,jk.agg b,a,rfl,f⟩
 |aI i=>
  obtain ⟨ds,rfl,h⟩:=r;have:∃a,aC (jk σ.length) ds a/\aC RE i a:=by
   induction h with
   |nil=>exact ⟨[],.nil,.nil⟩
   |cons h _ ih=>obtain ⟨e,b,f⟩:=RE_wk h (g _ (iz ..));obtain ⟨a,j,l⟩:=ih λx p=>g x (h_ _ p);exact ⟨e::a,.cons b j,.cons f l⟩
  obtain ⟨a,b,f⟩:=this;exact ⟨.aI a,jk.aI b,a,rfl,f⟩
theorem RR_wk{al:TA}{σ:TH}{x:RV}{d:D}(r:RR x d)(g:GW al σ x):∃d2,jk σ.length d d2/\RR x d2:=by
 cases x with
 |v x=>exact aaa r g
 |g c w p x=>
  by_cases h:c=w
  ·simp only[RR,if_pos h] at r ⊢;exact aaa r (g.2 h)
  ·simp only[RR,if_neg h] at r ⊢;subst r;exact ⟨.aI [],jk.low rfl,rfl⟩
theorem rdV_wk{m:Nat}{c:cI}{v:TV}{d:D}{a:c.dn}(h:oD c v=some a)(r:RT v d):jk m d (c.enc a):=by obtain ⟨b,f,_⟩:=K_ h r;refine jk.le (d2:=zm d) (λσ M i w v e=>Aj e) ?_;rw[b];exact jk.low (D.dK (KZ _) (c.Gv a))
theorem rdC_wk{m:Nat}{c:CC}{x:TC}{d:D}{a:c.dn}(h:Af c x=some a)(r:RC x d):jk m d (.c (qw enc c a)):=by
 obtain ⟨f,b⟩:=mK h;rcases r with r | rfl
 ·simp_all
 ·rw[<-b];refine jk.le (d2:=un x.er) (λσ M i w v e=>FM e) ?_;rw[b];exact jk.low rfl
theorem yR{α:Type}{p:Nat->α->Prop}(m:Nat)(h:∀b,b<m->∃a,p b a):∃l:List α,l.length=m/\∀b a,l[b]? = some a->p b a:=by
 induction m with
 |zero=>simp_all
 |succ m ih=>
  obtain ⟨l,e,f⟩:=ih λb i=>h b (by omega);obtain ⟨a,j⟩:=h m (by omega);refine ⟨l++[a],by simp[e],λb x s=>?_⟩
  grind
theorem Ft{t:Nat}:∀{al:TA}{f:Nat->D},(∃x p,dR t al=some (x,p))->lk t (al.map λp=>(p.1,f p.1))=some (f t):=by
 intro al f;induction al with
 |nil=>grind [dR]
 |cons y al ih=>grind [dR,lk,Nat.eq_of_beq_eq_true]
theorem Au{t:Nat}{d:D}:∀{al:TA}{f:Nat->D},lk t (al.map λp=>(p.1,f p.1))=some d->(∃x p,dR t al=some (x,p))/\d=f t:=by
 intro al f;induction al with
 |nil=>grind [lk]
 |cons y al ih=>
  intro h;obtain ⟨s,z⟩:=y;simp only[iH,lk] at h;simp only[dR];split at h
  ·simp_all
  simp_all
theorem stw_of{al2:TA}{au:TH}{a:AL}{σD1:ae}(u:au.length<=σD1.length)
  (z:∀t x p,dR t al2=some (x,p)->GW al2 au x/\∃d1 d2,lk t a=some d1/\jk au.length d1 d2/\RR x d2)
  (G:∀(b:Nat) blk,au[b]? = some blk->∃i j,σD1[b]? = some i/\Wb au.length i j/\RB blk j)
  (K:∀(b:Nat) w cs,au[b]? = some (.cells w cs)->∀p∈cs,GC au p.2/\p.1<=w) :
  ∃l e,nX au.length a σD1 l e/\Ref al2 au l e:=by
 have v:∃f:Nat->D,∀t x p,dR t al2=some (x,p)->∃d1,lk t a=some d1/\jk au.length d1 (f t)/\RR x (f t):=by
  have:∀t,∃d2,∀x p,dR t al2=some (x,p)->∃d1,lk t a=some d1/\jk au.length d1 d2/\RR x d2:=by
   intro t;cases L:dR t al2 with
   |none=>simp_all
   |some q=>obtain ⟨x,p⟩:=q;obtain ⟨_,d1,d2,T,M,y⟩:=z t x p L;exact ⟨d2,λU W h=>by simp_all⟩
  exact ⟨λt=>Classical.choose (this t),λt=>yBQ (this t)⟩
 obtain ⟨f,v⟩:=v;obtain ⟨e,A,M⟩:=yR (p:=λb j=>∃blk i,au[b]? = some blk/\σD1[b]? = some i/\Wb au.length i j/\RB blk j) au.length λb s=>by
  obtain ⟨i,j,y,N,E⟩:=G b _ (cT s)
  grind
 refine ⟨al2.map λp=>(p.1,f p.1),e,StW0.st ⟨⟨A,u,λb X Z O=>?_⟩,λt d h=>?_⟩,⟨⟨by rw[A],λb blk s=>?_,K⟩,λt x p h=>?_⟩⟩
 ·grind
 ·obtain ⟨⟨x,p,y⟩,rfl⟩:=Au h
  grind
 ·grind
 ·obtain ⟨d1,y,N,E⟩:=v t x p h;exact ⟨f t,Ft ⟨x,p,h⟩,E,(z t x p h).1⟩
end
end
end Go.Abs
end
section
namespace Go.Abs
noncomputable section
variable[Gl][Y:Ty]
def WI(pl:List Pl)(b j:Nat):Prop:=∀c,Pl.h b j c∉pl
def WD(pl:List Pl)(b:Nat):Prop:=∀i,Pl.w b i∉pl
def notM(pl:List Pl)(b:Nat):Prop:=∀j st,Pl.m b j st∉pl
def SB(pl:List Pl)(b:Nat):TB->TB->Prop
 |.cells w x,a=>∃w1 e,a=.cells w1 e/\e.length=x.length/\∀(j:Nat) p p1,x[j]? = some p->e[j]? = some p1->WI pl b j->p1=p
 |.row i l y z,a=>∃s f h,a=.row i s f h/\(WD pl b->s=l/\f=y/\h=z)
 |.mp j st l v,a=>∃A u s E,a=.mp A u s E/\(notM pl b->a=.mp j st l v)
def HS(pl:List Pl)(σ σ1:TH):Prop:=∀(b:Nat) blk,σ[b]? = some blk->∃a,σ1[b]? = some a/\SB pl b blk a
theorem SB.trans{pl:List Pl}{b:Nat}{x y z:TB}(u:SB pl b x y)(A:SB pl b y z):SB pl b x z:=by
 cases x with
 |cells w cs=>
  obtain ⟨w1,X,rfl,O,c1⟩:=u;obtain ⟨w2,E,rfl,s,U⟩:=A;refine ⟨w2,E,rfl,by omega,λj p p2 e e2 W=>?_⟩
  grind
 |row i l lv cv=>
  obtain ⟨O,Z,aa,rfl,c1⟩:=u;obtain ⟨s,G,K,rfl,U⟩:=A;refine ⟨s,G,K,rfl,λW=>?_⟩
  simp_all
 |mp j st l v=>
  obtain ⟨j1,ab,O,v1,rfl,c1⟩:=u;obtain ⟨j2,M,s,v2,rfl,U⟩:=A;refine ⟨j2,M,s,v2,rfl,λW=>?_⟩
  grind
theorem HS.trans{pl:List Pl}{σ σ1 au:TH}(s:HS pl σ σ1)(u:HS pl σ1 au):HS pl σ au:=λb blk h=>by obtain ⟨i,x,s1⟩:=s b blk h;obtain ⟨j,z,A⟩:=u b i x;exact ⟨j,z,s1.trans A⟩
theorem GJ{f:Pl->Bool}{pl:List Pl}(h:pl.any f=true):∃p∈pl,f p=true:=by simp_all
theorem FJ{pl:List Pl}{b:Nat}:∀{xs a:List (Nat×TC)}{f:Nat},kk pl b f xs a=true->xs.length=a.length/\∀(j:Nat) p q,xs[j]? = some p->a[j]? = some q->WI pl b (f+j)->p.1=q.1:=by
 intro xs;induction xs with
 |nil=>
  intro a f h;cases a with
  |nil=>simp_all
  |cons y a=>grind [kk]
 |cons x xs ih=>
  intro a f h;cases a with
  |nil=>grind [kk]
  |cons y a=>
   obtain ⟨v,x⟩:=x;obtain ⟨w,y⟩:=y;simp only[kk,bp,dZ] at h;obtain ⟨i,u⟩:=h;obtain ⟨z,L⟩:=ih u;refine ⟨by simp[z],λj p q e s A=>?_⟩;cases j with
   |zero=>
    simp only[List.getElem?_cons_zero,aj] at e s;subst e s;rcases i with i | i
    ·simp_all
    ·obtain ⟨p,E,l⟩:=GJ i;exfalso;split at l
     ·rename_i M N c;simp only[bp] at l;have G:=cr l.1;have K:=cr l.2;subst G K;exact A c E
     grind
   |succ j=>grind
theorem yV{pl:List Pl}:∀{σ σ1:TH}{e:Nat},dD pl e σ σ1=true->∀(b:Nat) blk,σ[b]? = some blk->∃a,σ1[b]? = some a/\we pl (e+b) blk a=true:=by
 intro σ;induction σ with
 |nil=>simp_all
 |cons x σ ih=>
  intro σ1 e h b blk f;cases σ1 with
  |nil=>grind [dD]
  |cons y σ1=>
   simp only[dD,bp] at h
   grind
theorem TY{pl:List Pl}{σ σ1:TH}{σD:ae}(H:RH σ σD)(h:dD pl 0 σ σ1=true)(X:Ext σ σ1):HS pl σ σ1:=λb blk z=>by
 obtain ⟨f,U,a⟩:=yV h b blk z;rw[GA] at a;obtain ⟨A,E,G⟩:=X b blk z;rw[U] at E;simp only[aj] at E;subst E;refine ⟨f,U,?_⟩;cases blk with
 |cells w Z=>
  obtain ⟨w1,K,rfl,hw,hl,hc⟩:=G;simp only[we] at a;obtain ⟨_,h5⟩:=FJ a;refine ⟨w1,K,rfl,hl,λj p p1 e s y=>?_⟩;have hv:=h5 j p p1 e s (by simp_all);obtain ⟨v,x⟩:=p;obtain ⟨W,x1⟩:=p1;have aa:=(H.hg b w Z z _ (vB e)).2
  grind
 |row i l lv cv=>
  obtain ⟨L,M,N,rfl,_,_,_,h8⟩:=G;refine ⟨L,M,N,rfl,λy=>?_⟩;simp only[we,dZ] at a;rcases a with a | a
  ·simp_all
  ·obtain ⟨p,O,u⟩:=GJ a;exfalso;split at u
   ·have s:=cr u;subst s;exact y _ O
   simp_all
 |mp j st l v=>
  obtain ⟨j1,T,L,W,rfl,_,h8⟩:=G;refine ⟨j1,T,L,W,rfl,λy=>?_⟩;simp only[we,dZ] at a;rcases a with a | a
  ·simp_all
  ·obtain ⟨p,O,u⟩:=GJ a;exfalso;split at u
   ·have s:=cr u;subst s;exact y _ _ O
   simp_all
def PB(al1:TA)(σ1:TH)(ps:List Pl)(b:Nat):TB->TB->Prop
 |.cells w E,e=>∃w2 f,e=.cells w2 f/\f.length=E.length/\∀(j:Nat) x,f[j]? = some x->x.1<=w2/\((∃c a,x.2=pd c a/\Rh al1 σ1 (.h b j c)=some a/\Pl.h b j c∈ps)∨(E[j]? = some x/\WI ps b j))
 |.row i l K L,e=>∃h p s,e=.row i h p s/\(((∃y z,σ1[b]? = some (.row i h y z))/\∃M,Pl.w b M∈ps)∨(h=l/\p=K/\s=L/\WD ps b))
 |.mp j st l v,e=>∃G u h N,e=.mp G u h N/\(((∃O,σ1[b]? = some (.mp G u h O))/\∃T A,Pl.m b T A∈ps)∨(e=.mp j st l v/\notM ps b))
def PQ(al1:TA)(σ1:TH)(ps:List Pl)(σ au:TH):Prop:=au.length=σ.length/\∀(b:Nat) blk,σ[b]? = some blk->∃a,au[b]? = some a/\BE blk a/\PB al1 σ1 ps b blk a
theorem vx{i j:Nat}{l:List (Int×TT j)}{m:List (Int×TT i)}(h:JY l=some m):∃e:j=i,m=e▸l:=by
 unfold JY at h;split at h
 ·simp_all
 simp_all
theorem PQ.nil{al1:TA}{σ1 σ:TH}{σD:ae}(H:RH σ σD):PQ al1 σ1 [] σ σ:=⟨rfl,λb blk h=>⟨blk,h,BE.refl blk,by
 cases blk with
 |cells w s=>exact ⟨w,s,rfl,rfl,λj u e=>⟨(H.hg b w s h u (vB e)).2,.inr ⟨e,λc E=>by grind⟩⟩⟩
 |row i l x z=>exact ⟨l,x,z,rfl,.inr ⟨rfl,rfl,rfl,λi A=>by grind⟩⟩
 |mp j st l v=>exact ⟨j,st,l,v,rfl,.inr ⟨rfl,λj st A=>by grind⟩⟩⟩⟩
theorem PB.LH{al1:TA}{σ1:TH}{ps:List Pl}{b:Nat}{x y:TB}{p:Pl}(h:PB al1 σ1 ps b x y)(h1:∀j c,p≠.h b j c)(h2:∀i,p≠.w b i)(h3:∀j st,p≠.m b j st):PB al1 σ1 (p::ps) b x y:=by
 cases x with
 |cells w cs=>
  obtain ⟨w2,E,e,A,X⟩:=h;refine ⟨w2,E,e,A,λj Z e2=>?_⟩;obtain ⟨h4,s⟩:=X j Z e2;refine ⟨h4,?_⟩;rcases s with ⟨c,a,s,z,W⟩ | ⟨s,z⟩
  ·grind
  ·refine .inr ⟨s,λc u=>?_⟩;rcases eU.1 u with u | u
   ·grind
   ·exact z c u
 |row i l lv cv=>
  obtain ⟨A,G,K,e,s⟩:=h;refine ⟨A,G,K,e,?_⟩;rcases s with ⟨s,i',z⟩ | ⟨s,z,W,M⟩
  ·grind
  ·refine .inr ⟨s,z,W,λi O=>?_⟩;rcases eU.1 O with u | u
   ·grind
   ·exact M i u
 |mp j st l v=>
  obtain ⟨j2,U,A,v2,e,s⟩:=h;refine ⟨j2,U,A,v2,e,?_⟩;rcases s with ⟨s,j',aa,z⟩ | ⟨s,M⟩
  ·grind
  ·refine .inr ⟨s,λj st O=>?_⟩;rcases eU.1 O with u | u
   ·grind
   ·exact M j st u
theorem PQ.step{al1:TA}{σ1 σ au:TH}{σD:ae}{ps pl:List Pl}(H:RH σ σD)(hs:HS pl σ σ1)(p:Pl)(x:p.dn)(Z:Rh al1 σ1 p=some x)(h:PQ al1 σ1 ps σ au):PQ al1 σ1 (p::ps) σ (Pz p x au):=by
 obtain ⟨hl,hb⟩:=h;cases p with
 |r t c=>exact ⟨hl,λb blk e=>let ⟨s,G,M,K⟩:=hb b blk e;⟨s,G,M,K.LH (by simp) (by simp) (by simp)⟩⟩
 |w U i0=>
  simp only[Pz];split
  ·rename_i j l lv cv e0;refine ⟨by simp[hl],λb blk e=>?_⟩;obtain ⟨s,G,M,K⟩:=hb b blk e;by_cases u:b=U
   ·subst u;rw[e0] at G;simp only[aj] at G;subst G;refine ⟨_,EI e0,?_⟩;simp only[Rh] at Z;split at Z
    ·rename_i j1 l1 a0 a1 e1;obtain ⟨rfl,rfl⟩:=OJ Z;obtain ⟨ab,E,sb⟩:=hs b blk e;rw[e1] at E;simp only[aj] at E;subst E;cases blk with
     |cells w cs=>obtain ⟨_,_,O,_⟩:=sb;grind
     |mp q st l v=>obtain ⟨_,_,_,_,O,_⟩:=sb;grind
     |row i l0 a8 a9=>obtain ⟨l5,bb,bd,O,_⟩:=sb;simp only[TB.row.injEq] at O;obtain ⟨rfl,e5,rfl,rfl⟩:=O;cases e5;obtain ⟨l6,be,bh,e6,b1,b2,b3,b4⟩:=M;simp only[TB.row.injEq] at e6;obtain ⟨rfl,e7,rfl,rfl⟩:=e6;cases e7;exact ⟨⟨_,_,_,rfl,by omega,by omega,λe=>by omega,λe=>by omega⟩,⟨_,_,_,rfl,.inl ⟨⟨a0,a1,e1⟩,_,iz ..⟩⟩⟩
    simp_all
   ·exact ⟨s,by grind,M,K.LH (by simp) (by grind) (by simp)⟩
  ·rename_i ad;refine ⟨hl,λb blk e=>?_⟩;obtain ⟨s,G,M,K⟩:=hb b blk e;refine ⟨s,G,M,?_⟩;by_cases u:b=U
   ·subst u;cases s with
    |row i l lv cv=>grind
    |cells w cs=>
     cases blk with
     |cells w' a2=>
      obtain ⟨w2,af,E,l2,c2⟩:=K;refine ⟨w2,af,E,l2,λj p2 O=>?_⟩;obtain ⟨h4,W⟩:=c2 j p2 O;refine ⟨h4,?_⟩;rcases W with ⟨c,a,W,h6,h7⟩ | ⟨W,h6⟩
      ·grind
      ·refine .inr ⟨W,λc X=>?_⟩;rcases eU.1 X with X | X
       ·grind
       ·exact h6 c X
     |row i l lv cv=>obtain ⟨_,_,_,E,_⟩:=K;grind
     |mp q st l v=>obtain ⟨_,_,_,_,E,_⟩:=K;grind
    |mp q st l v=>
     cases blk with
     |mp q' ak l' v'=>
      obtain ⟨j2,a5,l2,v2,E,W⟩:=K;refine ⟨j2,a5,l2,v2,E,?_⟩;rcases W with ⟨W,j',ak,h6⟩ | ⟨W,h8⟩
      ·grind
      ·refine .inr ⟨W,λj st hi=>?_⟩;rcases eU.1 hi with X | X
       ·grind
       ·exact h8 j st X
     |row i l lv cv=>obtain ⟨_,_,_,E,_⟩:=K;grind
     |cells w cs=>obtain ⟨_,_,E,_⟩:=K;grind
   ·exact K.LH (by simp) (by grind) (by simp)
 |h U j0 c0=>
  have A:∀blk,σ[U]? = some blk->∃w cs w1 aa y,blk=.cells w cs/\σ1[U]? = some (.cells w1 aa)/\aa[j0]? = some y/\Af c0 y.2=some x/\j0<cs.length:=by
   intro blk e;have bi:=Z;simp only[Rh] at Z;split at Z
   ·rename_i w1 aa e1;split at Z
    ·rename_i y G;obtain ⟨ab,E,sb⟩:=hs U blk e;rw[e1] at E;simp only[aj] at E;subst E;cases blk with
     |cells w cs=>
      obtain ⟨_,_,O,l4,_⟩:=sb
      grind
     |row i l lv cv=>obtain ⟨_,_,_,O,_⟩:=sb;grind
     |mp q st l v=>obtain ⟨_,_,_,_,O,_⟩:=sb;grind
    simp_all
   simp_all
  simp only[Pz];split
  ·rename_i w' a2 e0;refine ⟨by simp[hl],λb blk e=>?_⟩;obtain ⟨s,G,M,K⟩:=hb b blk e;by_cases u:b=U
   ·subst u;rw[e0] at G;simp only[aj] at G;subst G;obtain ⟨w,cs,w1,aa,y,rfl,E,O,e5,e6⟩:=A blk e;refine ⟨_,EI e0,?_⟩;obtain ⟨w2,af,e7,l2,c2⟩:=K;simp only[TB.cells.injEq] at e7;obtain ⟨rfl,rfl⟩:=e7;obtain ⟨w3,a6,e8,bw,bl,bc⟩:=M;simp only[TB.cells.injEq] at e8;obtain ⟨rfl,rfl⟩:=e8;refine ⟨⟨w'+1,_,rfl,by omega,by simp[l2],λj v z v1 z1 q1 q2=>?_⟩,⟨w'+1,_,rfl,by simp[l2],λj p2 q=>?_⟩⟩
    ·grind
    ·by_cases hj:j=j0
     ·grind
     ·rw[yBX (λe=>hj e.symm)] at q;obtain ⟨q1,q2⟩:=c2 j p2 q;refine ⟨by omega,?_⟩;rcases q2 with ⟨c,a,W,h6,h7⟩ | ⟨W,h6⟩
      ·grind
      ·refine .inr ⟨W,λc X=>?_⟩;rcases eU.1 X with X | X
       ·simp_all
       ·exact h6 c X
   ·exact ⟨s,by grind,M,K.LH (by grind) (by simp) (by simp)⟩
  ·rename_i ad;refine ⟨hl,λb blk e=>?_⟩;obtain ⟨s,G,M,K⟩:=hb b blk e;by_cases u:b=U
   ·subst u;obtain ⟨w,cs,_,_,_,rfl,_⟩:=A blk e;obtain ⟨w3,a6,rfl,_⟩:=M
    simp_all
   ·exact ⟨s,G,M,K.LH (by grind) (by simp) (by simp)⟩
 |m U j0 an=>
  have A:∀blk,σ[U]? = some blk->∃j st l v v1,blk=.mp j st l v/\σ1[U]? = some (.mp j0 an x v1):=by
   intro blk e;simp only[Rh] at Z;split at Z
   ·rename_i j1 a7 l1 v1 e1;split at Z
    ·rename_i ax;have ax:an=a7:=eq_of_beq ax;obtain ⟨rfl,rfl⟩:=vx Z;obtain ⟨ab,E,sb⟩:=hs U blk e;rw[e1] at E;simp only[aj] at E;subst E;cases blk with
     |mp q st l v=>simp_all
     |row i l lv cv=>obtain ⟨_,_,_,O,_⟩:=sb;grind
     |cells w cs=>obtain ⟨_,_,O,_⟩:=sb;grind
    simp_all
   simp_all
  simp only[Pz];split
  ·rename_i j' ak l' v' e0;refine ⟨by simp[hl],λb blk e=>?_⟩;obtain ⟨s,G,M,K⟩:=hb b blk e;by_cases u:b=U
   ·subst u;rw[e0] at G;simp only[aj] at G;subst G;obtain ⟨j,st,l,v,v1,rfl,E⟩:=A blk e;obtain ⟨_,_,_,_,O,b1,b2⟩:=M;simp only[TB.mp.injEq] at O;obtain ⟨rfl,rfl,e5,rfl⟩:=O;cases e5;exact ⟨_,EI e0,⟨_,_,_,_,rfl,by omega,λe=>by omega⟩,⟨_,_,_,_,rfl,.inl ⟨⟨v1,E⟩,_,_,iz ..⟩⟩⟩
   ·exact ⟨s,by grind,M,K.LH (by simp) (by simp) (by grind)⟩
  ·rename_i ad;refine ⟨hl,λb blk e=>?_⟩;obtain ⟨s,G,M,K⟩:=hb b blk e;by_cases u:b=U
   ·subst u;obtain ⟨j,st,l,v,v1,rfl,_⟩:=A blk e;obtain ⟨_,_,_,_,rfl,_⟩:=M
    grind
   ·exact ⟨s,G,M,K.LH (by simp) (by simp) (by grind)⟩
theorem PQ.all{al1:TA}{σ1 σ:TH}{σD:ae}{pl:List Pl}(H:RH σ σD)(hs:HS pl σ σ1):∀(ps:List Pl)(x:nO ps),Iu al1 σ1 ps=some x->PQ al1 σ1 ps σ (pE ps x σ):=by
 intro ps;induction ps with
 |nil=>intro x _;exact PQ.nil H
 |cons p ps ih=>
  intro x i;cases ps with
  |nil=>exact PQ.step H hs p x i (PQ.nil H)
  |cons q ps=>
   simp only[Iu] at i;split at i
   ·rename_i a b j s;simp only[aj] at i;subst i;exact PQ.step H hs p a j (ih b s)
   simp_all
theorem PQ.ext{al1:TA}{σ1 σ au:TH}{ps:List Pl}(h:PQ al1 σ1 ps σ au):Ext σ au:=λb blk e=>let ⟨i,j,h1,_⟩:=h.2 b blk e;⟨i,j,h1⟩
theorem PQ.hs{al1:TA}{σ1 σ au:TH}{ps:List Pl}(h:PQ al1 σ1 ps σ au)(hs:HS ps σ σ1):HS ps σ au:=λb blk e=>by
 obtain ⟨u,W,h1,E⟩:=h.2 b blk e;refine ⟨u,W,?_⟩;cases blk with
 |cells w cs=>
  obtain ⟨w2,G,rfl,x,X⟩:=E;refine ⟨w2,G,rfl,x,λj p p1 q Z z=>?_⟩;rcases (X j p1 Z).2 with ⟨c,a,_,_,A⟩ | ⟨s,_⟩
  ·exact absurd A (z c)
  simp_all
 |row i l lv cv=>
  obtain ⟨x,K,M,rfl,s⟩:=E;refine ⟨x,K,M,rfl,λz=>?_⟩;rcases s with ⟨_,i',A⟩ | ⟨s,h4,h5,_⟩
  ·exact absurd A (z i')
  simp_all
 |mp j st l v=>
  obtain ⟨j2,O,x,v2,rfl,s⟩:=E;refine ⟨j2,O,x,v2,rfl,λz=>?_⟩;rcases s with ⟨_,j',U,A⟩ | ⟨s,_⟩
  ·exact absurd A (z j' U)
  omega
end
end Go.Abs
end
section
namespace Go.Abs
noncomputable section
variable[Gl][Y:Ty]
theorem No(t:Nat):∀(al:TA),Kx t al=(dR t al).map Prod.fst:=by
 intro al;induction al with
 |nil=>rfl
 |cons y al ih=>grind [Kx,dR]
theorem iP{t:Nat}{al:TA}{x:RV}(h:Kx t al=some x):∃p,dR t al=some (x,p):=by grind [No,Option.map_eq_some_iff]
theorem kO{t:Nat}{q:RV×Nat}:∀{pre al:TA},(∀y∈pre,y.1≠t)->dR t al=some q->dR t (pre++al)=some q:=by
 intro pre al;induction pre with
 |nil=>simp_all
 |cons z pre ih=>grind [dR,Nat.eq_of_beq_eq_true]
theorem tA{t:Nat}{q:RV×Nat}:∀{pre al:TA},dR t al=some q->∃a,dR t (pre++al)=some a:=by
 intro pre al;induction pre with
 |nil=>simp_all
 |cons z pre ih=>
  intro h;obtain ⟨s,y⟩:=z;simp only[List.cons_append,dR]
  grind
theorem UB{al1:TA}{σ1:TH}{al:TA}{t:Nat}{v:RV}{p:Nat}:∀(ps:List Pl)(x:nO ps),Iu al1 σ1 ps=some x->dR t (Dq ps x al)=some (v,p) ->
  (∃c a,v=.v (c.tv a)/\Rh al1 σ1 (.r t c)=some a)∨((∀c,Pl.r t c∉ps)/\dR t al=some (v,p)):=by
 have one:∀(p0:Pl)(x:p0.dn)(f:TA),Rh al1 σ1 p0=some x->dR t (UD p0 x f)=some (v,p)->(∃c a,v=.v (c.tv a)/\Rh al1 σ1 (.r t c)=some a)∨((∀c,Pl.r t c≠p0)/\dR t f=some (v,p)):=by
  intro p0 x f l h;cases p0 with
  |r A c=>
   simp only[UD,dR] at h;split at h
   ·grind [Nat.eq_of_beq_eq_true]
   ·rename_i s;refine .inr ⟨λE e=>?_,h⟩
    simp_all
  |w b i=>exact .inr ⟨λc e=>by simp at e,h⟩
  |h b j c=>exact .inr ⟨λc e=>by simp at e,h⟩
  |m b j st=>exact .inr ⟨λc e=>by simp at e,h⟩
 intro ps;induction ps with
 |nil=>intro x _ h;exact .inr ⟨λc G=>by grind,h⟩
 |cons p0 ps ih=>
  intro x l h;cases ps with
  |nil=>
   rcases one p0 x al l h with h | ⟨u,y⟩
   ·simp_all
   simp_all
  |cons q ps=>
   simp only[Iu] at l;split at l
   ·rename_i a b z s;simp only[aj] at l;subst l;rcases one p0 a _ z h with h | ⟨u,y⟩
    ·simp_all
    simp_all
   simp_all
theorem DJ:∀(ps:List Pl)(x:nO ps)(al:TA),∃pre,Dq ps x al=pre++al/\∀y∈pre,∃c,Pl.r y.1 c∈ps:=by
 have one:∀(p0:Pl)(x:p0.dn)(al:TA),∃pre,UD p0 x al=pre++al/\∀y∈pre,∃c,Pl.r y.1 c=p0:=by
  intro p0 x al;cases p0 with
  |r t c=>exact ⟨[(t,.v (c.tv x))],rfl,λy a=>by simp_all⟩
  |w b i=>exact ⟨[],rfl,λy a=>by grind⟩
  |h b j c=>exact ⟨[],rfl,λy a=>by grind⟩
  |m b j st=>exact ⟨[],rfl,λy a=>by grind⟩
 intro ps;induction ps with
 |nil=>intro x al;exact ⟨[],rfl,λy a=>by grind⟩
 |cons p0 ps ih=>
  intro x al;cases ps with
  |nil=>obtain ⟨pre,f,l⟩:=one p0 x al;exact ⟨pre,f,λy a=>let ⟨c,e⟩:=l y a;⟨c,by simp_all⟩⟩
  |cons q ps=>
   obtain ⟨pre,f,l⟩:=ih x.2 al;obtain ⟨p,s,u⟩:=one p0 x.1 (Dq (q::ps) x.2 al)
   grind [Dq]
theorem Jr(σ:TH):∀(hs:List (Nat×Nat))(al:TA),∃pre,LY σ hs al=pre++al/\(∀y∈pre,∃b i l a e,(y.1,b)∈hs/\σ[b]? = some (.row i l a e)/\y.2=.v (.c (.own i b a l.length))) /\
  ∀t b i l a e,(t,b)∈hs->σ[b]? = some (.row i l a e)->∃y∈pre,y.1=t:=by
 intro hs;induction hs with
 |nil=>intro al;exact ⟨[],rfl,λy j=>by grind,λt b i l a e h=>by simp at h⟩
 |cons h hs ih=>
  intro al;obtain ⟨t,b⟩:=h;obtain ⟨pre,s,u,v⟩:=ih al;have p:∀y∈pre,∃f i l a e,(y.1,f)∈(t,b)::hs/\σ[f]? = some (.row i l a e)/\y.2=.v (.c (.own i f a l.length)):=λy j=>by grind
  simp only[LY];split
  ·grind [List.mem_cons_self]
  grind
theorem Nu{t:Nat}{x:RV}{p:Nat}:∀{pre al:TA},dR t (pre++al)=some (x,p)->(t,x)∈pre∨((∀y∈pre,y.1≠t)/\dR t al=some (x,p)):=by
 intro pre al;induction pre with
 |nil=>simp_all
 |cons z pre ih=>
  intro h;obtain ⟨s,y⟩:=z;simp only[List.cons_append,dR] at h;split at h
  ·simp_all
  ·rename_i f;rcases ih h with h | ⟨i,b⟩
   ·simp_all
   ·refine .inr ⟨λy a=>?_,b⟩;rcases eU.1 a with rfl | a
    ·intro e;simp_all
    grind
theorem DE(md:List Nat)(al:TA):∃pre,DI md al=pre++al/\(∀y∈pre,y.1∈md/\(Kx y.1 al).isSome/\y.2=.v (.c .any))/\∀t,t∈md->(Kx t al).isSome->∃y∈pre,y.1=t:=by
 refine ⟨_,rfl,λy b=>?_,λt a hs=>?_⟩
 ·grind
 ·exact ⟨(t,.v (.c .any)),dY.2 ⟨t,Hk.2 ⟨a,hs⟩,rfl⟩,rfl⟩
theorem aC.sq{α i:Type}{R:α->i->Prop}:∀{l:List α}{m:List i},l.length=m.length->(∀(j:Nat) a b,l[j]? = some a->m[j]? = some b->R a b)->aC R l m:=by
 intro l;induction l with
 |nil=>intro m h _;cases m with | nil=>exact .nil | cons b m=>simp at h
 |cons a l ih=>
  intro m h s;cases m with
  |nil=>simp at h
  |cons b m=>exact .cons (s 0 a b rfl rfl) (ih (by simp_all) λj x y u z=>s (j+1) x y u z)
theorem Wb.Vn{α:Type}{f:α->List C}{l:List α}{m:Nat}:Wb m (OB f l) (OB f l):=by refine ⟨_,rfl,aC.sq rfl λj a b i s=>?_⟩;rw[i] at s;simp only[aj] at s;subst s;rw[gP,bU] at i;obtain ⟨c,_,rfl⟩:=i;exact jk.low rfl
theorem GI(j:Nat)(st:Bool)(a:TT j)(m:Nat):(Jt j st a).low m=true:=by
 unfold Jt;split
 ·exact Tf _
 ·rfl
theorem EU{α:Type}{g:α->D}{m:Nat}(h:∀a,(g a).low m=true):∀(l:List (Int×α))(i:Nat),((wz g i l).all λe=>e.2.1.low m)=true:=by
 intro l;induction l with
 |nil=>intro i;rfl
 |cons x l ih=>grind [wz]
theorem Ym{al:TA}{σ:TH}{hs:List (Nat×Nat)}(h:SJ al σ hs=true){t b:Nat}(hm:(t,b)∈hs):∃i v q j l a e,Kx t al=some (.v (.c (.own i b v q)))/\σ[b]? = some (.row j l a e)/\v=a/\i=j:=by
 simp only[SJ,fE] at h;have:=h (t,b) hm;dsimp only at this;split at this
 ·rename_i i f v q j l a e p s;simp only[bp] at this
  grind [Nat.eq_of_beq_eq_true]
 simp_all
theorem HS.mono{pl u:List Pl}{σ σ1:TH}(G:∀p∈pl,p∈u)(h:HS pl σ σ1):HS u σ σ1:=λb blk e=>by
 obtain ⟨z,X,s⟩:=h b blk e;refine ⟨z,X,?_⟩;cases blk with
 |cells w cs=>obtain ⟨w1,K,e,l,c⟩:=s;exact ⟨w1,K,e,l,λj p p1 x y A=>c j p p1 x y λq E=>A q (G _ E)⟩
 |row i l lv cv=>obtain ⟨M,O,U,e,c⟩:=s;exact ⟨M,O,U,e,λA=>c λq E=>A q (G _ E)⟩
 |mp j st l v=>obtain ⟨Z,W,M,v1,e,c⟩:=s;exact ⟨Z,W,M,v1,e,λA=>c λq st E=>A q st (G _ E)⟩
theorem PQ.NY{al1:TA}{σ1 σ au:TH}{ps pl:List Pl}(h:PQ al1 σ1 ps σ au)(E:∀p∈ps,p∈pl):HS pl σ au:=λb blk e=>by
 obtain ⟨s,X,h1,G⟩:=h.2 b blk e;refine ⟨s,X,?_⟩;cases blk with
 |cells w cs=>
  obtain ⟨w2,K,rfl,u,Z⟩:=G;refine ⟨w2,K,rfl,u,λj p p1 q q1 x=>?_⟩;rcases (Z j p1 q1).2 with ⟨c,a,_,_,z⟩ | ⟨A,_⟩
  ·exact absurd (E _ z) (x c)
  simp_all
 |row i l lv cv=>
  obtain ⟨u,M,O,rfl,A⟩:=G;refine ⟨u,M,O,rfl,λx=>?_⟩;rcases A with ⟨_,i',z⟩ | ⟨h4,h5,h6,_⟩
  ·exact absurd (E _ z) (x i')
  simp_all
 |mp j st l v=>
  obtain ⟨j2,U,u,v2,rfl,A⟩:=G;refine ⟨j2,U,u,v2,rfl,λx=>?_⟩;rcases A with ⟨_,j',W,z⟩ | ⟨h4,_⟩
  ·exact absurd (E _ z) (x j' W)
  omega
structure ZOk (zs:List (Nat×Nat×Nat)) (σ σ':TH):Prop where
 len:σ'.length=σ.length
 row:∀(b:Nat) i (l:List (TT i)) lv cv,σ[b]? = some (.row i l lv cv)↔σ'[b]? = some (.row i l lv cv)
 mp:∀(b:Nat) j st (l:List (Int×TT j)) v,σ[b]? = some (.mp j st l v)->σ'[b]? = some (.mp j st l v)
 cells:∀(b:Nat) w cs,σ[b]? = some (.cells w cs)->∃w' cs',σ'[b]? = some (.cells w' cs')/\w<=w'/\cs'.length=cs.length/\∀(j:Nat) p',cs'[j]? = some p' ->
  (cs[j]? = some p'/\∀r,(b,j,r)∈zs->∀i l lv cv,σ[r]?≠some (.row i l lv cv))∨(∃r i l lv cv,(b,j,r)∈zs/\σ[r]? = some (.row i l lv cv)/\p'.2=.own i r lv l.length/\w<p'.1/\p'.1<=w')
theorem IY:∀(zs:List (Nat×Nat×Nat))(σ:TH),ZOk zs σ (IN zs σ):=by
 intro zs;induction zs with
 |nil=>intro σ;exact ⟨rfl,λb i l a f=>Iff.rfl,λb j st l v h=>h,λb w s h=>⟨w,s,h,cn _,rfl,λj p' N=>.inl ⟨N,λr hr=>by grind⟩⟩⟩
 |cons z zs ih=>
  intro σ;obtain ⟨E,O,T⟩:=z;simp only[IN];split
  ·rename_i A u U W x aa X hr;have Z:=ih (σ.set E (.cells (A+1) (u.set O (A+1,.own U T x W.length))));have y:∀(b:Nat) i (l:List (TT i)) a f,σ[b]? = some (.row i l a f)↔(σ.set E (.cells (A+1) (u.set O (A+1,.own U T x W.length))))[b]? = some (.row i l a f):=λb i l a f=>by
    grind
   refine ⟨by rw[Z.len,yBB],λb i l a f=>(y b i l a f).trans (Z.row b i l a f),λb j st l v h=>Z.mp b j st l v ?_,λb w s h=>?_⟩
   ·grind
   ·by_cases e:b=E
    ·subst e;rw[X] at h;simp only[aj,TB.cells.injEq] at h;obtain ⟨rfl,rfl⟩:=h;obtain ⟨G,p,K,L,M,h4⟩:=Z.cells b _ _ (EI X)
     grind
    ·obtain ⟨G,p,K,L,M,h4⟩:=Z.cells b w s (by grind)
     grind
  ·rename_i ab;have Z:=ih σ;refine ⟨Z.len,Z.row,Z.mp,λb w s h=>?_⟩;obtain ⟨G,p,K,L,M,h4⟩:=Z.cells b w s h;refine ⟨G,p,K,L,M,λj p' N=>?_⟩
   grind
theorem ZOk.ext{zs:List (Nat×Nat×Nat)}{σ σ':TH}(Z:ZOk zs σ σ'):Ext σ σ':=λb blk h=>by
 cases blk with
 |cells w u=>
  obtain ⟨z,s,A,E,G,O⟩:=Z.cells b w u h;refine ⟨_,A,z,s,rfl,E,G,λj v x U W e X=>?_⟩
  grind
 |row i l K M=>exact ⟨_,(Z.row b i l K M).1 h,BE.refl _⟩
 |mp j st l v=>exact ⟨_,Z.mp b j st l v h,BE.refl _⟩
theorem Xl{zs:List (Nat×Nat×Nat)}{b j r:Nat}(h:(b,j,r)∈zs):Pl.h b j .bool∈Hc zs:=dY.2 ⟨_,h,rfl⟩
theorem ZOk.hs{zs:List (Nat×Nat×Nat)}{σ σ':TH}(Z:ZOk zs σ σ'):HS (Hc zs) σ σ':=λb blk h=>by
 cases blk with
 |cells w u=>
  obtain ⟨x,s,z,W,A,E⟩:=Z.cells b w u h;refine ⟨_,z,x,s,rfl,A,λj p p1 e G K=>?_⟩;rcases E j _ G with ⟨X,_⟩ | ⟨r,_,_,_,_,M,_⟩
  ·simp_all
  ·exact absurd (Xl M) (K _)
 |row i l O U=>exact ⟨_,(Z.row b i l O U).1 h,_,_,_,rfl,λ_=>⟨rfl,rfl,rfl⟩⟩
 |mp j st l v=>exact ⟨_,Z.mp b j st l v h,_,_,_,_,rfl,λ_=>rfl⟩
theorem Na{n:Nat}{σ:TH}{zs:List (Nat×Nat×Nat)}(h:Ud n σ zs=true){b j r:Nat}(hm:(b,j,r)∈zs):b<n/\r<n/\∃w cs i l a f q p,σ[b]? = some (.cells w cs)/\σ[r]? = some (.row i l a f)/\cs[j]? = some (p,.own i r a q):=by
 simp only[Ud,fE] at h;have:=h (b,j,r) hm;simp only[bp] at this;obtain ⟨s,u,e⟩:=this;refine ⟨qK.mp s,qK.mp u,?_⟩;split at e
 ·rename_i w cs i l a f x y;split at e
  ·rename_i p z A v q E;simp only[bp] at e
   grind [Nat.eq_of_beq_eq_true]
  grind
 grind
theorem j_{h:JH}{md:List Nat}{al al1:TA}{σ σ1:TH}{alD ad:AL}{σD σD1:ae}{x:nO h.pl}(R0:Ref al σ alD σD)(X:Ref al1 σ1 ad σD1)
  (bc:∀t q,dR t al=some q->∃q',dR t al1=some q')
  (hk:∀t q,t∉md->(∀c,Pl.r t c∉h.pl)->(∀b,(t,b)∈h.hs->∀i l O T,σ[b]?≠some (.row i l O T))->dR t al=some q->dR t al1=some q)
  (hs:HS (h.pl++Hc h.zs) σ σ1) (hh:SJ al1 σ1 h.hs=true) (hz:Ud σ.length σ1 h.zs=true) (hx:Iu al1 σ1 h.pl=some x) :
  Ext σ (fC h md al σ x)/\HS (h.pl++Hc h.zs) σ (fC h md al σ x)/\(fC h md al σ x).length=σ.length/\∃af ak,nX σ.length ad σD1 af ak/\Ref (cF h md al σ x) (fC h md al σ x) af ak:=by
 have s:=PQ.all R0.hh hs h.pl x hx;have Z:=IY h.zs (pE h.pl x σ);have ext:Ext σ (fC h md al σ x):=Ext.trans R0.hh s.ext Z.ext;have len:(fC h md al σ x).length=σ.length:=Z.len.trans s.1;refine ⟨ext,(s.NY λp hp=>Ri _ hp).trans (Z.hs.mono λp hp=>Wy _ hp),len,?_⟩;have bd:∀(b i i1 O T aa ab:Nat)(l:List (TT i))(l1:List (TT i1)),(pE h.pl x σ)[b]? = some (.row i l O T)->σ1[b]? = some (.row i1 l1 aa ab)->i1=i/\l.length=l1.length:=by
  intro b i i1 O T aa ab l l1 m2 n2;have z:b<σ.length:=by rw[<-s.1];grind
  obtain ⟨f,U⟩:∃f,σ[b]? = some f:=⟨_,cT z⟩;obtain ⟨u,K,be,A⟩:=s.2 b f U;rw[m2] at K;simp only[aj] at K;subst K;obtain ⟨M,W,G⟩:=hs b f U;rw[n2] at W;simp only[aj] at W;subst W;cases f with
  |cells w cs=>obtain ⟨_,_,e,_⟩:=G;simp at e
  |mp q st l v=>obtain ⟨_,_,_,_,e,_⟩:=G;simp at e
  |row i0 l0 b4 b5=>
   obtain ⟨l5,b6,b7,e5,G⟩:=G;simp only[TB.row.injEq] at e5;obtain ⟨rfl,e6,rfl,rfl⟩:=e5;cases e6;obtain ⟨l6,b8,cg,e7,A⟩:=A;simp only[TB.row.injEq] at e7;obtain ⟨rfl,e8,rfl,rfl⟩:=e7;cases e8;refine ⟨rfl,?_⟩;rcases A with ⟨⟨an,ax,e9⟩,_⟩ | ⟨rfl,_,_,hn⟩
   ·simp_all
   ·by_cases ch:WD (h.pl++Hc h.zs) b
    ·simp_all
    ·exact absurd (λi E=>by
      rcases mw.1 E with E | E
      ·exact hn i E
      grind [Hc]) ch
 obtain ⟨bh,es,ck,d0⟩:=DE md al;obtain ⟨bi,eh,cm,d5⟩:=Jr (pE h.pl x σ) h.hs (DI md al);obtain ⟨bk,ep,d6⟩:=DJ h.pl x (LY (pE h.pl x σ) h.hs (DI md al));have bl:cF h md al σ x=(bk++(bi++bh))++al:=by grind [cF]
 have dp:Ext σ (pE h.pl x σ):=s.ext;have co:(fC h md al σ x).length<=σD1.length:=by
  rw[len,X.hh.len];rcases qG σ1.length σ.length with z | d7
  ·obtain ⟨M,e,_⟩:=hs σ1.length _ (cT z)
   grind
  omega
 have gw:∀{v:TV},GV (fC h md al σ x) v->GW (cF h md al σ x) (fC h md al σ x) (.v v):=λg=>g;rw[<-len];refine stw_of co (λt v p ht=>?_) (λb u bt=>?_) (λb w2 N bt q hq=>?_)
 ·
  rcases UB h.pl x hx ht with ⟨c,a,rfl,hr⟩ | ⟨cp,ht⟩
  ·simp only[Rh] at hr;split at hr
   ·rename_i v1 h1;obtain ⟨p1,h2⟩:=iP h1;obtain ⟨L,h3,h4,_⟩:=X.rg t _ p1 h2;exact ⟨zL c a,L,c.enc a,h3,rdV_wk hr h4,c.AQ a⟩
   grind
  ·rw[eh] at ht;rcases Nu ht with hm | ⟨d8,ht⟩
   ·obtain ⟨b,i,l,O,T,m1,m2,m3⟩:=cm _ hm;dsimp only at m1 m3;subst m3;obtain ⟨i1,v1,q1,j1,l1,aa,ab,n1,n2,n3,n4⟩:=Ym hh m1;subst n3;obtain ⟨p1,n5⟩:=iP n1;obtain ⟨L,n6,n7,n8⟩:=X.rg t _ p1 n5;obtain ⟨rfl,rfl⟩:=mF X.hh n8 n2 (by simp);clear n4;have c0:=(Z.row b _ _ _ _).1 m2;have z:b<σ.length:=by rw[<-s.1];grind
    obtain ⟨f,U⟩:∃f,σ[b]? = some f:=⟨_,cT z⟩;obtain ⟨u,K,be,A⟩:=s.2 b f U;rw[m2] at K;simp only[aj] at K;subst K;obtain ⟨M,W,G⟩:=hs b f U;rw[n2] at W;simp only[aj] at W;subst W;cases f with
    |cells w cs=>obtain ⟨_,_,e,_⟩:=G;simp at e
    |mp q st l v=>obtain ⟨_,_,_,_,e,_⟩:=G;simp at e
    |row i0 l0 b4 b5=>
     obtain ⟨l5,b6,b7,e5,G⟩:=G;simp only[TB.row.injEq] at e5;obtain ⟨rfl,e6,rfl,rfl⟩:=e5;cases e6;obtain ⟨l6,b8,cg,e7,A⟩:=A;simp only[TB.row.injEq] at e7;obtain ⟨rfl,e8,rfl,rfl⟩:=e7;cases e8;have a0:l=l1:=by
      rcases A with ⟨⟨an,ax,e9⟩,_⟩ | ⟨rfl,_,_,hn⟩
      ·grind
      ·exact (G λi E=>by
        rcases mw.1 E with E | E
        ·exact hn i E
        grind [Hc]).1.symm
     subst a0;refine ⟨⟨_,c0,λj l' c3 c4 e=>?_⟩,L,L,n6,?_,?_⟩
     ·grind
     ·rw[RT.c1 (by simp) n7];refine jk.low ?_;simp only[TC.er,D.low,aQ];omega
     ·have:=RT.c1 (by simp) n7;rw[this];exact Or.inr rfl
   ·rw[es] at ht;rcases Nu ht with hm | ⟨d9,ht⟩
    ·obtain ⟨m1,m2,m3⟩:=ck _ hm;dsimp only at m1 m2 m3;subst m3;rw[yBn] at m2;obtain ⟨y,hy⟩:=m2;obtain ⟨p1,n1⟩:=iP hy;obtain ⟨⟨y',p'⟩,n2⟩:=bc t _ n1;obtain ⟨L,n3,_⟩:=X.rg t y' p' n2;exact ⟨True.intro,L,.any,n3,jk.any _ _,Or.inl rfl⟩
    ·have c5:t∉md:=λhm=>by
      grind [No]
     have bu:∀b,(t,b)∈h.hs->∀i l O T,σ[b]?≠some (.row i l O T):=by
      intro b hb i l O T e;obtain ⟨u,K,be,_⟩:=s.2 b _ e;obtain ⟨l2,a2,a5,rfl,_⟩:=be
      grind
     have h1:=hk t _ c5 cp bu ht;obtain ⟨L,n3,n4,_⟩:=X.rg t v p h1;obtain ⟨_,_,_,n5⟩:=R0.rg t v p ht;obtain ⟨d2,n6,n7⟩:=RR_wk n4 n5;refine ⟨?_,L,d2,n3,by grind,n7⟩;rw[bl];exact n5.mono ext _
 ·
  have z:b<σ.length:=by grind
  obtain ⟨f,U⟩:∃f,σ[b]? = some f:=⟨_,cT z⟩;obtain ⟨a6,K,be,A⟩:=s.2 b f U;obtain ⟨M,W,G⟩:=hs b f U;obtain ⟨c6,o1,o2⟩:=X.hh.hp b M W;refine ⟨c6,?_⟩;cases f with
  |cells w cs=>
   obtain ⟨w1,a7,rfl,l1,c1⟩:=G;obtain ⟨ea,dT,rfl,c7,c8⟩:=A;obtain ⟨w2,N,ez,_,bv,a8⟩:=Z.cells b _ _ K;have:u=.cells w2 N:=by grind [fC]
   subst this;have l2:N.length=cs.length:=bv.trans c7;obtain ⟨a9,o3,a1,_,_⟩:=X.hh.cells W;rw[o1] at o3;simp only[aj] at o3;subst o3;have c9:aC (λ(p:Nat×TC) d=>RC p.2 d) a7 a9:=by cases o2;refine aC.sq (by simp) λj p d h1 h2=>?_;rw[gP,h1] at h2;simp only[Option.map_some,aj] at h2;exact .inr h2.symm
   clear o2 a1;have a1:=c9;have hl:a9.length=N.length:=by omega
   obtain ⟨es,eb,ec⟩:=yR (p:=λj e=>∃p2 L,N[j]? = some p2/\a9[j]? = some L/\jk (fC h md al σ x).length L e/\e=p2.2.er) N.length λj hj=>by
    have q2:=cT hj;have q1:a7[j]? = some _:=cT (by omega);obtain ⟨L,q3,q4⟩:=a1.get j _ q1;rcases a8 j _ q2 with ⟨z1,z2⟩ | ⟨r,i,l,O,T,z1,z2,z3,_⟩
    rotate_left
    ·obtain ⟨_,_,w9,da,i9,l9,bw,db,q9,v9,y1,y2,y3⟩:=Na hz z1;rw[W] at y1;simp only[aj,TB.cells.injEq] at y1;obtain ⟨_,rfl⟩:=y1;rw[q1] at y3;simp only[aj] at y3;have g9:=(X.hh.hg b w1 a7 W _ (vB q1)).1;rw[y3] at q4 g9;obtain ⟨t1,t2⟩:=bd r i i9 _ _ _ _ _ _ z2 y2;subst t1;obtain ⟨_,t3⟩:=mF X.hh g9 y2 (by simp);have b0:L=OS (ar i9) r q9:=RT.c1 (x:=.own i9 r bw q9) (by simp) q4;have hr:r<σ.length:=by omega
     refine ⟨L,_,L,q2,q3,?_,?_⟩
     ·rw[b0];refine jk.low ?_;simp only[OS,D.low,aQ];omega
     ·rw[b0,z3,t3,<-t2];rfl
    obtain ⟨_,q5⟩:=c8 j _ z1;rcases q5 with ⟨c,a,q5,q6,_⟩ | ⟨q5,q6⟩
    ·grind [Rh,rdC_wk,jZ]
    ·have:=c1 j _ _ q5 q1 λc hc=>by
      rcases mw.1 hc with hc | hc
      ·exact q6 c hc
      ·simp only[Hc,dY] at hc;obtain ⟨⟨b9,j9,r9⟩,hm,e9⟩:=hc;simp only[Pl.h.injEq] at e9;obtain ⟨rfl,rfl,_⟩:=e9;obtain ⟨_,hr,w9,da,i9,l9,bw,db,q9,v9,y1,y2,y3⟩:=Na hz hm;obtain ⟨b1,y4⟩:∃blk,σ[r9]? = some blk:=⟨_,cT hr⟩;obtain ⟨dc,y5,b2⟩:=hs r9 _ y4;rw[y2] at y5;simp only[aj] at y5;subst y5;cases b1 with
       |cells w cs=>obtain ⟨_,_,e,_⟩:=b2;simp at e
       |mp q st l v=>obtain ⟨_,_,_,_,e,_⟩:=b2;simp at e
       |row i8 l8 ef eg=>
        obtain ⟨b3,y6,dd,_⟩:=s.2 r9 _ y4;obtain ⟨l7,an,ax,rfl,_⟩:=dd
        grind
     rw[this] at q4;exact ⟨_,_,L,q2,q3,by rw[len];exact SL q4 (R0.hh.hg b w cs U _ (vB q5)).1,rfl⟩
   refine ⟨.cells es,o1,⟨es,rfl,aC.sq (by omega) λj d e h1 h2=>?_⟩,?_⟩
   ·grind
   ·unfold RB TB.er;congr 1;apply Qg
    grind
  |row i l O T=>
   obtain ⟨l1,aa,ab,rfl,G⟩:=G;obtain ⟨l2,a2,a5,rfl,A⟩:=A;have:u=.row i l2 a2 a5:=by
    have e3:(fC h md al σ x)[b]? = some (.row i l2 a2 a5):=(Z.row b _ _ _ _).1 K
    grind
   subst this;have a0:l2=l1:=by
    rcases A with ⟨⟨an,ax,e9⟩,_⟩ | ⟨rfl,_,_,hn⟩
    ·grind
    ·exact (G λi E=>by
      rcases mw.1 E with E | E
      ·exact hn i E
      grind [Hc]).1.symm
   subst a0;cases o2;exact ⟨_,o1,Wb.Vn,rfl⟩
  |mp j st l v=>
   obtain ⟨j1,df,l1,v1,rfl,G⟩:=G;obtain ⟨j2,bb,l2,v2,rfl,A⟩:=A;have:u=.mp j2 bb l2 v2:=by
    have e3:(fC h md al σ x)[b]? = some (.mp j2 bb l2 v2):=Z.mp b _ _ _ _ K
    grind
   subst this;have di:j2=j1/\bb=df/\HEq l2 l1:=by
    rcases A with ⟨⟨v7,e9⟩,_⟩ | ⟨e9,hn⟩
    ·grind
    ·have ei:=G λj st E=>by
      rcases mw.1 E with E | E
      ·exact hn j st E
      grind [Hc]
     grind
   obtain ⟨rfl,rfl,hl⟩:=di;cases hl;cases o2;exact ⟨_,o1,⟨rfl,EU (λa=>GI _ _ _ _) _ _⟩,rfl⟩
 ·
  have z:b<σ.length:=by grind
  obtain ⟨f,U⟩:∃f,σ[b]? = some f:=⟨_,cT z⟩;obtain ⟨a6,K,be,A⟩:=s.2 b f U;cases f with
  |cells w cs=>
   obtain ⟨w3,ej,rfl,l2,c2⟩:=A;obtain ⟨w4,dl,ez,hw,bv,a8⟩:=Z.cells b _ _ K;have e3:(fC h md al σ x)[b]? = some (.cells w4 dl):=ez;rw[bt] at e3;simp only[aj,TB.cells.injEq] at e3;obtain ⟨rfl,rfl⟩:=e3;obtain ⟨j,hj⟩:=yB7 hq;rcases a8 j q hj with ⟨z1,_⟩ | ⟨r,i,l,O,T,_,z2,z3,_,z4⟩
   ·obtain ⟨r1,r2⟩:=c2 j q z1;refine ⟨?_,jz r1 hw⟩;rcases r2 with ⟨c,a,r2,_⟩ | ⟨r2,_⟩
    ·grind [tB]
    ·exact (R0.hh.hg b w cs U q (vB r2)).1.mono ext
   ·refine ⟨?_,z4⟩;rw[z3];refine ⟨_,(Z.row r _ _ _ _).1 z2,λj l' c3 c4 e=>?_⟩
    grind
  |row i l O T=>
   obtain ⟨_,_,_,rfl,_⟩:=A;have e3:=(Z.row b _ _ _ _).1 K
   grind [fC]
  |mp j st l v=>
   obtain ⟨_,_,_,_,rfl,_⟩:=A;have e4:(fC h md al σ x)[b]? = _:=Z.mp b _ _ _ _ K
   grind
end
end Go.Abs
end
section
namespace Go.Abs
noncomputable section
variable[Gl][Y:Ty]
theorem Sd(m:Nat)(σ:TH)(al:TA):∀(pre:TA),Zr m σ pre.length (pre++al)=pre.map (λp=>(p.1,zp m σ p.2))++al:=by
 intro pre;induction pre with
 |nil=>cases al <;> rfl
 |cons x pre ih=>grind [Zr]
theorem YE{m:Nat}{σ:TH}{al:TA}{t:Nat}{x:RV}{p:Nat}:∀{pre:TA},dR t (pre.map (λp=>(p.1,zp m σ p.2))++al)=some (x,p) ->
  (∃a,dR t (pre++al)=some (a,p)/\x=zp m σ a)∨(dR t (pre++al)=some (x,p)/\dR t al=some (x,p)):=by
 intro pre;induction pre with
 |nil=>simp_all
 |cons y pre ih=>
  intro h;obtain ⟨s,y⟩:=y;simp only[iH,List.cons_append,dR] at h ⊢
  grind
theorem Yc{j:Nat}{st:Bool}(l:List (Int×TT j)):((wz (Jt j st) 0 l).all λe=>e.2.1.low 0)=true:=EU (λa=>GI _ _ _ _) _ _
variable{m:Nat}{σ1:TH}{σD1:ae}
theorem er_low{x:TC}(h:okC m x=true)(e:x≠.any):x.er.low m=true:=by
 cases x with
 |any=>simp_all
 |d x=>exact h
 |own i b v n=>simpa[okC,TC.er,OS,D.low] using h
 |op i b v n k a o=>simpa[okC,TC.er,D.low] using h
 |ap b off len sz k=>simpa[okC,TC.er,D.low] using h
 |os i b v n f len=>simpa[okC,TC.er,D.low] using h
 |Cj g j=>exact wF h
 |_=>rfl
def Lq(m:Nat)(σD1:ae)(b:Nat):Prop:=m<=b/\∃(i:Nat)(l:List (TT i)),σD1[b]? = some (OB (enc i) l)
theorem Wz(H:RH σ1 σD1)(hm:m<=σ1.length)(y:(σ1.take m).all (okB m)=true):Ox m σD1 (σD1.take m) id (Lq m σD1):=by
 have z:(σD1.take m).length=m:=by grind [RH.len]
 have get:∀i,i<m->∀x,σD1[i]? = some x->(σD1.take m)[i]? = some x:=λi f x h=>by grind
 have N:Rn m σD1 (σD1.take m) id (Lq m σD1):=⟨by omega,λi _=>rfl,λi j _ _ e=>e,λi f h=>by rw[z] at f;have:=h.1;grind,λb h=>h.2,λi f=>by
  rw[z] at f;have A:σD1[i]? = some _:=cT (by grind)
  grind⟩
 refine ⟨N,λi f=>?_⟩;rw[z] at f;have E:i<σ1.length:=by omega
 obtain ⟨x,A,G⟩:=H.hp i _ (cT E);refine ⟨x,x,A,get i f _ A,?_⟩;unfold RB at G;subst G;have hk:okB m σ1[i]=true:=fE.1 y _ (vB (i:=i) (by simp_all));cases K:σ1[i] with
 |cells w O=>
  rw[K] at hk;refine ⟨_,rfl,aC.sq rfl λj a b s u=>?_⟩;rw[s] at u;simp only[aj] at u;subst u;rw[gP,bU] at s;obtain ⟨p,L,rfl⟩:=s;have:=fE.1 hk p (vB L);by_cases M:p.2=.any
  ·rw[M];exact cO.any _
  grind [cO.low,er_low]
 |row i l T U=>refine ⟨_,rfl,aC.sq rfl λj a b s u=>?_⟩;rw[s] at u;simp only[aj] at u;subst u;rw[gP,bU] at s;obtain ⟨c,_,rfl⟩:=s;exact cO.data N rfl
 |mp j st l v=>exact ⟨rfl,Yc l⟩
theorem nM{i:Nat}(a:i<m){blk:TB}(h:σ1[i]? = some blk):(σ1.take m)[i]? = some blk:=by simp_all
theorem Og(H:RH σ1 σD1)(hm:m<=σ1.length)(N:Rn m σD1 (σD1.take m) id (Lq m σD1)){x:TC}{d:D}(K:RC x d)(y:GC σ1 x) :
  ∃s,cO σD1 (σD1.take m) id (Lq m σD1) d s/\RC (zt m σ1 x) s/\GC (σ1.take m) (zt m σ1 x):=by
 have O:(σ1.take m).length=m:=by simp_all
 rcases K with rfl | rfl
 ·exact ⟨.any,cO.any _,.inl rfl,True.intro⟩
 have any:∃s,cO σD1 (σD1.take m) id (Lq m σD1) x.er s/\RC .any s/\GC (σ1.take m) .any:=⟨.any,cO.any _,.inl rfl,True.intro⟩;have u:∀{b:Nat},Nat.blt b m=true->b<m:=λh=>qK.mp h;cases x with
 |any=>exact any
 |d x=>
  simp only[zt];split
  ·rename_i h;exact ⟨x,cO.low N h,.inr rfl,by show x.low _=true;simp_all⟩
  omega
 |b e=>exact ⟨_,cO.data N rfl,.inr rfl,True.intro⟩
 |sl i l=>exact ⟨_,cO.data N rfl,.inr rfl,True.intro⟩
 |fp i a o=>exact ⟨_,cO.data N rfl,.inr rfl,True.intro⟩
 |fl n=>exact ⟨_,cO.data N rfl,.inr rfl,True.intro⟩
 |cx a b=>exact ⟨_,cO.data N rfl,.inr rfl,True.intro⟩
 |own i b v n=>
  simp only[zt];obtain ⟨blk,f,p⟩:=y;split
  ·rename_i h;exact ⟨_,cO.low N (by simpa[TC.er,OS,D.low] using u h),.inr rfl,blk,nM (u h) f,p⟩
  ·rename_i h;split
   ·rename_i j l T U z;rw[f] at z;simp only[aj] at z;subst z;split
    ·rename_i A;have A:=cr A;obtain ⟨rfl,rfl⟩:=(p _ _ _ _ rfl).2 A.symm;obtain ⟨W,E,G⟩:=H.hp b _ f;unfold RB at G;subst G;have L:Lq m σD1 b:=⟨by
      grind [Nat.blt_eq],_,_,E⟩
     exact ⟨_,cO.ca N L E,.inr rfl,True.intro⟩
    omega
   omega
 |op i b v n k a o=>
  simp only[zt];obtain ⟨blk,f,p⟩:=y;split
  ·rename_i h;exact ⟨_,cO.low N (by grind [TC.er,D.low]),.inr rfl,blk,nM (u h) f,p⟩
  omega
 |Cj g M=>
  simp only[zt];split
  ·rename_i h;exact ⟨_,cO.low N (wF h),.inr rfl,by show M.all (CV.low _)=true;simp_all⟩
  omega
 |ap b off len sz k=>
  simp only[zt];split
  ·rename_i h;exact ⟨_,cO.low N (by grind [TC.er,D.low]),.inr rfl,by show b<_;simp_all⟩
  omega
 |os i b v n X len=>
  simp only[zt];obtain ⟨blk,f,p⟩:=y;split
  ·rename_i h;exact ⟨_,cO.low N (by grind [TC.er,D.low]),.inr rfl,blk,nM (u h) f,p⟩
  omega
theorem Vg(H:RH σ1 σD1)(hm:m<=σ1.length)(N:Rn m σD1 (σD1.take m) id (Lq m σD1)){xs:List TC}{ds:List D}(f:aC RC xs ds)(a:∀x∈xs,GC σ1 x) :
  ∃es,aC (cO σD1 (σD1.take m) id (Lq m σD1)) ds es/\aC RC (xs.map (zt m σ1)) es/\∀x∈xs.map (zt m σ1),GC (σ1.take m) x:=by
 induction f with
 |nil=>exact ⟨[],.nil,.nil,by simp⟩
 |cons h r ih=>
  obtain ⟨e,i,j,s⟩:=Og H hm N h (a _ (iz ..));obtain ⟨es,l,p,u⟩:=ih λx b=>a x (h_ _ b);exact ⟨e::es,.cons i l,.cons j p,λx b=>by grind⟩
theorem YZ(H:RH σ1 σD1)(hm:m<=σ1.length)(N:Rn m σD1 (σD1.take m) id (Lq m σD1)){al a:TA}{x:RV}{d:D}(e:RR x d)(f:GW al σ1 x) :
  ∃b,cO σD1 (σD1.take m) id (Lq m σD1) d b/\RR (zp m σ1 x) b/\GW a (σ1.take m) (zp m σ1 x):=by
 have any:∃b,cO σD1 (σD1.take m) id (Lq m σD1) d b/\RR (.v (.c .any)) b/\GW a (σ1.take m) (.v (.c .any)):=⟨.any,cO.any _,Or.inl rfl,True.intro⟩;cases x with
 |g c w p x=>exact any
 |v x=>
  cases x with
  |c x=>exact Og H hm N e f
  |aI h=>exact any
  |agg h=>obtain ⟨ds,rfl,i⟩:=e;obtain ⟨j,l,s,u⟩:=Vg H hm N i f;exact ⟨_,cO.agg l,⟨j,rfl,s⟩,u⟩
theorem dwr_wk(N:Rn m σD1 (σD1.take m) id (Lq m σD1))(hm:m<=σD1.length){d1 d2:D}(h:jk m d1 d2):cO σD1 (σD1.take m) id (Lq m σD1) d1 d2:=λM j w v R l=>by
 have p:(σD1.take m).length=m:=by simp_all
 have s:=h σD1 (σD1.take m) M j w v (λb i a u=>⟨a,by grind,rfl⟩) l;have e:mN (σD1.take m).length id M=cz M m:=by rw[p];rfl
 rw[e];exact s.sub (λb a i=>⟨a,i,rfl⟩) (λ_ _ h=>h) (λc h=>⟨.inl h,rfl⟩) (λc f T x h=>⟨f,h,rfl⟩)
theorem frz_ok{pre al:TA}{σ:TH}{alD j:AL}{σD:ae}(R0:Ref al σ alD σD)(K:Ref (pre++al) σ1 j σD1)(he:Ext σ σ1)(O:(σ1.take σ.length).all (okB σ.length)=true) :
  ∃E G,nX σ.length j σD1 E G/\Ref (pre.map (λp=>(p.1,zp σ.length σ1 p.2))++al) (σ1.take σ.length) E G/\Ext σ (σ1.take σ.length):=by
 have hm:σ.length<=σ1.length:=by
  rcases qG σ1.length σ.length with s | ad
  ·obtain ⟨T,e,_⟩:=he σ1.length _ (cT s)
   simp_all
  omega
 have aa:σ.length<=σD1.length:=by rw[K.hh.len];exact hm
 have U:Ext σ (σ1.take σ.length):=λb blk u=>by
  obtain ⟨T,l,L⟩:=he b blk u
  grind
 have N:=Wz K.hh hm O;have z:∀t,∃A,∀x p,dR t (pre.map (λp=>(p.1,zp σ.length σ1 p.2))++al)=some (x,p)->GW (pre.map (λp=>(p.1,zp σ.length σ1 p.2))++al) (σ1.take σ.length) x/\∃y,lk t j=some y/\cO σD1 (σD1.take σ.length) id (Lq σ.length σD1) y A/\RR x A:=by
  intro t;cases ht:dR t (pre.map (λp=>(p.1,zp σ.length σ1 p.2))++al) with
  |none=>simp_all
  |some q=>
   obtain ⟨x,p⟩:=q;have:∃A,GW (pre.map (λp=>(p.1,zp σ.length σ1 p.2))++al) (σ1.take σ.length) x/\∃y,lk t j=some y/\cO σD1 (σD1.take σ.length) id (Lq σ.length σD1) y A/\RR x A:=by
    rcases YE ht with ⟨x0,l,rfl⟩ | ⟨l,L⟩
    ·obtain ⟨y,W,X,h5⟩:=K.rg t x0 p l;obtain ⟨A,h6,h7,h8⟩:=YZ K.hh hm N.toRn X h5;exact ⟨A,h8,y,W,h6,h7⟩
    ·obtain ⟨y,W,X,_⟩:=K.rg t x p l;obtain ⟨_,_,_,h5⟩:=R0.rg t x p L;obtain ⟨A,h6,h7⟩:=RR_wk X h5;exact ⟨A,h5.mono U _,y,W,dwr_wk N.toRn aa h6,h7⟩
   simp_all
 refine ⟨(pre.map (λp=>(p.1,zp σ.length σ1 p.2))++al).map λp=>(p.1,Classical.choose (z p.1)),σD1.take σ.length,nX.rn N (λb u=>u.1) (λt d h=>?_),⟨⟨?_,λb blk u=>?_,λb w cs u p hp=>?_⟩,λt x p h=>?_⟩,U⟩
 ·obtain ⟨⟨x,p,W⟩,rfl⟩:=Au (f:=λt=>Classical.choose (z t)) h
  grind
 ·simp_all
 ·have s:b<σ.length:=by grind
  rw[yBt s] at u;obtain ⟨ob,l,L⟩:=K.hh.hp b blk u
  grind
 ·have s:b<σ.length:=by grind
  have ab:=u;rw[yBt s] at u;obtain ⟨l,L⟩:=K.hh.hg b w cs u p hp;refine ⟨?_,L⟩;have hk:okB σ.length (.cells w cs)=true:=fE.1 O _ (vB ab);have hk:=fE.1 hk p hp;have bt:∀{b:Nat},Nat.blt b σ.length=true->b<σ.length:=λh=>qK.mp h;cases M:p.2 with
  |own i b v n=>rw[M] at l hk;obtain ⟨blk,Z,g2⟩:=l;exact ⟨blk,nM (bt hk) Z,g2⟩
  |op i b v n k a o=>rw[M] at l hk;obtain ⟨blk,Z,g2⟩:=l;exact ⟨blk,nM (bt hk) Z,g2⟩
  |os i b v n lo len=>rw[M] at l hk;obtain ⟨blk,Z,g2⟩:=l;exact ⟨blk,nM (bt hk) Z,g2⟩
  |ap b off len sz k=>rw[M] at hk;show b<_;rw[km];have:=bt hk;omega
  |Cj g xs=>rw[M] at hk;show xs.all (CV.low _)=true;rw[km,show min σ.length σ1.length=σ.length by omega];exact hk
  |d x=>rw[M] at hk;show x.low _=true;rw[km,show min σ.length σ1.length=σ.length by omega];exact hk
  |_=>exact True.intro
 ·obtain ⟨l,y,L,W,X⟩:=yBQ (z t) x p h;exact ⟨_,Ft (f:=λt=>Classical.choose (z t)) ⟨x,p,h⟩,X,l⟩
theorem tj{h:JH}{md:List Nat}{pre al:TA}{σ:TH}{alD a:AL}{σD:ae}{x:nO h.pl}(y:Ref al σ alD σD)(l:Ref (pre++al) σ1 a σD1)(p:Ext σ σ1)(j:zu h md al σ (pre++al) σ1=some x) :
  ∃i au b f,nX σ.length a σD1 b f/\Ref (i++al) au b f/\Ext σ au/\Jo h md al σ (i++al) au=some x:=by
 unfold zu at j;split at j
 ·rename_i s;obtain ⟨b,f,A,E,G⟩:=frz_ok y l p s;rw[show (pre++al).length-al.length=pre.length by simp_all,Sd] at j
  grind
 ·refine ⟨pre,σ1,a,σD1,nX.refl ?_,l,p,j⟩;rw[l.hh.len];rcases qG σ1.length σ.length with u | z
  ·obtain ⟨v,e,_⟩:=p σ1.length _ (cT u)
   simp_all
  omega
end
end Go.Abs
end
