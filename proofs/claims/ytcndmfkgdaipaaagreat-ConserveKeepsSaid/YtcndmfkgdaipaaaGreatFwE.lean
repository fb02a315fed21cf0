/- DfwPg, DfwPh, DfwPx, DfwPi, DfwPj, DfwPk, DfwPw, DfwMv, DfwSc -/
import Derived.Test.YtcndmfkgdaipaaaGreatFwD
import Derived.ScopeJumps
set_option linter.all false
section
namespace Go.Abs
noncomputable section
variable[Gl][Y:Ty]
variable{P:Program}{n:Nat}{alD:AL}{σ σ1:TH}{σD σD1:ar}{o:lm}{Q:TV->TH->Bool->List Nat->Prop}{rd:aP->Option TV}{S:sV}{hint:Nat}{R:Type}{k:KO R}{r:R}{orc:wK}
abbrev kK(P:Program)(orc:wK)(n:Nat)(alD:AL)(σ:TH)(σD:ar)(o:lm)(k:KO R)(r:R):Prop:=dq P orc n alD σ σD o (λv σ1 rs wr=>k v σ1 rs wr=some r)
theorem Bz{cs:List TC}{ds:List D}(h:ds=cs.map TC.er):RB (.cells 0 (cs.map λc=>(0,c))) (.cells ds):=by grind [RB,TB.er,Function.comp_def]
theorem Fh{cs:List TC}(g:∀x∈cs,GC σ x):∀w a,TB.cells 0 (cs.map λc=>(0,c))=.cells w a->∀p∈a,GC σ p.2/\p.1<=w:=by simp_all
theorem tbox_ok{x:aP}(e:dy σ alD rd)(H:RH σ σD)(h:gE P S hint (.box x) rd σ k=some r):kK P orc n alD σ σD (.box x) k r:=by
 simp only[gE] at h;split at h
 ·rename_i v f;obtain ⟨d,i,j,l⟩:=e _ _ f;split at h
  ·rename_i b a;obtain ⟨p,s,_⟩:=qS a j;refine dq.new (v:=.c (.d (.ptr σ.length 0 b.length))) (d:=.ptr σ.length 0 b.length) (ob:=.cells (b.map TC.er)) (op_box i p (by rw[H.len,wj]) rfl) (Or.inr rfl) ?_ H (Bz rfl) (Fh (vS a l)) h;show D.low _ _=true;simp[D.low]
  simp_all
 simp_all
theorem Ua{z:List D}(H:RH σ σD)(h:gE P S hint (.alloc z) rd σ k=some r):kK P orc n alD σ σD (.alloc z) k r:=by
 simp only[gE] at h;split at h
 ·rename_i a;have e:(z.map λc=>((0:Nat),TC.d c))=(z.map TC.d).map λc=>(0,c):=by simp
  rw[e] at h;refine dq.new (v:=.c (.d (.ptr σ.length 0 z.length))) (d:=.ptr σ.length 0 z.length) (ob:=.cells z) (MG (by rw[H.len]) rfl) (Or.inr rfl) ?_ H (Bz (by simp[TC.er,Function.comp_def])) (Fh (JZ a)) h;show D.low _ _=true;simp[D.low]
 simp_all
theorem Vp{z:List D}{ps:List (Nat×Nat×aP)}(b:dy σ alD rd)(H:RH σ σD)(h:gE P S hint (.build z ps) rd σ k=some r):kK P orc n alD σ σD (.build z ps) k r:=by
 simp only[gE] at h;split at h
 ·rename_i e f a;obtain ⟨ds,i,j,l⟩:=FE b a (aJ.ds z) (JZ f);exact dq.pure (v:=.agg e) (WV i) ⟨ds,rfl,j⟩ l H h
 simp_all
theorem ri{i b m:Nat}{l:List (TT i)}(hm:m=l.length):GC (σ++[TB.row i l 0 0]) (.own i σ.length 0 m):=by
 refine ⟨_,by rw[OG (cX _),yCl];rfl,λj a f h e=>?_⟩
 grind
theorem Ws:∀{cs:List TC},Td cs=true->∀y∈cs,y≠.any:=by
 intro cs;induction cs with
 |nil=>simp_all
 |cons x cs ih=>
  intro h y a;simp only[Td,bN,iU] at h
  grind [isAny]
theorem OX{es len:Nat}{z:List D}{ps:List (Nat×Nat×aP)}(x:dy σ alD rd)(H:RH σ σD)(h:gE P S hint (.js es len z ps) rd σ k=some r):kK P orc n alD σ σD (.js es len z ps) k r:=by
 simp only[gE] at h;split at h
 ·split at h
  ·rename_i f i a;obtain ⟨ds,p,s,y⟩:=FE x a (aJ.ds (uf len z)) (ID i len);split at h
   rotate_left
   ·simp at h
   rename_i u;have e:ds=f.map TC.er:=s.eq (Ws u);refine dq.new (v:=.c (.d (.sl σ.length 0 len es f.length))) (d:=.sl σ.length 0 len es ds.length) (blk:=.cells 0 (f.map λc=>(0,c))) (ob:=.cells ds) (HI p (by rw[H.len]) rfl) (Or.inr ?_) ?_ H (Bz e) (Fh y) h
   ·rw[e,wj];rfl
   ·show D.low _ _=true;simp[D.low]
  simp_all
 split at h
 ·rename_i f i a;simp only[bN] at i;have E:=cY i.1;subst E;split at h
  ·rename_i l j;obtain ⟨ds,p,s,y⟩:=FE x a (aJ.ds (uf len z)) (ID i.2 len);obtain ⟨G,A⟩:=Y_ j s;refine dq.new (v:=.c (.own hint σ.length 0 len)) (d:=OS (aw hint) σ.length len) (ob:=OB (enc hint) l) (jO p G A (sE hint) rfl (by rw[H.len]) rfl) (Or.inr rfl) (ri (b:=0) A.symm) H rfl (λw f e=>by simp at e) h
  simp_all
 simp_all
theorem Vk{x:aP}(e:dy σ alD rd)(H:RH σ σD)(h:gE P S hint (.mT x) rd σ k=some r):kK P orc n alD σ σD (.mT x) k r:=by
 simp only[gE] at h;split at h
 ·rename_i a;obtain ⟨b,g⟩:=e.c a (by simp);exact dq.one h (LP b) rfl g H
 ·rename_i a;obtain ⟨b,g⟩:=e.c a (by simp);exact dq.one h (UZ b) rfl g H
 ·rename_i a;obtain ⟨b,g⟩:=e.c a (by simp);exact dq.one h (Ib b) rfl g H
 ·rename_i a;obtain ⟨b,g⟩:=e.c a (by simp);exact dq.one h (VG b) rfl g H
 ·rename_i a;obtain ⟨b,g⟩:=e.c a (by simp);exact dq.one h (LP b) rfl g H
 ·rename_i a;obtain ⟨b,g⟩:=e.c a (by simp);exact dq.one h (Ib b) rfl g H
 simp_all
theorem UM{j:Nat}{neg:Bool}{x:aP}(f:dy σ alD rd)(H:RH σ σD)(h:gE P S hint (.iZ j neg x) rd σ k=some r):kK P orc n alD σ σD (.iZ j neg x) k r:=by
 simp only[gE] at h;split at h
 ·rename_i y e;obtain ⟨a,g⟩:=f.c e (by simp);split at h
  ·rename_i i;exact dq.one h (fy a i) (by cases neg <;> rfl) rfl H
  ·rename_i i;exact dq.one h (fy a i) (by cases neg <;> rfl) rfl H
  simp_all
 ·rename_i e;obtain ⟨a,g⟩:=f.c e (by simp);split at h
  ·exact dq.one h (fy (b:=false) a rfl) (by cases neg <;> rfl) rfl H
  simp_all
 ·rename_i e;obtain ⟨a,g⟩:=f.c e (by simp);split at h
  ·exact dq.one h (fy (b:=false) a rfl) (by cases neg <;> rfl) rfl H
  simp_all
 simp_all
theorem tfld_ok{off:Nat}{x:aP}(e:dy σ alD rd)(H:RH σ σD)(h:gE P S hint (.Ik off x) rd σ k=some r):kK P orc n alD σ σD (.Ik off x) k r:=by
 simp only[gE] at h;split at h
 ·rename_i a;obtain ⟨b,g⟩:=e.c a (by simp);exact dq.one h (Kw b) rfl g H
 ·rename_i a;obtain ⟨b,g⟩:=e.c a (by simp);exact dq.one h (op_fldf b) rfl True.intro H
 ·rename_i a;obtain ⟨b,g⟩:=e.c a (by simp);exact dq.one h (Kw b) (by grind [TC.er]) g H
 simp_all
theorem op_idxR{len j es b off sz:Nat}{x i:aP}{q:Int}(h:lx alD x=some (.ptr b off sz))(a:lx alD i=some (I q))(hk:Cz q len=some j):eQ P orc n alD σD (.idx es (some len) x i) (.ptr b (off+j * es) sz) σD []:=λe f=>by grind [bm,ui,ff]
theorem op_good{i b v q:Nat}{k:Int}{a:TT i}{l:List (TT i)}{h f:Nat}(p:σ[b]? = some (.row i l h f))(s:aB l k=some a):GC σ (.op i b f l.length k a 0):=by
 refine ⟨_,p,λj z u x e=>?_⟩;simp only[TB.row.injEq] at e;obtain ⟨rfl,y,rfl,rfl⟩:=e;cases y;refine ⟨cX _,λ_=>⟨l,?_,rfl,s⟩⟩;unfold fA;split
 ·rfl
 omega
theorem op_idxG{g len es:Nat}{x i:aP}{q z a:Int}{l:List Int}(h:lx alD x=some (.c (.V_ g)))(f:lx alD i=some (I q))(b:aB (z::l) q=some a)(j:Gl.tab g=(z::l).map λz=>.int .i64 z)(p:(z::l).length=len) :
  eQ P orc n alD σD (.idx es (some len) x i) (.c (.cK ((Gl.tab g).map .lit) (q.toNat * es))) σD []:=λe s=>by
 obtain ⟨u,v,y⟩:=pA b;have A:Cz q len=some q.toNat:=by unfold Cz;simp_all
 grind [bm,ui,ff]
theorem tidx_ok{es:Nat}{len:Option Nat}{x i:aP}(s:dy σ alD rd)(H:RH σ σD)(h:gE P S hint (.idx es len x i) rd σ k=some r):kK P orc n alD σ σD (.idx es len x i) k r:=by
 cases len with
 |none=>
  simp only[gE] at h;split at h
  ·rename_i j l N u y;obtain ⟨A,g⟩:=s.c u (by simp);split at h
   ·rename_i q p f;have f:=cY f;subst f;obtain ⟨a,G,hk⟩:=Bg h;exact dq.one hk (Yk A (s.int y p) G (sE j a)) rfl True.intro H
   simp_all
  ·rename_i j b v m N u y;obtain ⟨A,g⟩:=s.c u (by simp);split at h
   ·rename_i q j' l lv cv p f E;have f:=cY f;subst f;split at h
    ·rename_i l' X L;obtain ⟨a,G,hk⟩:=Bg h;obtain ⟨rfl,rfl⟩:=rI H g E X;have K:=AU H E L;rw[E] at K;simp only[au,TB.row.injEq,heq_eq_eq,true_and,Oa] at K;subst K;exact dq.one hk (Qw (sE _) A (H.row E) rfl (s.int y p) G) rfl (op_good (v:=0) (q:=0) E G) H
    simp_all
   simp_all
  ·rename_i b off ln Z sz N u y;obtain ⟨A,g⟩:=s.c u (by simp);split at h
   ·rename_i q w cs p E;obtain ⟨ds,U,W,h4,_⟩:=H.cells E;split at h
    ·rename_i j O T;simp only[bN] at O;have e1:=cY O.1;have e2:=cY O.2;subst e2;exact dq.one h (op_idxS (cs:=ds) A (s.int y p) (Pc U (by omega)) T rfl) rfl g H
    simp_all
   simp_all
  simp_all
 |some len=>
  cases i with
  |k i=>
   simp only[gE] at h;split at h
   ·rename_i b off sz q u p;obtain ⟨A,g⟩:=s.c u (by simp);split at h
    ·rename_i j T;have y:lx alD (.k i)=some (I q):=by
      have:=RY (d:=i) p (by
       unfold HY at p ⊢;split at p
       ·grind [kR]
       ·exact Or.inr rfl)
      grind [lx]
     exact dq.one h (op_idxR A y T) rfl g H
    simp_all
   simp_all
  |t i=>
   simp only[gE] at h;split at h
   ·rename_i b off sz N u y;obtain ⟨A,g⟩:=s.c u (by simp);split at h
    ·rename_i q w cs p f E;have f:=cY f;subst f;obtain ⟨ds,U,W,h4,_⟩:=H.cells E;split at h
     ·rename_i l hs L;simp only[bN] at hs;obtain ⟨a,G,hk⟩:=Bg h;have h5:=IN L ((W.drop off).take len);have e:l.length=len:=by
       have:=Dr List.length h5;have q1:=cY hs.1;have q2:=CY hs.2
       grind
      have M:b<σ.length:=(gC.1 E).1;exact dq.one hk (op_idxA A (s.int y p) G e rfl) rfl M H
     simp_all
    simp_all
   ·rename_i g N u y;obtain ⟨A,_⟩:=s.c u (by simp);split at h
    ·rename_i q z l p f L;have f:=cY f;subst f;split at h
     ·rename_i e;have e:=cY e;obtain ⟨a,G,hk⟩:=Bg h;exact dq.one hk (op_idxG A (s.int y p) G (Yo L) e) rfl rfl H
     simp_all
    simp_all
   simp_all
theorem op_slcO{α:Type}{f:α->List C}{aw:Nat}{x:aP}{lo v:Option aP}{b:Nat}{l r:List α}{i j:Int}(L:∀a,(f a).length=aw)(h:lx alD x=some (OS aw b l.length))(A:σD[b]? = some (OB f l))(p:(match lo with | none=>some (I 0) | some o=>lx alD o)=some (I i))
  (s:(match v with | none=>some (I l.length) | some o=>lx alD o)=some (I j)) (y:slice? l i j=some r):eQ P orc n alD σD (.Wf aw x lo v) (.sl b (0+i.toNat * aw) (j.toNat-i.toNat) aw (l.length * aw)) σD []:=λe z=>by
 unfold slice? at y;split at y
 ·rename_i E;have u:od σD b (l.length * aw)=some ((l.flatMap f).map .c):=Pc A (by
   rw[wj];clear A h p s y E;induction l with
   |nil=>simp
   |cons a l ih=>grind)
  have G:oS e l.length l.length v=some j.toNat:=by
   cases v with
   |none=>simp only[au,I,D.c.injEq,C.lit.injEq,Value.int.injEq,true_and] at s;grind [oS]
   |some o=>
    simp only at s;simp only[oS,ff z s,ui,Option.bind_some,Sn]
    grind
  have K:oS e 0 j.toNat lo=some i.toNat:=by
   cases lo with
   |none=>simp only[au,I,D.c.injEq,C.lit.injEq,Value.int.injEq,true_and] at p;grind [oS]
   |some o=>
    simp only at p;simp only[oS,ff z p,ui,Option.bind_some,Sn]
    grind
  simp only[bm,ff z h,u,G,K,Option.bind_eq_bind,Option.bind_some,if_true,Option.orElse]
 simp_all
theorem tslc_ok{es:Nat}{x:aP}{lo E:Option aP}(y:dy σ alD rd)(H:RH σ σD)(h:gE P S hint (.Wf es x lo E) rd σ k=some r):kK P orc n alD σ σD (.Wf es x lo E) k r:=by
 simp only[gE] at h;split at h
 ·rename_i j l L;obtain ⟨M,g⟩:=y.c L (by simp);split at h
  ·rename_i u v f N O;have f:=cY f;subst f;split at h
   ·rename_i z G p s;obtain ⟨a,K,hk⟩:=Bg h;refine dq.one hk (op_slc (i:=z) (j:=G) (sE j) M ?_ ?_ K) rfl True.intro H
    ·cases lo with
     |none=>grind [kR]
     |some o=>exact y.int N p
    ·cases E with
     |none=>grind [kR]
     |some o=>exact y.int O s
   simp_all
  simp_all
 ·rename_i j b Z n L;obtain ⟨M,g⟩:=y.c L (by simp);split at h
  ·rename_i X l lv cv f T;have f:=cY f;subst f;split at h
   ·rename_i u v A N O;obtain ⟨rfl,rfl⟩:=rI H g T A;split at h
    ·rename_i z G p s;obtain ⟨a,K,hk⟩:=Bg h;have U:=H.row T;refine ⟨.c (.os X b Z l.length z.toNat (G.toNat-z.toNat)),σ,false,[],_,σD,op_slcO (l:=l) (i:=z) (j:=G) (sE X) M U ?_ ?_ K,.inr rfl,?_,H,Ext.refl σ,λ_=>rfl,λ_=>⟨rfl,rfl,rfl⟩,hk⟩
     ·cases lo with
      |none=>grind [kR]
      |some o=>exact y.int N p
     ·cases E with
      |none=>grind [kR]
      |some o=>exact y.int O s
     ·refine ⟨_,T,λj l' aa ab e=>?_⟩;simp only[TB.row.injEq] at e;obtain ⟨rfl,W,rfl,rfl⟩:=e;cases W;have ad:=cY A;unfold slice? at K
      grind
    simp_all
   simp_all
  simp_all
 simp_all
theorem Ul(H:RH σ σD)(h:gE P S hint .vq rd σ k=some r):kK P orc n alD σ σD .vq k r:=by simp only[gE] at h;exact dq.new (v:=.c (.d (.mp σ.length))) (d:=.mp σ.length) (blk:=.mp (hint / 2) (Nat.beq (hint % 2) 1) [] 0) (ob:=MB (Lm (hint / 2) (Nat.beq (hint % 2) 1)) []) (Xk (g:=Lm (hint / 2) (Nat.beq (hint % 2) 1)) (by rw[H.len]) rfl) (Or.inr rfl) (by show D.low _ _=true;simp[D.low]) H rfl (λw a e=>by simp at e) h
theorem XV(j:Nat)(a:TT j):((exp j a).headD (.d (.c (.lit undef)))).er=.c ((enc j a).headD (.lit undef)):=by
 have h:=vF j a;cases b:exp j a with
 |nil=>
  rw[b] at h;cases e:enc j a with
  |nil=>rfl
  |cons c f=>simp_all
 |cons x i=>
  rw[b] at h;cases e:enc j a with
  |nil=>simp_all
  |cons c f=>simp_all
theorem mpV_ok(j:Nat)(st:Bool)(a:TT j):RT (mpV j st a) (Lm j st a)/\GV σ (mpV j st a):=by
 cases st with
 |true=>exact ⟨⟨_,rfl,by rw[<-vF];exact aJ.er _⟩,uT j a⟩
 |false=>
  refine ⟨.inr ?_,?_⟩
  ·rw[XV];rfl
  ·show GC σ ((exp j a).headD (.d (.c (.lit undef))));cases e:exp j a with
   |nil=>rfl
   |cons x b=>grind [uT]
theorem LZ{ok e:Bool}{v:TV}{d:D}(h:RT v d)(g:GV σ v)(f:∀xs,v≠.aS xs):RT (Ly ok v e) (if ok then .aS [d,B e] else d)/\GV σ (Ly ok v e):=by
 cases ok with
 |false=>exact ⟨h,g⟩
 |true=>
  cases v with
  |aS xs=>simp_all
  |c x => exact ⟨⟨_, rfl, .cons ⟨x, rfl, h⟩ (.cons ⟨_, rfl, .inr rfl⟩ .nil)⟩, λp a y b => by
    rcases gq.1 a with rfl | a
    ·rcases gq.1 b with rfl | b
     ·exact g
     simp_all
    ·rcases gq.1 a with rfl | a
     ·rcases gq.1 b with rfl | b
      ·rfl
      simp_all
     simp_all⟩
  |agg xs=>exact ⟨⟨_,rfl,.cons h (.cons ⟨_,rfl,.inr rfl⟩ .nil)⟩,λp a y b=>by
    rcases gq.1 a with rfl | a
    ·exact g y b
    ·rcases gq.1 a with rfl | a
     ·rcases gq.1 b with rfl | b
      ·rfl
      simp_all
     simp_all⟩
theorem mpV_nt(j:Nat)(st:Bool)(a:TT j):∀xs,mpV j st a≠.aS xs:=by intro xs h;cases st <;> simp[mpV] at h
theorem ofD_nt(d:D):∀xs,HY d≠.aS xs:=by intro xs h;cases d <;> simp[HY] at h
theorem ofD_okg{d:D}(h:d.low 0=true):RT (HY d) d/\GV σ (HY d):=by
 have one:∀d:D,d.low 0=true->RT (.c (.d d)) d/\GV σ (.c (.d d)):=λd h=>⟨.inr rfl,D.eJ (Px _) h⟩;cases d with
 |agg ds=>simp only[D.low] at h;refine ⟨⟨ds,rfl,aJ.ds ds⟩,λx a=>?_⟩;rw[gD] at a;obtain ⟨y,b,rfl⟩:=a;exact EA h y b
 |_=>exact one _ h
theorem Xy{R:Type}{r:R}:∀{a:List Nat}{n:Nat}{f:Nat->Option R},M_ a n f=some r->f n=some r:=by
 intro a;induction a with
 |nil=>intro n f h;simp[M_] at h
 |cons g a ih=>
  intro n f h;simp only[M_] at h;cases e:Nat.beq n g with
  |true=>rw[e] at h;rw[cY e];exact h
  |false=>rw[e] at h;exact ih h
theorem splC_ok{R:Type}{r:R}:∀{cs:List CC}{x:aS cs}{k:List TC->Option R},splC cs x k=some r->k (uO cs x)=some r:=by
 intro cs;induction cs with
 |nil=>intro x k h;exact h
 |cons c cs ih=>
  intro x k h;cases c with
  |fk a=>exact ih (Xy h)
  |_=>exact ih h
theorem lkS_ok{R:Type}{r:R}{hint j:Nat}{st:Bool}{a:TT j}{k:TV->Option R}(h:lkS hint j st a k=some r):k (mpV j st a)=some r:=by
 unfold lkS at h;split at h
 ·exact splC_ok h
 ·exact h
theorem QP{kind:TypeDesc}{zero:D}{m A:aP}{ok:Bool}(i:dy σ alD rd)(H:RH σ σD)(h:gE P S hint (.lookup kind zero m A ok) rd σ k=some r):kK P orc n alD σ σD (.lookup kind zero m A ok) k r:=by
 simp only[gE] at h;split at h
 ·rename_i T b U L hk M;obtain ⟨E,g⟩:=i.c L (by simp);split at h
  ·rename_i j st l v x N G;obtain ⟨O,K,p⟩:=H.hp b _ N;have p:O=MB (Lm j st) l:=p;subst p;cases f:cN l x with
   |none=>rw[f] at h;obtain ⟨s,u⟩:=ofD_okg (σ:=σ) M;obtain ⟨y,z⟩:=LZ (ok:=ok) (e:=false) s u (ofD_nt zero);exact dq.pure (Zv E K (i.int hk G) f rfl) y z H h
   |some a=>rw[f] at h;obtain ⟨s,u⟩:=mpV_ok (σ:=σ) j st a;obtain ⟨y,z⟩:=LZ (ok:=ok) (e:=true) s u (mpV_nt j st a);exact dq.pure (op_look E K (i.int hk G) f rfl) y z H (lkS_ok (k:=λv=>k (Ly ok v true) σ false []) h)
  ·simp at h
 ·simp at h
theorem mkM_ok{j:Nat}{st:Bool}{v:TV}{d:D}{a:TT j}(h:mkM j st v=some a)(r:RT v d):d=Lm j st a:=by
 unfold mkM at h;split at h
 ·rename_i i;obtain ⟨ds,rfl,hd⟩:=r;obtain ⟨f,b⟩:=BZ h;rw[hd.eq b,f];rfl
 ·rename_i x;obtain ⟨f,b⟩:=BZ h;have:=RT.c1 (b x (ql ..)) r;subst this;cases e:enc j a with
  |nil=>simp_all
  |cons c l=>grind [Lm]
 simp_all
theorem tupd_ok{kind:TypeDesc}{m A x:aP}(s:dy σ alD rd)(H:RH σ σD)(h:gE P S hint (.tH kind m A x) rd σ k=some r):kK P orc n alD σ σD (.tH kind m A x) k r:=by
 simp only[gE] at h;split at h
 ·rename_i U b W v E hk G;obtain ⟨K,g⟩:=s.c E (by simp);obtain ⟨d,L,M,X⟩:=s _ _ G;split at h
  ·rename_i j st l R_ i u N;obtain ⟨O,y,z⟩:=H.hp b _ u;have z:O=MB (Lm j st) l:=z;subst z;split at h
   ·rename_i a T;have:=mkM_ok T M;subst this;have f:BE (.mp j st l R_) (.mp j st (jZ l i a) (R_+1)):=⟨_,_,_,_,rfl,by omega,λe=>by omega⟩;refine ⟨_,_,_,_,.aS [],σD.set b (MB (Lm j st) (jZ l i a)),op_upd K y (s.int hk N) L rfl,rt0,?_,H.set u f rfl (λw Z e=>by simp at e),Ext.set u f,λ_=>?_,λe=>by grind [sQ],h⟩
    ·intro p hp;grind
    ·simp only[jt,List.all_cons,List.all_nil,Np];rw[y,Hs y];rfl
   simp_all
  simp_all
 simp_all
theorem tdel_ok{kind:TypeDesc}{m v:aP}(x:dy σ alD rd)(H:RH σ σD)(h:gE P S hint (.del kind m v) rd σ k=some r):kK P orc n alD σ σD (.del kind m v) k r:=by
 simp only[gE] at h;split at h
 ·rename_i G b K y hk;obtain ⟨z,g⟩:=x.c y (by simp);split at h
  ·rename_i j st l R_ i f A;obtain ⟨E,s,u⟩:=H.hp b _ f;have u:E=MB (Lm j st) l:=u;subst u;have a:BE (.mp j st l R_) (.mp j st (Ex l i) (R_+1)):=⟨_,_,_,_,rfl,by omega,λe=>by omega⟩;refine ⟨_,_,_,_,.aS [],σD.set b (MB (Lm j st) (Ex l i)),op_del z s (x.int hk A) rfl,rt0,?_,H.set f a rfl (λw L e=>by simp at e),Ext.set f a,λ_=>?_,λe=>by grind [sQ],h⟩
   ·intro p M;grind
   ·simp only[jt,List.all_cons,List.all_nil,Np];rw[s,Hs s];rfl
  simp_all
 simp_all
theorem tlen_ok{x:aP}(f:dy σ alD rd)(H:RH σ σD)(h:gE P S hint (.len x) rd σ k=some r):kK P orc n alD σ σD (.len x) k r:=by
 simp only[gE] at h;split at h
 ·rename_i i l a;obtain ⟨e,g⟩:=f.c a (by simp);exact dq.one h (YO e) rfl rfl H
 ·rename_i a;obtain ⟨e,g⟩:=f.c a (by simp);exact dq.one h (op_len0 e) rfl rfl H
 ·rename_i i b v q a;obtain ⟨e,g⟩:=f.c a (by simp);split at h
  ·rename_i j l z A p;split at h
   ·rename_i s;obtain ⟨rfl,rfl⟩:=rI H g p s;exact dq.one h (PN (sE _) e (H.row p) rfl) rfl rfl H
   simp_all
  simp_all
 ·rename_i b off E G sz a;obtain ⟨e,g⟩:=f.c a (by simp);split at h
  ·rename_i w cs p;obtain ⟨ds,u,K,L,_⟩:=H.cells p;split at h
   ·rename_i y;have M:=cY y;exact dq.one h (op_lenS (cs:=ds) e (Pc u (by omega)) rfl) rfl rfl H
   simp_all
  simp_all
 simp_all
theorem tmk_ok{es a:Nat}{z:List D}{x y:aP}(j:dy σ alD rd)(H:RH σ σD)(h:gE P S hint (.mk es a z x y) rd σ k=some r):kK P orc n alD σ σD (.mk es a z x y) k r:=by
 simp only[gE] at h;split at h
 ·rename_i M u v f L p s;simp only[bN] at f;have A:=cY f.1;subst A;split at h
  ·rename_i U N E i;obtain ⟨l,G,hk⟩:=Bg h;obtain ⟨O,_⟩:=BZ L;have K:z=(enc hint M).map .c:=by rw[<-O];simp[TC.er,Function.comp_def]
   refine dq.new (v:=.c (.own hint σ.length 0 l.length)) (d:=OS (aw hint) σ.length l.length) (ob:=OB (enc hint) l) (op_mk (j.int p E) (j.int s i) K G f.2.1 (by rw[H.len]) rfl) (Or.inr rfl) (ri (b:=0) rfl) H rfl (λw T e=>by simp at e) hk
  simp_all
 ·rename_i v f L p s;simp only[bN] at f;have A:=cY f.1;subst A;split at h
  ·rename_i N i;obtain ⟨l,G,hk⟩:=Bg h;refine dq.new (v:=.c (.own hint σ.length 0 l.length)) (d:=OS (aw hint) σ.length l.length) (ob:=OB (enc hint) l) (op_mk0 (j.int p rfl) (j.int s i) G f.2.1 (by rw[H.len]) rfl) (Or.inr rfl) (ri (b:=0) rfl) H rfl (λw T e=>by simp at e) hk
  simp_all
 simp_all
theorem tapp_ok{es p:Nat}{s x:aP}(A:dy σ alD rd)(H:RH σ σD)(h:gE P S hint (.append es p s x) rd σ k=some r):kK P orc n alD σ σD (.append es p s x) k r:=by
 simp only[gE] at h;split at h
 ·rename_i i b v q y hs E;obtain ⟨G,g⟩:=A.c hs (by simp);obtain ⟨d,K,L,M⟩:=A _ _ E;split at h
  ·rename_i j l Z cv u;split at h
   ·rename_i l' m f hl N;simp only[bN] at f;have O:=cY f.2.1;subst O;obtain ⟨rfl,rfl⟩:=rI H g u f.1;have z:=AU H u hl;rw[u] at z;simp only[au,TB.row.injEq,heq_eq_eq,true_and,Oa] at z;subst z;obtain ⟨X,ha,hk⟩:=Bg h;have T:BE (.row j l Z cv) (.row j X (Z+1) (cv+1)):=⟨_,_,_,rfl,by omega,by omega,λe=>by omega,λe=>by omega⟩;refine ⟨.c (.own j b (Z+1) X.length),_,true,[b],OS (aw j) b X.length,_,wC (sE j) G (H.row u) rfl K (Jh H N L M) ha f.2.2 rfl rfl,Or.inr rfl,?_,H.set u T rfl (λw cs e=>by simp at e),Ext.set u T,λe=>by simp at e,λe=>by grind [sQ],hk⟩;refine ⟨_,Hs u,λj' l' aa ab e=>?_⟩
    grind
   simp_all
  simp_all
 ·rename_i i b v q hs E;obtain ⟨G,_⟩:=A.c hs (by simp);obtain ⟨d,K,L,M⟩:=A _ _ E;split at h
  ·rename_i a l f N;simp only[bN] at f;have O:=cY f.1;subst O;split at h
   ·rename_i U;exact dq.new (v:=.c (.own i σ.length 0 (a::l).length)) (d:=OS (aw i) σ.length (a::l).length) (ob:=OB (enc i) (a::l)) (DZ G K (Jh H N L M) U f.2 (by rw[H.len]) rfl) (Or.inr rfl) (ri (b:=0) rfl) H rfl (λw cs e=>by simp at e) h
   simp_all
  simp_all
 ·rename_i i W hs E;obtain ⟨G,_⟩:=A.c hs (by simp);obtain ⟨d,K,L,M⟩:=A _ _ E;split at h
  ·rename_i f;simp only[bN] at f;have O:=cY f.1;subst O;rw[cM] at h;obtain ⟨X,ha,h⟩:=h;obtain ⟨U,e⟩:=uC ha;rw[e] at h;have N:EU i σ (.c (.sl i W))=some ([]++W):=by
    simp only[EU,fA,List.nil_append];split
    ·rfl
    omega
   exact dq.new (v:=.c (.own i σ.length 0 ([]++W).length)) (d:=OS (aw i) σ.length ([]++W).length) (ob:=OB (enc i) ([]++W)) (DZ G K (Jh H N L M) (Nat.ble_eq.mpr (by simp_all)) f.2 (by rw[H.len]) rfl) (Or.inr rfl) (ri (b:=0) rfl) H rfl (λw cs e=>by simp at e) h
  simp_all
 simp_all
theorem Is{es:Nat}{d s:aP}{y:TV}{i b lo len:Nat}{l:List (TT i)}{m:List (TT i)}{p u:Nat}(v:dy σ alD rd)(H:RH σ σD)(x:lx alD d=some (.sl b (0+lo * aw i) len (aw i) (l.length * aw i)))(z:rd s=some y)(hm:EU i σ y=some m)
  (a:σ[b]? = some (.row i l p u)) (f:lo+len<=l.length) (A:es=aw i) (h:k (.c (.d (I ((m.take len).length:Int)))) (σ.set b (.row i (cpL l m lo len) p (u+1))) false [b]=some r):kK P orc n alD σ σD (.copy es d s) k r:=by
 subst A;obtain ⟨L,E,G,K⟩:=v _ _ z;have j:BE (.row i l p u) (.row i (cpL l m lo len) p (u+1)):=⟨_,_,_,rfl,cX _,by omega,λ_=>Te f,λe=>by omega⟩;refine ⟨.c (.d (I ((m.take len).length:Int))),_,false,[b],_,_,op_copy (sE i) x (H.row a) f E (srcN_ok H hm G K) rfl,.inr rfl,rfl,H.set a j rfl (λw M e=>by simp at e),Ext.set a j,λ_=>?_,λe=>by grind [sQ],h⟩;simp only[jt,List.all_cons,List.all_nil,Np];rw[H.row a,Hs (H.row a)]
 grind [Ob.sz,eK,sE,Te]
theorem Xx{es:Nat}{d s:aP}(f:dy σ alD rd)(H:RH σ σD)(h:gE P S hint (.copy es d s) rd σ k=some r):kK P orc n alD σ σD (.copy es d s) k r:=by
 simp only[gE] at h;split at h
 ·rename_i i b v q y hd p;obtain ⟨u,g⟩:=f.c hd (by simp);split at h
  ·rename_i j l G K e;split at h
   ·rename_i E m a x z;simp only[bN] at a;obtain ⟨rfl,rfl⟩:=rI H g e a.1;obtain ⟨_,rfl⟩:=RQ x;exact Is (lo:=0) (len:=E.length) f H (by simpa[TC.er,OS] using u) p z e (by omega) (cY a.2) h
   simp_all
  simp_all
 ·rename_i i b v q lo len y hd p;obtain ⟨u,g⟩:=f.c hd (by simp);split at h
  ·rename_i j l G K e;split at h
   ·rename_i E m a x z;simp only[bN] at a;obtain ⟨rfl,rfl,A⟩:=os_row H g e a.1;obtain ⟨_,rfl⟩:=RQ x;exact Is f H u p z e A (cY a.2) h
   simp_all
  simp_all
 simp_all
theorem Of{x:aP}{i:Nat}(s:dy σ alD rd)(H:RH σ σD)(h:gE P S hint (.extract x i) rd σ k=some r):kK P orc n alD σ σD (.extract x i) k r:=by
 simp only[gE] at h;split at h
 ·rename_i E u;obtain ⟨d,j,⟨ds,rfl,l⟩,p⟩:=s _ _ u;split at h
  ·rename_i z a;obtain ⟨d,b,A,rfl,f⟩:=l.get _ _ a;exact dq.pure (v:=.agg z) (Ea j b) ⟨A,rfl,f⟩ (p _ (Bb a)) H h
  ·rename_i c a;obtain ⟨d,b,y,e,f⟩:=l.get _ _ a;simp only[yBT,Oa] at e;subst e;exact dq.pure (v:=.c c) (Ea j b) f (p _ (Bb a) c (by simp)) H h
  simp_all
 simp_all
theorem XH:∀{vs:List TV}{xs:List D}{ds:List D},vs.mapM (λv=>(match v with | .c (.d x)=>some x | _=>none))=some xs->fP vs ds->(∀v∈vs,GV σ v)->ds=xs/\D.low.cV σ.length xs=true:=by
 intro vs;induction vs with
 |nil=>intro xs ds h r _;simp only[List.mapM_nil] at h;cases h;cases r;exact ⟨rfl,rfl⟩
 |cons v vs ih=>
  intro xs ds h r g;cases r with
  |cons b r=>
   rw[Vw] at h;split at h
   ·rename_i x;cases a:vs.mapM (λv=>(match v with | .c (.d x)=>some x | _=>none)) with
    |none=>simp_all
    |some l=>rw[a] at h;cases h;obtain ⟨e,f⟩:=ih a r λv i=>g v (lI _ i);have j:=RT.c1 (by simp) b;subst e j;refine ⟨rfl,?_⟩;simp only[D.low.cV,f,Np];exact g _ (ql ..)
   simp_all
theorem cvOf_ok{σ:TH}{xs:List TC}{cs:List CV}{ds:List D}(h:xs.mapM Xp=some cs)(r:aJ RC xs ds)(g:∀x∈xs,GC σ x):ds=cs.map CV.er/\cs.all (CV.low σ.length)=true:=by
 induction r generalizing cs with
 |nil=>simp_all
 | @cons x d xs ds h1 r ih=>
  rw[Vw] at h;cases a:Xp x with
  |none=>simp_all
  |some c=>
   cases hs:xs.mapM Xp with
   |none=>simp_all
   |some f=>
    rw[a,hs] at h;cases h;obtain ⟨b,e⟩:=ih hs λy i=>g y (lI _ i);have j:=g x (ql ..);unfold Xp at a;split at a <;> cases a
    ·have:=RT.c1 (x:=.d _) (by simp) h1;subst this;exact ⟨by rw[b];rfl,by simp only[List.all_cons,e,Np];exact j⟩
    ·have:=RT.c1 (x:=.b _) (by simp) h1;subst this;exact ⟨by rw[b];rfl,by simp only[List.all_cons,e,Np];rfl⟩
    ·have:=RT.c1 (x:=.sl _ _) (by simp) h1;subst this;exact ⟨by rw[b];rfl,by simp only[List.all_cons,e,Np];rfl⟩
theorem XE{f:Fn}{first cap:List aP}(p:dy σ alD rd)(H:RH σ σD)(h:gE P S hint (.EL f first cap) rd σ k=some r):kK P orc n alD σ σD (.EL f first cap) k r:=by
 simp only[gE] at h;split at h
 ·rename_i a b z A;obtain ⟨ds,s,u,v⟩:=p.all z;obtain ⟨W,x,y,E⟩:=p.all A;split at h
  ·rename_i g X i;unfold fnaOf at i;split at i
   rotate_left
   ·grind
   rename_i Z xs;rw[cE] at i;obtain ⟨G,K,e⟩:=i;simp only[aX] at e;obtain ⟨rfl,rfl⟩:=e;cases u with
   |cons L M=>cases M;cases y;obtain ⟨N,rfl,O⟩:=L;obtain ⟨T,U⟩:=cvOf_ok K O (v _ (ql ..));subst T;exact dq.one h (SV s x) rfl U H
  split at h
  ·rename_i a' b' j l;obtain ⟨rfl,h7⟩:=XH j u v;obtain ⟨rfl,h8⟩:=XH l y E;refine dq.one h (SV s x) rfl ?_ H;show D.low _ _=true
   grind [D.low]
  simp_all
 simp_all
theorem YV{off:Nat}{m:Option Nat}{x:aP}(b:dy σ alD rd)(H:RH σ σD)(h:gE P S hint (.part off m x) rd σ k=some r):kK P orc n alD σ σD (.part off m x) k r:=by
 simp only[gE] at h;split at h
 ·rename_i s e;obtain ⟨d,f,⟨ds,rfl,i⟩,j⟩:=b _ _ e;split at h
  ·rename_i v a;obtain ⟨d,l,p⟩:=zT a i;exact dq.pure (op_part f l) p (qK a j) H h
  simp_all
 simp_all
theorem WM{len j es:Nat}{m:Option Nat}{x i:aP}{q:Int}{cs:List D}{d:D}(h:lx alD x=some (.agg cs))(b:lx alD i=some (I q))(hk:Cz q len=some j)(f:uq m cs (j * es)=some d):eQ P orc n alD σD (.Db es len m x i) d σD []:=λe a=>by simp[bm,ff a h,ff a b,ui,hk,f]
theorem mkTs_ok{i:Nat}:∀{xs:List TC}{l:List (TT i)},Ze i xs=some l->∀{cs:List C},xs.map TC.er=cs.map .c->(cs.map λc=>[c])=l.map (enc i):=by
 intro xs;induction xs with
 |nil=>
  intro l h cs b;simp only[Ze,au] at h;subst h;cases cs with
  |nil=>rfl
  |cons c cs=>simp at b
 |cons x xs ih=>
  intro l h cs b;simp only[Ze] at h;split at h
  ·rename_i a r j p;simp only[au] at h;subst h;cases cs with
   |nil=>simp at b
   |cons c cs=>
    simp only[ru,yBT] at b;obtain ⟨e,_⟩:=BZ j;simp only[ru,List.map_nil] at e;rw[b.1] at e;have s:[c]=enc i a:=by have u:([c]:List C).map D.c=(enc i a).map D.c:=e;have f:=Dr (List.map λd=>match d with | D.c c=>c | _=>default) u;simp only[Wd] at f;have v:((λd=>match d with | D.c c=>c | _=>default)∘D.c)=(id:C->C):=rfl;rw[v,List.map_id,List.map_id] at f;exact f
    simp only[ru,s,ih p b.2]
  ·simp at h
theorem op_slca{m off:Nat}{x:aP}{cs:List C}{es:List (List C)}(h:lx alD x=some (.c (.cK cs off)))(a:off+m<=cs.length)(f:(((cs.drop off).take m).map λc=>[c])=es):eQ P orc n alD σD (.FK m x) (.c (.cJ false es)) σD []:=λe b=>by subst f;simp only[bm,ff b h,a,if_true]
theorem XT{m:Nat}{x:aP}(e:dy σ alD rd)(H:RH σ σD)(h:gE P S hint (.FK m x) rd σ k=some r):kK P orc n alD σ σD (.FK m x) k r:=by
 simp only[gE] at h;split at h
 ·rename_i i a off f;obtain ⟨j,g⟩:=e.c f (by simp);split at h
  ·rename_i l b p;have b:=CY b;exact dq.pure (v:=.c (.sl hint l)) (op_slca j (by rw[sE];exact b) (mkTs_ok p (by rw[yCe,List.map_drop,vF,yCe,List.map_drop]))) (Or.inr rfl) True.intro H h
  ·simp at h
 ·simp at h
theorem YK{es len:Nat}{m:Option Nat}{x i:aP}(e:dy σ alD rd)(H:RH σ σD)(h:gE P S hint (.Db es len m x i) rd σ k=some r):kK P orc n alD σ σD (.Db es len m x i) k r:=by
 simp only[gE] at h;split at h
 ·rename_i U W G u;obtain ⟨d,y,⟨ds,rfl,A⟩,K⟩:=e _ _ G;split at h
  ·rename_i q p;split at h
   ·rename_i j L;split at h
    ·rename_i v E;obtain ⟨d,M,s⟩:=zT E A;exact dq.pure (WM y (e.int u p) L M) s (qK E K) H h
    simp_all
   simp_all
  ·rename_i q p;split at h
   ·rename_i l hs N;simp only[bN] at hs;have O:=cY hs.1;have X:=cY hs.2;subst O;obtain ⟨a,T,hk⟩:=Bg h;have s:=IN N A;have b:l.length=len:=by grind [aJ.len,List.length_map]
    exact dq.one hk (op_aidx (f:=λz=>.c (.lit (.int .i64 z))) y (e.int u p) T s b) rfl rfl H
   simp_all
  simp_all
 simp_all
theorem aac{f:aP}{args:List aP}(l:dy σ alD rd)(H:RH σ σD)(h:gE P S hint (.call f args) rd σ k=some r):kK P (Dn (Ho S)) n alD σ σD (.call f args) k r:=by
 simp only[gE] at h;split at h
 ·rename_i g z x b;obtain ⟨p,_⟩:=l.c x (by simp);obtain ⟨ds,u,v,y⟩:=l.all b;split at h
  ·rename_i s hs;split at h
   ·rename_i a e;obtain ⟨q,i,hk⟩:=Bg h;exact dq.pure (Jv p u (spc_ok hs v e i)) (SM s.out q) (Ig s.out q) H hk
   ·split at h
    ·rename_i a j e;simp only[bN] at j;obtain ⟨q,i,hk⟩:=Bg h;exact dq.pure (Jv p u (YD H hs y v j.1 j.2 e i)) (SM s.out q) (Ig s.out q) H hk
    simp_all
  simp_all
 simp_all
theorem YF(p:dy σ alD rd)(H:RH σ σD)(h:gE P S hint o rd σ k=some r):kK P (Dn (Ho S)) n alD σ σD o k r:=by
 cases o with
 |Ba x=>
  simp only[gE] at h;split at h
  ·rename_i v A;obtain ⟨d,E,G,K⟩:=p _ _ A;exact dq.pure (AD E) G K H h
  simp_all
 |gen op ty=>exact genT_ok p H h
 |box x=>grind [tbox_ok]
 |alloc z=>exact Ua H h
 |build z L=>grind [Vp]
 |js l len z L=>grind [OX]
 |load m x=>grind [ZG]
 |store m x y=>grind [Uc]
 |mT x=>grind [Vk]
 |iZ N M x=>grind [UM]
 |Ik off x=>grind [tfld_ok]
 |idx l len x i=>grind [tidx_ok]
 |Wf l x O T=>grind [tslc_ok]
 |vq=>exact Ul H h
 |lookup e zero m u ok=>grind [QP]
 |tH e m u x=>grind [tupd_ok]
 |del e m u=>grind [tdel_ok]
 |len x=>grind [tlen_ok]
 |mk l j z x y=>grind [tmk_ok]
 |append l j s x=>grind [tapp_ok]
 |copy l d s=>grind [Xx]
 |extract x i=>grind [Of]
 |EL f a b=>grind [XE]
 |part off m x=>grind [YV]
 |FK m x=>grind [XT]
 |Db l len m x i=>grind [YK]
 |call f args=>grind [aac]
 |_=>simp[gE] at h
end
end Go.Abs
end
section
namespace Go.Abs
noncomputable section
variable[Gl][Y:Ty]
def Iq(p:Nat):TA->Option (Nat×RV)
 |[]=>none
 |x::al=>if al.length=p then some x else Iq p al
theorem Re{p:Nat}{y:Nat×RV}:∀{al:TA},Iq p al=some y->p<al.length:=by
 intro al;induction al with
 |nil=>grind [Iq]
 |cons x al ih=>grind [Iq]
theorem AI{p:Nat}{y z:Nat×RV}{al:TA}(h:Iq p al=some y):Iq p (z::al)=some y:=by
 have:=Re h;simp only[Iq]
 grind
theorem atP_app{p:Nat}{y:Nat×RV}{al:TA}(h:Iq p al=some y):∀(pre:TA),Iq p (pre++al)=some y:=by
 intro pre;induction pre with
 |nil=>exact h
 |cons z pre ih=>exact AI ih
theorem Yi{t p:Nat}{x:RV}:∀{al:TA},iQ t al=some (x,p)->Iq p al=some (t,x):=by
 intro al;induction al with
 |nil=>grind [iQ]
 |cons y al ih=>
  intro h;obtain ⟨s,z⟩:=y;simp only[iQ] at h;split at h
  ·rename_i a;have:=cY a;subst this;simp only[au,aX] at h;obtain ⟨rfl,rfl⟩:=h;simp only[Iq,if_true]
  grind [AI]
def GW(al:TA)(σ:TH):RV->Prop
 |.v x=>GV σ x
 |.g c w p x=>(∃t,Iq p al=some (t,.v (.c (.b c))))/\(c=w->GV σ x)
theorem GW.mono{al:TA}{σ σ1:TH}(h:Ext σ σ1)(pre:TA){x:RV}(g:GW al σ x):GW (pre++al) σ1 x:=by
 cases x with
 |v x=>exact GV.mono h g
 |g c w p x=>exact ⟨let ⟨t,i⟩:=g.1;⟨t,atP_app i pre⟩,λe=>(g.2 e).mono h⟩
structure Ref (al:TA) (σ:TH) (alD:AL) (σD:ar):Prop where
 hh:RH σ σD
 rg:∀t x p,iQ t al=some (x,p)->∃d,lk t alD=some d/\RR x d/\GW al σ x
def EP(al:TA)(kn:Kn):Prop:=∀p b,Bw p kn=some b->∀t e,Iq p al=some (t,.v (.c (.b e)))->e=b
variable{P:Program}{n:Nat}{alD:AL}{σ σ1:TH}{σD σD1:ar}{al:TA}{kn:Kn}{S:sV}
theorem Ref.set{t:Nat}{x:RV}{d:D}(i:Ref al σ alD σD)(H:RH σ1 σD1)(j:Ext σ σ1)(E:RR x d)(G:GW ((t,x)::al) σ1 x):Ref ((t,x)::al) σ1 ((t,d)::alD) σD1:={
 hh:=H
 rg:=λs y p h=>by
  simp only[iQ] at h;simp only[lk];split at h
  ·simp_all
  ·rename_i u
   try rw[u]
   obtain ⟨z,h1,h2,A⟩:=i.rg s y p h;exact ⟨z,h1,h2,A.mono j [(t,x)]⟩ }
theorem Ref.heap(i:Ref al σ alD σD)(H:RH σ1 σD1)(j:Ext σ σ1):Ref al σ1 alD σD1:={
 hh:=H
 rg:=λs y p h=>let ⟨u,h1,h2,h3⟩:=i.rg s y p h;⟨u,h1,h2,h3.mono j []⟩ }
theorem EP.cons{z:Nat×RV}(h:EP al kn)(i:∀p b,Bw p kn=some b->p<al.length):EP (z::al) kn:=λp b hk t e j=>by
 refine h p b hk t e ?_;have:=i p b hk;simp only[Iq] at j
 grind
def PO(al:TA)(kn:Kn):Prop:=∀p b,Bw p kn=some b->p<al.length
theorem PO.cons{z:Nat×RV}(h:PO al kn):PO (z::al) kn:=λp b hk=>by have:=h p b hk;grind
theorem EP.add{p:Nat}{b:Bool}(h:EP al kn)(j:∀t e,Iq p al=some (t,.v (.c (.b e)))->e=b):EP al ((p,b)::kn):=λq c hk t e i=>by
 simp only[Bw] at hk;split at hk
 ·grind [Nat.eq_of_beq_eq_true]
 ·exact h q c hk t e i
theorem PO.add{p:Nat}{b:Bool}(h:PO al kn)(i:p<al.length):PO al ((p,b)::kn):=λq c hk=>by
 simp only[Bw] at hk;split at hk
 ·simp_all
 ·exact h q c hk
theorem Wh{d:D}(h:d.low 0=true):RT (HY d) d/\GV σ (HY d):=by
 unfold HY;split
 ·rename_i ds;exact ⟨⟨ds,rfl,aJ.ds ds⟩,JZ h⟩
 ·exact ⟨.inr rfl,D.eJ (Px _) h⟩
theorem nL(A:Ref al σ alD σD)(K:EP al kn){a:Option (Nat×Bool)}(N:∀q w,a=some (q,w)->∀t e,Iq q al=some (t,.v (.c (.b e)))->e=w):dy σ alD (Gr al kn a):=by
 intro x v h;cases x with
 |k d=>
  simp only[Gr] at h;split at h
  ·rename_i E;simp only[au] at h;subst h;exact ⟨d,rfl,(Wh (σ:=σ) E).1,(Wh E).2⟩
  simp_all
 |t s=>
  simp only[Gr] at h;split at h
  ·rename_i y p l;simp only[au] at h;subst h;obtain ⟨d,u,j,z⟩:=A.rg s _ p l;exact ⟨d,u,j,z⟩
  ·rename_i c w p y q l;split at h
   ·rename_i f;simp only[au] at h;subst h;obtain ⟨d,u,j,z⟩:=A.rg s _ q l;obtain ⟨⟨t,G⟩,L⟩:=z;have i:c=w:=by
     unfold VJ at f;split at f
     ·rename_i b M;have:=K p b M t c G
      simp_all
     ·split at f
      ·rename_i O T;simp only[bN] at f;have U:=cY f.1
       grind
      simp_all
    simp only[RR,if_pos i] at j;exact ⟨d,u,j,L i⟩
   simp_all
  simp_all
theorem If{t p:Nat}{x:RV}(a:Ref al σ alD σD)(h:iQ t al=some (x,p)):∃d,lk t alD=some d/\RR x d:=let ⟨d,h1,h2,_⟩:=a.rg t x p h;⟨d,h1,h2⟩
theorem tGd_ok(M:Ref al σ alD σD)(K:EP al kn)(g:Option (Nat×Bool)):match tGd al kn g with
  |.VJ=>Gd alD g true
  |.shut=>Gd alD g false
  |.sym e p w=>(∃t,Iq p al=some (t,.v (.c (.b e))))/\(e=w->Gd alD g true)/\((!e)=w->Gd alD g false)
  |.spl e p=>∃t,Iq p al=some (t,.v (.c (.b e)))
  |.UC t x=>∃d,lk t alD=some d/\RT x d/\GV σ x
  |.bad=>True:=by
 cases g with
 |none=>exact iA
 |some g=>
  obtain ⟨t,a⟩:=g;simp only[tGd];cases u:iQ t al with
  |none=>trivial
  |some q=>
   obtain ⟨x,p⟩:=q;obtain ⟨d,h,i⟩:=If M u;cases x with
   |g c w z y=>
    dsimp only;obtain ⟨X,U,A,⟨N,j⟩,W⟩:=M.rg t _ p u;cases hk:Bw z kn with
    |none=>simp_all
    |some b=>
     dsimp only;by_cases l:(b == w)=true
     ·rw[if_pos l];have E:c=w:=by rw[K z b hk N c j];simp_all
      simp only[RR,if_pos E] at A
      simp_all
     ·rw[if_neg l];have:=K z b hk N c j;have L:¬c=w:=λe=>l (by simp_all);simp only[RR,if_neg L] at i
      grind [SK]
   |v y=>
    dsimp only;change RT y d at i;generalize f:gdB kn a p y=G;unfold gdB at f;split at f
    ·have:=RT.c1 (by simp) i;subst this;subst f;cases a
     ·exact Qf h rfl
     ·exact ig h rfl
    ·have:=RT.c1 (by simp) i;subst this;subst f;cases a
     ·exact ig h rfl
     ·exact Qf h rfl
    ·have:=RT.c1 (by simp) i;subst this;subst f;exact SK h
    ·rename_i e;have:=RT.c1 (by simp) i;subst this;have s:=Yi u;cases hk:Bw p kn with
     |none=>
      rw[hk] at f;subst f;refine ⟨⟨t,s⟩,λO=>ig h O,λO=>Qf h ?_⟩
      simp_all
     |some b=>
      rw[hk] at f;dsimp only at f;have l:=K p b hk t e s;by_cases T:(b == a)=true
      ·rw[if_pos T] at f;subst f;exact ig h (by simp_all)
      ·rw[if_neg T] at f;subst f;refine Qf h ?_
       try rw[l]
       cases b <;> cases a <;> simp_all
    grind
def LY(a b:d_):Prop:=a.wr=b.wr/\a.dst=b.dst/\a.rds=b.rds/\a.lo=b.lo/\a.hi=b.hi/\(a.cat=0∨(a.cat=b.cat/\a.blk=b.blk))
theorem LY.refl(a:d_):LY a a:=⟨rfl,rfl,rfl,rfl,rfl,.inr ⟨rfl,rfl⟩⟩
theorem Uq{a b:d_}(h:LY a b){wr:List Nat}(hs:safe b wr=true):safe a wr=true:=by
 obtain ⟨_,_,_,_,_,h | ⟨e,f⟩⟩:=h
 ·simp[safe,h]
 grind [safe]
theorem Fq{a b f b':d_}(h:LY a b)(i:LY f b')(hs:apart b b'=true):apart a f=true:=by
 simp only[apart,bN] at hs ⊢;obtain ⟨⟨⟨⟨l,p⟩,s⟩,u,v⟩,x,y⟩:=hs;have e:=h;have j:=i;obtain ⟨z,A,E,G,K,_⟩:=e;obtain ⟨f1,L,M,N,O,_⟩:=j
 grind [Uq,outside]
theorem rB{b:List Nat}{as e:List d_}(h:aJ LY as e)(f:e_ b e=true):e_ b as=true:=by
 simp only[e_,iR,yBP,gF] at f ⊢;intro j l i p;rw[h.len] at l;rcases f j l i p with s | s
 ·simp_all
 ·right;have get:∀q,q<e.length->LY (as.getD q default) (e.getD q default):=by
   intro q u;obtain ⟨a,v,x⟩:=h.get' q _ (eS u)
   simp_all
  grind [Fq]
theorem TF{b f:List Nat}{as e:List d_}(h:aJ LY as e)(l:Pr b f e=true):Pr b f as=true:=by
 simp only[Pr,iR,yBP,gF] at l ⊢;intro j p i s;rw[h.len] at p;rcases l j p i s with u | u
 ·simp_all
 ·right;have get:∀q,q<e.length->LY (as.getD q default) (e.getD q default):=by
   intro q v;obtain ⟨a,x,y⟩:=h.get' q _ (eS v)
   simp_all
  grind [Fq]
theorem cn.mono{orc:gz}{k:Nat}{os:List aH}{Q Q':AL->ar->List d_->Prop}(h:cn P orc k os n alD σD Q)(j:∀a s i,Q a s i->Q' a s i):cn P orc k os n alD σD Q':=by obtain ⟨a,s,i,u,x⟩:=h;exact ⟨a,s,i,u,j _ _ _ x⟩
theorem ZJ(b:Ref al σ alD σD){o:lm}(h:okT al o=true):GN alD o=true:=by
 cases o with
 |load m x=>
  cases x with
  |k d=>rfl
  |t a=>grind [okT,Option.isSome_iff_exists,If,GN,lx]
 |_=>rfl
variable{R:Type}
theorem Wn{rd:aP->Option TV}{hint:Nat}{o:lm}{k:KO R}{r:R}(f:dy σ alD rd)(h:gE P S hint o rd σ k=some r):GN alD o=true/\za alD o=blkT rd o:=by
 cases o with
 |load m x=>
  simp only[gE] at h;cases a:rd x with
  |none=>rw[a] at h;simp at h
  |some v=>
   obtain ⟨d,e,b,_⟩:=f x v a;refine ⟨by simp[GN,e],?_⟩;simp only[za,blkT,e,a];cases v with
   |agg i=>obtain ⟨ds,rfl,_⟩:=b;rfl
   |aS i=>obtain ⟨ds,rfl,_⟩:=b;rfl
   |c y=>
    cases y with
    |any=>rw[a] at h;simp at h
    |d z=>have:=RT.c1 (by simp) b;subst this;cases d <;> rfl
    |_=>have:=RT.c1 (by simp) b;subst this;rfl
 |_=>exact ⟨rfl,rfl⟩
def aI(al:TA)(σ:TH)(K:KS R)(r:R)(e:AL)(f:ar)(h:List d_):Prop:=
 ∃a b i,Ref a b e f/\(∃pre,a=pre++al)/\Ext σ b/\aJ LY h i/\K a b i=some r
theorem aI.cons{al al1:TA}{σ σ1:TH}{K:KS R}{r:R}{j:AL}{s u:ar}{x:List d_}{i G:d_}{pre:TA}(h:aI al1 σ1 (λz σ' E=>K z σ' (i::E)) r j s x)(hp:al1=pre++al)(H:RH σ u)(M:Ext σ σ1)(O:LY G i) :
  aI al σ K r j s (G::x):=by
 obtain ⟨z,σ',E,U,⟨A,rfl⟩,W,X,Z⟩:=h;exact ⟨_,σ',i::E,U,⟨A++pre,by simp_all⟩,Ext.trans H M W,.cons O X,Z⟩
theorem pk_ok{e:Bool}{u v:TV}{f h:BX}(j:TQ u=some f)(l:TQ v=some h){d:D}(r:RT (if e then u else v) d):d=B (pk e f h):=by
 have b:∀{w:TV}{i:BX},TQ w=some i->RT w d->d=B i.val:=by
  intro w i a r;unfold TQ at a;split at a
  ·simp only[au] at a;subst a;exact RT.c1 (by simp) r
  ·simp only[au] at a;subst a;exact RT.c1 (by simp) r
  ·simp only[au] at a;subst a;exact RT.c1 (by simp) r
  simp_all
 cases e
 ·have:=b l r;rw[this];cases f <;> cases h <;> simp[pk,BX.val]
 ·have:=b j r;rw[this];cases f <;> cases h <;> simp[pk,BX.val]
theorem Kb{σ:TH}(c:Bool)(x y:BX):RT (pkV c x y) (B (pk c x y))/\GV σ (pkV c x y):=by cases x <;> cases y <;> first | exact ⟨.inr rfl,True.intro⟩ | (cases c <;> exact ⟨.inr rfl,rfl⟩)
theorem tot_ok{o:lm}{rd:aP->Option TV}{v:TV}(a:dy σ alD rd)(H:RH σ σD)(b:sQ o=true)(h:gE (R:=TV) P S 0 o rd σ (λv _ _ _=>some v)=some v) :
  ∃d,eQ P (Dn (Ho S)) n alD σD o d σD []/\RT v d/\GV σ v:=by
 obtain ⟨e,σ1,rs,wr,d,σD1,f,i,j,_,_,_,l,p⟩:=YF (n:=n) a H h
 grind
def tX:(cs:List CT)->qB cs->Option (Σ c:CT,dJ c.items)
 |[],_=>none
 |[c],x=>some ⟨c,x⟩
 |c :: d :: cs, x => match x with
  |.inl a=>some ⟨c,a⟩
  |.inr b=>tX (d::cs) b
theorem Yp{R:Type}{f:(c:CT)->dJ c.items->Option R}{r:R}:∀{cs:List CT}{x:qB cs},altK cs x f=some r->∃c a,tX cs x=some ⟨c,a⟩/\f c a=some r:=by
 intro cs;induction cs with
 |nil=>grind
 |cons c cs ih=>
  intro x h;cases cs with
  |nil=>exact ⟨c,x,rfl,h⟩
  |cons d cs=>
   cases x with
   |inl a=>exact ⟨c,a,rfl,h⟩
   |inr b=>obtain ⟨e,i,j,l⟩:=ih (x:=b) h;exact ⟨e,i,j,l⟩
def ExOk(g:OF):Prop:=∀(i:CT)(e:FuncId)(f:List TV)(σ:TH)(h:List TV)(aA:TH)(σD:ar)(ds:List D),g.exa i e f σ=some (h,aA)->RH σ σD->fP f ds->(∀v∈f,GV σ v) ->
 aV g.P e=true/\∃r a,RH aA a/\RT (xw h) r/\GV aA (xw h)/\Ext σ aA/\Ok g.P e ds σD r a/\(∀b,b<σD.length->a[b]? = σD[b]?)
def YB(g:OF):Prop:=∀(f:List CT)(h:FuncId)(i:List TV)(σ:TH)(y:qB f)(e:CT)(x:dJ e.items)(j:List TV)(aA:TH)(σD:ar)(ds:List D),g.inl f h i σ=some y->tX f y=some ⟨e,x⟩->mY e σ x=some (j,aA)->RH σ σD->fP i ds->(∀v∈i,GV σ v) ->
 aV g.P h=true/\∃r a,RH aA a/\RT (xw j) r/\GV aA (xw j)/\Ext σ aA/\Ok g.P h ds σD r a/\(∀b,b<σD.length->b∉e.pl.map PC.blk->a[b]? = σD[b]?)/\(e.pl.any PC.rs=false->jt σD a (e.pl.map PC.blk)=true)
structure ZL (g:OF):Prop where
 one:YB g
 two:ExOk g
theorem PJ{b a:gz}:∀(os:List aH)(k:Nat)(e:List D)(σ:ar),(∀o∈os,b o.dst=a o.dst)->me P b k os e σ=me P a k os e σ:=by
 intro os;induction os with
 |nil=>intro k e σ _;rfl
 |cons o os ih=>grind [fi,me]
theorem cn.congr{u j:gz}{k:Nat}{os:List aH}{Q:AL->ar->List d_->Prop}(h:∀o∈os,u o.dst=j o.dst)(t:cn P u k os n alD σD Q):cn P j k os n alD σD Q:=by
 obtain ⟨a,s,i,x,z⟩:=t;refine ⟨a,s,i,λe A=>?_,z⟩;obtain ⟨E,G,K⟩:=x e A
 grind [PJ]
theorem fP.app{vs i:List TV}{ds es:List D}(h:fP vs ds)(j:fP i es):fP (vs++i) (ds++es):=by
 induction h with
 |nil=>exact j
 |cons h _ ih=>exact .cons h ih
theorem ofD_rt(d:D):RT (HY d) d:=by
 unfold HY;split
 ·rename_i ds;exact ⟨ds,rfl,aJ.ds ds⟩
 ·exact .inr rfl
theorem JK{d:D}(h:d.low σ.length=true):GV σ (HY d):=by
 unfold HY;split
 ·rename_i ds;intro x a;rw[gD] at a;obtain ⟨y,b,rfl⟩:=a;obtain ⟨i,e⟩:=yB8 b;exact D.aZ h i y e
 ·exact h
theorem Dq:∀(ds:List D),fP (ds.map HY) ds:=by
 intro ds;induction ds with
 |nil=>exact .nil
 |cons d ds ih=>exact .cons (ofD_rt d) ih
theorem Zm{v:TV}{d:D}{K:FuncId}{a b:List TV}(h:fnT v=some (K,a,b))(r:RT v d)(g:GV σ v):∃L M,fP a L/\fP b M/\(∀v∈a,GV σ v)/\(∀v∈b,GV σ v) /\
  ∀(orc:wK)(f:aP)(args:List aP)(ds:List D)(r:D)(σD1:ar)(w:List Nat),lx alD f=some d->VX alD args=some ds->orc K (L++ds++M) σD=some (r,σD1,w)->eQ P orc n alD σD (.call f args) r σD1 w:=by
 unfold fnT at h;split at h
 ·rename_i E x y;simp only[au,aX] at h;obtain ⟨rfl,rfl,rfl⟩:=h;have:=RT.c1 (by simp) r;subst this;refine ⟨x.map .c,y.map .c,?_,?_,λv j=>?_,λv j=>?_,λorc f args ds r σD1 w s u A=>Yw s u A⟩
  ·have:=Dq (x.map D.c);rw[Wd] at this;exact this
  ·have:=Dq (y.map D.c);rw[Wd] at this;exact this
  ·rw[gD] at j;obtain ⟨z,_,rfl⟩:=j;exact JK rfl
  ·rw[gD] at j;obtain ⟨z,_,rfl⟩:=j;exact JK rfl
 ·rename_i E x y;simp only[au,aX] at h;obtain ⟨rfl,rfl,rfl⟩:=h;have:=RT.c1 (by simp) r;subst this;have G:D.low.cV σ.length x=true/\D.low.cV σ.length y=true:=by
   have:(D.low σ.length (.fn (.func E) x y))=true:=g
   grind [D.low]
  refine ⟨x,y,Dq x,Dq y,λv j=>?_,λv j=>?_,λorc f args ds r σD1 w s u A=>Lh s u A⟩
  ·grind [List.getElem?_of_mem,JK,D.aZ]
  grind [List.getElem?_of_mem,JK,D.aZ]
 ·rename_i E p;simp only[au,aX] at h;obtain ⟨rfl,rfl,rfl⟩:=h;have:=RT.c1 (x:=.GX _ _) (by simp) r;subst this;have G:p.all (CV.low σ.length)=true:=g;have O:aJ RC (p.map cvT) (p.map CV.er):=by
   clear G g r;induction p with
   |nil=>exact .nil
   |cons x p ih=>exact .cons (.inr (by cases x <;> rfl)) ih
  refine ⟨[.agg (p.map CV.er)],[],.cons ⟨_,rfl,O⟩ .nil,.nil,λv j=>?_,λv j=>by grind,λorc f args ds r σD1 w s u A=>Lh s u A⟩;rw[zi] at j;subst j;intro y N;rw[gD] at N;obtain ⟨x,T,rfl⟩:=N;have:=iR.1 G x T;cases x with
  |d x=>exact this
  |b e=>exact True.intro
  |sl i l=>exact True.intro
 simp_all
theorem wB{g:OF}{q:Nat}{os:List aH}(h:Uw g q os=true):AJ g q os=true:=by
 unfold Uw at h;split at h
 ·rename_i a;have:∀o,jg g q o=none:=λo=>by grind [jg]
  clear h;induction os with
  |nil=>rfl
  |cons o os ih=>simp only[AJ,this,ih,Np];simp
 omega
def Ch(g:OF)(q k:Nat)(os:List aH)(alD:AL)(σD:ar)(Q:AL->ar->List d_->Prop):Prop:=
 ∃a,ou g.P a/\(∀t,(∀o∈os,(jg g q o).isSome=true->o.dst≠t)->a t=Dn (Ho g.S))/\cn g.P a k os g.n alD σD Q
section
variable{g:OF}{q k:Nat}{os:List aH}{alD:AL}{σD σD1:ar}{Q Q':AL->ar->List d_->Prop}{t:Nat}{ao:lm}{gd:Option (Nat×Bool)}{d:D}{w:List Nat}
theorem Ch.mono(h:Ch g q k os alD σD Q)(j:∀a s i,Q a s i->Q' a s i):Ch g q k os alD σD Q':=by obtain ⟨u,x,z,A⟩:=h;exact ⟨u,x,z,A.mono j⟩
theorem UI{o:aH}(h:AJ g q (o::os)=true):AJ g q os=true:=by simp only[AJ,bN] at h;exact h.2
theorem inlU_ne{o:aH}(h:AJ g q (o::os)=true)(a:jg g q o=none){t:Nat}(b:o.dst=some t):∀o'∈os,(jg g q o').isSome=true->o'.dst≠some t:=by intro o' f i e;simp only[AJ,a,bN,iU] at h;have:=h.1;rw[yCh] at this;have:=this o' f;simp[Tj,b,e,i] at this
theorem ZW{o:aH}{ct:List CT}(h:AJ g q (o::os)=true)(a:jg g q o=some ct){t:Nat}(b:o.dst=some t):∀o'∈os,o'.dst≠some t:=by intro o' f e;simp only[AJ,a,bN,iU] at h;have:=h.1;rw[yCh] at this;have:=this o' f;simp[Tj,b,e] at this
theorem Ch.op(M:AJ g q (⟨some t,ao,gd⟩::os)=true)(O:jg g q ⟨some t,ao,gd⟩=none)(h:eQ g.P (Dn (Ho g.S)) g.n alD σD ao d σD1 w)(s:Gd alD gd true)(hs:(Nat.blt t g.n&&GN alD ao&&(k == 0 || jt σD σD1 w))=true)
  (r:Ch g q (k-1) os ((t,d)::alD) σD1 λi σ' u=>Q i σ' (Fk ⟨some t,ao,gd⟩ (cat ao) (za alD ao) w σD.length σD1.length::u)):Ch g q k (⟨some t,ao,gd⟩::os) alD σD Q:=by
 obtain ⟨x,z,A,E⟩:=r;refine ⟨x,z,λG j=>A G λo K=>j o (lI _ K),cn.op ?_ s hs E⟩
 grind [inlU_ne]
theorem Ch.eff(h:eQ g.P (Dn (Ho g.S)) g.n alD σD ao d σD1 w)(s:Gd alD gd true)(hs:(GN alD ao&&(k == 0 || jt σD σD1 w))=true)
  (r:Ch g q (k-1) os alD σD1 λi σ' u=>Q i σ' (Fk ⟨none,ao,gd⟩ (cat ao) (za alD ao) w σD.length σD1.length::u)):Ch g q k (⟨none,ao,gd⟩::os) alD σD Q:=by
 obtain ⟨x,z,A,E⟩:=r;refine ⟨x,z,λG j=>A G λo K=>j o (lI _ K),cn.eff (d:=d) ?_ s hs E⟩
 grind [jg]
theorem Ch.no(s:Gd alD gd false)(hs:(Nat.blt t g.n&&GN alD ao)=true)
  (r:Ch g q (k-1) os ((t,.aS [])::alD) σD λi σ' u=>Q i σ' (Fk ⟨some t,ao,gd⟩ 0 (za alD ao) [] σD.length σD.length::u)):Ch g q k (⟨some t,ao,gd⟩::os) alD σD Q:=by
 obtain ⟨x,z,A,E⟩:=r;exact ⟨x,z,λG j=>A G λo K=>j o (lI _ K),cn.no s hs E⟩
theorem Ch.inl{ct:List CT}{u:FuncId}{ds:List D}{wr:List Nat}(O:vV g.P (Dn (Ho g.S)))(K:AJ g q (⟨some t,ao,gd⟩::os)=true)(M:jg g q ⟨some t,ao,gd⟩=some ct)(U:Gd alD gd true)
  (he:aV g.P u=true) (ok:Ok g.P u ds σD d σD1) (W:σD.length<=σD1.length) (X:∀b,b<σD.length->b∉wr->σD1[b]? = σD[b]?)
  (z:∀(orc:wK),orc u ds σD=some (d,σD1,wr)->eQ g.P orc g.n alD σD ao d σD1 wr) (hs:(Nat.blt t g.n&&GN alD ao&&(k == 0 || jt σD σD1 wr))=true)
  (r:Ch g q (k-1) os ((t,d)::alD) σD1 λA σ' Z=>Q A σ' (Fk ⟨some t,ao,gd⟩ (cat ao) (za alD ao) wr σD.length σD1.length::Z)):Ch g q k (⟨some t,ao,gd⟩::os) alD σD Q:=by
 classical
 obtain ⟨x,h1,h2,h3⟩:=r
 let i:wK:=λG s σ'=>if G=u/\s=ds/\σ'=σD then some (d,σD1,wr) else none
 let E:gz:=λj=>if j=some t then i else x j
 refine ⟨E,λj=>?_,λj aa=>?_,cn.op (z _ ?_) U hs (h3.congr λo ho=>?_)⟩
 ·show vV g.P (if j=some t then i else x j);split
  ·intro G s σ' r aA ab h
   grind
  ·exact h1 j
 ·grind
 ·grind
 ·show x o.dst=if o.dst=some t then i else x o.dst;rw[if_neg (ZW K M rfl o ho)]
end
theorem tot_inl{g:OF}{q:Nat}{t:Option Nat}{ao:lm}{gd:Option (Nat×Bool)}(h:sQ ao=true):jg g q ⟨t,ao,gd⟩=none:=by grind [jg,sQ]
theorem RH.eqD{σ:TH}{σD:ar}(H:RH σ σD):σD=σ.map TB.er:=by
 apply T_;intro b;rw[mE];cases i:σ[b]? with
 |none=>grind [RH.len]
 |some blk=>obtain ⟨u,j,s⟩:=H.hp b blk i;rw[j,s];rfl
theorem Zu{R:Type}{x y:TB}{k:Option R}{r:R}(h:Em x y k=some r):k=some r/\x.er.sz=y.er.sz:=by
 cases x with
 |cells w p=>
  cases y with
  |cells v s=>
   simp only[Em,Ck] at h;split at h
   ·rename_i e;exact ⟨h,by simpa[TB.er,Ob.sz] using Nat.eq_of_beq_eq_true e⟩
   ·simp at h
  |_=>simp[Em] at h
 |row i l a b=>
  cases y with
  |row j m c d=>
   simp only[Em,Ck] at h;split at h
   ·rename_i e;have:=cY e;subst this;split at h
    ·rename_i f;exact ⟨h,by simp only[TB.er,OB,Ob.sz,wj,eK (sE i),cY f]⟩
    ·simp at h
   ·simp at h
  |_=>simp[Em] at h
 |mp j st l v=>
  cases y with
  |mp=>exact ⟨h,rfl⟩
  |_=>simp[Em] at h
theorem LJ{R:Type}{σ σ1:TH}{k:Option R}{r:R}:∀{a:List Nat},Sw σ σ1 a k=some r->k=some r/\jt (σ.map TB.er) (σ1.map TB.er) a=true
 |[],h=>⟨h,rfl⟩
 |b :: a, h => by
  simp only[Sw] at h;split at h
  ·rename_i x y f i;obtain ⟨j,l⟩:=Zu h;obtain ⟨p,e⟩:=LJ j;refine ⟨p,?_⟩;unfold jt at e ⊢;rw[List.all_cons,e,mE,mE,f,i];simp[l]
  ·simp at h
theorem wF(g:OF)(q:Nat)(O:vV g.P (Dn (Ho g.S)))(hI:ZL g):∀(fu k:Nat)(os:List aH)(kn:Kn)(al:TA)(σ:TH)(K:KS R)(r:R)(alD:AL)(σD:ar),iT g q fu k os kn al σ K=some r->AJ g q os=true->Ref al σ alD σD->EP al kn->PO al kn ->
  Ch g q k os alD σD (aI al σ K r):=by
 intro fu;induction fu with
 |zero=>grind [iT]
 |succ fu ih=>
  intro k os kn al σ K r alD σD h hU j Kn E;cases os with
  |nil=>simp only[iT] at h;exact ⟨λ_=>Dn (Ho g.S),λ_=>O,λt _=>rfl,cn.nil ⟨al,σ,[],j,⟨[],rfl⟩,Ext.refl σ,.nil,h⟩⟩
  |cons o os=>
   simp only[iT] at h;have M:=UI hU;split at h
   ·simp at h
   rename_i hn;obtain ⟨A,op,gd⟩:=o;have G:=tGd_ok j Kn gd;dsimp only at h hn;have W:∀(e:Bool)(p:Nat),(∃t,Iq p al=some (t,.v (.c (.b e))))->(if e=true then iT g q fu k (⟨A,op,gd⟩::os) ((p,true)::kn) al σ K else iT g q fu k (⟨A,op,gd⟩::os) ((p,false)::kn) al σ K)=some r ->
     Ch g q k (⟨A,op,gd⟩::os) alD σD (aI al σ K r):=by
    intro e p ⟨t,ht⟩ h;have add:∀b,e=b->EP al ((p,b)::kn):=λb hb=>Kn.add λt' e' ab=>by simp_all
    split at h
    ·rename_i L;exact ih _ _ _ _ _ _ _ _ _ h hU j (add true L) (E.add (Re ht))
    ·rename_i L;exact ih _ _ _ _ _ _ _ _ _ h hU j (add false (by simp_all)) (E.add (Re ht))
   cases hg:tGd al kn gd with
   |bad=>simp_all
   |spl e p=>rw[hg] at h G;exact W e p G h
   |UC t x=>
    rw[hg] at h G;obtain ⟨d,l,z,N⟩:=G;have R1:Ref ((t,.v x)::al) σ alD σD:=⟨j.hh,λs y p hs=>by
     simp only[iQ] at hs;split at hs
     ·rename_i hb;have:=cY hb;subst this;simp only[au,aX] at hs;obtain ⟨rfl,rfl⟩:=hs;exact ⟨d,l,z,N⟩
     ·obtain ⟨d',g1,g2,g3⟩:=j.rg s y p hs;exact ⟨d',g1,g2,g3.mono (Ext.refl σ) [(t,.v x)]⟩⟩
    refine (ih _ _ _ _ _ _ _ alD σD h hU R1 (Kn.cons E) E.cons).mono λa s i T=>?_;obtain ⟨ad,aa,is,a1,⟨pre,rfl⟩,a3,a4,a5⟩:=T;exact ⟨_,aa,is,a1,⟨pre++[(t,.v x)],by simp_all⟩,a3,a4,a5⟩
   |shut=>
    rw[hg] at h G;dsimp only at h G;cases A with
    |none=>simp at h
    |some t=>
     dsimp only at h hn;split at h
     ·simp at h
     rename_i be;change Nat.blt t g.n=true at hn;have ax:=ZJ j be;refine Ch.no G (by simp_all) ?_;refine (ih _ _ _ _ _ _ _ ((t,.aS [])::alD) σD h M (j.set j.hh (Ext.refl σ) (.inr rfl) ?_) (Kn.cons E) E.cons).mono λa s i T=>?_
     ·show D.low _ _=true;rfl
     ·refine T.cons (pre:=[(t,.v (.c (.d (.aS []))))]) rfl j.hh (Ext.refl σ) ?_;rw[j.hh.len];exact ⟨rfl,rfl,rfl,rfl,rfl,.inl rfl⟩
   |sym e p w=>
    rw[hg] at h G;dsimp only at h G;obtain ⟨⟨t0,an⟩,G1,G2⟩:=G;split at h
    ·rename_i t af;change Nat.blt t g.n=true at hn;split at h
     ·rename_i v U;have bh:okT al op=true:=by
       cases op with
       |load m x=>
        cases x with
        |k d=>rfl
        |t a=>
         simp only[okT];simp only[gE] at U
         grind [Gr]
       |_=>rfl
      have ax:=ZJ j bh;by_cases L:e=w
      ·have hr:dy σ alD (Gr al kn (some (p,w))):=nL j Kn λq w' e' t e2 z=>by
        simp_all
       obtain ⟨d,l,z,N⟩:=tot_ok (n:=g.n) hr j.hh af U;obtain ⟨b1,b2⟩:=Wn hr U;refine Ch.op hU (tot_inl af) l (G1 L) (by grind [jt]) ?_;refine (ih _ _ _ _ _ _ _ ((t,d)::alD) σD h M (j.set j.hh (Ext.refl σ) (by simp only[RR,if_pos L];exact z) ⟨⟨t0,AI an⟩,λ_=>N⟩) (Kn.cons E) E.cons).mono λa s i T=>?_;refine T.cons (pre:=[(t,.g e w p v)]) rfl j.hh (Ext.refl σ) ?_;rw[j.hh.len,b2];exact LY.refl _
      ·have bi:(!e)=w:=by cases e <;> cases w <;> simp_all
       refine Ch.no (G2 bi) (by simp_all) ?_;refine (ih _ _ _ _ _ _ _ ((t,.aS [])::alD) σD h M (j.set j.hh (Ext.refl σ) (by simp only[RR,if_neg L]) ⟨⟨t0,AI an⟩,λe'=>absurd e' L⟩) (Kn.cons E) E.cons).mono λa s i T=>?_;refine T.cons (pre:=[(t,.g e w p v)]) rfl j.hh (Ext.refl σ) ?_;rw[j.hh.len];exact ⟨rfl,rfl,rfl,rfl,rfl,.inl rfl⟩
     simp_all
    ·exact W e p ⟨t0,an⟩ h
   |VJ=>
    rw[hg] at h G;dsimp only at h G;cases Z:jg g q ⟨A,op,gd⟩ with
    |some cs=>
     rw[Z] at h;dsimp only at h;have hr:dy σ alD (Gr al kn none):=nL j Kn (by simp);cases op with
     |call f args=>
      dsimp only at h;split at h
      ·rename_i fv vs a0 a2;split at h
       ·rename_i gi a b a6;split at h
        ·rename_i ct bl;obtain ⟨⟨rv,σ1⟩,hy,h⟩:=Bg h;obtain ⟨df,f1,f2,f3⟩:=hr _ _ a0;obtain ⟨ds,v1,v2,v3⟩:=hr.all a2;obtain ⟨da,db,a1,b1,ga,gb,av⟩:=Zm (P:=g.P) (n:=g.n) (alD:=alD) (σD:=σD) a6 f2 f3;obtain ⟨L,r',X,q1,q2,q3,q4,q5,q6⟩:=hI.two ct gi _ σ rv σ1 σD _ hy j.hh ((a1.app v2).app b1) (λv U=>by
           grind)
         cases A with
         |none=>grind [jg]
         |some t=>change Nat.blt t g.n=true at hn;refine Ch.inl (wr:=[]) O hU Z G L q5 (by grind) (λb hb _=>q6 b hb) (λorc ho=>av orc _ _ _ _ _ _ f1 v1 ho) (by grind [GN,jt]) ?_;refine (ih _ _ _ _ _ _ _ ((t,r')::alD) X h M (j.set q1 q4 q2 q3) (Kn.cons E) E.cons).mono λa s i T=>?_;refine T.cons (pre:=[(t,.v (xw rv))]) rfl j.hh q4 ?_;rw[j.hh.len,q1.len];exact LY.refl _
        obtain ⟨y,hy,h⟩:=Bg h;obtain ⟨ct,x,a7,h⟩:=Yp h;split at h
        ·rename_i rv σ1 a8;obtain ⟨df,f1,f2,f3⟩:=hr _ _ a0;obtain ⟨ds,v1,v2,v3⟩:=hr.all a2;obtain ⟨da,db,a1,b1,ga,gb,av⟩:=Zm (P:=g.P) (n:=g.n) (alD:=alD) (σD:=σD) a6 f2 f3;obtain ⟨L,r',X,q1,q2,q3,q4,q5,q6,q7⟩:=hI.one _ gi _ σ y ct x rv σ1 σD _ hy a7 a8 j.hh ((a1.app v2).app b1) (λv U=>by
           grind)
         have h':(k == 0 || jt σD X (ct.pl.map PC.blk))=true/\iT g q fu (k-1) os kn (Xs A (.v (xw rv)) al) σ1 (λad aa is=>K ad aa (Fk ⟨A,.call f args,gd⟩ (cat (.call f args)) none (ct.pl.map PC.blk) σ.length σ1.length::is))=some r:=by
          split at h
          ·rename_i hk;refine ⟨?_,h⟩;simp only[gF] at hk ⊢
           grind [Nat.eq_of_beq_eq_true]
          ·obtain ⟨l,z⟩:=LJ h;rw[j.hh.eqD,q1.eqD];exact ⟨by rw[z,Bool.or_true],l⟩
         obtain ⟨a9,h⟩:=h';cases A with
         |none=>grind [jg]
         |some t=>change Nat.blt t g.n=true at hn;refine Ch.inl O hU Z G L q5 (by rw[j.hh.len,q1.len];exact q4.len) q6 (λorc ho=>av orc _ _ _ _ _ _ f1 v1 ho) (by rw[hn,a9];rfl) ?_;refine (ih _ _ _ _ _ _ _ ((t,r')::alD) X h M (j.set q1 q4 q2 q3) (Kn.cons E) E.cons).mono λa s i T=>?_;refine T.cons (pre:=[(t,.v (xw rv))]) rfl j.hh q4 ?_;rw[j.hh.len,q1.len];exact LY.refl _
        simp_all
       simp_all
      simp_all
     |_=>simp at h
    |none=>
    rw[Z] at h;dsimp only at h;split at h
    ·
     rename_i c x y t;change Nat.blt t g.n=true at hn;split at h
     ·rename_i cv p hc;have bk:=Yi hc;obtain ⟨dc,c1,c2,_⟩:=j.rg c _ p hc;change RT cv dc at c2;have fin:∀(v:TV)(d:D),eQ g.P (Dn (Ho g.S)) g.n alD σD (.pick (.t c) x y) d σD []->RT v d->GV σ v->(iT g q fu (k-1) os kn ((t,.v v)::al) σ λad aa is=>K ad aa (Fk ⟨some t,.pick (.t c) x y,gd⟩ (cat (.pick (.t c) x y)) none [] σ.length σ.length::is))=some r ->
        Ch g q k (⟨some t,.pick (.t c) x y,gd⟩::os) alD σD (aI al σ K r):=by
       intro v d l z N h;refine Ch.op hU Z l G (by grind [GN,jt]) ?_;refine (ih _ _ _ _ _ _ _ ((t,d)::alD) σD h M (j.set j.hh (Ext.refl σ) z N) (Kn.cons E) E.cons).mono λa s i T=>?_;refine T.cons (pre:=[(t,.v v)]) rfl j.hh (Ext.refl σ) ?_;rw[j.hh.len];exact LY.refl _
      generalize hG:gdC kn p cv=GG at h;unfold gdC at hG;split at hG
      ·
       have:=RT.c1 (by simp) c2;subst this;subst hG;dsimp only at h;split at h
       ·rename_i v U;obtain ⟨d,l,z,N⟩:=nL j (Kn.add (p:=p) (b:=true) λt' e' ab=>by simp_all) (by simp) x v U;exact fin v d (vY c1 rfl l) z N h
       simp_all
      ·have:=RT.c1 (by simp) c2;subst this;subst hG;dsimp only at h;split at h
       ·rename_i v U;obtain ⟨d,l,z,N⟩:=nL j (Kn.add (p:=p) (b:=false) λt' e' ab=>by simp_all) (by simp) y v U;exact fin v d (qV c1 rfl l) z N h
       simp_all
      ·rename_i _ e _;have:=RT.c1 (by simp) c2;subst this;cases hk:Bw p kn with
       |some b=>
        have hb:=Kn p b hk c e bk;have ak:EP al ((p,b)::kn):=Kn.add λt' e' ab=>by simp_all
        cases b with
        |true=>
         rw[hk] at hG;subst hG;dsimp only at h;split at h
         ·rename_i v U;obtain ⟨d,l,z,N⟩:=nL j ak (by simp) x v U;exact fin v d (vY c1 hb l) z N h
         simp_all
        |false=>
         rw[hk] at hG;subst hG;dsimp only at h;split at h
         ·rename_i v U;obtain ⟨d,l,z,N⟩:=nL j ak (by simp) y v U;exact fin v d (qV c1 hb l) z N h
         simp_all
       |none=>
        rw[hk] at hG;subst hG;dsimp only at h;split at h
        ·rename_i u v hu U;split at h
         ·rename_i bu bv bb bc;have bd:∀w,e=w->∀q w',some (p,w)=some (q,w')->∀t' e',Iq q al=some (t',.v (.c (.b e')))->e'=w':=λw hw q w' e1 t' e' ab=>by
           simp_all
          cases L:e with
          |true=>obtain ⟨d,l,z,N⟩:=nL j Kn (bd true L) x u hu;have hd:=pk_ok (e:=true) bb bc z;subst hd;rw[L] at h;exact fin (pkV true bu bv) _ (vY c1 L l) (Kb (σ:=σ) _ _ _).1 (Kb _ _ _).2 h
          |false=>obtain ⟨d,l,z,N⟩:=nL j Kn (bd false L) y v U;have hd:=pk_ok (e:=false) bb bc z;subst hd;rw[L] at h;exact fin (pkV false bu bv) _ (qV c1 L l) (Kb (σ:=σ) _ _ _).1 (Kb _ _ _).2 h
         simp_all
        simp_all
      grind
     simp_all
    ·
     have hr:dy σ alD (Gr al kn none):=nL j Kn (by simp);obtain ⟨v,σ1,rs,wr,d,σD1,l,z,N,h4,h5,h6,_,h7⟩:=YF (n:=g.n) hr j.hh h;obtain ⟨b1,b2⟩:=Wn hr h;dsimp only at h7;split at h7
     ·rename_i hk;have a9:(k == 0 || jt σD σD1 wr)=true:=by
       simp only[gF] at hk ⊢
       grind [Nat.eq_of_beq_eq_true]
      cases A with
      |none=>refine Ch.eff l G (by simp_all) ?_;refine (ih _ _ _ _ _ _ _ alD σD1 h7 M (j.heap h4 h5) Kn E).mono λa s i T=>?_;refine T.cons (pre:=[]) rfl j.hh h5 ?_;rw[j.hh.len,h4.len,b2];exact LY.refl _
      |some t=>change Nat.blt t g.n=true at hn;refine Ch.op hU Z l G (by simp_all) ?_;refine (ih _ _ _ _ _ _ _ ((t,d)::alD) σD1 h7 M (j.set h4 h5 z N) (Kn.cons E) E.cons).mono λa s i T=>?_;refine T.cons (pre:=[(t,.v v)]) rfl j.hh h5 ?_;rw[j.hh.len,h4.len,b2];exact LY.refl _
     simp_all
end
end Go.Abs
end
section
namespace Go.Abs
noncomputable section
variable[Gl][Y:Ty]
structure Rn (m:Nat) (σ1 aA:ar) (ρ:Nat->Nat) (F:Nat->Prop):Prop where
 le:m<=aA.length
 id:∀i,i<m->ρ i=i
 inj:∀i j,i<aA.length->j<aA.length->ρ i=ρ j->i=j
 fr:∀i,i<aA.length->¬F (ρ i)
 row:∀b,F b->∃(i:Nat)(l:List (TT i)),σ1[b]? = some (OB (enc i) l)
 sz:∀(i:Nat),i<aA.length->∃ob1 ob2,σ1[ρ i]? = some ob1/\aA[i]? = some ob2/\ob2.sz=ob1.sz
def mN(n:Nat)(ρ:Nat->Nat)(M:Nat->Option Nat):Nat->Option Nat:=λi=>if i<n then M (ρ i) else none
def fzN(F:Nat->Prop)(M:Nat->Option Nat)(Fz:Nat->Prop):Nat->Prop:=λc=>Fz c∨∃b,F b/\M b=some c
def du(σ1 aA:ar)(ρ:Nat->Nat)(F:Nat->Prop)(d1 d2:D):Prop:=∀(M:Nat->Option Nat)(a:Nat->Prop)(w:World)(v:Value),Rel σ1 M a w->V σ1 M a w d1 v->V aA (mN aA.length ρ M) (fzN F M a) w d2 v
section
variable{m:Nat}{σ1 aA:ar}{ρ:Nat->Nat}{F:Nat->Prop}
theorem VC.fzN{M:Nat->Option Nat}{Fz:Nat->Prop}{w:World}{x:C}{v:Value}(h:VC Fz w x v):VC (Go.Abs.fzN F M Fz) w x v:=h.mono λc i=>⟨.inl i,rfl⟩
theorem du.any(d:D):du σ1 aA ρ F d .any:=λ_ _ _ _ _ _=>.any _
theorem du.le{d1 d2 i:D}(h:Fe d1 d2)(j:du σ1 aA ρ F d2 i):du σ1 aA ρ F d1 i:=λM s w v R u=>j M s w v R (h _ _ _ _ _ u)
theorem du.low(N:Rn m σ1 aA ρ F){d:D}(s:d.low m=true):du σ1 aA ρ F d d:=by
 intro M Fz w v R h;have cD:∀b,b<m->∀z,σ1[b]? = some z->∃j,aA[b]? = some j/\j.sz=z.sz:=λb A z ho=>by
  obtain ⟨aa,j,x,u,K⟩:=N.sz b (FY A N.le);rw[N.id b A,ho] at x
  simp_all
 have m2:∀b,b<m->mN aA.length ρ M b=M b:=λb A=>by unfold mN;rw[if_pos (FY A N.le),N.id b A]
 induction h with
 |c h=>exact .c h.fzN
 |any v=>exact .any v
 |ptr a z h O E=>simp only[D.low,bA] at s;obtain ⟨j,u,K⟩:=cD _ s _ h;exact .ptr a j u (by omega) (λZ=>by simp_all)
 |sl a n cap U z h O E=>simp only[D.low,bA] at s;obtain ⟨j,u,K⟩:=cD _ s _ h;exact .sl a n cap U j u (by omega) (λZ=>by simp_all)
 |mp c z h E=>simp only[D.low,bA] at s;obtain ⟨j,u,K⟩:=cD _ s _ h;exact .mp c j u (λZ=>by simp_all)
 |fn G ws x u E hw W X=>simp only[D.low,bN] at s;exact .fn G ws x u (λi d v a b=>W i d v a b (D.aZ s.1 i d a)) (λi d v a b=>X i d v a b (D.aZ s.2 i d a))
 |agg G x E ih=>simp only[D.low] at s;exact .agg G x (λi d v a b=>ih i d v a b (D.aZ s i d a))
 |aS G x E ih=>simp only[D.low] at s;exact .aS G x (λi d v a b=>ih i d v a b (D.aZ s i d a))
theorem du.data(N:Rn m σ1 aA ρ F){d:D}(i:d.low 0=true):du σ1 aA ρ F d d:=du.low N (D.eJ (Px _) i)
theorem du.ptr(N:Rn m σ1 aA ρ F){i off sz:Nat}(s:i<aA.length):du σ1 aA ρ F (.ptr (ρ i) off sz) (.ptr i off sz):=λM K w v R h=>by
 obtain ⟨u,j,x,z,A⟩:=N.sz i s;cases h with
 |ptr a O h E U=>rw[x] at h;simp only[au] at h;subst h;exact .ptr a j z (by omega) (λG=>by rw[A] at G;unfold mN;simp_all)
theorem du.sl(N:Rn m σ1 aA ρ F){i off len es sz:Nat}(u:i<aA.length):du σ1 aA ρ F (.sl (ρ i) off len es sz) (.sl i off len es sz):=λM O w v R h=>by
 obtain ⟨x,j,z,A,E⟩:=N.sz i u;cases h with
 |sl a n cap s U h G W=>rw[z] at h;simp only[au] at h;subst h;exact .sl a n cap s j A (by omega) (λK=>by rw[E] at K;unfold mN;simp_all)
theorem du.mp(N:Rn m σ1 aA ρ F){i:Nat}(s:i<aA.length):du σ1 aA ρ F (.mp (ρ i)) (.mp i):=λM G w v R h=>by
 obtain ⟨u,j,x,z,A⟩:=N.sz i s;cases h with
 |mp c K h O=>rw[x] at h;simp only[au] at h;subst h;exact .mp c j z (λE=>by rw[A] at E;unfold mN;simp_all)
theorem du.cJ(N:Rn m σ1 aA ρ F){b i:Nat}{l:List (TT i)}(hF:F b)(hb:σ1[b]? = some (OB (enc i) l)):du σ1 aA ρ F (OS (aw i) b l.length) (.c (.cJ false (l.map (enc i)))):=λM U w v R h=>by
 classical
 let G:Nat->Option Nat:=λb=>if F b then M b else none
 have RF:Rel σ1 G U w:=by
  refine ⟨λb c s=>?_,λb W c s u=>?_,R.fz,R.gl⟩
  ·simp only[G] at s;split at s
   ·rename_i X;obtain ⟨K,Z,o,E,h3,h4⟩:=R.blk b c s;refine ⟨K,Z,o,E,h3,?_⟩;obtain ⟨i',l',h5⟩:=N.row b X;rw[E] at h5;simp only[au] at h5;subst h5;obtain ⟨z,T,ho,A,O⟩:=h4;refine ⟨z,T,ho,A,λj d v a b=>?_⟩;obtain ⟨h6,h7⟩:=O j d v a b;rw[mE,cE] at a;obtain ⟨x,_,rfl⟩:=a;cases h6 with
    |c h6=>exact ⟨.c h6,h7⟩
   simp_all
  ·simp only[G] at s u;split at s
   ·split at u
    ·exact R.inj b W c s u
    simp_all
   simp_all
 have O:V σ1 G U w (OS (aw i) b l.length) v:=by
  cases h with
  |sl a n cap aa Z h A O=>
   refine .sl a n cap aa Z h A λhe=>?_;rcases O he with K | ⟨c,o,z,T,K,E⟩
   ·simp_all
   ·exact .inr ⟨c,o,z,T,by grind,E⟩
 have K:=Ed (k:=98) (n:=l.length) (sE i) (Y.ps i) hb rfl;have E:=Kj RF 100 _ _ v K O;have h3:VC (fzN F M U) w (.cJ (Nat.blt 0 l.length) (l.map (enc i))) v:=E.mono λc s=>by
  refine ⟨?_,rfl⟩;rcases s with s | ⟨W,_,s⟩
  ·exact .inl s
  ·simp only[G] at s;split at s
   ·rename_i hf;exact .inr ⟨W,hf,s⟩
   simp_all
 have:=KH h3;exact .c this
theorem du.fn1{f:Fn}{d e:D}(h:du σ1 aA ρ F d e):du σ1 aA ρ F (.fn f [] [d]) (.fn f [] [e]):=λM s w v R j=>by
 cases j with
 |fn u x z A j E=>
  refine .fn u x z (by simpa using A) (λi d v hd=>by simp at hd) (λi G v hd j=>?_);cases i with
  |zero=>simp only[List.getElem?_cons_zero,au] at hd;subst hd;exact h M s w v R (E 0 _ v rfl j)
  |succ i=>simp at hd
theorem du.agg{ds es:List D}(h:aJ (du σ1 aA ρ F) ds es):du σ1 aA ρ F (.agg ds) (.agg es):=λM s w v R j=>by
 cases j with
 |agg u x j=>refine .agg u (by rw[x,h.len]) λi d v a b=>?_;obtain ⟨z,A,E⟩:=h.get' i d a;exact E M s w v R (j i z v A b)
theorem du.aS{ds es:List D}(h:aJ (du σ1 aA ρ F) ds es):du σ1 aA ρ F (.aS ds) (.aS es):=λM s w v R j=>by
 cases j with
 |aS u x j=>refine .aS u (by rw[x,h.len]) λi d v a b=>?_;obtain ⟨z,A,E⟩:=h.get' i d a;exact E M s w v R (j i z v A b)
def ObR(σ1 aA:ar)(ρ:Nat->Nat)(F:Nat->Prop):Ob->Ob->Prop
 |.cells ds,ob=>∃a,ob=.cells a/\aJ (du σ1 aA ρ F) ds a
 |.map a k,ob=>ob=.map a k/\(a.all λe=>e.2.1.low 0)=true
 |.gone k,ob=>False
structure RN (m:Nat) (σ1 aA:ar) (ρ:Nat->Nat) (F:Nat->Prop):Prop extends Rn m σ1 aA ρ F where
 ob:∀(i:Nat),i<aA.length->∃ob1 ob2,σ1[ρ i]? = some ob1/\aA[i]? = some ob2/\ObR σ1 aA ρ F ob1 ob2
theorem RN.rel(N:RN m σ1 aA ρ F){M:Nat->Option Nat}{Fz:Nat->Prop}{w:World}(R:Rel σ1 M Fz w):Rel aA (mN aA.length ρ M) (fzN F M Fz) w:=by
 refine ⟨λb c j=>?_,λb b' c j s=>?_,λc u=>?_,Gl.mono (λc h=>⟨.inl h,rfl⟩) R.gl⟩
 ·unfold mN at j;split at j
  ·rename_i A;obtain ⟨h1,ob,o,K,h3,h4⟩:=R.blk _ c j;obtain ⟨af,O,U,h6,W⟩:=N.ob b A;rw[K] at U;simp only[au] at U;subst U;refine ⟨λE=>?_,O,o,h6,h3,?_⟩
   ·rcases E with E | ⟨b',E,u⟩
    ·simp_all
    ·rw[R.inj _ _ c u j] at E;exact N.fr b A E
   ·cases ob with
    |cells cs=>obtain ⟨z,T,X,G,Z⟩:=h4;obtain ⟨es,rfl,ha⟩:=W;refine ⟨z,T,X,by grind [aJ.len],λi d v x y=>?_⟩;obtain ⟨d1,h8,h9⟩:=ha.get' i d x;obtain ⟨aa,ab⟩:=Z i d1 v h8 y;exact ⟨h9 M Fz w v R aa,ab⟩
    |map es ad=>obtain ⟨z,X,G,Z⟩:=h4;obtain ⟨rfl,hl⟩:=W;refine ⟨z,X,G,λi k d n e x y=>?_⟩;obtain ⟨p,q,r⟩:=Z i k d n e x y;rw[iR] at hl;exact ⟨p,q,du.data N.toRn (hl (k,d,n) (Bb x)) M Fz w _ R r⟩
    |gone n=>exact W.elim
  simp_all
 ·unfold mN at j s;split at j
  ·rename_i h1;split at s
   ·rename_i K;exact N.inj b b' h1 K (R.inj _ _ c j s)
   simp_all
  simp_all
 ·rcases u with u | ⟨b,_,u⟩
  ·exact R.fz c u
  ·exact (R.lt u).2
theorem RN.evo(N:RN m σ1 aA ρ F){σ:ar}(hm:σ.length<=m){M s:Nat->Option Nat}{Fz j:Nat->Prop}{w u:World}(Z:∀b,F b->m<=b)(R:Rel σ M Fz w)(R1:Rel σ1 s j u)(E:bH σ M Fz w σ1 s j u) :
  bH σ M Fz w aA (mN aA.length ρ s) (fzN F s j) u:=by
 refine ⟨E.size,E.frame,λb c h=>?_,λc h=>⟨.inl (E.fz c h).1,(E.fz c h).2⟩,λc h=>?_,E.qo,λb G A=>?_,E.out⟩
 ·unfold mN at h;split at h
  ·exact E.ld _ c h
  simp_all
 ·rcases h with h | ⟨b,_,h⟩
  ·exact E.ow c h
  ·rcases E.ld b c h with K | K
   ·simp_all
   omega
 ·obtain ⟨O,U,h2,h3⟩:=E.keep b G A;have i:b<m:=FY (gC.1 A).1 hm;obtain ⟨W,x,z,X,h6⟩:=N.sz b (FY i N.le);rw[N.id b i,U] at z;simp only[au] at z;subst z;refine ⟨x,X,by omega,λhe=>?_⟩;unfold mN;rw[if_pos (FY i N.le),N.id b i]
  simp_all
end
end
end Go.Abs
end
section
namespace Go.Abs
noncomputable section
variable[Gl][Y:Ty]
def SzC(m:Nat)(σ1 aA:ar):Prop:=∀b,b<m->∀e,σ1[b]? = some e->∃a,aA[b]? = some a/\a.sz=e.sz
def kM(m:Nat)(d1 d2:D):Prop:=∀(σ1 aA:ar)(M:Nat->Option Nat)(a:Nat->Prop)(w:World)(v:Value),SzC m σ1 aA->V σ1 M a w d1 v->V aA (cZ M m) a w d2 v
theorem kM.any(m:Nat)(d:D):kM m d .any:=λ_ _ _ _ _ _ _ _=>.any _
theorem kM.low{m:Nat}{d:D}(j:d.low m=true):kM m d d:=by
 intro σ1 aA M Fz w v hs h;induction h with
 |c h=>exact .c h
 |any v=>exact .any v
 |ptr a X h G x=>simp only[D.low,bA] at j;obtain ⟨s,u,K⟩:=hs _ j _ h;exact .ptr a s u (by omega) (λE=>by grind [cZ])
 |sl a n cap O X h G x=>simp only[D.low,bA] at j;obtain ⟨s,u,K⟩:=hs _ j _ h;exact .sl a n cap O s u (by omega) (λE=>by rw[K] at E;simpa[cZ,j] using x E)
 |mp c X h x=>simp only[D.low,bA] at j;obtain ⟨s,u,K⟩:=hs _ j _ h;exact .mp c s u (λE=>by grind [cZ])
 |fn z Z A u x hw U W=>simp only[D.low,bN] at j;exact .fn z Z A u (λi d v a b=>U i d v a b (D.aZ j.1 i d a)) (λi d v a b=>W i d v a b (D.aZ j.2 i d a))
 |agg z A x ih=>simp only[D.low] at j;exact .agg z A (λi d v a b=>ih i d v a b (D.aZ j i d a))
 |aS z A x ih=>simp only[D.low] at j;exact .aS z A (λi d v a b=>ih i d v a b (D.aZ j i d a))
theorem kM.le{m:Nat}{d1 d2 i:D}(h:Fe d1 d2)(s:kM m d2 i):kM m d1 i:=λσ1 aA M j w v hs u=>s σ1 aA M j w v hs (h σ1 M j w v u)
theorem kM.agg{m:Nat}{ds es:List D}(h:aJ (kM m) ds es):kM m (.agg ds) (.agg es):=λσ1 aA M s w v hs j=>by
 cases j with
 |agg u x j=>refine .agg u (by rw[x,h.len]) λi d v a b=>?_;obtain ⟨z,A,E⟩:=h.get' i d a;exact E σ1 aA M s w v hs (j i z v A b)
theorem kM.aS{m:Nat}{ds es:List D}(h:aJ (kM m) ds es):kM m (.aS ds) (.aS es):=λσ1 aA M s w v hs j=>by
 cases j with
 |aS u x j=>refine .aS u (by rw[x,h.len]) λi d v a b=>?_;obtain ⟨z,A,E⟩:=h.get' i d a;exact E σ1 aA M s w v hs (j i z v A b)
def ObW(m:Nat):Ob->Ob->Prop
 |.cells ds,ob=>∃a,ob=.cells a/\aJ (kM m) ds a
 |.map a k,ob=>ob=.map a k/\(a.all λe=>e.2.1.low m)=true
 |.gone k,ob=>ob=.gone k
theorem ObW.sz{m:Nat}{a b:Ob}(h:ObW m a b):b.sz=a.sz:=by
 cases a with
 |cells ds=>obtain ⟨i,rfl,h⟩:=h;simp only[Ob.sz,h.len]
 |map i k=>obtain ⟨rfl,_⟩:=h;rfl
 |gone k=>cases h;rfl
structure HpW (m:Nat) (σ1 aA:ar):Prop where
 len:aA.length=m
 le:m<=σ1.length
 ob:∀b ob,σ1[b]? = some ob->b<m->∃ob2,aA[b]? = some ob2/\ObW m ob ob2
theorem HpW.szc{m:Nat}{σ1 aA:ar}(h:HpW m σ1 aA):SzC m σ1 aA:=λb j s u=>let ⟨i,h1,h2⟩:=h.ob b s u j;⟨i,h1,h2.sz⟩
theorem HpW.rel{m:Nat}{σ1 aA:ar}(h:HpW m σ1 aA){M:Nat->Option Nat}{Fz:Nat->Prop}{w:World}(R:Rel σ1 M Fz w):Rel aA (cZ M m) Fz w:=by
 refine ⟨λb c j=>?_,λb b' c j s=>?_,R.fz,R.gl⟩
 ·unfold cZ at j;split at j
  ·rename_i A;obtain ⟨h1,X,o,h2,h3,E⟩:=R.blk b c j;obtain ⟨G,h5,Z⟩:=h.ob b X h2 A;refine ⟨h1,G,o,h5,h3,?_⟩;cases X with
   |cells cs=>obtain ⟨u,T,K,z,O⟩:=E;obtain ⟨es,rfl,ha⟩:=Z;refine ⟨u,T,K,by grind [aJ.len],λi d v x y=>?_⟩;obtain ⟨d1,h7,h8⟩:=ha.get' i d x;obtain ⟨h9,U⟩:=O i d1 v h7 y;exact ⟨h8 σ1 aA M Fz w v h.szc h9,U⟩
   |map es W=>obtain ⟨u,K,z,O⟩:=E;obtain ⟨rfl,hl⟩:=Z;refine ⟨u,K,z,λi k d n e x y=>?_⟩;obtain ⟨p,q,r⟩:=O i k d n e x y;rw[iR] at hl;exact ⟨p,q,kM.low (hl (k,d,n) (Bb x)) σ1 aA M Fz w _ h.szc r⟩
   |gone n=>exact E.elim
  simp_all
 ·unfold cZ at j s;split at j
  ·split at s
   ·exact R.inj b b' c j s
   simp_all
  simp_all
theorem HpW.evo{m:Nat}{σ1 aA σ:ar}(h:HpW m σ1 aA){M x:Nat->Option Nat}{Fz i:Nat->Prop}{w z:World}(E:bH σ M Fz w σ1 x i z)(hm:σ.length<=m):bH σ M Fz w aA (cZ x m) i z:=by
 refine ⟨E.size,E.frame,λb c h=>?_,E.fz,E.ow,E.qo,λb G A=>?_,E.out⟩
 ·unfold cZ at h;split at h
  ·exact E.ld b c h
  simp_all
 ·obtain ⟨s,K,U,W⟩:=E.keep b G A;have j:b<m:=FY (gC.1 A).1 hm;obtain ⟨u,O,X⟩:=h.ob b s K j;exact ⟨u,O,by grind [ObW.sz],λZ=>by simp only[cZ,if_pos j];grind [ObW.sz]⟩
structure StW0 (m:Nat) (al1:AL) (σ1:ar) (al2:AL) (aA:ar):Prop where
 hp:HpW m σ1 aA
 rg:∀t d2,lk t al2=some d2->∃d1,lk t al1=some d1/\kM m d1 d2
def wy(m:Nat)(al1:AL)(σ1:ar)(al2:AL)(aA:ar):Prop:=m<=aA.length/\∀(n:Nat)(h:Nat->Option Nat)(a:Nat->Prop)(f:World)(e:Array Value),Rel σ1 h a f->eU n σ1 h a f al1 e ->
 ∃i b,Rel aA i b f/\eU n aA i b f al2 e/\KK h a i b/\∀(σ:ar)(M:Nat->Option Nat)(j:Nat->Prop)(w:World),Rel σ M j w->bH σ M j w σ1 h a f->σ.length<=m->bH σ M j w aA i b f
section
variable{P:Program}{n:Nat}{al al1 al2:AL}{σ σ1 aA:ar}{Q Q':mS->AL->ar->Prop}
theorem StW0.st{m:Nat}(h:StW0 m al1 σ1 al2 aA):wy m al1 σ1 al2 aA:=⟨by rw[h.hp.len];omega,λn s i W j R A=>by
 refine ⟨cZ s m,i,h.hp.rel R,⟨A.1,λt d u=>?_⟩,⟨λb c h=>⟨b,by simp only[cZ] at h;split at h <;> simp_all⟩,λc h=>.inl h,λc h=>h⟩,λσ M X w _ E x=>h.hp.evo E x⟩
 obtain ⟨z,G,K⟩:=h.rg t d u;obtain ⟨v,O,U⟩:=A.2 t z G;exact ⟨v,O,K _ _ _ _ _ _ h.hp.szc U⟩⟩
theorem wy.refl{m:Nat}(h:m<=σ.length):wy m al σ al σ:=⟨h,λn s i u j R A=>⟨s,i,R,A,KK.refl,λσ M x w _ E _=>E⟩⟩
theorem wy.trans{m:Nat}{j:AL}{s:ar}(h:wy m al1 σ1 al2 aA)(x:wy m al2 aA j s):wy m al1 σ1 j s:=⟨x.1,λn E u z i R A=>by
 obtain ⟨G,K,M,O,U,E2⟩:=h.2 n E u z i R A;obtain ⟨W,X,Z,A3,W3,E3⟩:=x.2 n G K z i M O;refine ⟨W,X,Z,A3,U.trans W3,?_⟩
 grind⟩
theorem wy.rn{m:Nat}{ρ:Nat->Nat}{F:Nat->Prop}(N:RN m σ1 aA ρ F)(j:∀b,F b->m<=b)(h:∀t d2,lk t al2=some d2->∃d1,lk t al1=some d1/\du σ1 aA ρ F d1 d2):wy m al1 σ1 al2 aA:=⟨N.le,λn W s X i R A=>by
 refine ⟨_,_,N.rel R,⟨A.1,λt d u=>?_⟩,⟨λb c h=>⟨ρ b,by unfold mN at h;split at h <;> simp_all⟩,λc h=>h.elim .inl λ⟨b,_,h⟩=>.inr ⟨b,h⟩,λc h=>.inl h⟩,λσ M Z w x E z=>N.evo z j x R E⟩
 obtain ⟨d1,G,K⟩:=h t d u;obtain ⟨v,O,U⟩:=A.2 t d1 G;exact ⟨v,O,K _ _ _ _ R U⟩⟩
theorem wy.use{m:Nat}(h:wy m al1 σ1 al2 aA){M z:Nat->Option Nat}{Fz i:Nat->Prop}{w u:World}{j:Array Value}(G:Rel σ M Fz w)(R:Rel σ1 z i u)(A:eU n σ1 z i u al1 j)(E:bH σ M Fz w σ1 z i u)(hm:σ.length<=m) :
  ∃x s,Rel aA x s u/\eU n aA x s u al2 j/\bH σ M Fz w aA x s u/\σ.length<=aA.length/\KK z i x s:=by
 obtain ⟨x,K,O,U,W,X⟩:=h.2 n z i u j R A;exact ⟨x,K,O,U,X σ M Fz w G E hm,lK hm h.1,W⟩
theorem Sem.fh{ac:aR}(h:Sem P ac n al σ Q)(s:∀x i σ',Q x i σ'->Q' x i σ'∨∃al2 aA,wy σ.length i σ' al2 aA/\Q' x al2 aA):Sem P ac n al σ Q':=by
 intro c u M z w a K R A hK;refine h c u M z w a K R A λx i σ' a' w' M' E G hd O U W hl=>?_;rcases s x i σ' G with j | ⟨al2,aA,X,j⟩
 ·grind
 ·obtain ⟨M2,F2,R2,A2,E2,l2,Z⟩:=X.use R O U W (cX _);have:=hd.wth Z
  grind
theorem Sem.kw{a b:aR}(h:Sem P a n al σ λx al1 σ1=>match x with | .normal=>Sem P b n al1 σ1 Q∨∃al2 aA,wy σ.length al1 σ1 al2 aA/\Sem P b n al2 aA Q | x=>Q x al1 σ1):Sem P (.seq a b) n al σ Q:=by
 refine Sem.seq (h.fh (Q':=λx al1 σ1=>match x with | .normal=>∃al2 aA,Wk σ.length al1 σ1 al2 aA/\Sem P b n al2 aA Q | x=>Q x al1 σ1) λx s u j=>?_);cases x with
 |normal=>
  rcases j with j | ⟨al2,aA,z,j⟩
  ·exact .inl ⟨s,u,.refl,j⟩
  ·exact .inr ⟨al2,aA,z,al2,aA,.refl,j⟩
 |exit i=>simp_all
 |ret=>simp_all
theorem lM.preW{ac:aR}{k:Nat}(hs:wy σ.length al σ al2 aA)(h:lM P ac k n al2 aA Q):lM P ac k n al σ Q:=by intro c z M Fz w a K R A E;obtain ⟨G,O,U,W,X,u,W2⟩:=hs.use R R A (bH.refl R) (cX _);exact h c z G O w a K U W λx i j Z w' M' s hQ hd R' A' E' hl=>E x i j Z w' M' s hQ hd R' A' (X.trans E' u) (lK u hl)
theorem lM.succW{b:aR}{k:Nat}(h:Sem P b n al σ λx al1 σ1=>match x with | .normal=>∃al2 aA,wy σ.length al1 σ1 al2 aA/\lM P b k n al2 aA Q | x=>Q x al1 σ1):lM P b (k+1) n al σ Q:=by
 refine lM.succ (h.fh (Q':=λx al1 σ1=>match x with | .normal=>∃al2 aA,Wk σ.length al1 σ1 al2 aA/\lM P b k n al2 aA Q | x=>∃al2 aA,Wk σ.length al1 σ1 al2 aA/\Q x al2 aA) λx j s u=>?_);cases x with
 |normal=>obtain ⟨al2,aA,z,u⟩:=u;exact .inr ⟨al2,aA,z,al2,aA,.refl,u⟩
 |exit i=>exact .inl ⟨j,s,.refl,u⟩
 |ret=>exact .inl ⟨j,s,.refl,u⟩
end
section
theorem RC_wk0{σ:TH}{x:TC}{d:D}(r:RC x d)(g:GC σ x):kM σ.length d x.er:=by
 rcases r with rfl | rfl
 ·exact kM.any _ _
 ·cases x with
  |any=>exact kM.any _ _
  |d y=>exact kM.low g
  |own i b v n=>obtain ⟨blk,h,_⟩:=g;exact kM.low (by simp only[TC.er,OS,D.low,bA];grind)
  |op i b v n k a off=>obtain ⟨blk,h,_⟩:=g;exact kM.low (by simp only[TC.er,D.low,bA];grind)
  |os i b v n e len=>obtain ⟨blk,h,_⟩:=g;exact kM.low (by simp only[TC.er,D.low,bA];grind)
  |ap b off len sz k=>exact kM.low (by simp only[TC.er,D.low,bA];exact g)
  |GX f j=>exact kM.low (Dt g)
  |_=>exact kM.low rfl
theorem XB{σ:TH}{x:TC}{d:D}(r:RC x d)(g:GC σ x):∃d2,kM σ.length d d2/\RC x d2:=⟨_,RC_wk0 r g,.inr rfl⟩
theorem Yl{σ:TH}{xs:List TC}{ds:List D}(r:aJ RC xs ds)(g:∀x∈xs,GC σ x):∃es,aJ (kM σ.length) ds es/\aJ RC xs es:=by
 induction r with
 |nil=>exact ⟨[],.nil,.nil⟩
 |cons h _ ih=>obtain ⟨e,a,b⟩:=XB h (g _ (ql ..));obtain ⟨es,f,i⟩:=ih λx j=>g x (lI _ j);exact ⟨e::es,.cons a f,.cons b i⟩
theorem RE_wk{σ:TH}{p:Bool×List TC}{d:D}(r:RE p d)(g:∀x∈p.2,GC σ x):∃d2,kM σ.length d d2/\RE p d2:=by
 obtain ⟨f,j⟩:=p;cases f with
 |true=>obtain ⟨ds,rfl,h⟩:=r;obtain ⟨i,a,b⟩:=Yl h g;exact ⟨.agg i,kM.agg a,i,rfl,b⟩
 |false=>obtain ⟨x,rfl,h⟩:=r;obtain ⟨e,a,b⟩:=XB h (g x (by simp));exact ⟨e,a,x,rfl,b⟩
theorem RT_wk{σ:TH}{x:TV}{d:D}(r:RT x d)(g:GV σ x):∃d2,kM σ.length d d2/\RT x d2:=by
 cases x with
 |c x=>exact XB r g
 |agg i=>obtain ⟨ds,rfl,h⟩:=r;obtain ⟨a,b,f⟩:=Yl h g;exact ⟨.agg a,kM.agg b,a,rfl,f⟩
 |aS i=>
  obtain ⟨ds,rfl,h⟩:=r;have:∃a,aJ (kM σ.length) ds a/\aJ RE i a:=by
   induction h with
   |nil=>exact ⟨[],.nil,.nil⟩
   |cons h _ ih=>obtain ⟨e,b,f⟩:=RE_wk h (g _ (ql ..));obtain ⟨a,j,l⟩:=ih λx p=>g x (lI _ p);exact ⟨e::a,.cons b j,.cons f l⟩
  obtain ⟨a,b,f⟩:=this;exact ⟨.aS a,kM.aS b,a,rfl,f⟩
theorem RR_wk{al:TA}{σ:TH}{x:RV}{d:D}(r:RR x d)(g:GW al σ x):∃d2,kM σ.length d d2/\RR x d2:=by
 cases x with
 |v x=>exact RT_wk r g
 |g c w p x=>
  by_cases h:c=w
  ·simp only[RR,if_pos h] at r ⊢;exact RT_wk r (g.2 h)
  ·simp only[RR,if_neg h] at r ⊢;subst r;exact ⟨.aS [],kM.low rfl,rfl⟩
theorem rdV_wk{m:Nat}{c:dm}{v:TV}{d:D}{a:c.dn}(h:ry c v=some a)(r:RT v d):kM m d (c.enc a):=by obtain ⟨b,f,_⟩:=QE h r;refine kM.le (d2:=CJ d) (λσ M i w v e=>FC e) ?_;rw[b];exact kM.low (D.eJ (Px _) (c.Kh a))
theorem rdC_wk{m:Nat}{c:CC}{x:TC}{d:D}{a:c.dn}(h:DE c x=some a)(r:RC x d):kM m d (.c (tn enc c a)):=by
 obtain ⟨f,b⟩:=pR h;rcases r with r | rfl
 ·simp_all
 ·rw[<-b];refine kM.le (d2:=xF x.er) (λσ M i w v e=>JL e) ?_;rw[b];exact kM.low rfl
theorem Cb{α:Type}{p:Nat->α->Prop}(m:Nat)(h:∀b,b<m->∃a,p b a):∃l:List α,l.length=m/\∀b a,l[b]? = some a->p b a:=by
 induction m with
 |zero=>simp_all
 |succ m ih=>
  obtain ⟨l,e,f⟩:=ih λb i=>h b (by omega);obtain ⟨a,j⟩:=h m (by omega);refine ⟨l++[a],by simp[e],λb x s=>?_⟩
  grind
theorem Rs{t:Nat}:∀{al:TA}{f:Nat->D},(∃x p,iQ t al=some (x,p))->lk t (al.map λp=>(p.1,f p.1))=some (f t):=by
 intro al f;induction al with
 |nil=>grind [iQ]
 |cons y al ih=>grind [iQ,lk,Nat.eq_of_beq_eq_true]
theorem NQ{t:Nat}{d:D}:∀{al:TA}{f:Nat->D},lk t (al.map λp=>(p.1,f p.1))=some d->(∃x p,iQ t al=some (x,p))/\d=f t:=by
 intro al f;induction al with
 |nil=>grind [lk]
 |cons y al ih=>
  intro h;obtain ⟨s,z⟩:=y;simp only[ru,lk] at h;simp only[iQ];split at h
  ·simp_all
  simp_all
theorem stw_of{al2:TA}{aA:TH}{a:AL}{σD1:ar}(u:aA.length<=σD1.length)
  (z:∀t x p,iQ t al2=some (x,p)->GW al2 aA x/\∃d1 d2,lk t a=some d1/\kM aA.length d1 d2/\RR x d2)
  (G:∀(b:Nat) blk,aA[b]? = some blk->∃i j,σD1[b]? = some i/\ObW aA.length i j/\RB blk j)
  (K:∀(b:Nat) w cs,aA[b]? = some (.cells w cs)->∀p∈cs,GC aA p.2/\p.1<=w) :
  ∃l e,wy aA.length a σD1 l e/\Ref al2 aA l e:=by
 have v:∃f:Nat->D,∀t x p,iQ t al2=some (x,p)->∃d1,lk t a=some d1/\kM aA.length d1 (f t)/\RR x (f t):=by
  have:∀t,∃d2,∀x p,iQ t al2=some (x,p)->∃d1,lk t a=some d1/\kM aA.length d1 d2/\RR x d2:=by
   intro t;cases L:iQ t al2 with
   |none=>simp_all
   |some q=>obtain ⟨x,p⟩:=q;obtain ⟨_,d1,d2,T,M,y⟩:=z t x p L;exact ⟨d2,λU W h=>by simp_all⟩
  exact ⟨λt=>Classical.choose (this t),λt=>Classical.choose_spec (this t)⟩
 obtain ⟨f,v⟩:=v;obtain ⟨e,A,M⟩:=Cb (p:=λb j=>∃blk i,aA[b]? = some blk/\σD1[b]? = some i/\ObW aA.length i j/\RB blk j) aA.length λb s=>by
  obtain ⟨i,j,y,N,E⟩:=G b _ (eS s)
  grind
 refine ⟨al2.map λp=>(p.1,f p.1),e,StW0.st ⟨⟨A,u,λb X Z O=>?_⟩,λt d h=>?_⟩,⟨⟨by rw[A],λb blk s=>?_,K⟩,λt x p h=>?_⟩⟩
 ·grind
 ·obtain ⟨⟨x,p,y⟩,rfl⟩:=NQ h
  grind
 ·grind
 ·obtain ⟨d1,y,N,E⟩:=v t x p h;exact ⟨f t,Rs ⟨x,p,h⟩,E,(z t x p h).1⟩
end
end
end Go.Abs
end
section
namespace Go.Abs
noncomputable section
variable[Gl][Y:Ty]
def notH(pl:List Pl)(b j:Nat):Prop:=∀c,Pl.h b j c∉pl
def notW(pl:List Pl)(b:Nat):Prop:=∀i,Pl.w b i∉pl
def notM(pl:List Pl)(b:Nat):Prop:=∀j st,Pl.m b j st∉pl
def SB(pl:List Pl)(b:Nat):TB->TB->Prop
 |.cells w x,a=>∃w1 e,a=.cells w1 e/\e.length=x.length/\∀(j:Nat) p p1,x[j]? = some p->e[j]? = some p1->notH pl b j->p1=p
 |.row i l y z,a=>∃s f h,a=.row i s f h/\(notW pl b->s=l/\f=y/\h=z)
 |.mp j st l v,a=>∃A u s E,a=.mp A u s E/\(notM pl b->a=.mp j st l v)
def HS(pl:List Pl)(σ σ1:TH):Prop:=∀(b:Nat) blk,σ[b]? = some blk->∃a,σ1[b]? = some a/\SB pl b blk a
theorem SB.trans{pl:List Pl}{b:Nat}{x y z:TB}(u:SB pl b x y)(A:SB pl b y z):SB pl b x z:=by
 cases x with
 |cells w cs=>
  obtain ⟨w1,X,rfl,O,c1⟩:=u;obtain ⟨w2,E,rfl,s,U⟩:=A;refine ⟨w2,E,rfl,by omega,λj p p2 e e2 W=>?_⟩
  grind
 |row i l lv cv=>
  obtain ⟨O,Z,aa,rfl,c1⟩:=u;obtain ⟨s,G,K,rfl,U⟩:=A;refine ⟨s,G,K,rfl,λW=>?_⟩
  simp_all
 |mp j st l v=>
  obtain ⟨j1,ab,O,v1,rfl,c1⟩:=u;obtain ⟨j2,M,s,v2,rfl,U⟩:=A;refine ⟨j2,M,s,v2,rfl,λW=>?_⟩
  grind
theorem HS.trans{pl:List Pl}{σ σ1 aA:TH}(s:HS pl σ σ1)(u:HS pl σ1 aA):HS pl σ aA:=λb blk h=>by obtain ⟨i,x,s1⟩:=s b blk h;obtain ⟨j,z,A⟩:=u b i x;exact ⟨j,z,s1.trans A⟩
theorem Kz{f:Pl->Bool}{pl:List Pl}(h:pl.any f=true):∃p∈pl,f p=true:=by simp_all
theorem KG{pl:List Pl}{b:Nat}:∀{xs a:List (Nat×TC)}{f:Nat},mD pl b f xs a=true->xs.length=a.length/\∀(j:Nat) p q,xs[j]? = some p->a[j]? = some q->notH pl b (f+j)->p.1=q.1:=by
 intro xs;induction xs with
 |nil=>
  intro a f h;cases a with
  |nil=>simp_all
  |cons y a=>grind [mD]
 |cons x xs ih=>
  intro a f h;cases a with
  |nil=>grind [mD]
  |cons y a=>
   obtain ⟨v,x⟩:=x;obtain ⟨w,y⟩:=y;simp only[mD,bN,gF] at h;obtain ⟨i,u⟩:=h;obtain ⟨z,L⟩:=ih u;refine ⟨by simp[z],λj p q e s A=>?_⟩;cases j with
   |zero=>
    simp only[List.getElem?_cons_zero,au] at e s;subst e s;rcases i with i | i
    ·simp_all
    ·obtain ⟨p,E,l⟩:=Kz i;exfalso;split at l
     ·rename_i M N c;simp only[bN] at l;have G:=cY l.1;have K:=cY l.2;subst G K;exact A c E
     grind
   |succ j=>grind
theorem CD{pl:List Pl}:∀{σ σ1:TH}{e:Nat},eI pl e σ σ1=true->∀(b:Nat) blk,σ[b]? = some blk->∃a,σ1[b]? = some a/\zx pl (e+b) blk a=true:=by
 intro σ;induction σ with
 |nil=>simp_all
 |cons x σ ih=>
  intro σ1 e h b blk f;cases σ1 with
  |nil=>grind [eI]
  |cons y σ1=>
   simp only[eI,bN] at h
   grind
theorem zdp{pl:List Pl}{σ σ1:TH}{σD:ar}(H:RH σ σD)(h:eI pl 0 σ σ1=true)(X:Ext σ σ1):HS pl σ σ1:=λb blk z=>by
 obtain ⟨f,U,a⟩:=CD h b blk z;rw[Rz] at a;obtain ⟨A,E,G⟩:=X b blk z;rw[U] at E;simp only[au] at E;subst E;refine ⟨f,U,?_⟩;cases blk with
 |cells w Z=>
  obtain ⟨w1,K,rfl,hw,hl,hc⟩:=G;simp only[zx] at a;obtain ⟨_,h5⟩:=KG a;refine ⟨w1,K,rfl,hl,λj p p1 e s y=>?_⟩;have hv:=h5 j p p1 e s (by simp_all);obtain ⟨v,x⟩:=p;obtain ⟨W,x1⟩:=p1;have aa:=(H.hg b w Z z _ (Bb e)).2
  grind
 |row i l lv cv=>
  obtain ⟨L,M,N,rfl,_,_,_,h8⟩:=G;refine ⟨L,M,N,rfl,λy=>?_⟩;simp only[zx,gF] at a;rcases a with a | a
  ·simp_all
  ·obtain ⟨p,O,u⟩:=Kz a;exfalso;split at u
   ·have s:=cY u;subst s;exact y _ O
   simp_all
 |mp j st l v=>
  obtain ⟨j1,T,L,W,rfl,_,h8⟩:=G;refine ⟨j1,T,L,W,rfl,λy=>?_⟩;simp only[zx,gF] at a;rcases a with a | a
  ·simp_all
  ·obtain ⟨p,O,u⟩:=Kz a;exfalso;split at u
   ·have s:=cY u;subst s;exact y _ _ O
   simp_all
def PB(al1:TA)(σ1:TH)(ps:List Pl)(b:Nat):TB->TB->Prop
 |.cells w E,e=>∃w2 f,e=.cells w2 f/\f.length=E.length/\∀(j:Nat) x,f[j]? = some x->x.1<=w2/\((∃c a,x.2=rT c a/\VW al1 σ1 (.h b j c)=some a/\Pl.h b j c∈ps)∨(E[j]? = some x/\notH ps b j))
 |.row i l K L,e=>∃h p s,e=.row i h p s/\(((∃y z,σ1[b]? = some (.row i h y z))/\∃M,Pl.w b M∈ps)∨(h=l/\p=K/\s=L/\notW ps b))
 |.mp j st l v,e=>∃G u h N,e=.mp G u h N/\(((∃O,σ1[b]? = some (.mp G u h O))/\∃T A,Pl.m b T A∈ps)∨(e=.mp j st l v/\notM ps b))
def PQ(al1:TA)(σ1:TH)(ps:List Pl)(σ aA:TH):Prop:=aA.length=σ.length/\∀(b:Nat) blk,σ[b]? = some blk->∃a,aA[b]? = some a/\BE blk a/\PB al1 σ1 ps b blk a
theorem yq{i j:Nat}{l:List (Int×TT j)}{m:List (Int×TT i)}(h:NX l=some m):∃e:j=i,m=e▸l:=by
 unfold NX at h;split at h
 ·simp_all
 simp_all
theorem PQ.nil{al1:TA}{σ1 σ:TH}{σD:ar}(H:RH σ σD):PQ al1 σ1 [] σ σ:=⟨rfl,λb blk h=>⟨blk,h,BE.refl blk,by
 cases blk with
 |cells w s=>exact ⟨w,s,rfl,rfl,λj u e=>⟨(H.hg b w s h u (Bb e)).2,.inr ⟨e,λc E=>by grind⟩⟩⟩
 |row i l x z=>exact ⟨l,x,z,rfl,.inr ⟨rfl,rfl,rfl,λi A=>by grind⟩⟩
 |mp j st l v=>exact ⟨j,st,l,v,rfl,.inr ⟨rfl,λj st A=>by grind⟩⟩⟩⟩
theorem PB.Qc{al1:TA}{σ1:TH}{ps:List Pl}{b:Nat}{x y:TB}{p:Pl}(h:PB al1 σ1 ps b x y)(h1:∀j c,p≠.h b j c)(h2:∀i,p≠.w b i)(h3:∀j st,p≠.m b j st):PB al1 σ1 (p::ps) b x y:=by
 cases x with
 |cells w cs=>
  obtain ⟨w2,E,e,A,X⟩:=h;refine ⟨w2,E,e,A,λj Z e2=>?_⟩;obtain ⟨h4,s⟩:=X j Z e2;refine ⟨h4,?_⟩;rcases s with ⟨c,a,s,z,W⟩ | ⟨s,z⟩
  ·grind
  ·refine .inr ⟨s,λc u=>?_⟩;rcases gq.1 u with u | u
   ·grind
   ·exact z c u
 |row i l lv cv=>
  obtain ⟨A,G,K,e,s⟩:=h;refine ⟨A,G,K,e,?_⟩;rcases s with ⟨s,i',z⟩ | ⟨s,z,W,M⟩
  ·grind
  ·refine .inr ⟨s,z,W,λi O=>?_⟩;rcases gq.1 O with u | u
   ·grind
   ·exact M i u
 |mp j st l v=>
  obtain ⟨j2,U,A,v2,e,s⟩:=h;refine ⟨j2,U,A,v2,e,?_⟩;rcases s with ⟨s,j',aa,z⟩ | ⟨s,M⟩
  ·grind
  ·refine .inr ⟨s,λj st O=>?_⟩;rcases gq.1 O with u | u
   ·grind
   ·exact M j st u
theorem PQ.step{al1:TA}{σ1 σ aA:TH}{σD:ar}{ps pl:List Pl}(H:RH σ σD)(hs:HS pl σ σ1)(p:Pl)(x:p.dn)(Z:VW al1 σ1 p=some x)(h:PQ al1 σ1 ps σ aA):PQ al1 σ1 (p::ps) σ (UH p x aA):=by
 obtain ⟨hl,hb⟩:=h;cases p with
 |r t c=>exact ⟨hl,λb blk e=>let ⟨s,G,M,K⟩:=hb b blk e;⟨s,G,M,K.Qc (by simp) (by simp) (by simp)⟩⟩
 |w U i0=>
  simp only[UH];split
  ·rename_i j l lv cv e0;refine ⟨by simp[hl],λb blk e=>?_⟩;obtain ⟨s,G,M,K⟩:=hb b blk e;by_cases u:b=U
   ·subst u;rw[e0] at G;simp only[au] at G;subst G;refine ⟨_,Hs e0,?_⟩;simp only[VW] at Z;split at Z
    ·rename_i j1 l1 ax a0 e1;obtain ⟨rfl,rfl⟩:=RQ Z;obtain ⟨ab,E,sb⟩:=hs b blk e;rw[e1] at E;simp only[au] at E;subst E;cases blk with
     |cells w cs=>obtain ⟨_,_,O,_⟩:=sb;grind
     |mp q st l v=>obtain ⟨_,_,_,_,O,_⟩:=sb;grind
     |row i l0 a7 a8=>obtain ⟨l5,a9,bb,O,_⟩:=sb;simp only[TB.row.injEq] at O;obtain ⟨rfl,e5,rfl,rfl⟩:=O;cases e5;obtain ⟨l6,bd,be,e6,b1,b2,b3,b4⟩:=M;simp only[TB.row.injEq] at e6;obtain ⟨rfl,e7,rfl,rfl⟩:=e6;cases e7;exact ⟨⟨_,_,_,rfl,by omega,by omega,λe=>by omega,λe=>by omega⟩,⟨_,_,_,rfl,.inl ⟨⟨ax,a0,e1⟩,_,ql ..⟩⟩⟩
    simp_all
   ·exact ⟨s,by grind,M,K.Qc (by simp) (by grind) (by simp)⟩
  ·rename_i ad;refine ⟨hl,λb blk e=>?_⟩;obtain ⟨s,G,M,K⟩:=hb b blk e;refine ⟨s,G,M,?_⟩;by_cases u:b=U
   ·subst u;cases s with
    |row i l lv cv=>grind
    |cells w cs=>
     cases blk with
     |cells w' a1=>
      obtain ⟨w2,af,E,l2,c2⟩:=K;refine ⟨w2,af,E,l2,λj p2 O=>?_⟩;obtain ⟨h4,W⟩:=c2 j p2 O;refine ⟨h4,?_⟩;rcases W with ⟨c,a,W,h6,h7⟩ | ⟨W,h6⟩
      ·grind
      ·refine .inr ⟨W,λc X=>?_⟩;rcases gq.1 X with X | X
       ·grind
       ·exact h6 c X
     |row i l lv cv=>obtain ⟨_,_,_,E,_⟩:=K;grind
     |mp q st l v=>obtain ⟨_,_,_,_,E,_⟩:=K;grind
    |mp q st l v=>
     cases blk with
     |mp q' ak l' v'=>
      obtain ⟨j2,a2,l2,v2,E,W⟩:=K;refine ⟨j2,a2,l2,v2,E,?_⟩;rcases W with ⟨W,j',ak,h6⟩ | ⟨W,h8⟩
      ·grind
      ·refine .inr ⟨W,λj st hi=>?_⟩;rcases gq.1 hi with X | X
       ·grind
       ·exact h8 j st X
     |row i l lv cv=>obtain ⟨_,_,_,E,_⟩:=K;grind
     |cells w cs=>obtain ⟨_,_,E,_⟩:=K;grind
   ·exact K.Qc (by simp) (by grind) (by simp)
 |h U j0 c0=>
  have A:∀blk,σ[U]? = some blk->∃w cs w1 aa y,blk=.cells w cs/\σ1[U]? = some (.cells w1 aa)/\aa[j0]? = some y/\DE c0 y.2=some x/\j0<cs.length:=by
   intro blk e;have bh:=Z;simp only[VW] at Z;split at Z
   ·rename_i w1 aa e1;split at Z
    ·rename_i y G;obtain ⟨ab,E,sb⟩:=hs U blk e;rw[e1] at E;simp only[au] at E;subst E;cases blk with
     |cells w cs=>
      obtain ⟨_,_,O,l4,_⟩:=sb
      grind
     |row i l lv cv=>obtain ⟨_,_,_,O,_⟩:=sb;grind
     |mp q st l v=>obtain ⟨_,_,_,_,O,_⟩:=sb;grind
    simp_all
   simp_all
  simp only[UH];split
  ·rename_i w' a1 e0;refine ⟨by simp[hl],λb blk e=>?_⟩;obtain ⟨s,G,M,K⟩:=hb b blk e;by_cases u:b=U
   ·subst u;rw[e0] at G;simp only[au] at G;subst G;obtain ⟨w,cs,w1,aa,y,rfl,E,O,e5,e6⟩:=A blk e;refine ⟨_,Hs e0,?_⟩;obtain ⟨w2,af,e7,l2,c2⟩:=K;simp only[TB.cells.injEq] at e7;obtain ⟨rfl,rfl⟩:=e7;obtain ⟨w3,a5,e8,bw,bl,bc⟩:=M;simp only[TB.cells.injEq] at e8;obtain ⟨rfl,rfl⟩:=e8;refine ⟨⟨w'+1,_,rfl,by omega,by simp[l2],λj v z v1 z1 q1 q2=>?_⟩,⟨w'+1,_,rfl,by simp[l2],λj p2 q=>?_⟩⟩
    ·grind
    ·by_cases hj:j=j0
     ·grind
     ·rw[List.getElem?_set_ne (λe=>hj e.symm)] at q;obtain ⟨q1,q2⟩:=c2 j p2 q;refine ⟨by omega,?_⟩;rcases q2 with ⟨c,a,W,h6,h7⟩ | ⟨W,h6⟩
      ·grind
      ·refine .inr ⟨W,λc X=>?_⟩;rcases gq.1 X with X | X
       ·simp_all
       ·exact h6 c X
   ·exact ⟨s,by grind,M,K.Qc (by grind) (by simp) (by simp)⟩
  ·rename_i ad;refine ⟨hl,λb blk e=>?_⟩;obtain ⟨s,G,M,K⟩:=hb b blk e;by_cases u:b=U
   ·subst u;obtain ⟨w,cs,_,_,_,rfl,_⟩:=A blk e;obtain ⟨w3,a5,rfl,_⟩:=M
    simp_all
   ·exact ⟨s,G,M,K.Qc (by grind) (by simp) (by simp)⟩
 |m U j0 an=>
  have A:∀blk,σ[U]? = some blk->∃j st l v v1,blk=.mp j st l v/\σ1[U]? = some (.mp j0 an x v1):=by
   intro blk e;simp only[VW] at Z;split at Z
   ·rename_i j1 a6 l1 v1 e1;split at Z
    ·rename_i av;have av:an=a6:=eq_of_beq av;obtain ⟨rfl,rfl⟩:=yq Z;obtain ⟨ab,E,sb⟩:=hs U blk e;rw[e1] at E;simp only[au] at E;subst E;cases blk with
     |mp q st l v=>simp_all
     |row i l lv cv=>obtain ⟨_,_,_,O,_⟩:=sb;grind
     |cells w cs=>obtain ⟨_,_,O,_⟩:=sb;grind
    simp_all
   simp_all
  simp only[UH];split
  ·rename_i j' ak l' v' e0;refine ⟨by simp[hl],λb blk e=>?_⟩;obtain ⟨s,G,M,K⟩:=hb b blk e;by_cases u:b=U
   ·subst u;rw[e0] at G;simp only[au] at G;subst G;obtain ⟨j,st,l,v,v1,rfl,E⟩:=A blk e;obtain ⟨_,_,_,_,O,b1,b2⟩:=M;simp only[TB.mp.injEq] at O;obtain ⟨rfl,rfl,e5,rfl⟩:=O;cases e5;exact ⟨_,Hs e0,⟨_,_,_,_,rfl,by omega,λe=>by omega⟩,⟨_,_,_,_,rfl,.inl ⟨⟨v1,E⟩,_,_,ql ..⟩⟩⟩
   ·exact ⟨s,by grind,M,K.Qc (by simp) (by simp) (by grind)⟩
  ·rename_i ad;refine ⟨hl,λb blk e=>?_⟩;obtain ⟨s,G,M,K⟩:=hb b blk e;by_cases u:b=U
   ·subst u;obtain ⟨j,st,l,v,v1,rfl,_⟩:=A blk e;obtain ⟨_,_,_,_,rfl,_⟩:=M
    grind
   ·exact ⟨s,G,M,K.Qc (by simp) (by simp) (by grind)⟩
theorem PQ.all{al1:TA}{σ1 σ:TH}{σD:ar}{pl:List Pl}(H:RH σ σD)(hs:HS pl σ σ1):∀(ps:List Pl)(x:si ps),LW al1 σ1 ps=some x->PQ al1 σ1 ps σ (sN ps x σ):=by
 intro ps;induction ps with
 |nil=>intro x _;exact PQ.nil H
 |cons p ps ih=>
  intro x i;cases ps with
  |nil=>exact PQ.step H hs p x i (PQ.nil H)
  |cons q ps=>
   simp only[LW] at i;split at i
   ·rename_i a b j s;simp only[au] at i;subst i;exact PQ.step H hs p a j (ih b s)
   simp_all
theorem PQ.ext{al1:TA}{σ1 σ aA:TH}{ps:List Pl}(h:PQ al1 σ1 ps σ aA):Ext σ aA:=λb blk e=>let ⟨i,j,h1,_⟩:=h.2 b blk e;⟨i,j,h1⟩
theorem PQ.hs{al1:TA}{σ1 σ aA:TH}{ps:List Pl}(h:PQ al1 σ1 ps σ aA)(hs:HS ps σ σ1):HS ps σ aA:=λb blk e=>by
 obtain ⟨u,W,h1,E⟩:=h.2 b blk e;refine ⟨u,W,?_⟩;cases blk with
 |cells w cs=>
  obtain ⟨w2,G,rfl,x,X⟩:=E;refine ⟨w2,G,rfl,x,λj p p1 q Z z=>?_⟩;rcases (X j p1 Z).2 with ⟨c,a,_,_,A⟩ | ⟨s,_⟩
  ·exact absurd A (z c)
  simp_all
 |row i l lv cv=>
  obtain ⟨x,K,M,rfl,s⟩:=E;refine ⟨x,K,M,rfl,λz=>?_⟩;rcases s with ⟨_,i',A⟩ | ⟨s,h4,h5,_⟩
  ·exact absurd A (z i')
  simp_all
 |mp j st l v=>
  obtain ⟨j2,O,x,v2,rfl,s⟩:=E;refine ⟨j2,O,x,v2,rfl,λz=>?_⟩;rcases s with ⟨_,j',U,A⟩ | ⟨s,_⟩
  ·exact absurd A (z j' U)
  omega
end
end Go.Abs
end
section
namespace Go.Abs
noncomputable section
variable[Gl][Y:Ty]
theorem Sc(t:Nat):∀(al:TA),Qe t al=(iQ t al).map Prod.fst:=by
 intro al;induction al with
 |nil=>rfl
 |cons y al ih=>grind [Qe,iQ]
theorem kF{t:Nat}{al:TA}{x:RV}(h:Qe t al=some x):∃p,iQ t al=some (x,p):=by grind [Sc,Option.map_eq_some_iff]
theorem qp{t:Nat}{q:RV×Nat}:∀{pre al:TA},(∀y∈pre,y.1≠t)->iQ t al=some q->iQ t (pre++al)=some q:=by
 intro pre al;induction pre with
 |nil=>simp_all
 |cons z pre ih=>grind [iQ,Nat.eq_of_beq_eq_true]
theorem Ay{t:Nat}{q:RV×Nat}:∀{pre al:TA},iQ t al=some q->∃a,iQ t (pre++al)=some a:=by
 intro pre al;induction pre with
 |nil=>simp_all
 |cons z pre ih=>
  intro h;obtain ⟨s,y⟩:=z;simp only[List.cons_append,iQ]
  grind
theorem Wv{al1:TA}{σ1:TH}{al:TA}{t:Nat}{v:RV}{p:Nat}:∀(ps:List Pl)(x:si ps),LW al1 σ1 ps=some x->iQ t (Hk ps x al)=some (v,p) ->
  (∃c a,v=.v (c.tv a)/\VW al1 σ1 (.r t c)=some a)∨((∀c,Pl.r t c∉ps)/\iQ t al=some (v,p)):=by
 have one:∀(p0:Pl)(x:p0.dn)(al0:TA),VW al1 σ1 p0=some x->iQ t (WJ p0 x al0)=some (v,p)->(∃c a,v=.v (c.tv a)/\VW al1 σ1 (.r t c)=some a)∨((∀c,Pl.r t c≠p0)/\iQ t al0=some (v,p)):=by
  intro p0 x al0 f h;cases p0 with
  |r z c=>
   simp only[WJ,iQ] at h;split at h
   ·grind [Nat.eq_of_beq_eq_true]
   ·rename_i l;refine .inr ⟨λA e=>?_,h⟩
    simp_all
  |w b i=>exact .inr ⟨λc e=>by simp at e,h⟩
  |h b j c=>exact .inr ⟨λc e=>by simp at e,h⟩
  |m b j st=>exact .inr ⟨λc e=>by simp at e,h⟩
 intro ps;induction ps with
 |nil=>intro x _ h;exact .inr ⟨λc E=>by grind,h⟩
 |cons p0 ps ih=>
  intro x f h;cases ps with
  |nil=>
   rcases one p0 x al f h with h | ⟨s,u⟩
   ·simp_all
   simp_all
  |cons q ps=>
   simp only[LW] at f;split at f
   ·rename_i a b y l;simp only[au] at f;subst f;rcases one p0 a _ y h with h | ⟨s,u⟩
    ·simp_all
    simp_all
   simp_all
theorem Iv:∀(ps:List Pl)(x:si ps)(al:TA),∃pre,Hk ps x al=pre++al/\∀y∈pre,∃c,Pl.r y.1 c∈ps:=by
 have one:∀(p0:Pl)(x:p0.dn)(al:TA),∃pre,WJ p0 x al=pre++al/\∀y∈pre,∃c,Pl.r y.1 c=p0:=by
  intro p0 x al;cases p0 with
  |r t c=>exact ⟨[(t,.v (c.tv x))],rfl,λy a=>by simp_all⟩
  |w b i=>exact ⟨[],rfl,λy a=>by grind⟩
  |h b j c=>exact ⟨[],rfl,λy a=>by grind⟩
  |m b j st=>exact ⟨[],rfl,λy a=>by grind⟩
 intro ps;induction ps with
 |nil=>intro x al;exact ⟨[],rfl,λy a=>by grind⟩
 |cons p0 ps ih=>
  intro x al;cases ps with
  |nil=>obtain ⟨pre,f,l⟩:=one p0 x al;exact ⟨pre,f,λy a=>let ⟨c,e⟩:=l y a;⟨c,by simp_all⟩⟩
  |cons q ps=>
   obtain ⟨pre,f,l⟩:=ih x.2 al;obtain ⟨p,s,u⟩:=one p0 x.1 (Hk (q::ps) x.2 al)
   grind [Hk]
theorem MN(σ:TH):∀(hs:List (Nat×Nat))(al:TA),∃pre,Qt σ hs al=pre++al/\(∀y∈pre,∃b i l a e,(y.1,b)∈hs/\σ[b]? = some (.row i l a e)/\y.2=.v (.c (.own i b a l.length))) /\
  ∀t b i l a e,(t,b)∈hs->σ[b]? = some (.row i l a e)->∃y∈pre,y.1=t:=by
 intro hs;induction hs with
 |nil=>intro al;exact ⟨[],rfl,λy j=>by grind,λt b i l a e h=>by simp at h⟩
 |cons h hs ih=>
  intro al;obtain ⟨t,b⟩:=h;obtain ⟨pre,s,u,v⟩:=ih al;have p:∀y∈pre,∃f i l a e,(y.1,f)∈(t,b)::hs/\σ[f]? = some (.row i l a e)/\y.2=.v (.c (.own i f a l.length)):=λy j=>by grind
  simp only[Qt];split
  ·grind [List.mem_cons_self]
  grind
theorem SJ{t:Nat}{x:RV}{p:Nat}:∀{pre al:TA},iQ t (pre++al)=some (x,p)->(t,x)∈pre∨((∀y∈pre,y.1≠t)/\iQ t al=some (x,p)):=by
 intro pre al;induction pre with
 |nil=>simp_all
 |cons z pre ih=>
  intro h;obtain ⟨s,y⟩:=z;simp only[List.cons_append,iQ] at h;split at h
  ·simp_all
  ·rename_i f;rcases ih h with h | ⟨i,b⟩
   ·simp_all
   ·refine .inr ⟨λy a=>?_,b⟩;rcases gq.1 a with rfl | a
    ·intro e;simp_all
    grind
theorem Hn(md:List Nat)(al:TA):∃pre,IA md al=pre++al/\(∀y∈pre,y.1∈md/\(Qe y.1 al).isSome/\y.2=.v (.c .any))/\∀t,t∈md->(Qe t al).isSome->∃y∈pre,y.1=t:=by
 refine ⟨_,rfl,λy b=>?_,λt a hs=>?_⟩
 ·grind
 ·exact ⟨(t,.v (.c .any)),gD.2 ⟨t,SE.2 ⟨a,hs⟩,rfl⟩,rfl⟩
theorem aJ.DR{α i:Type}{R:α->i->Prop}:∀{l:List α}{m:List i},l.length=m.length->(∀(j:Nat) a b,l[j]? = some a->m[j]? = some b->R a b)->aJ R l m:=by
 intro l;induction l with
 |nil=>intro m h _;cases m with | nil=>exact .nil | cons b m=>simp at h
 |cons a l ih=>
  intro m h s;cases m with
  |nil=>simp at h
  |cons b m=>exact .cons (s 0 a b rfl rfl) (ih (by simp_all) λj x y u z=>s (j+1) x y u z)
theorem ObW.Xw{α:Type}{f:α->List C}{l:List α}{m:Nat}:ObW m (OB f l) (OB f l):=by refine ⟨_,rfl,aJ.DR rfl λj a b i s=>?_⟩;rw[i] at s;simp only[au] at s;subst s;rw[mE,cE] at i;obtain ⟨c,_,rfl⟩:=i;exact kM.low rfl
theorem RX(j:Nat)(st:Bool)(a:TT j)(m:Nat):(Lm j st a).low m=true:=by
 unfold Lm;split
 ·exact Wz _
 ·rfl
theorem SS{α:Type}{g:α->D}{m:Nat}(h:∀a,(g a).low m=true):∀(l:List (Int×α))(i:Nat),((Af g i l).all λe=>e.2.1.low m)=true:=by
 intro l;induction l with
 |nil=>intro i;rfl
 |cons x l ih=>grind [Af]
theorem hsOk_at{al:TA}{σ:TH}{hs:List (Nat×Nat)}(h:Zc al σ hs=true){t b:Nat}(hm:(t,b)∈hs):∃i v q j l a e,Qe t al=some (.v (.c (.own i b v q)))/\σ[b]? = some (.row j l a e)/\v=a/\i=j:=by
 simp only[Zc,iR] at h;have:=h (t,b) hm;dsimp only at this;split at this
 ·rename_i i f v q j l a e p s;simp only[bN] at this
  grind [Nat.eq_of_beq_eq_true]
 simp_all
theorem HS.mono{pl u:List Pl}{σ σ1:TH}(G:∀p∈pl,p∈u)(h:HS pl σ σ1):HS u σ σ1:=λb blk e=>by
 obtain ⟨z,X,s⟩:=h b blk e;refine ⟨z,X,?_⟩;cases blk with
 |cells w cs=>obtain ⟨w1,K,e,l,c⟩:=s;exact ⟨w1,K,e,l,λj p p1 x y A=>c j p p1 x y λq E=>A q (G _ E)⟩
 |row i l lv cv=>obtain ⟨M,O,U,e,c⟩:=s;exact ⟨M,O,U,e,λA=>c λq E=>A q (G _ E)⟩
 |mp j st l v=>obtain ⟨Z,W,M,v1,e,c⟩:=s;exact ⟨Z,W,M,v1,e,λA=>c λq st E=>A q st (G _ E)⟩
theorem PQ.SW{al1:TA}{σ1 σ aA:TH}{ps pl:List Pl}(h:PQ al1 σ1 ps σ aA)(E:∀p∈ps,p∈pl):HS pl σ aA:=λb blk e=>by
 obtain ⟨s,X,h1,G⟩:=h.2 b blk e;refine ⟨s,X,?_⟩;cases blk with
 |cells w cs=>
  obtain ⟨w2,K,rfl,u,Z⟩:=G;refine ⟨w2,K,rfl,u,λj p p1 q q1 x=>?_⟩;rcases (Z j p1 q1).2 with ⟨c,a,_,_,z⟩ | ⟨A,_⟩
  ·exact absurd (E _ z) (x c)
  simp_all
 |row i l lv cv=>
  obtain ⟨u,M,O,rfl,A⟩:=G;refine ⟨u,M,O,rfl,λx=>?_⟩;rcases A with ⟨_,i',z⟩ | ⟨h4,h5,h6,_⟩
  ·exact absurd (E _ z) (x i')
  simp_all
 |mp j st l v=>
  obtain ⟨j2,U,u,v2,rfl,A⟩:=G;refine ⟨j2,U,u,v2,rfl,λx=>?_⟩;rcases A with ⟨_,j',W,z⟩ | ⟨h4,_⟩
  ·exact absurd (E _ z) (x j' W)
  omega
structure ZOk (zs:List (Nat×Nat×Nat)) (σ σ':TH):Prop where
 len:σ'.length=σ.length
 row:∀(b:Nat) i (l:List (TT i)) lv cv,σ[b]? = some (.row i l lv cv)↔σ'[b]? = some (.row i l lv cv)
 mp:∀(b:Nat) j st (l:List (Int×TT j)) v,σ[b]? = some (.mp j st l v)->σ'[b]? = some (.mp j st l v)
 cells:∀(b:Nat) w cs,σ[b]? = some (.cells w cs)->∃w' cs',σ'[b]? = some (.cells w' cs')/\w<=w'/\cs'.length=cs.length/\∀(j:Nat) p',cs'[j]? = some p' ->
  (cs[j]? = some p'/\∀r,(b,j,r)∈zs->∀i l lv cv,σ[r]?≠some (.row i l lv cv))∨(∃r i l lv cv,(b,j,r)∈zs/\σ[r]? = some (.row i l lv cv)/\p'.2=.own i r lv l.length/\w<p'.1/\p'.1<=w')
theorem NY:∀(zs:List (Nat×Nat×Nat))(σ:TH),ZOk zs σ (Ow zs σ):=by
 intro zs;induction zs with
 |nil=>intro σ;exact ⟨rfl,λb i l a f=>Iff.rfl,λb j st l v h=>h,λb w s h=>⟨w,s,h,cX _,rfl,λj p' N=>.inl ⟨N,λr hr=>by grind⟩⟩⟩
 |cons z zs ih=>
  intro σ;obtain ⟨E,O,T⟩:=z;simp only[Ow];split
  ·rename_i A u U W x aa X hr;have Z:=ih (σ.set E (.cells (A+1) (u.set O (A+1,.own U T x W.length))));have y:∀(b:Nat) i (l:List (TT i)) a f,σ[b]? = some (.row i l a f)↔(σ.set E (.cells (A+1) (u.set O (A+1,.own U T x W.length))))[b]? = some (.row i l a f):=λb i l a f=>by
    grind
   refine ⟨by rw[Z.len,Wu],λb i l a f=>(y b i l a f).trans (Z.row b i l a f),λb j st l v h=>Z.mp b j st l v ?_,λb w s h=>?_⟩
   ·grind
   ·by_cases e:b=E
    ·subst e;rw[X] at h;simp only[au,TB.cells.injEq] at h;obtain ⟨rfl,rfl⟩:=h;obtain ⟨G,p,K,L,M,h4⟩:=Z.cells b _ _ (Hs X)
     grind
    ·obtain ⟨G,p,K,L,M,h4⟩:=Z.cells b w s (by grind)
     grind
  ·rename_i ab;have Z:=ih σ;refine ⟨Z.len,Z.row,Z.mp,λb w s h=>?_⟩;obtain ⟨G,p,K,L,M,h4⟩:=Z.cells b w s h;refine ⟨G,p,K,L,M,λj p' N=>?_⟩
   grind
theorem ZOk.ext{zs:List (Nat×Nat×Nat)}{σ σ':TH}(Z:ZOk zs σ σ'):Ext σ σ':=λb blk h=>by
 cases blk with
 |cells w u=>
  obtain ⟨z,s,A,E,G,O⟩:=Z.cells b w u h;refine ⟨_,A,z,s,rfl,E,G,λj v x U W e X=>?_⟩
  grind
 |row i l K M=>exact ⟨_,(Z.row b i l K M).1 h,BE.refl _⟩
 |mp j st l v=>exact ⟨_,Z.mp b j st l v h,BE.refl _⟩
theorem zpl_mem{zs:List (Nat×Nat×Nat)}{b j r:Nat}(h:(b,j,r)∈zs):Pl.h b j .bool∈MQ zs:=gD.2 ⟨_,h,rfl⟩
theorem ZOk.hs{zs:List (Nat×Nat×Nat)}{σ σ':TH}(Z:ZOk zs σ σ'):HS (MQ zs) σ σ':=λb blk h=>by
 cases blk with
 |cells w u=>
  obtain ⟨x,s,z,W,A,E⟩:=Z.cells b w u h;refine ⟨_,z,x,s,rfl,A,λj p p1 e G K=>?_⟩;rcases E j _ G with ⟨X,_⟩ | ⟨r,_,_,_,_,M,_⟩
  ·simp_all
  ·exact absurd (zpl_mem M) (K _)
 |row i l O U=>exact ⟨_,(Z.row b i l O U).1 h,_,_,_,rfl,λ_=>⟨rfl,rfl,rfl⟩⟩
 |mp j st l v=>exact ⟨_,Z.mp b j st l v h,_,_,_,_,rfl,λ_=>rfl⟩
theorem Tc{n:Nat}{σ:TH}{zs:List (Nat×Nat×Nat)}(h:WG n σ zs=true){b j r:Nat}(hm:(b,j,r)∈zs):b<n/\r<n/\∃w cs i l a f q p,σ[b]? = some (.cells w cs)/\σ[r]? = some (.row i l a f)/\cs[j]? = some (p,.own i r a q):=by
 simp only[WG,iR] at h;have:=h (b,j,r) hm;simp only[bN] at this;obtain ⟨s,u,e⟩:=this;refine ⟨ug.mp s,ug.mp u,?_⟩;split at e
 ·rename_i w cs i l a f x y;split at e
  ·rename_i p z A v q E;simp only[bN] at e
   grind [Nat.eq_of_beq_eq_true]
  grind
 grind
theorem rR{h:JH}{md:List Nat}{al al1:TA}{σ σ1:TH}{alD ad:AL}{σD σD1:ar}{x:si h.pl}(R0:Ref al σ alD σD)(X:Ref al1 σ1 ad σD1)
  (bb:∀t q,iQ t al=some q->∃q',iQ t al1=some q')
  (hk:∀t q,t∉md->(∀c,Pl.r t c∉h.pl)->(∀b,(t,b)∈h.hs->∀i l O T,σ[b]?≠some (.row i l O T))->iQ t al=some q->iQ t al1=some q)
  (hs:HS (h.pl++MQ h.zs) σ σ1) (hh:Zc al1 σ1 h.hs=true) (hz:WG σ.length σ1 h.zs=true) (hx:LW al1 σ1 h.pl=some x) :
  Ext σ (cR h md al σ x)/\HS (h.pl++MQ h.zs) σ (cR h md al σ x)/\(cR h md al σ x).length=σ.length/\∃af ak,wy σ.length ad σD1 af ak/\Ref (dX h md al σ x) (cR h md al σ x) af ak:=by
 have s:=PQ.all R0.hh hs h.pl x hx;have Z:=NY h.zs (sN h.pl x σ);have ext:Ext σ (cR h md al σ x):=Ext.trans R0.hh s.ext Z.ext;have len:(cR h md al σ x).length=σ.length:=Z.len.trans s.1;refine ⟨ext,(s.SW λp hp=>yB9 _ hp).trans (Z.hs.mono λp hp=>yB5 _ hp),len,?_⟩;have bc:∀(b i i1 O T aa ab:Nat)(l:List (TT i))(l1:List (TT i1)),(sN h.pl x σ)[b]? = some (.row i l O T)->σ1[b]? = some (.row i1 l1 aa ab)->i1=i/\l.length=l1.length:=by
  intro b i i1 O T aa ab l l1 m2 n2;have z:b<σ.length:=by rw[<-s.1];grind
  obtain ⟨f,U⟩:∃f,σ[b]? = some f:=⟨_,eS z⟩;obtain ⟨u,K,be,A⟩:=s.2 b f U;rw[m2] at K;simp only[au] at K;subst K;obtain ⟨M,W,G⟩:=hs b f U;rw[n2] at W;simp only[au] at W;subst W;cases f with
  |cells w cs=>obtain ⟨_,_,e,_⟩:=G;simp at e
  |mp q st l v=>obtain ⟨_,_,_,_,e,_⟩:=G;simp at e
  |row i0 l0 b3 b4=>
   obtain ⟨l5,b5,b6,e5,G⟩:=G;simp only[TB.row.injEq] at e5;obtain ⟨rfl,e6,rfl,rfl⟩:=e5;cases e6;obtain ⟨l6,b7,b8,e7,A⟩:=A;simp only[TB.row.injEq] at e7;obtain ⟨rfl,e8,rfl,rfl⟩:=e7;cases e8;refine ⟨rfl,?_⟩;rcases A with ⟨⟨an,av,e9⟩,_⟩ | ⟨rfl,_,_,hn⟩
   ·simp_all
   ·by_cases cg:notW (h.pl++MQ h.zs) b
    ·simp_all
    ·exact absurd (λi E=>by
      rcases gp.1 E with E | E
      ·exact hn i E
      grind [MQ]) cg
 obtain ⟨bd,es,ch,dT⟩:=Hn md al;obtain ⟨bh,eh,ck,d0⟩:=MN (sN h.pl x σ) h.hs (IA md al);obtain ⟨bi,ep,d5⟩:=Iv h.pl x (Qt (sN h.pl x σ) h.hs (IA md al));have bk:dX h md al σ x=(bi++(bh++bd))++al:=by grind [dX]
 have dl:Ext σ (sN h.pl x σ):=s.ext;have cm:(cR h md al σ x).length<=σD1.length:=by
  rw[len,X.hh.len];rcases sO σ1.length σ.length with z | d6
  ·obtain ⟨M,e,_⟩:=hs σ1.length _ (eS z)
   grind
  omega
 have gw:∀{v:TV},GV (cR h md al σ x) v->GW (dX h md al σ x) (cR h md al σ x) (.v v):=λg=>g;rw[<-len];refine stw_of cm (λt v p ht=>?_) (λb u bl=>?_) (λb w2 N bl q hq=>?_)
 ·
  rcases Wv h.pl x hx ht with ⟨c,a,rfl,hr⟩ | ⟨co,ht⟩
  ·simp only[VW] at hr;split at hr
   ·rename_i v1 h1;obtain ⟨p1,h2⟩:=kF h1;obtain ⟨L,h3,h4,_⟩:=X.rg t _ p1 h2;exact ⟨Dz c a,L,c.enc a,h3,rdV_wk hr h4,c.ET a⟩
   grind
  ·rw[eh] at ht;rcases SJ ht with hm | ⟨d7,ht⟩
   ·obtain ⟨b,i,l,O,T,m1,m2,m3⟩:=ck _ hm;dsimp only at m1 m3;subst m3;obtain ⟨i1,v1,q1,j1,l1,aa,ab,n1,n2,n3,n4⟩:=hsOk_at hh m1;subst n3;obtain ⟨p1,n5⟩:=kF n1;obtain ⟨L,n6,n7,n8⟩:=X.rg t _ p1 n5;obtain ⟨rfl,rfl⟩:=rI X.hh n8 n2 (by simp);clear n4;have cp:=(Z.row b _ _ _ _).1 m2;have z:b<σ.length:=by rw[<-s.1];grind
    obtain ⟨f,U⟩:∃f,σ[b]? = some f:=⟨_,eS z⟩;obtain ⟨u,K,be,A⟩:=s.2 b f U;rw[m2] at K;simp only[au] at K;subst K;obtain ⟨M,W,G⟩:=hs b f U;rw[n2] at W;simp only[au] at W;subst W;cases f with
    |cells w cs=>obtain ⟨_,_,e,_⟩:=G;simp at e
    |mp q st l v=>obtain ⟨_,_,_,_,e,_⟩:=G;simp at e
    |row i0 l0 b3 b4=>
     obtain ⟨l5,b5,b6,e5,G⟩:=G;simp only[TB.row.injEq] at e5;obtain ⟨rfl,e6,rfl,rfl⟩:=e5;cases e6;obtain ⟨l6,b7,b8,e7,A⟩:=A;simp only[TB.row.injEq] at e7;obtain ⟨rfl,e8,rfl,rfl⟩:=e7;cases e8;have ax:l=l1:=by
      rcases A with ⟨⟨an,av,e9⟩,_⟩ | ⟨rfl,_,_,hn⟩
      ·grind
      ·exact (G λi E=>by
        rcases gp.1 E with E | E
        ·exact hn i E
        grind [MQ]).1.symm
     subst ax;refine ⟨⟨_,cp,λj l' c0 c3 e=>?_⟩,L,L,n6,?_,?_⟩
     ·grind
     ·rw[RT.c1 (by simp) n7];refine kM.low ?_;simp only[TC.er,D.low,bA];omega
     ·have:=RT.c1 (by simp) n7;rw[this];exact Or.inr rfl
   ·rw[es] at ht;rcases SJ ht with hm | ⟨d8,ht⟩
    ·obtain ⟨m1,m2,m3⟩:=ch _ hm;dsimp only at m1 m2 m3;subst m3;rw[yBj] at m2;obtain ⟨y,hy⟩:=m2;obtain ⟨p1,n1⟩:=kF hy;obtain ⟨⟨y',p'⟩,n2⟩:=bb t _ n1;obtain ⟨L,n3,_⟩:=X.rg t y' p' n2;exact ⟨True.intro,L,.any,n3,kM.any _ _,Or.inl rfl⟩
    ·have c4:t∉md:=λhm=>by
      grind [Sc]
     have bt:∀b,(t,b)∈h.hs->∀i l O T,σ[b]?≠some (.row i l O T):=by
      intro b hb i l O T e;obtain ⟨u,K,be,_⟩:=s.2 b _ e;obtain ⟨l2,a0,a2,rfl,_⟩:=be
      grind
     have h1:=hk t _ c4 co bt ht;obtain ⟨L,n3,n4,_⟩:=X.rg t v p h1;obtain ⟨_,_,_,n5⟩:=R0.rg t v p ht;obtain ⟨d2,n6,n7⟩:=RR_wk n4 n5;refine ⟨?_,L,d2,n3,by grind,n7⟩;rw[bk];exact n5.mono ext _
 ·
  have z:b<σ.length:=by grind
  obtain ⟨f,U⟩:∃f,σ[b]? = some f:=⟨_,eS z⟩;obtain ⟨a5,K,be,A⟩:=s.2 b f U;obtain ⟨M,W,G⟩:=hs b f U;obtain ⟨c5,o1,o2⟩:=X.hh.hp b M W;refine ⟨c5,?_⟩;cases f with
  |cells w cs=>
   obtain ⟨w1,a6,rfl,l1,c1⟩:=G;obtain ⟨d9,dp,rfl,c6,c7⟩:=A;obtain ⟨w2,N,ez,_,bu,a7⟩:=Z.cells b _ _ K;have:u=.cells w2 N:=by grind [cR]
   subst this;have l2:N.length=cs.length:=bu.trans c6;obtain ⟨a8,o3,a1,_,_⟩:=X.hh.cells W;rw[o1] at o3;simp only[au] at o3;subst o3;have c8:aJ (λ(p:Nat×TC) d=>RC p.2 d) a6 a8:=by cases o2;refine aJ.DR (by simp) λj p d h1 h2=>?_;rw[mE,h1] at h2;simp only[Option.map_some,au] at h2;exact .inr h2.symm
   clear o2 a1;have a1:=c8;have hl:a8.length=N.length:=by omega
   obtain ⟨es,ea,eb⟩:=Cb (p:=λj e=>∃p2 L,N[j]? = some p2/\a8[j]? = some L/\kM (cR h md al σ x).length L e/\e=p2.2.er) N.length λj hj=>by
    have q2:=eS hj;have q1:a6[j]? = some _:=eS (by omega);obtain ⟨L,q3,q4⟩:=a1.get j _ q1;rcases a7 j _ q2 with ⟨z1,z2⟩ | ⟨r,i,l,O,T,z1,z2,z3,_⟩
    rotate_left
    ·obtain ⟨_,_,w9,c9,i9,l9,bv,da,q9,v9,y1,y2,y3⟩:=Tc hz z1;rw[W] at y1;simp only[au,TB.cells.injEq] at y1;obtain ⟨_,rfl⟩:=y1;rw[q1] at y3;simp only[au] at y3;have g9:=(X.hh.hg b w1 a6 W _ (Bb q1)).1;rw[y3] at q4 g9;obtain ⟨t1,t2⟩:=bc r i i9 _ _ _ _ _ _ z2 y2;subst t1;obtain ⟨_,t3⟩:=rI X.hh g9 y2 (by simp);have bw:L=OS (aw i9) r q9:=RT.c1 (x:=.own i9 r bv q9) (by simp) q4;have hr:r<σ.length:=by omega
     refine ⟨L,_,L,q2,q3,?_,?_⟩
     ·rw[bw];refine kM.low ?_;simp only[OS,D.low,bA];omega
     ·rw[bw,z3,t3,<-t2];rfl
    obtain ⟨_,q5⟩:=c7 j _ z1;rcases q5 with ⟨c,a,q5,q6,_⟩ | ⟨q5,q6⟩
    ·grind [VW,rdC_wk,lO]
    ·have:=c1 j _ _ q5 q1 λc hc=>by
      rcases gp.1 hc with hc | hc
      ·exact q6 c hc
      ·simp only[MQ,gD] at hc;obtain ⟨⟨b9,j9,r9⟩,hm,e9⟩:=hc;simp only[Pl.h.injEq] at e9;obtain ⟨rfl,rfl,_⟩:=e9;obtain ⟨_,hr,w9,c9,i9,l9,bv,da,q9,v9,y1,y2,y3⟩:=Tc hz hm;obtain ⟨b0,y4⟩:∃blk,σ[r9]? = some blk:=⟨_,eS hr⟩;obtain ⟨db,y5,b1⟩:=hs r9 _ y4;rw[y2] at y5;simp only[au] at y5;subst y5;cases b0 with
       |cells w cs=>obtain ⟨_,_,e,_⟩:=b1;simp at e
       |mp q st l v=>obtain ⟨_,_,_,_,e,_⟩:=b1;simp at e
       |row i8 l8 ec ef=>
        obtain ⟨b2,y6,dc,_⟩:=s.2 r9 _ y4;obtain ⟨l7,an,av,rfl,_⟩:=dc
        grind
     rw[this] at q4;exact ⟨_,_,L,q2,q3,by rw[len];exact RC_wk0 q4 (R0.hh.hg b w cs U _ (Bb q5)).1,rfl⟩
   refine ⟨.cells es,o1,⟨es,rfl,aJ.DR (by omega) λj d e h1 h2=>?_⟩,?_⟩
   ·grind
   ·unfold RB TB.er;congr 1;apply T_
    grind
  |row i l O T=>
   obtain ⟨l1,aa,ab,rfl,G⟩:=G;obtain ⟨l2,a0,a2,rfl,A⟩:=A;have:u=.row i l2 a0 a2:=by
    have e3:(cR h md al σ x)[b]? = some (.row i l2 a0 a2):=(Z.row b _ _ _ _).1 K
    grind
   subst this;have ax:l2=l1:=by
    rcases A with ⟨⟨an,av,e9⟩,_⟩ | ⟨rfl,_,_,hn⟩
    ·grind
    ·exact (G λi E=>by
      rcases gp.1 E with E | E
      ·exact hn i E
      grind [MQ]).1.symm
   subst ax;cases o2;exact ⟨_,o1,ObW.Xw,rfl⟩
  |mp j st l v=>
   obtain ⟨j1,dd,l1,v1,rfl,G⟩:=G;obtain ⟨j2,a9,l2,v2,rfl,A⟩:=A;have:u=.mp j2 a9 l2 v2:=by
    have e3:(cR h md al σ x)[b]? = some (.mp j2 a9 l2 v2):=Z.mp b _ _ _ _ K
    grind
   subst this;have df:j2=j1/\a9=dd/\HEq l2 l1:=by
    rcases A with ⟨⟨v7,e9⟩,_⟩ | ⟨e9,hn⟩
    ·grind
    ·have eg:=G λj st E=>by
      rcases gp.1 E with E | E
      ·exact hn j st E
      grind [MQ]
     grind
   obtain ⟨rfl,rfl,hl⟩:=df;cases hl;cases o2;exact ⟨_,o1,⟨rfl,SS (λa=>RX _ _ _ _) _ _⟩,rfl⟩
 ·
  have z:b<σ.length:=by grind
  obtain ⟨f,U⟩:∃f,σ[b]? = some f:=⟨_,eS z⟩;obtain ⟨a5,K,be,A⟩:=s.2 b f U;cases f with
  |cells w cs=>
   obtain ⟨w3,ei,rfl,l2,c2⟩:=A;obtain ⟨w4,di,ez,hw,bu,a7⟩:=Z.cells b _ _ K;have e3:(cR h md al σ x)[b]? = some (.cells w4 di):=ez;rw[bl] at e3;simp only[au,TB.cells.injEq] at e3;obtain ⟨rfl,rfl⟩:=e3;obtain ⟨j,hj⟩:=yB8 hq;rcases a7 j q hj with ⟨z1,_⟩ | ⟨r,i,l,O,T,_,z2,z3,_,z4⟩
   ·obtain ⟨r1,r2⟩:=c2 j q z1;refine ⟨?_,lK r1 hw⟩;rcases r2 with ⟨c,a,r2,_⟩ | ⟨r2,_⟩
    ·grind [wD]
    ·exact (R0.hh.hg b w cs U q (Bb r2)).1.mono ext
   ·refine ⟨?_,z4⟩;rw[z3];refine ⟨_,(Z.row r _ _ _ _).1 z2,λj l' c0 c3 e=>?_⟩
    grind
  |row i l O T=>
   obtain ⟨_,_,_,rfl,_⟩:=A;have e3:=(Z.row b _ _ _ _).1 K
   grind [cR]
  |mp j st l v=>
   obtain ⟨_,_,_,_,rfl,_⟩:=A;have e4:(cR h md al σ x)[b]? = _:=Z.mp b _ _ _ _ K
   grind
end
end Go.Abs
end
section
namespace Go.Abs
noncomputable section
variable[Gl][Y:Ty]
theorem Yv(m:Nat)(σ:TH)(al:TA):∀(pre:TA),frzA m σ pre.length (pre++al)=pre.map (λp=>(p.1,CG m σ p.2))++al:=by
 intro pre;induction pre with
 |nil=>cases al <;> rfl
 |cons x pre ih=>grind [frzA]
theorem lkP_frz{m:Nat}{σ:TH}{al:TA}{t:Nat}{x:RV}{p:Nat}:∀{pre:TA},iQ t (pre.map (λp=>(p.1,CG m σ p.2))++al)=some (x,p) ->
  (∃a,iQ t (pre++al)=some (a,p)/\x=CG m σ a)∨(iQ t (pre++al)=some (x,p)/\iQ t al=some (x,p)):=by
 intro pre;induction pre with
 |nil=>simp_all
 |cons y pre ih=>
  intro h;obtain ⟨s,y⟩:=y;simp only[ru,List.cons_append,iQ] at h ⊢
  grind
theorem mp_low0{j:Nat}{st:Bool}(l:List (Int×TT j)):((Af (Lm j st) 0 l).all λe=>e.2.1.low 0)=true:=SS (λa=>RX _ _ _ _) _ _
variable{m:Nat}{σ1:TH}{σD1:ar}
theorem er_low{x:TC}(h:okC m x=true)(e:x≠.any):x.er.low m=true:=by
 cases x with
 |any=>simp_all
 |d x=>exact h
 |own i b v n=>simpa[okC,TC.er,OS,D.low] using h
 |op i b v n k a o=>simpa[okC,TC.er,D.low] using h
 |ap b off len sz k=>simpa[okC,TC.er,D.low] using h
 |os i b v n f len=>simpa[okC,TC.er,D.low] using h
 |GX g j=>exact Dt h
 |_=>rfl
def QI(m:Nat)(σD1:ar)(b:Nat):Prop:=m<=b/\∃(i:Nat)(l:List (TT i)),σD1[b]? = some (OB (enc i) l)
theorem take_rn(H:RH σ1 σD1)(hm:m<=σ1.length)(y:(σ1.take m).all (okB m)=true):RN m σD1 (σD1.take m) id (QI m σD1):=by
 have z:(σD1.take m).length=m:=by grind [RH.len]
 have get:∀i,i<m->∀x,σD1[i]? = some x->(σD1.take m)[i]? = some x:=λi f x h=>by grind
 have N:Rn m σD1 (σD1.take m) id (QI m σD1):=⟨by omega,λi _=>rfl,λi j _ _ e=>e,λi f h=>by rw[z] at f;have:=h.1;grind,λb h=>h.2,λi f=>by
  rw[z] at f;have A:σD1[i]? = some _:=eS (by grind)
  grind⟩
 refine ⟨N,λi f=>?_⟩;rw[z] at f;have E:i<σ1.length:=by omega
 obtain ⟨x,A,G⟩:=H.hp i _ (eS E);refine ⟨x,x,A,get i f _ A,?_⟩;unfold RB at G;subst G;have hk:okB m σ1[i]=true:=iR.1 y _ (Bb (i:=i) (by simp_all));cases K:σ1[i] with
 |cells w O=>
  rw[K] at hk;refine ⟨_,rfl,aJ.DR rfl λj a b s u=>?_⟩;rw[s] at u;simp only[au] at u;subst u;rw[mE,cE] at s;obtain ⟨p,L,rfl⟩:=s;have:=iR.1 hk p (Bb L);by_cases M:p.2=.any
  ·rw[M];exact du.any _
  grind [du.low,er_low]
 |row i l T U=>refine ⟨_,rfl,aJ.DR rfl λj a b s u=>?_⟩;rw[s] at u;simp only[au] at u;subst u;rw[mE,cE] at s;obtain ⟨c,_,rfl⟩:=s;exact du.data N rfl
 |mp j st l v=>exact ⟨rfl,mp_low0 l⟩
theorem qN{i:Nat}(a:i<m){blk:TB}(h:σ1[i]? = some blk):(σ1.take m)[i]? = some blk:=by simp_all
theorem TD(H:RH σ1 σD1)(hm:m<=σ1.length)(N:Rn m σD1 (σD1.take m) id (QI m σD1)){x:TC}{d:D}(K:RC x d)(y:GC σ1 x) :
  ∃s,du σD1 (σD1.take m) id (QI m σD1) d s/\RC (C_ m σ1 x) s/\GC (σ1.take m) (C_ m σ1 x):=by
 have O:(σ1.take m).length=m:=by simp_all
 rcases K with rfl | rfl
 ·exact ⟨.any,du.any _,.inl rfl,True.intro⟩
 have any:∃s,du σD1 (σD1.take m) id (QI m σD1) x.er s/\RC .any s/\GC (σ1.take m) .any:=⟨.any,du.any _,.inl rfl,True.intro⟩;have u:∀{b:Nat},Nat.blt b m=true->b<m:=λh=>ug.mp h;cases x with
 |any=>exact any
 |d x=>
  simp only[C_];split
  ·rename_i h;exact ⟨x,du.low N h,.inr rfl,by show x.low _=true;simp_all⟩
  omega
 |b e=>exact ⟨_,du.data N rfl,.inr rfl,True.intro⟩
 |sl i l=>exact ⟨_,du.data N rfl,.inr rfl,True.intro⟩
 |fp i a o=>exact ⟨_,du.data N rfl,.inr rfl,True.intro⟩
 |fl n=>exact ⟨_,du.data N rfl,.inr rfl,True.intro⟩
 |cx a b=>exact ⟨_,du.data N rfl,.inr rfl,True.intro⟩
 |own i b v n=>
  simp only[C_];obtain ⟨blk,f,p⟩:=y;split
  ·rename_i h;exact ⟨_,du.low N (by simpa[TC.er,OS,D.low] using u h),.inr rfl,blk,qN (u h) f,p⟩
  ·rename_i h;split
   ·rename_i j l T U z;rw[f] at z;simp only[au] at z;subst z;split
    ·rename_i A;have A:=cY A;obtain ⟨rfl,rfl⟩:=(p _ _ _ _ rfl).2 A.symm;obtain ⟨W,E,G⟩:=H.hp b _ f;unfold RB at G;subst G;have L:QI m σD1 b:=⟨by
      grind [Nat.blt_eq],_,_,E⟩
     exact ⟨_,du.cJ N L E,.inr rfl,True.intro⟩
    omega
   omega
 |op i b v n k a o=>
  simp only[C_];obtain ⟨blk,f,p⟩:=y;split
  ·rename_i h;exact ⟨_,du.low N (by grind [TC.er,D.low]),.inr rfl,blk,qN (u h) f,p⟩
  omega
 |GX g M=>
  simp only[C_];split
  ·rename_i h;exact ⟨_,du.low N (Dt h),.inr rfl,by show M.all (CV.low _)=true;simp_all⟩
  omega
 |ap b off len sz k=>
  simp only[C_];split
  ·rename_i h;exact ⟨_,du.low N (by grind [TC.er,D.low]),.inr rfl,by show b<_;simp_all⟩
  omega
 |os i b v n X len=>
  simp only[C_];obtain ⟨blk,f,p⟩:=y;split
  ·rename_i h;exact ⟨_,du.low N (by grind [TC.er,D.low]),.inr rfl,blk,qN (u h) f,p⟩
  omega
theorem Zi(H:RH σ1 σD1)(hm:m<=σ1.length)(N:Rn m σD1 (σD1.take m) id (QI m σD1)){xs:List TC}{ds:List D}(f:aJ RC xs ds)(a:∀x∈xs,GC σ1 x) :
  ∃es,aJ (du σD1 (σD1.take m) id (QI m σD1)) ds es/\aJ RC (xs.map (C_ m σ1)) es/\∀x∈xs.map (C_ m σ1),GC (σ1.take m) x:=by
 induction f with
 |nil=>exact ⟨[],.nil,.nil,by simp⟩
 |cons h r ih=>
  obtain ⟨e,i,j,s⟩:=TD H hm N h (a _ (ql ..));obtain ⟨es,l,p,u⟩:=ih λx b=>a x (lI _ b);exact ⟨e::es,.cons i l,.cons j p,λx b=>by grind⟩
theorem frzV_ok(H:RH σ1 σD1)(hm:m<=σ1.length)(N:Rn m σD1 (σD1.take m) id (QI m σD1)){al a:TA}{x:RV}{d:D}(e:RR x d)(f:GW al σ1 x) :
  ∃b,du σD1 (σD1.take m) id (QI m σD1) d b/\RR (CG m σ1 x) b/\GW a (σ1.take m) (CG m σ1 x):=by
 have any:∃b,du σD1 (σD1.take m) id (QI m σD1) d b/\RR (.v (.c .any)) b/\GW a (σ1.take m) (.v (.c .any)):=⟨.any,du.any _,Or.inl rfl,True.intro⟩;cases x with
 |g c w p x=>exact any
 |v x=>
  cases x with
  |c x=>exact TD H hm N e f
  |aS h=>exact any
  |agg h=>obtain ⟨ds,rfl,i⟩:=e;obtain ⟨j,l,s,u⟩:=Zi H hm N i f;exact ⟨_,du.agg l,⟨j,rfl,s⟩,u⟩
theorem dwr_wk(N:Rn m σD1 (σD1.take m) id (QI m σD1))(hm:m<=σD1.length){d1 d2:D}(h:kM m d1 d2):du σD1 (σD1.take m) id (QI m σD1) d1 d2:=λM j w v R l=>by
 have p:(σD1.take m).length=m:=by simp_all
 have s:=h σD1 (σD1.take m) M j w v (λb i a u=>⟨a,by grind,rfl⟩) l;have e:mN (σD1.take m).length id M=cZ M m:=by rw[p];rfl
 rw[e];exact s.sub (λb a i=>⟨a,i,rfl⟩) (λ_ _ h=>h) (λc h=>⟨.inl h,rfl⟩) (λc f T x h=>⟨f,h,rfl⟩)
theorem frz_ok{pre al:TA}{σ:TH}{alD j:AL}{σD:ar}(R0:Ref al σ alD σD)(K:Ref (pre++al) σ1 j σD1)(he:Ext σ σ1)(O:(σ1.take σ.length).all (okB σ.length)=true) :
  ∃E G,wy σ.length j σD1 E G/\Ref (pre.map (λp=>(p.1,CG σ.length σ1 p.2))++al) (σ1.take σ.length) E G/\Ext σ (σ1.take σ.length):=by
 have hm:σ.length<=σ1.length:=by
  rcases sO σ1.length σ.length with s | ad
  ·obtain ⟨T,e,_⟩:=he σ1.length _ (eS s)
   simp_all
  omega
 have aa:σ.length<=σD1.length:=by rw[K.hh.len];exact hm
 have U:Ext σ (σ1.take σ.length):=λb blk u=>by
  obtain ⟨T,l,L⟩:=he b blk u
  grind
 have N:=take_rn K.hh hm O;have z:∀t,∃A,∀x p,iQ t (pre.map (λp=>(p.1,CG σ.length σ1 p.2))++al)=some (x,p)->GW (pre.map (λp=>(p.1,CG σ.length σ1 p.2))++al) (σ1.take σ.length) x/\∃y,lk t j=some y/\du σD1 (σD1.take σ.length) id (QI σ.length σD1) y A/\RR x A:=by
  intro t;cases ht:iQ t (pre.map (λp=>(p.1,CG σ.length σ1 p.2))++al) with
  |none=>simp_all
  |some q=>
   obtain ⟨x,p⟩:=q;have:∃A,GW (pre.map (λp=>(p.1,CG σ.length σ1 p.2))++al) (σ1.take σ.length) x/\∃y,lk t j=some y/\du σD1 (σD1.take σ.length) id (QI σ.length σD1) y A/\RR x A:=by
    rcases lkP_frz ht with ⟨x0,l,rfl⟩ | ⟨l,L⟩
    ·obtain ⟨y,W,X,h5⟩:=K.rg t x0 p l;obtain ⟨A,h6,h7,h8⟩:=frzV_ok K.hh hm N.toRn X h5;exact ⟨A,h8,y,W,h6,h7⟩
    ·obtain ⟨y,W,X,_⟩:=K.rg t x p l;obtain ⟨_,_,_,h5⟩:=R0.rg t x p L;obtain ⟨A,h6,h7⟩:=RR_wk X h5;exact ⟨A,h5.mono U _,y,W,dwr_wk N.toRn aa h6,h7⟩
   simp_all
 refine ⟨(pre.map (λp=>(p.1,CG σ.length σ1 p.2))++al).map λp=>(p.1,Classical.choose (z p.1)),σD1.take σ.length,wy.rn N (λb u=>u.1) (λt d h=>?_),⟨⟨?_,λb blk u=>?_,λb w cs u p hp=>?_⟩,λt x p h=>?_⟩,U⟩
 ·obtain ⟨⟨x,p,W⟩,rfl⟩:=NQ (f:=λt=>Classical.choose (z t)) h
  grind
 ·simp_all
 ·have s:b<σ.length:=by grind
  rw[yBt s] at u;obtain ⟨ob,l,L⟩:=K.hh.hp b blk u
  grind
 ·have s:b<σ.length:=by grind
  have ab:=u;rw[yBt s] at u;obtain ⟨l,L⟩:=K.hh.hg b w cs u p hp;refine ⟨?_,L⟩;have hk:okB σ.length (.cells w cs)=true:=iR.1 O _ (Bb ab);have hk:=iR.1 hk p hp;have bt:∀{b:Nat},Nat.blt b σ.length=true->b<σ.length:=λh=>ug.mp h;cases M:p.2 with
  |own i b v n=>rw[M] at l hk;obtain ⟨blk,Z,g2⟩:=l;exact ⟨blk,qN (bt hk) Z,g2⟩
  |op i b v n k a o=>rw[M] at l hk;obtain ⟨blk,Z,g2⟩:=l;exact ⟨blk,qN (bt hk) Z,g2⟩
  |os i b v n lo len=>rw[M] at l hk;obtain ⟨blk,Z,g2⟩:=l;exact ⟨blk,qN (bt hk) Z,g2⟩
  |ap b off len sz k=>rw[M] at hk;show b<_;rw[BY];have:=bt hk;omega
  |GX g xs=>rw[M] at hk;show xs.all (CV.low _)=true;rw[BY,show min σ.length σ1.length=σ.length by omega];exact hk
  |d x=>rw[M] at hk;show x.low _=true;rw[BY,show min σ.length σ1.length=σ.length by omega];exact hk
  |_=>exact True.intro
 ·obtain ⟨l,y,L,W,X⟩:=Classical.choose_spec (z t) x p h;exact ⟨_,Rs (f:=λt=>Classical.choose (z t)) ⟨x,p,h⟩,X,l⟩
theorem zZ{h:JH}{md:List Nat}{pre al:TA}{σ:TH}{alD a:AL}{σD:ar}{x:si h.pl}(y:Ref al σ alD σD)(l:Ref (pre++al) σ1 a σD1)(p:Ext σ σ1)(j:Gk h md al σ (pre++al) σ1=some x) :
  ∃i aA b f,wy σ.length a σD1 b f/\Ref (i++al) aA b f/\Ext σ aA/\Py h md al σ (i++al) aA=some x:=by
 unfold Gk at j;split at j
 ·rename_i s;obtain ⟨b,f,A,E,G⟩:=frz_ok y l p s;rw[show (pre++al).length-al.length=pre.length by simp_all,Yv] at j
  grind
 ·refine ⟨pre,σ1,a,σD1,wy.refl ?_,l,p,j⟩;rw[l.hh.len];rcases sO σ1.length σ.length with u | z
  ·obtain ⟨v,e,_⟩:=p σ1.length _ (eS u)
   simp_all
  omega
end
end Go.Abs
end
section
namespace Go.Abs
noncomputable section
variable[Gl][Y:Ty]
section
def mvM(M:Nat->Option Nat)(r t:Nat):Nat->Option Nat:=λb=>if b=t then M r else if b=r then none else M b
def SzM(r t:Nat)(σ1 aA:ar):Prop:=∀b e,b≠t->σ1[b]? = some e->∃a,aA[b]? = some a/\e.sz<=a.sz/\(b=r->e.sz<a.sz)/\(b≠r->a.sz=e.sz)
def GP(r t:Nat)(σ1 aA:ar)(d1 d2:D):Prop:=∀(M:Nat->Option Nat)(a:Nat->Prop)(w:World)(v:Value),V σ1 M a w d1 v->V aA (mvM M r t) a w d2 v
variable{r t:Nat}{σ1 aA:ar}
theorem GP.any(d:D):GP r t σ1 aA d .any:=λ_ _ _ v _=>.any v
theorem GP.c(x:C):GP r t σ1 aA (.c x) (.c x):=λ_ _ _ v h=>by
 cases h with
 |c h=>exact .c h
theorem GP.ptr(S:SzM r t σ1 aA){b off sz:Nat}(s:b≠t):GP r t σ1 aA (.ptr b off sz) (.ptr b off sz):=λM A w v h=>by
 cases h with
 |ptr a u h i E=>
  obtain ⟨j,x,z,G,K⟩:=S b u s h;refine .ptr a j x (lK i z) λO=>?_;by_cases e:b=r
  ·omega
  grind [mvM]
theorem GP.sl(S:SzM r t σ1 aA){b off len es sz:Nat}(x:b≠t):GP r t σ1 aA (.sl b off len es sz) (.sl b off len es sz):=λM O w v h=>by
 cases h with
 |sl a n cap i z h j A=>
  obtain ⟨s,E,G,U,W⟩:=S b z x h;refine .sl a n cap i s E (lK j G) λX=>?_;by_cases e:b=r
  ·omega
  ·rcases A (by omega) with q | ⟨c,o,u,T,Z,K⟩
   ·simp_all
   ·exact .inr ⟨c,o,u,T,by grind [mvM],K⟩
theorem GP.low(S:SzM r t σ1 aA){d:D}(j:d.low t=true):GP r t σ1 aA d d:=by
 intro M U w v h;induction h with
 |c h=>exact .c h
 |any v=>exact .any v
 |ptr a z h s u=>simp only[D.low,bA] at j;exact GP.ptr S (by omega) M U w _ (.ptr a z h s u)
 |sl a n cap E z h s u=>simp only[D.low,bA] at j;exact GP.sl S (by omega) M U w _ (.sl a n cap E z h s u)
 | @mp b c z h u=>
  simp only[D.low,bA] at j;obtain ⟨G,x,W,Z,h4⟩:=S b z (by omega) h;refine .mp c G x λhe=>?_;by_cases e:b=r
  ·omega
  grind [mvM]
 |fn A X x W u hw K O=>simp only[D.low,bN] at j;exact .fn A X x W (λi d v a b=>K i d v a b (D.aZ j.1 i d a)) (λi d v a b=>O i d v a b (D.aZ j.2 i d a))
 |agg A x u ih=>simp only[D.low] at j;exact .agg A x (λi d v a b=>ih i d v a b (D.aZ j i d a))
 |aS A x u ih=>simp only[D.low] at j;exact .aS A x (λi d v a b=>ih i d v a b (D.aZ j i d a))
theorem GP.agg{ds es:List D}(h:aJ (GP r t σ1 aA) ds es):GP r t σ1 aA (.agg ds) (.agg es):=λM s w v j=>by
 cases j with
 |agg u x j=>refine .agg u (by rw[x,h.len]) λi d v a b=>?_;obtain ⟨z,A,E⟩:=h.get' i d a;exact E M s w v (j i z v A b)
theorem GP.aS{ds es:List D}(h:aJ (GP r t σ1 aA) ds es):GP r t σ1 aA (.aS ds) (.aS es):=λM s w v j=>by
 cases j with
 |aS u x j=>refine .aS u (by rw[x,h.len]) λi d v a b=>?_;obtain ⟨z,A,E⟩:=h.get' i d a;exact E M s w v (j i z v A b)
theorem GP.own{es n:Nat}{cs:List D}(u:σ1[r]? = some (.cells cs))(x:aA[t]? = some (.cells cs))(G:n * es=cs.length):GP r t σ1 aA (OS es r n) (OS es t n):=λM K w v h=>by
 cases h with
 |sl a n cap i O h j z=>
  rw[u] at h;simp only[au] at h;subst h;refine .sl a n cap i _ x j λA=>?_;rcases z A with q | ⟨c,o,s,T,U,E⟩
  ·simp_all
  ·exact .inr ⟨c,o,s,T,by grind [mvM],E⟩
def ObMv(r t:Nat)(σ1 aA:ar):Ob->Ob->Prop
 |.cells ds,ob=>∃a,ob=.cells a/\aJ (GP r t σ1 aA) ds a
 |.map a k,ob=>ob=.map a k/\(a.all λe=>e.2.1.low t)=true
 |.gone k,ob=>ob=.gone k
theorem ObMv.sz{a b:Ob}(h:ObMv r t σ1 aA a b):b.sz=a.sz:=by
 cases a with
 |cells ds=>obtain ⟨i,rfl,h⟩:=h;simp only[Ob.sz,h.len]
 |map i k=>obtain ⟨rfl,_⟩:=h;rfl
 |gone k=>cases h;rfl
end
theorem stw_push{m:Nat}{al:AL}{σ:ar}{ob:Ob}(hm:m<=σ.length):wy m al σ al (σ++[ob]):=by
 have cD:mM σ (σ++[ob]):=λb a h=>⟨a,by grind,rfl⟩;refine ⟨by grind,λn M K w W R A=>⟨M,K,⟨λb c L=>?_,R.inj,R.fz,R.gl⟩,⟨A.1,λs d hs=>?_⟩,KK.refl,λσ0 M0 aa w0 R0 E u=>?_⟩⟩
 ·obtain ⟨X,a,o,Z,z,l⟩:=R.blk b c L;obtain ⟨N,q5,q6⟩:=cD b a Z;refine ⟨X,a,o,by grind,z,?_⟩;have j:∀{d v},V σ M K w d v->V (σ++[ob]) M K w d v:=λh=>h.sub cD (λ_ _ h=>h) (λc h=>⟨h,rfl⟩) (λc f T fr h=>⟨f,h,rfl⟩);cases a with
  |cells cs=>obtain ⟨f,T,O,u,G⟩:=l;exact ⟨f,T,O,u,λi d v x y=>⟨j (G i d v x y).1,(G i d v x y).2⟩⟩
  |map es U=>obtain ⟨f,O,u,G⟩:=l;exact ⟨f,O,u,λi k d n e x y=>let ⟨p,q,r⟩:=G i k d n e x y;⟨p,q,j r⟩⟩
  |gone n=>exact l.elim
 ·obtain ⟨v,z,l⟩:=A.2 s d hs;exact ⟨v,z,l.sub cD (λ_ _ h=>h) (λc h=>⟨h,rfl⟩) (λc f T fr h=>⟨f,h,rfl⟩)⟩
 ·refine ⟨E.size,E.frame,E.ld,E.fz,E.ow,E.qo,λb a L=>?_,E.out⟩;obtain ⟨N,X,Z,z⟩:=E.keep b a L
  grind
theorem wy.le{m m':Nat}{al1 al2:AL}{σ1 aA:ar}(h:wy m al1 σ1 al2 aA)(hm:m'<=m):wy m' al1 σ1 al2 aA:=⟨lK hm h.1,λn s j u i R A=>by
 obtain ⟨x,z,E,G,K,M⟩:=h.2 n s j u i R A;refine ⟨x,z,E,G,K,?_⟩
 grind⟩
section
variable{P:Program}{n:Nat}{al0 al al2:AL}{σ0 σ aA:ar}{Q:mS->AL->ar->Prop}
def NG(P:Program)(ac:aR)(k:Nat)(n:Nat)(σ0:ar)(al:AL)(σ:ar)(Q:mS->AL->ar->Prop):Prop:=
 ∀ (c : Code), bM P c = some ac -> ∀ (u : Nat -> Option Nat) (f : Nat -> Prop) (h : World) (M : Nat -> Option Nat) (p : Nat -> Prop) (w : World) (a : Act) (K : Exit -> Act -> World -> Prop), Rel σ0 u f h -> Rel σ M p w -> eU n σ M p w al a.tmps ->
  bH σ0 u f h σ M p w->σ0.length<=σ.length->∀i,Mk h.heap.size M p w a.defers i ->
  (∀x j b v l s e,Q x j b->Mk h.heap.size s e l v.defers i->Rel b s e l->eU n b s e l j v.tmps->bH σ0 u f h b s e l->σ0.length<=b.length->K (yu x) v l)->Code.rq P c K k a w
theorem NG.start{ac:aR}{k:Nat}(hs:wy σ0.length al0 σ0 al σ)(h:NG P ac k n σ0 al σ Q):lM P ac k n al0 σ0 Q:=by intro c i M j w a K R A s;obtain ⟨u,x,z,E,G,O,U⟩:=hs.use R R A (bH.refl R) (cX _);exact h c i M j w u x w a K R z E G O a.defers (Mk.refl _ _) s
theorem NG.succ{b:aR}{k:Nat}(h:Sem P b n al σ λx al1 σ1=>match x with | .normal=>∃al2 aA,wy σ0.length al1 σ1 al2 aA/\NG P b k n σ0 al2 aA Q | x=>Q x al1 σ1):NG P b (k+1) n σ0 al σ Q:=by
 intro c G M0 j w0 M Fz w s K O R A U W u z X;rw[JT];refine h c G M Fz w s _ R A λx al1 σ1 Z w' M' E hQ hd R' A' E' hl=>?_;have E1:=U.trans E' W;have hd:=Mk.trans E' U.size z hd;cases x with
 |normal=>obtain ⟨al2,aA,hw,hs⟩:=hQ;obtain ⟨M2,F2,R2,A2,E2,l2,W2⟩:=hw.use O R' A' E1 (cX _);exact hs c G M0 j w0 M2 F2 w' Z K O R2 A2 E2 l2 u (hd.wth W2) X
 |exit i=>grind [qD]
 |ret=>exact X .ret al1 σ1 Z w' M' E hQ hd R' A' E1 (lK W hl)
end
section
variable{σ σ1:TH}{σD:ar}{alD:AL}{t r:Nat}
theorem dfl_len(i:Nat)(l:List (TT i)):(OB (enc i) l).sz<(OB (enc i) (l++[PG i])).sz:=by have h:0<aw i:=Y.ps i;simp only[Ob.sz,OB,wj,List.flatMap_append,AH,yBz,List.flatMap_nil,DA,sE];omega
end
end
end Go.Abs
end
section
namespace Go.Abs
noncomputable section
variable[Gl][Y:Ty]
def jumps(P:Program)(b:Code)(l:Nat)(Q:Exit->Act->World->Prop):Nat->Act->World->Prop
 |0,_,_=>False
 |k+1,a,w=>b.wp P (Exit.jump l (jumps P b l Q k) Q) a w
theorem Gp{P:Program}{Q:Exit->Act->World->Prop}{c s:Code}{l:Nat}(T:findLabel c l=some s){k:Nat}{a:Act}{w:World}(first:c.wp P (Exit.jump l (jumps P s l Q k) Q) a w):(Code.scope c).wp P Q a w:=by
 intro b E G;have M:gotoIn l (.inScope c::E)=some (.code s::.inScope c::E):=by simp[gotoIn,T]
 have K:∀k a w,jumps P s l Q k a w->∃e N O,Q e N O/\Arrives P (lone (b.at a (.code s::.inScope c::E)) G w) b E G e N O:=by
  intro k;induction k with
  |zero=>intro a w h;exact h.elim
  |succ k ih=>
   intro a w h;obtain ⟨e,f,i,v,j⟩:=h b (.inScope c::E) G;cases e with
   |normal=>exact ⟨.normal,f,i,v,Steps.trans j (.one step_inScope)⟩
   |exit id=>exact ⟨.exit id,f,i,v,λL hk=>j L (by simp[exitTo,hk])⟩
   |goto U=>obtain ⟨rfl,A⟩:=v;obtain ⟨x,y,z,u,p⟩:=ih f i A;exact ⟨x,y,z,u,.of_steps (j _ M) p⟩
   |ret=>exact ⟨_,f,i,v,j⟩
   |panic W=>exact ⟨_,f,i,v,j⟩
   |outgrown=>exact ⟨_,f,i,v,j⟩
 obtain ⟨e,f,i,v,j⟩:=first b (.inScope c::E) G
 cases e with
 |normal=>exact ⟨.normal,f,i,v,.head step_scope (Steps.trans j (.one step_inScope))⟩
 |exit id=>exact ⟨.exit id,f,i,v,λL hk=>.head step_scope (j L (by simp[exitTo,hk]))⟩
 |goto U=>obtain ⟨rfl,A⟩:=v;obtain ⟨x,y,z,u,p⟩:=K _ f i A;exact ⟨x,y,z,u,.of_steps (.head step_scope (j _ M)) p⟩
 |ret=>exact ⟨_,f,i,v,.of_steps (.one step_scope) j⟩
 |panic W=>exact ⟨_,f,i,v,.of_steps (.one step_scope) j⟩
 |outgrown=>exact ⟨_,f,i,v,.of_steps (.one step_scope) j⟩
theorem fl_ok{P:Program}{l:Nat}:∀{b:Code}{a:aR},bM P b=some a->(∀r,QF l a=some r->∃i,findLabel b l=some i/\bM P i=some r)/\(QF l a=none->findLabel b l=none):=by
 intro b;induction b with
 |seq v z j p=>
  intro a h;simp only[bM] at h;split at h
  ·rename_i s T A E;simp only[au] at h;subst h;obtain ⟨p1,U⟩:=j A;obtain ⟨W,X⟩:=p E;simp only[QF,findLabel];cases G:QF l s with
   |some K=>obtain ⟨i,L,Z⟩:=p1 K G;rw[L];refine ⟨λr f=>?_,λM=>by grind⟩;simp only[au] at f;subst f;exact ⟨_,rfl,by grind [bM]⟩
   |none=>simp_all
  simp_all
 |label N=>
  intro a h;simp only[bM,au] at h;subst h;simp only[QF,findLabel];split
  ·refine ⟨λr f=>?_,λM=>by grind⟩;simp only[au] at f;subst f;exact ⟨_,rfl,rfl⟩
  simp_all
 |scope b ih=>intro a h;simp only[bM,cE] at h;obtain ⟨s,_,rfl⟩:=h;rcases KT s with ⟨N,r',_,e⟩ | e <;> rw[e] <;> exact ⟨λr f=>by grind [QF],λ_=>rfl⟩
 |region id O u=>
  intro a h;have:QF l a=none:=by
   simp only[bM] at h;split at h
   ·cases u with
    |false=>simp only[b_,cw,au] at h;subst h;rfl
    |true=>simp only[if_true] at h;split at h <;> (simp only[au] at h;subst h;rfl)
   ·simp only[au] at h;subst h;rfl
  exact ⟨λr f=>by simp_all,λ_=>rfl⟩
 |cond o v z j p=>
  intro a h;have:QF l a=none:=by simp only[bM] at h;split at h <;> (simp only[au] at h;subst h;rfl)
  exact ⟨λr f=>by simp_all,λ_=>rfl⟩
 |rangeFunc g ps x y=>intro a h;rcases eE h with ⟨_,_,_,_,_,_,_,rfl⟩ | rfl <;> exact ⟨λr f=>(by cases f),λ_=>rfl⟩
 |block id b ih=>intro a h;simp only[bM,cE] at h;obtain ⟨s,_,rfl⟩:=h;exact ⟨λr f=>by grind [QF],λ_=>rfl⟩
 |loop b ih=>intro a h;simp only[bM,cE] at h;obtain ⟨s,_,rfl⟩:=h;exact ⟨λr f=>by grind [QF],λ_=>rfl⟩
 |_=>intro a h;simp only[bM,au] at h;subst h;exact ⟨λr f=>by grind [QF],λ_=>rfl⟩
section
variable{P:Program}{n:Nat}{al:AL}{σ:ar}{Q:mS->AL->ar->Prop}
theorem Sem.lbl{l:Nat}(z:Q .normal al σ):Sem P (.lbl l) n al σ Q:=by
 intro c i M E w s K R A G;cases c with
 |label X=>exact XC (G .normal al σ s w M E z (Mk.refl _ _) R A (bH.refl R) (cX _))
 |region id O j=>
  simp only[bM] at i;split at i
  ·cases j with
   |false=>simp at i
   |true=>simp only[if_true] at i;split at i <;> simp at i
  ·simp at i
 |seq c1 U=>simp only[bM] at i;split at i <;> simp at i
 |cond o c1 U=>simp only[bM] at i;split at i <;> simp at i
 |scope b=>simp only[bM,cE] at i;obtain ⟨W,_,u⟩:=i;rcases KT W with ⟨l,r,_,e⟩ | e <;> rw[e] at u <;> simp at u
 |rangeFunc g Z x y=>rcases eE i with ⟨_,_,_,_,_,_,_,e⟩ | e <;> cases e
 |_=>simp[bM] at i
def TK(P:Program)(r:aR)(l:Nat)(k:Nat)(n:Nat)(al:AL)(σ:ar)(Q:mS->AL->ar->Prop):Prop:=
 ∀ (c : Code), bM P c = some r -> ∀ (M : Nat -> Option Nat) (j : Nat -> Prop) (w : World) (a : Act) (K : Exit -> Act -> World -> Prop), Rel σ M j w -> eU n σ M j w al a.tmps ->
  (∀x f b p h i e,Q x f b->Mk w.heap.size i e h p.defers a.defers->Rel b i e h->eU n b i e h f p.tmps->bH σ M j w b i e h->σ.length<=b.length->K (yu x) p h)->jumps P c l K k a w
def Jmp(P:Program)(r:aR)(l:Nat)(k:Nat)(n:Nat)(m:Nat)(Q:mS->AL->ar->Prop):mS->AL->ar->Prop
 |.exit i,al,σ=>(i=2 * l+1/\∃al2 aA,wy m al σ al2 aA/\TK P r l k n al2 aA Q)∨(i % 2=0/\Q (.exit i) al σ)
 |x,al,σ=>Q x al σ
theorem Jmp.use{r:aR}{l k:Nat}{c:Code}(hc:bM P c=some r){M:Nat->Option Nat}{Fz:Nat->Prop}{w:World}{a:Act}{K:Exit->Act->World->Prop}(R:Rel σ M Fz w)
  (E:∀x A σ' z s u j,Q x A σ'->Mk w.heap.size u j s z.defers a.defers->Rel σ' u j s->eU n σ' u j s A z.tmps->bH σ M Fz w σ' u j s->σ.length<=σ'.length->K (yu x) z s)
  {x:mS} {al1:AL} {σ1:ar} {z:Act} {s:World} {u:Nat->Option Nat} {j:Nat->Prop} (W:Jmp P r l k n σ.length Q x al1 σ1) (hd:Mk w.heap.size u j s z.defers a.defers) (G:Rel σ1 u j s) (O:eU n σ1 u j s al1 z.tmps) (U:bH σ M Fz w σ1 u j s) (X:σ.length<=σ1.length) :
  Exit.jump l (jumps P c l K k) K (yu x) z s:=by
 cases x with
 |normal=>exact E .normal al1 σ1 z s u j W hd G O U X
 |ret=>exact E .ret al1 σ1 z s u j W hd G O U X
 |exit i=>
  rcases W with ⟨rfl,al2,aA,hw,hs⟩ | ⟨he,hq⟩
  ·rw[KZ];obtain ⟨M2,F2,R2,A2,E2,l2,W2⟩:=hw.use R G O U (cX _);exact ⟨rfl,hs c hc M2 F2 s z K R2 A2 λx Z aa a3 w3 M3 ab ad af R3 A3 E3 ak=>E x Z aa a3 w3 M3 ab ad (Mk.trans E3 E2.size (hd.wth W2) af) R3 A3 (E2.trans E3 l2) (lK l2 ak)⟩
  ·have:=E (.exit i) al1 σ1 z s u j hq hd G O U X;rw[Bh he] at this ⊢;exact this
theorem TK.succ{r:aR}{l k:Nat}(h:Sem P r n al σ (Jmp P r l k n σ.length Q)):TK P r l (k+1) n al σ Q:=by intro c i M j w a K R A s;exact (h c i M j w a _ R A λx al1 σ1 W X Z u z hd E G O U=>Jmp.use i R s z hd E G O U).1
theorem Sem.We{l:Nat}{a r:aR}(k:Nat)(h:Sem P a n al σ (Jmp P r l k n σ.length Q)):Sem P (.We l a r) n al σ Q:=by
 intro c i M G w u K R A O;cases c with
 |scope b=>
  simp only[bM,cE] at i;obtain ⟨U,z,j⟩:=i;rcases KT U with ⟨l',r',W,e⟩ | e
  ·rw[e] at j;simp only[aR.We.injEq] at j;obtain ⟨rfl,rfl,rfl⟩:=j;obtain ⟨E,f1,X⟩:=(fl_ok z).1 _ W;exact ⟨Gp f1 (k:=k) (h b z M G w u _ R A λx al1 σ1 a' w' M' Z hQ hd R' A' E' hl=>Jmp.use X R O hQ hd R' A' E' hl).1,λhh=>by simp[Code.calm] at hh⟩
  ·rw[e] at j;simp at j
 |region id aa s=>
  simp only[bM] at i;split at i
  ·cases s with
   |false=>simp at i
   |true=>simp only[if_true] at i;split at i <;> simp at i
  ·simp at i
 |seq c1 c2=>simp only[bM] at i;split at i <;> simp at i
 |cond o c1 c2=>simp only[bM] at i;split at i <;> simp at i
 |rangeFunc g ps x y=>rcases eE i with ⟨_,_,_,_,_,_,_,e⟩ | e <;> cases e
 |_=>simp[bM] at i
end
end
end Go.Abs
end
